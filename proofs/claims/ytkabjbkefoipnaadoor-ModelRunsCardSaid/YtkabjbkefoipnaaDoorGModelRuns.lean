import Derived.Test.YtkabjbkefoipnaaDoorGMj
import Derived.Test.YtkabjbkefoipnaaDoorGMk
import Derived.Test.YtkabjbkefoipnaaDoorGOpenM
namespace Go.Proofs.YtkabjbkefoipnaaDoor.Md
open Go.Lib Go.RowKit Go.Proofs.YtkabjbkefoipnaaDoorW.PrintWords Go.Proofs.YtkabjbkefoipnaaDoorW.PrintLast Go.Proofs.YtkabjbkefoipnaaDoorW.PrintMore Go.Proofs.YtkabjbkefoipnaaDoor.PM Go.Proofs.YtkabjbkefoipnaaDoor.Nm
set_option linter.unusedVariables false
set_option linter.unusedSimpArgs false
structure RunP (r : List Sc) : Prop where
  R : RightP r
  name : ∀ s, s ∈ r → s.f0.size ≤ 150
theorem RunP.nil : RunP [] := ⟨RightP.nil, fun s h => by simp at h⟩
theorem RunP.short {r : List Sc} (h : RunP r) : ShortL r :=
  ⟨by have := h.R.most; omega, fun i hi => ⟨h.name _ (List.getElem_mem hi), by have := (h.R.at i hi).most; omega, fun m hm => by have := (VersP.pos (h.R.at i hi).vers (Int.le_refl _) _ (List.getElem_mem hm)).2.2; omega⟩⟩
theorem RunP.step {r q : List Sc} {name : ByteArray} {v : Kn} (h : RunP r) (hv : v.f1 = true → v.f2 = []) (hn : name.size ≤ 150) (k : WithP r name v q 0) : RunP q := by
  obtain ⟨i, t, hok, rfl⟩ := k.zero
  exact ⟨hok.right hv, fun s hs => by
    rcases (mem_more hok.R hok.nm hok.fnd s).1 hs with rfl | ⟨h1, _⟩
    · exact newS_size h.name hn
    · exact h.name s h1⟩
theorem RunP.refRight {r : List Sc} (h : RunP r) : scriniumref22_Right.f 20000 r = some true := by
  obtain ⟨b, h1, h2⟩ := refRight_is r (fun s hs => ⟨by have := h.name s hs; omega, by have := (h.R.secs s hs).most; omega⟩)
  rw [h1, h2.2 h.R]
set_option maxRecDepth 20000 in
set_option maxHeartbeats 8000000 in
theorem ModelRuns_walk (A0 : Option Addr) (len0 c0 : Nat) (l : List Sc) (w : World) (hT : Lib.Utf8Tabs 0 1 w) (hl0 : l.length = len0) (hC0 : Kd.C kS w A0 len0 l) (hc0 : len0 ≤ c0) (hm0 : len0 ≤ maxLen) (hw0 : ∀ x ∈ l, ScWf x) :
    Calls Tryd.prog 4 #[.slice A0 len0 c0] w fun e w' => e = .returned (.bool true) ∧ Below w.heap.size w w' := by
  subst hl0
  have HC := Aside0.mk hC0
  have HT := Aside0.mk hT
  clear hC0 hT hw0
  go_enter Tryd.func4, Tryd.ntmps4
  go_wp2_with fail
  refine (wakes_calls w HT.out).mono ?_
  rintro e w1 ⟨rfl, hb⟩
  have B1 := Aside0.mk hb
  clear hb
  go_wp2_with fail
  obtain ⟨b, hb1, hb2⟩ := Long_is l
  refine (scriniumref22_Long.calls 400 A0 c0 l b w1 (Kd.C_below HC.out B1.out) hc0 hb1).mono ?_
  rintro e w2 ⟨rfl, hd⟩
  have B2 := Aside0.mk (B1.out.trans (hd.below.mono B1.out.size))
  have HS := Aside0.mk hb2
  clear hd hb1 hb2 B1
  cases b with
  | true =>
    go_wp2_with fail
    go_ret
    exact ⟨rfl, B2.out⟩
  | false =>
  have HSS := Aside0.mk (HS.out rfl)
  clear HS
  have hl30 : l.length ≤ 30 := HSS.out.len
  go_wp2_with fail
  go_loopg [3, 4, 17] l.length (fun kq v3 v4 v17 w' => ∃ (i num : Nat) (r : List Sc) (A : Option Addr) (c : Nat), v3 = .slice A r.length c ∧ v4 = .int .i64 num ∧ v17 = .int .i64 i ∧ i ≤ l.length ∧ num ≤ 8 * i ∧ Aside0 (kq + i = l.length) ∧ Aside0 (RunP r) ∧ Aside0 (Rd w' A c r) ∧ Aside0 (Below w.heap.size w w'))
  case atStart => exact ⟨0, 0, [], none, 0, rfl, rfl, rfl, Nat.zero_le _, Nat.zero_le _, ⟨rfl⟩, ⟨RunP.nil⟩, ⟨⟨Kd.C_nil _ _, Nat.le_refl _⟩⟩, B2⟩
  case round =>
    obtain ⟨i, num, r, A, c, rfl, rfl, rfl, hi, hnum, HK, HR, HRD, HB⟩ := hrel
    by_cases hlt : i < l.length
    · have hci : (i : Int) < (l.length : Int) := by omega
      obtain ⟨ad, A2, c2, e9, hx0, hx1, hl1, hC1⟩ := at_T39 HC.out i (Int.natCast_nonneg _) hci
      cases e9
      have hx0 := Kd.cell_heap (fun k hk => HB.out.block k hk) hx0
      have hx1 := Kd.cell_heap (fun k hk => HB.out.block k hk) hx1
      rw [rdS l i hlt, Int.toNat_natCast] at hx0 hx1
      rw [rdS l i hlt] at hl1 hC1
      have hsh := HSS.out.all i hlt
      have HM := Aside0.mk (show (l[i].f0).size ≤ 150 from hsh.name)
      have HVL := Aside0.mk (show l[i].f1.length ≤ 8 from hsh.vers)
      have HTX := Aside0.mk (fun (y : Kn) (hy : y ∈ l[i].f1) => hsh.txt hy)
      have HC1 := Aside0.mk hC1
      have HWL := Aside0.mk (show IntKind.i64.wrap ((i : Int) + 1) = ((i + 1 : Nat) : Int) by rw [i64_w]; unfold wrap64; omega)
      clear hC1 hsh
      generalize l[i] = s at hx0 hx1 hl1 HM HVL HTX HC1
      obtain ⟨nm, ws⟩ := s
      dsimp only at hx0 hx1 hl1 HM HVL HTX HC1
      have KS := Aside0.mk (blk_new wr (.cells #[.string nm, .slice A2 ws.length c2] 39))
      have OB := Aside0.mk (below_alloc (Below.refl wr.heap.size wr) (.cells #[.string nm, .slice A2 ws.length c2] 39))
      have s1 := (blk_cell KS.out 1).trans (show _ = some (Value.slice A2 ws.length c2) from rfl)
      go_wp2_with fail
      generalize wr.alloc (.cells #[.string nm, .slice A2 ws.length c2] 39) = wa at OB KS s1 ⊢
      generalize wr.heap.size = gs at KS s1 ⊢
      have HBa := Aside0.mk (HB.out.trans (OB.out.mono HB.out.size))
      have HRDa := Aside0.mk (HRD.out.below OB.out)
      clear OB s1 HB HRD hx0 hx1
      have hws : ws.length ≤ 8 := HVL.out
      go_loopg [3, 4, 24] ws.length (fun kp v3 v4 v24 w' => ∃ (j n2 : Nat) (q : List Sc) (A' : Option Addr) (c' : Nat), v3 = .slice A' q.length c' ∧ v4 = .int .i64 n2 ∧ v24 = .int .i64 j ∧ j ≤ ws.length ∧ n2 ≤ 8 * i + j ∧ Aside0 (kp + j = ws.length) ∧ Aside0 (RunP q) ∧ Aside0 (Rd w' A' c' q) ∧ Aside0 (Below w.heap.size w w') ∧ Aside0 (w'.heap[gs]? = some (.cells #[.string nm, .slice A2 ws.length c2] 39 (0, 0))))
      case atStart => exact ⟨0, num, r, A, c, rfl, rfl, rfl, Nat.zero_le _, by omega, ⟨rfl⟩, HR, HRDa, HBa, KS⟩
      case round =>
        obtain ⟨j, n2, q, A', c', rfl, rfl, rfl, hj, hn2, HKp, HQ, HRQ, HBq, KSq⟩ := hrel
        by_cases hjt : j < ws.length
        · have hcj : (j : Int) < (ws.length : Int) := by omega
          obtain ⟨ad1, A3, c3, e9, hy0, hy1, hy2, hl3, hC3⟩ := at_T25 HC1.out j (Int.natCast_nonneg _) hcj
          cases e9
          have hy0 := Kd.cell_heap (fun k hk => HBq.out.block k hk) hy0
          have hy1 := Kd.cell_heap (fun k hk => HBq.out.block k hk) hy1
          have hy2 := Kd.cell_heap (fun k hk => HBq.out.block k hk) hy2
          rw [rdK ws j hjt] at hy0 hy1 hy2 hl3 hC3
          rw [Int.toNat_natCast] at hy0 hy1 hy2
          have HX2 := Aside0.mk (HTX.out _ (List.getElem_mem hjt))
          have hC3' := Kd.C_below hC3 HBq.out
          clear hC3
          generalize ws[j] = x at hy0 hy1 hy2 hl3 hC3' HX2
          obtain ⟨xn, xg, xt⟩ := x
          dsimp only at hy0 hy1 hy2 hl3 hC3' HX2
          have OB := Aside0.mk (below_alloc (Below.refl wr.heap.size wr) (.cells #[.int .i64 xn, .bool xg, .slice A3 xt.length c3] 25))
          have KV := Aside0.mk (blk_new wr (.cells #[.int .i64 xn, .bool xg, .slice A3 xt.length c3] 25))
          have KSv := Aside0.mk (blk_alloc KSq.out (.cells #[.int .i64 xn, .bool xg, .slice A3 xt.length c3] 25))
          have s0 := (blk_cell KSv.out 0).trans (show _ = some (Value.string nm) from rfl)
          have HXT := Aside0.mk (Kd.C_below hC3' OB.out)
          clear hC3'
          have hwn : IntKind.i64.wrap ((n2 : Int) + 1) = ((n2 + 1 : Nat) : Int) := by rw [i64_w]; unfold wrap64; omega
          have HWJ := Aside0.mk (show IntKind.i64.wrap ((j : Int) + 1) = ((j + 1 : Nat) : Int) by clear hwn; rw [i64_w]; unfold wrap64; omega)
          go_wp2_with fail
          clear s0
          generalize wr.alloc (.cells #[.int .i64 xn, .bool xg, .slice A3 xt.length c3] 25) = wb at OB KV KSv HXT ⊢
          generalize wr.heap.size = gv at KV ⊢
          have HBb := Aside0.mk (HBq.out.trans (OB.out.mono HBq.out.size))
          have HRb := Aside0.mk (HRQ.out.below OB.out)
          clear OB HBq HRQ KSq hy0 hy1 hy2
          clear hwn
          refine (Put_calls q nm ((n2 : Int) + 1) xt A' c' A3 c3 wb HRb.out.C HRb.out.le HQ.out.short.sized (by have := HM.out; omega) HXT.out hl3 (by have := HX2.out; omega) (tabs_below HT.out HBb.out)).mono ?_
          rintro e wc ⟨he, hb⟩
          obtain ⟨r1, z1, A4, c4, rfl, hP1, hR1⟩ := he.rd
          have HBc := Aside0.mk (HBb.out.trans (hb.mono HBb.out.size))
          have HRc := Aside0.mk (HRb.out.below hb)
          have KVc := Aside0.mk (blk_below KV.out hb)
          have KSc := Aside0.mk (blk_below KSv.out hb)
          have HR1 := Aside0.mk hR1
          have HP1 := Aside0.mk hP1
          clear he hb hP1 hR1 HBb HRb KV KSv HXT
          have v1 := (blk_cell KVc.out 1).trans (show _ = some (Value.bool xg) from rfl)
          have s0 := (blk_cell KSc.out 0).trans (show _ = some (Value.string nm) from rfl)
          cases xg with
          | false =>
            by_cases hz : z1 = 0
            · subst hz
              have HN := Aside0.mk (HQ.out.step (fun h => by cases h) HM.out HP1.out)
              go_wp2_with fail
              have HRX := HR1
              have HNX := HN
              clear HP1 HRc v1 s0 HR1 HN
              refine (scriniumref22_Right.calls 20000 A4 c4 r1 true wc HRX.out.C HRX.out.le HNX.out.refRight).mono ?_
              rintro e we ⟨rfl, hb⟩
              have HBe := Aside0.mk (HBc.out.trans (hb.mono HBc.out.size))
              have HRe := Aside0.mk (HRX.out.below hb)
              have KSe := Aside0.mk (blk_below KSc.out hb)
              clear hb HRX HBc KSc
              go_wp2_with fail
              refine (MRight_calls r1 A4 c4 we HRe.out.C HRe.out.le (by have := HNX.out.R.most; omega) (fun s hs => by have := HNX.out.name s hs; omega) (tabs_below HT.out HBe.out)).mono ?_
              rintro e wf ⟨he, hb⟩
              obtain rfl := he.is_yes HNX.out.R
              have HBf := Aside0.mk (HBe.out.trans (hb.mono HBe.out.size))
              have HRf := Aside0.mk (HRe.out.below hb)
              have KSf := Aside0.mk (blk_below KSe.out hb)
              clear he hb HRe HBe KSe
              have h24 : ¬ (24 : Int) < (r1.length : Int) := by have := HNX.out.R.most; omega
              have hwj := HWJ.out
              go_wp2_with fail
              go_roundg (ws.length - (j + 1))
              case measure => have := HKp.out; omega
              case rel => exact ⟨j + 1, n2 + 1, r1, A4, c4, rfl, by first | rfl | (simp; done), by first | rfl | (simp [hwj]; done) | rw [hwj], by omega, by clear hwj; omega, ⟨by clear hwj; omega⟩, HNX, HRf, HBf, KSf⟩
            · have hz1 : (z1 == 0) = false := by rw [beq_eq_false_iff_ne]; exact hz
              go_wp2_with fail
              have HRX := HRc
              have HNX := HQ
              clear HP1 HR1 v1 s0 hz hz1
              refine (scriniumref22_Right.calls 20000 A' c' q true wc HRX.out.C HRX.out.le HNX.out.refRight).mono ?_
              rintro e we ⟨rfl, hb⟩
              have HBe := Aside0.mk (HBc.out.trans (hb.mono HBc.out.size))
              have HRe := Aside0.mk (HRX.out.below hb)
              have KSe := Aside0.mk (blk_below KSc.out hb)
              clear hb HRX HBc KSc
              go_wp2_with fail
              refine (MRight_calls q A' c' we HRe.out.C HRe.out.le (by have := HNX.out.R.most; omega) (fun s hs => by have := HNX.out.name s hs; omega) (tabs_below HT.out HBe.out)).mono ?_
              rintro e wf ⟨he, hb⟩
              obtain rfl := he.is_yes HNX.out.R
              have HBf := Aside0.mk (HBe.out.trans (hb.mono HBe.out.size))
              have HRf := Aside0.mk (HRe.out.below hb)
              have KSf := Aside0.mk (blk_below KSe.out hb)
              clear he hb HRe HBe KSe
              have h24 : ¬ (24 : Int) < (q.length : Int) := by have := HNX.out.R.most; omega
              have hwj := HWJ.out
              go_wp2_with fail
              go_roundg (ws.length - (j + 1))
              case measure => have := HKp.out; omega
              case rel => exact ⟨j + 1, n2 + 1, q, A', c', rfl, by first | rfl | (simp; done), by first | rfl | (simp [hwj]; done) | rw [hwj], by omega, by clear hwj; omega, ⟨by clear hwj; omega⟩, HNX, HRf, HBf, KSf⟩
          | true =>
            go_wp2_with fail
            refine (MDelete_calls q nm ((n2 : Int) + 1) A' c' wc HRc.out.C HRc.out.le HQ.out.short.sized (by have := HM.out; omega) (tabs_below HT.out HBc.out)).mono ?_
            rintro e wd ⟨he, hb⟩
            obtain ⟨r2, z2, A5, c5, rfl, hP2, hR2⟩ := he.rd
            have HBd := Aside0.mk (HBc.out.trans (hb.mono HBc.out.size))
            have HRd := Aside0.mk (HRc.out.below hb)
            have KSd := Aside0.mk (blk_below KSc.out hb)
            have HR2 := Aside0.mk hR2
            have HP2 := Aside0.mk hP2
            clear he hb hP2 hR2 HBc HRc KSc KVc v1 s0 HR1 HP1
            by_cases hz : z2 = 0
            · subst hz
              have HN := Aside0.mk (HQ.out.step (fun _ => rfl) HM.out HP2.out)
              go_wp2_with fail
              have HRX := HR2
              have HNX := HN
              clear HP2 HRd HR2 HN
              refine (scriniumref22_Right.calls 20000 A5 c5 r2 true wd HRX.out.C HRX.out.le HNX.out.refRight).mono ?_
              rintro e we ⟨rfl, hb⟩
              have HBe := Aside0.mk (HBd.out.trans (hb.mono HBd.out.size))
              have HRe := Aside0.mk (HRX.out.below hb)
              have KSe := Aside0.mk (blk_below KSd.out hb)
              clear hb HRX HBd KSd
              go_wp2_with fail
              refine (MRight_calls r2 A5 c5 we HRe.out.C HRe.out.le (by have := HNX.out.R.most; omega) (fun s hs => by have := HNX.out.name s hs; omega) (tabs_below HT.out HBe.out)).mono ?_
              rintro e wf ⟨he, hb⟩
              obtain rfl := he.is_yes HNX.out.R
              have HBf := Aside0.mk (HBe.out.trans (hb.mono HBe.out.size))
              have HRf := Aside0.mk (HRe.out.below hb)
              have KSf := Aside0.mk (blk_below KSe.out hb)
              clear he hb HRe HBe KSe
              have h24 : ¬ (24 : Int) < (r2.length : Int) := by have := HNX.out.R.most; omega
              have hwj := HWJ.out
              go_wp2_with fail
              go_roundg (ws.length - (j + 1))
              case measure => have := HKp.out; omega
              case rel => exact ⟨j + 1, n2 + 1, r2, A5, c5, rfl, by first | rfl | (simp; done), by first | rfl | (simp [hwj]; done) | rw [hwj], by omega, by clear hwj; omega, ⟨by clear hwj; omega⟩, HNX, HRf, HBf, KSf⟩
            · have hz1 : (z2 == 0) = false := by rw [beq_eq_false_iff_ne]; exact hz
              go_wp2_with fail
              have HRX := HRd
              have HNX := HQ
              clear HP2 HR2 hz hz1
              refine (scriniumref22_Right.calls 20000 A' c' q true wd HRX.out.C HRX.out.le HNX.out.refRight).mono ?_
              rintro e we ⟨rfl, hb⟩
              have HBe := Aside0.mk (HBd.out.trans (hb.mono HBd.out.size))
              have HRe := Aside0.mk (HRX.out.below hb)
              have KSe := Aside0.mk (blk_below KSd.out hb)
              clear hb HRX HBd KSd
              go_wp2_with fail
              refine (MRight_calls q A' c' we HRe.out.C HRe.out.le (by have := HNX.out.R.most; omega) (fun s hs => by have := HNX.out.name s hs; omega) (tabs_below HT.out HBe.out)).mono ?_
              rintro e wf ⟨he, hb⟩
              obtain rfl := he.is_yes HNX.out.R
              have HBf := Aside0.mk (HBe.out.trans (hb.mono HBe.out.size))
              have HRf := Aside0.mk (HRe.out.below hb)
              have KSf := Aside0.mk (blk_below KSe.out hb)
              clear he hb HRe HBe KSe
              have h24 : ¬ (24 : Int) < (q.length : Int) := by have := HNX.out.R.most; omega
              have hwj := HWJ.out
              go_wp2_with fail
              go_roundg (ws.length - (j + 1))
              case measure => have := HKp.out; omega
              case rel => exact ⟨j + 1, n2 + 1, q, A', c', rfl, by first | rfl | (simp; done), by first | rfl | (simp [hwj]; done) | rw [hwj], by omega, by clear hwj; omega, ⟨by clear hwj; omega⟩, HNX, HRf, HBf, KSf⟩
        · have hcj : ¬ (j : Int) < (ws.length : Int) := by omega
          have hwl := HWL.out
          go_wp2_with fail
          go_roundg (l.length - (i + 1))
          case measure => have := HK.out; omega
          case rel => exact ⟨i + 1, n2, q, A', c', rfl, rfl, by first | rfl | (simp [hwl]; done) | rw [hwl], by omega, by clear hwl; omega, ⟨by omega⟩, HQ, HRQ, HBq⟩
    · have hci : ¬ (i : Int) < (l.length : Int) := by omega
      go_wp2_with fail
      go_ret
      exact ⟨rfl, HB.out⟩
end Go.Proofs.YtkabjbkefoipnaaDoor.Md
