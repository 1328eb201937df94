/- names: the walks of NamesLess, NamesBoth. -/
import Derived.Test.YtmgookmfejenjaaDoorNm8
namespace Go.Proofs.YtmgookmfejenjaaDoor.Nm
open Go.Lib Go.RowKit Go.Proofs.YtmgookmfejenjaaDoorW.PrintWords Go.Proofs.YtmgookmfejenjaaDoorW.PrintLast Go.Proofs.YtmgookmfejenjaaDoorW.PrintMore Go.Proofs.YtmgookmfejenjaaDoor.PM
set_option linter.unusedVariables false
set_option linter.unusedSimpArgs false

set_option maxHeartbeats 4000000 in
theorem NamesLess_walk (a : ByteArray) (ha : a.size ≤ 140737488351232) (b : ByteArray) (hb : b.size ≤ 140737488351232) (c : ByteArray) (hc : c.size ≤ 140737488351232) (w : World) (hT : Lib.Utf8Tabs 0 1 w) :
    Calls Tryd.prog 6 #[.string a, .string b, .string c] w fun e w' => e = .returned (.bool true) ∧ Below w.heap.size w w' := by
  clear ha hb hc
  have HT0 := Aside0.mk hT
  clear hT
  go_enter Tryd.func6, Tryd.ntmps6
  go_wp2_with fail
  refine (wakes_calls w HT0.out).mono ?_
  rintro e w1 ⟨rfl, hb⟩
  have HB1 := Aside0.mk hb
  have HT1 := Aside0.mk (tabs_below HT0.out hb)
  clear hb
  by_cases ca : a.size > 300
  · have cai : (300 : Int) < (a.size : Int) := by omega
    go_wp2_with fail
    go_ret
    exact ⟨rfl, HB1.out⟩
  have cai : ¬ (300 : Int) < (a.size : Int) := by omega
  by_cases cb : b.size > 300
  · have cbi : (300 : Int) < (b.size : Int) := by omega
    go_wp2_with fail
    go_ret
    exact ⟨rfl, HB1.out⟩
  have cbi : ¬ (300 : Int) < (b.size : Int) := by omega
  by_cases cc : c.size > 300
  · have cci : (300 : Int) < (c.size : Int) := by omega
    go_wp2_with fail
    go_ret
    exact ⟨rfl, HB1.out⟩
  have cci : ¬ (300 : Int) < (c.size : Int) := by omega
  have HC := Aside0.mk (show a.size ≤ 4000000 ∧ b.size ≤ 4000000 by omega)
  clear ca cb cc
  have hir := lessL_irr (runes (BL a))
  have has := lessL_asym (runes (BL a)) (runes (BL b))
  have htr := lessL_trans (runes (BL a)) (runes (BL b)) (runes (BL c))
  have LAA := fun W h => Less_calls a a W h
  have LAB := fun W h => Less_calls a b W h
  have LBA := fun W h => Less_calls b a W h
  have LBC := fun W h => Less_calls b c W h
  have LAC := fun W h => Less_calls a c W h
  have RAB := fun W => refLess_calls a b W HC.out.1 HC.out.2
  rw [hir] at LAA
  clear hir
  generalize lessL (runes (BL a)) (runes (BL b)) = p at LAB RAB has htr
  generalize lessL (runes (BL b)) (runes (BL a)) = p' at LBA has
  generalize lessL (runes (BL b)) (runes (BL c)) = q at LBC htr
  generalize lessL (runes (BL a)) (runes (BL c)) = r at LAC htr
  have LAA := Aside0.mk LAA; have LAB := Aside0.mk LAB; have LBA := Aside0.mk LBA; have LBC := Aside0.mk LBC; have LAC := Aside0.mk LAC; have RAB := Aside0.mk RAB
  have HAS := Aside0.mk has; have HTR := Aside0.mk htr
  clear has htr
  go_wp2_with fail
  have h := LAB.out w1 HT1.out
  refine h.mono ?_
  clear h
  rintro e w2 ⟨rfl, hb⟩
  have HB2 := Aside0.mk (below_step HB1.out hb)
  have HT2 := Aside0.mk (tabs_below HT1.out hb)
  clear hb
  go_wp2_with fail
  have h := RAB.out w2
  refine h.mono ?_
  clear h
  rintro e w3 ⟨rfl, hb⟩
  have HB3 := Aside0.mk (below_step HB2.out hb)
  have HT3 := Aside0.mk (tabs_below HT2.out hb)
  clear hb
  go_wp2_with fail
  cases p with
  | false =>
    go_wp2_with fail
    have h := LAB.out w3 HT3.out
    refine h.mono ?_
    clear h
    rintro e w4 ⟨rfl, hb⟩
    have HB4 := Aside0.mk (below_step HB3.out hb)
    have HT4 := Aside0.mk (tabs_below HT3.out hb)
    clear hb
    go_wp2_with fail
    have h := LAA.out w4 HT4.out
    refine h.mono ?_
    clear h
    rintro e w5 ⟨rfl, hb⟩
    have HB5 := Aside0.mk (below_step HB4.out hb)
    have HT5 := Aside0.mk (tabs_below HT4.out hb)
    clear hb
    go_wp2_with fail
    have h := LAB.out w5 HT5.out
    refine h.mono ?_
    clear h
    rintro e w6 ⟨rfl, hb⟩
    have HB6 := Aside0.mk (below_step HB5.out hb)
    have HT6 := Aside0.mk (tabs_below HT5.out hb)
    clear hb
    go_wp2_with fail
    go_ret
    exact ⟨rfl, HB6.out⟩
  | true =>
    go_wp2_with fail
    have h := LAB.out w3 HT3.out
    refine h.mono ?_
    clear h
    rintro e w4 ⟨rfl, hb⟩
    have HB4 := Aside0.mk (below_step HB3.out hb)
    have HT4 := Aside0.mk (tabs_below HT3.out hb)
    clear hb
    go_wp2_with fail
    obtain rfl := HAS.out trivial
    have h := LBA.out w4 HT4.out
    refine h.mono ?_
    clear h
    rintro e w5 ⟨rfl, hb⟩
    have HB5 := Aside0.mk (below_step HB4.out hb)
    have HT5 := Aside0.mk (tabs_below HT4.out hb)
    clear hb
    go_wp2_with fail
    have h := LAA.out w5 HT5.out
    refine h.mono ?_
    clear h
    rintro e w6 ⟨rfl, hb⟩
    have HB6 := Aside0.mk (below_step HB5.out hb)
    have HT6 := Aside0.mk (tabs_below HT5.out hb)
    clear hb
    go_wp2_with fail
    have h := LAB.out w6 HT6.out
    refine h.mono ?_
    clear h
    rintro e w7 ⟨rfl, hb⟩
    have HB7 := Aside0.mk (below_step HB6.out hb)
    have HT7 := Aside0.mk (tabs_below HT6.out hb)
    clear hb
    go_wp2_with fail
    cases q with
    | false =>
      have h := LBC.out w7 HT7.out
      refine h.mono ?_
      clear h
      rintro e w8 ⟨rfl, hb⟩
      have HB8 := Aside0.mk (below_step HB7.out hb)
      have HT8 := Aside0.mk (tabs_below HT7.out hb)
      clear hb
      go_wp2_with fail
      go_ret
      exact ⟨rfl, HB8.out⟩
    | true =>
      have h := LBC.out w7 HT7.out
      refine h.mono ?_
      clear h
      rintro e w8 ⟨rfl, hb⟩
      have HB8 := Aside0.mk (below_step HB7.out hb)
      have HT8 := Aside0.mk (tabs_below HT7.out hb)
      clear hb
      go_wp2_with fail
      obtain rfl := HTR.out trivial trivial
      have h := LAC.out w8 HT8.out
      refine h.mono ?_
      clear h
      rintro e w9 ⟨rfl, hb⟩
      have HB9 := Aside0.mk (below_step HB8.out hb)
      have HT9 := Aside0.mk (tabs_below HT8.out hb)
      clear hb
      go_wp2_with fail
      go_ret
      exact ⟨rfl, HB9.out⟩

end Go.Proofs.YtmgookmfejenjaaDoor.Nm
