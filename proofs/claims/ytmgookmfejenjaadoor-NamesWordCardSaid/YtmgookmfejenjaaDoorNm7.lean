/- names: wakes; the walks of NamesRight, NamesPlain. -/
import Derived.Test.YtmgookmfejenjaaDoorNm6
namespace Go.Proofs.YtmgookmfejenjaaDoor.Nm
open Go.Lib Go.RowKit Go.Proofs.YtmgookmfejenjaaDoorW.PrintWords Go.Proofs.YtmgookmfejenjaaDoorW.PrintLast Go.Proofs.YtmgookmfejenjaaDoorW.PrintMore Go.Proofs.YtmgookmfejenjaaDoor.PM
set_option linter.unusedVariables false
set_option linter.unusedSimpArgs false

theorem plain_ex : plainB ⟨#[65, 108, 112, 104, 97, 32, 195, 169]⟩ = (⟨#[97, 108, 112, 104, 97, 32, 195, 169]⟩, 0) := by decide +kernel
theorem word_ex : (⟨(wordL (BL ⟨#[97, 47, 66]⟩)).toArray⟩ : ByteArray) = ⟨#[97, 37, 50, 102, 37, 52, 50]⟩ := by decide +kernel

theorem wakes_calls (w : World) (hT : Lib.Utf8Tabs 0 1 w) :
    Calls Tryd.prog 8 #[] w fun e w' => e = .returned (.bool true) ∧ Below w.heap.size w w' := by
  have hP := Plain_calls ⟨#[65, 108, 112, 104, 97, 32, 195, 169]⟩ w (by decide) hT
  rw [plain_ex] at hP
  have HP := Aside0.mk hP
  clear hP hT
  go_enter Tryd.func8, Tryd.ntmps8
  go_wp2_with fail
  refine HP.out.mono ?_
  rintro e w1 ⟨rfl, hb1⟩
  have HB1 := Aside0.mk hb1
  clear hb1
  go_wp2_with fail
  have hW := Word_calls ⟨#[97, 47, 66]⟩ w1 (by decide)
  rw [word_ex] at hW
  refine hW.mono ?_
  clear hW
  rintro e w2 ⟨rfl, hb2⟩
  go_wp2_with fail
  go_ret
  exact ⟨rfl, below_step HB1.out hb2⟩

theorem refPlain_calls (s : ByteArray) (w : World) (hs : s.size ≤ 4000000) :
    Calls Tryd.prog 10 #[.string s] w fun e w' => e = .returned (.tuple #[.string (plainB s).1, .int .i64 (plainB s).2]) ∧ Below w.heap.size w w' :=
  scriniumref10_Plain.calls (s.size + 30) s _ _ w (Plain_is s hs)

theorem NamesRight_walk (s : ByteArray) (w : World) (hT : Lib.Utf8Tabs 0 1 w) (hs : s.size ≤ 140737488351232) :
    Calls Tryd.prog 3 #[.string s] w fun e w' => e = .returned (.bool true) ∧ Below w.heap.size w w' := by
  have HT := Aside0.mk hT
  clear hT
  go_enter Tryd.func3, Tryd.ntmps3
  go_wp2_with fail
  refine (wakes_calls w HT.out).mono ?_
  rintro e w1 ⟨rfl, hb1⟩
  have HB1 := Aside0.mk hb1
  have HT1 := Aside0.mk (tabs_below HT.out hb1)
  clear hb1 HT
  by_cases c1 : s.size > 500
  · have c1i : (500 : Int) < (s.size : Int) := by omega
    go_wp2_with fail
    go_ret
    exact ⟨rfl, HB1.out⟩
  have c1i : ¬ (500 : Int) < (s.size : Int) := by omega
  have HC := Aside0.mk c1
  obtain ⟨p, e, hpe⟩ : ∃ p e, plainB s = (p, e) := ⟨_, _, rfl⟩
  go_wp2_with fail
  have h := Plain_calls s w1 (by have := HC.out; omega) HT1.out
  rw [hpe] at h
  refine h.mono ?_
  clear h
  rintro e w2 ⟨rfl, hb2⟩
  have HB2 := Aside0.mk (below_step HB1.out hb2)
  clear hb2
  go_wp2_with fail
  have h := refPlain_calls s w2 (by have := HC.out; omega)
  rw [hpe] at h
  refine h.mono ?_
  clear h hpe
  rintro e w3 ⟨rfl, hb3⟩
  have HB3 := Aside0.mk (below_step HB2.out hb3)
  clear hb3
  go_wp2_with fail
  refine (Right_calls s w3 (by have := HC.out; omega)).mono ?_
  rintro e w4 ⟨rfl, hb4⟩
  have HB4 := Aside0.mk (below_step HB3.out hb4)
  clear hb4
  go_wp2_with fail
  refine (scriniumref10_Right.calls (s.size + 30) s _ w4 (Right_is s (by have := HC.out; omega))).mono ?_
  rintro e w5 ⟨rfl, hb5⟩
  have HB5 := Aside0.mk (below_step HB4.out hb5)
  clear hb5
  generalize right (runes (BL s)) = rb
  go_wp2_with fail
  refine (Runes_calls s w5 (by have := HC.out; omega)).mono ?_
  rintro e w6 ⟨rfl, hb6⟩
  have HB6 := Aside0.mk (below_step HB5.out hb6)
  clear hb6
  go_wp2_with fail
  refine (scriniumref10_All.calls (s.size + 22) s (a40 s) w6 (All_is s (by have := HC.out; omega))).mono ?_
  rintro e w7 ⟨v, rfl, hv, hb7⟩
  obtain ⟨A7, k7, rfl, hk7, hr7⟩ := Kd.R_reads hv
  have HB7 := Aside0.mk (below_step HB6.out hb7)
  clear hb7 hv hk7 hr7
  rw [a40_len]
  go_wp2_with fail
  go_ret
  exact ⟨rfl, HB7.out⟩

theorem right_24 (l : List Nat) (h : right l = true) : l.length ≤ 24 := by
  unfold right at h
  rw [Bool.and_eq_true] at h
  exact (of_decide_eq_true h.2).2.1

theorem BL_of (l : List UInt8) : BL ⟨l.toArray⟩ = l := by simp [BL]
theorem plain_twice (s : ByteArray) (h : right (runes (BL s)) = true) : plainB s = (⟨((BL s).map lowB).toArray⟩, 0) ∧ runes (BL ⟨((BL s).map lowB).toArray⟩) = (runes (BL s)).map lowN ∧ plainB ⟨((BL s).map lowB).toArray⟩ = (⟨((BL s).map lowB).toArray⟩, 0) := by
  have e := runes_low _ (BL s) (Nat.le_refl _)
  refine ⟨by unfold plainB; rw [if_pos h], by rw [BL_of]; exact e, ?_⟩
  unfold plainB
  rw [BL_of, e, right_low, if_pos h, low_low]

theorem NamesPlain_walk (s : ByteArray) (w : World) (hT : Lib.Utf8Tabs 0 1 w) (hs : s.size ≤ 140737488351232) :
    Calls Tryd.prog 4 #[.string s] w fun e w' => e = .returned (.bool true) ∧ Below w.heap.size w w' := by
  have HT := Aside0.mk hT
  clear hT
  go_enter Tryd.func4, Tryd.ntmps4
  go_wp2_with fail
  refine (wakes_calls w HT.out).mono ?_
  rintro e w1 ⟨rfl, hb1⟩
  have HB1 := Aside0.mk hb1
  have HT1 := Aside0.mk (tabs_below HT.out hb1)
  clear hb1 HT
  by_cases c1 : s.size > 500
  · have c1i : (500 : Int) < (s.size : Int) := by omega
    go_wp2_with fail
    go_ret
    exact ⟨rfl, HB1.out⟩
  have c1i : ¬ (500 : Int) < (s.size : Int) := by omega
  have HC := Aside0.mk c1
  go_wp2_with fail
  have h := Plain_calls s w1 (by have := HC.out; omega) HT1.out
  cases hr : right (runes (BL s)) with
  | false =>
    have e : plainB s = (⟨#[]⟩, 5) := by unfold plainB; rw [hr]; rfl
    rw [e] at h
    refine h.mono ?_
    clear h
    rintro e w2 ⟨rfl, hb2⟩
    have HB2 := Aside0.mk (below_step HB1.out hb2)
    clear hb2
    go_wp2_with fail
    go_ret
    exact ⟨rfl, HB2.out⟩
  | true =>
    obtain ⟨e1, e2, e3⟩ := plain_twice s hr
    have hl : (⟨((BL s).map lowB).toArray⟩ : ByteArray).size ≤ 500 := by
      show ((BL s).map lowB).toArray.size ≤ 500
      rw [List.size_toArray, List.length_map, BL_length]; omega
    have hrp : right (runes (BL ⟨((BL s).map lowB).toArray⟩)) = true := by rw [e2, right_low]; exact hr
    have hlen : (runes (BL ⟨((BL s).map lowB).toArray⟩)).length = (runes (BL s)).length := by rw [e2, List.length_map]
    have h24 := right_24 _ hr
    rw [e1] at h
    generalize (⟨((BL s).map lowB).toArray⟩ : ByteArray) = p at h hl hrp hlen e3
    clear e1 e2
    have E3 := Aside0.mk e3; have HL := Aside0.mk hl; have HRP := Aside0.mk hrp; have HLEN := Aside0.mk hlen; have H24 := Aside0.mk h24
    clear e3 hl hrp hlen h24 hr
    refine h.mono ?_
    clear h
    rintro e w2 ⟨rfl, hb2⟩
    have HB2 := Aside0.mk (below_step HB1.out hb2)
    have HT2 := Aside0.mk (tabs_below HT1.out hb2)
    clear hb2
    go_wp2_with fail
    have h := Plain_calls p w2 (by have := HL.out; omega) HT2.out
    rw [E3.out] at h
    refine h.mono ?_
    clear h
    rintro e w3 ⟨rfl, hb3⟩
    have HB3 := Aside0.mk (below_step HB2.out hb3)
    clear hb3
    go_wp2_with fail
    have h := Right_calls p w3 (by have := HL.out; omega)
    rw [HRP.out] at h
    refine h.mono ?_
    clear h
    rintro e w4 ⟨rfl, hb4⟩
    have HB4 := Aside0.mk (below_step HB3.out hb4)
    clear hb4
    go_wp2_with fail
    have h := Runes_calls p w4 (by have := HL.out; omega)
    rw [HLEN.out] at h
    refine h.mono ?_
    clear h
    rintro e w5 ⟨rfl, hb5⟩
    have HB5 := Aside0.mk (below_step HB4.out hb5)
    clear hb5
    go_wp2_with fail
    refine (Runes_calls s w5 (by have := HC.out; omega)).mono ?_
    rintro e w6 ⟨rfl, hb6⟩
    have HB6 := Aside0.mk (below_step HB5.out hb6)
    clear hb6
    go_wp2_with fail
    refine (Runes_calls s w6 (by have := HC.out; omega)).mono ?_
    rintro e w7 ⟨rfl, hb7⟩
    have HB7 := Aside0.mk (below_step HB6.out hb7)
    have h24 : ((runes (BL s)).length : Int) ≤ 24 := by have := H24.out; omega
    clear hb7
    go_wp2_with fail
    go_ret
    exact ⟨rfl, HB7.out⟩

end Go.Proofs.YtmgookmfejenjaaDoor.Nm
