/- names: the walk of NamesWord. -/
import Derived.Test.YtmgookmfejenjaaDoorNm7
import Derived.Test.YtmgookmfejenjaaDoorNm11
namespace Go.Proofs.YtmgookmfejenjaaDoor.Nm
open Go.Lib Go.RowKit Go.Proofs.YtmgookmfejenjaaDoorW.PrintWords Go.Proofs.YtmgookmfejenjaaDoorW.PrintLast Go.Proofs.YtmgookmfejenjaaDoorW.PrintMore Go.Proofs.YtmgookmfejenjaaDoor.PM
set_option linter.unusedVariables false
set_option linter.unusedSimpArgs false

theorem textR_res (o : Option (List UInt8)) : textR o [] = res o [] := by
  cases o with
  | none => rfl
  | some l => simp only [textR, res, List.nil_append, str_ints]
theorem refText_calls (s : ByteArray) (w : World) (hs : s.size ≤ 4000000) :
    Calls Tryd.prog 19 #[.string s] w fun e w' => e = .returned (.tuple #[.string (textB s).1, .int .i64 (textB s).2]) ∧ Below w.heap.size w w' := by
  refine scriniumref10_Text.calls (2 * s.size + 30) s _ _ w ?_
  have h := Text_is s hs
  rw [textR_res] at h
  exact h
theorem refWord_calls (s : ByteArray) (w : World) (hs : s.size ≤ 4000000) :
    Calls Tryd.prog 20 #[.string s] w fun e w' => e = .returned (.string ⟨(wordL (BL s)).toArray⟩) ∧ Below w.heap.size w w' :=
  scriniumref10_Word.calls (s.size + 1) s _ w (Word_is s hs)
theorem BL_mk (s : ByteArray) : (⟨(BL s).toArray⟩ : ByteArray) = s := by cases s; simp [BL]
theorem word_ge (l : List UInt8) : l.length ≤ (wordL l).length := by
  induction l with
  | nil => exact Nat.le_refl _
  | cons b l ih =>
    simp only [wordL, List.length_append, List.length_cons]
    split
    · simp only [List.length_cons, List.length_nil]; omega
    · simp only [List.length_cons, List.length_nil]; omega
theorem text_word (s : ByteArray) : textB ⟨(wordL (BL s)).toArray⟩ = (s, 0) := by
  unfold textB
  have hz : (⟨(wordL (BL s)).toArray⟩ : ByteArray).size = (wordL (BL s)).length := by
    show (wordL (BL s)).toArray.size = _; simp
  rw [hz, show BL ⟨(wordL (BL s)).toArray⟩ = wordL (BL s) by simp [BL], txt_word (BL s) _ (by have := word_ge (BL s); omega)]
  simp only [res, List.nil_append, BL_mk]
theorem word_text (s x : ByteArray) (e : Int) (h : textB s = (x, e)) (he : e = 0) : (⟨(wordL (BL x)).toArray⟩ : ByteArray) = s ∧ x.size ≤ s.size := by
  subst he
  unfold textB at h
  cases ht : txt (s.size + 1) (BL s) with
  | none => rw [ht] at h; simp [res] at h
  | some l =>
    rw [ht] at h
    simp only [res, List.nil_append, Prod.mk.injEq, and_true] at h
    subst h
    have hw := word_txt _ _ _ ht
    rw [show BL ⟨l.toArray⟩ = l by simp [BL], hw]
    refine ⟨BL_mk s, ?_⟩
    show l.toArray.size ≤ s.size
    have := word_ge l
    rw [hw, BL_length] at this
    simpa using this

set_option maxHeartbeats 4000000 in
theorem NamesWord_walk (s : ByteArray) (_hs : s.size ≤ 140737488351232) (v : ByteArray) (_hv : v.size ≤ 140737488351232) (w : World) (hT : Lib.Utf8Tabs 0 1 w) :
    Calls Tryd.prog 7 #[.string s, .string v] w fun e w' => e = .returned (.bool true) ∧ Below w.heap.size w w' := by
  clear _hs _hv
  have HT0 := Aside0.mk hT
  clear hT
  go_enter Tryd.func7, Tryd.ntmps7
  go_wp2_with fail
  refine (wakes_calls w HT0.out).mono ?_
  rintro e w1 ⟨rfl, hb⟩
  have HB1 := Aside0.mk hb
  have HT1 := Aside0.mk (tabs_below HT0.out hb)
  clear hb
  by_cases ca : s.size > 500
  · have cai : (500 : Int) < (s.size : Int) := by omega
    go_wp2_with fail
    go_ret
    exact ⟨rfl, HB1.out⟩
  have cai : ¬ (500 : Int) < (s.size : Int) := by omega
  by_cases cb : v.size > 500
  · have cbi : (500 : Int) < (v.size : Int) := by omega
    go_wp2_with fail
    go_ret
    exact ⟨rfl, HB1.out⟩
  have cbi : ¬ (500 : Int) < (v.size : Int) := by omega
  have HC := Aside0.mk (show s.size ≤ 500 ∧ v.size ≤ 500 by omega)
  clear ca cb
  have C1 := Aside0.mk (fun W => Word_calls s W (by have := HC.out; omega))
  have hsz : (⟨(wordL (BL s)).toArray⟩ : ByteArray).size ≤ 4000000 := by
    show (wordL (BL s)).toArray.size ≤ _
    have := wordL_length (BL s)
    rw [BL_length] at this
    have h := HC.out
    rw [List.size_toArray]; omega
  have C2 := fun W => Text_calls ⟨(wordL (BL s)).toArray⟩ W hsz
  rw [text_word] at C2
  have C2 := Aside0.mk C2
  have C6 := Aside0.mk (fun W => refWord_calls s W (by have := HC.out; omega))
  generalize (⟨(wordL (BL s)).toArray⟩ : ByteArray) = ws at C1 C2 C6 hsz
  clear hsz
  have C3 := fun W => Text_calls v W (by have := HC.out; omega)
  have C4 := fun W => refText_calls v W (by have := HC.out; omega)
  have hback := word_text v
  obtain ⟨x, er, hx⟩ : ∃ x er, textB v = (x, er) := ⟨_, _, rfl⟩
  rw [hx] at C3 C4
  have HBK := Aside0.mk (hback x er hx)
  have C3 := Aside0.mk C3; have C4 := Aside0.mk C4
  clear hx hback
  go_wp2_with fail
  have h := C1.out w1
  refine h.mono ?_
  clear h
  rintro e w2 ⟨rfl, hb⟩
  have HB2 := Aside0.mk (below_step HB1.out hb)
  have HT2 := Aside0.mk (tabs_below HT1.out hb)
  clear hb
  go_wp2_with fail
  have h := C2.out w2
  refine h.mono ?_
  clear h
  rintro e w3 ⟨rfl, hb⟩
  have HB3 := Aside0.mk (below_step HB2.out hb)
  have HT3 := Aside0.mk (tabs_below HT2.out hb)
  clear hb
  go_wp2_with fail
  have h := C3.out w3
  refine h.mono ?_
  clear h
  rintro e w4 ⟨rfl, hb⟩
  have HB4 := Aside0.mk (below_step HB3.out hb)
  have HT4 := Aside0.mk (tabs_below HT3.out hb)
  clear hb
  go_wp2_with fail
  have h := C4.out w4
  refine h.mono ?_
  clear h
  rintro e w5 ⟨rfl, hb⟩
  have HB5 := Aside0.mk (below_step HB4.out hb)
  have HT5 := Aside0.mk (tabs_below HT4.out hb)
  clear hb
  go_wp2_with fail
  have h := C6.out w5
  refine h.mono ?_
  clear h
  rintro e w6 ⟨rfl, hb⟩
  have HB6 := Aside0.mk (below_step HB5.out hb)
  have HT6 := Aside0.mk (tabs_below HT5.out hb)
  clear hb
  by_cases h0 : er = 0
  · subst h0
    obtain ⟨hw, hxs⟩ := HBK.out rfl
    have C5 := fun W => Word_calls x W (by have := HC.out; omega)
    rw [hw] at C5
    have C5 := Aside0.mk C5
    clear hw hxs HBK
    go_wp2_with fail
    have h := C5.out w6
    refine h.mono ?_
    clear h
    rintro e w7 ⟨rfl, hb⟩
    have HB7 := Aside0.mk (below_step HB6.out hb)
    have HT7 := Aside0.mk (tabs_below HT6.out hb)
    clear hb
    go_wp2_with fail
    go_ret
    exact ⟨rfl, HB7.out⟩
  · have z0 : (er == 0) = false := beq_eq_false_iff_ne.mpr h0
    have z1 : (er != 0) = true := bne_iff_ne.mpr h0
    clear HBK
    go_wp2_with fail
    go_ret
    exact ⟨rfl, HB6.out⟩

end Go.Proofs.YtmgookmfejenjaaDoor.Nm
