/- names: the walk of NamesBoth. -/
import Derived.Test.YtmgookmfejenjaaDoorNm8
namespace Go.Proofs.YtmgookmfejenjaaDoor.Nm
open Go.Lib Go.RowKit Go.Proofs.YtmgookmfejenjaaDoorW.PrintWords Go.Proofs.YtmgookmfejenjaaDoorW.PrintLast Go.Proofs.YtmgookmfejenjaaDoorW.PrintMore Go.Proofs.YtmgookmfejenjaaDoor.PM
set_option linter.unusedVariables false
set_option linter.unusedSimpArgs false



/-! ### NamesBoth -/
theorem decodeN_more (n b0 b1 b2 b3 N c1 c2 c3 : Nat) (hN : n ≤ N) (hv : (decodeN n b0 b1 b2 b3).1 ≠ 65533) (h1 : 1 < n → c1 = b1) (h2 : 2 < n → c2 = b2) (h3 : 3 < n → c3 = b3) : decodeN N b0 c1 c2 c3 = decodeN n b0 b1 b2 b3 := by
  rcases decodeN_shape n b0 b1 b2 b3 with ⟨x, e⟩ | ⟨x1, x2, x3, xv, e⟩ | ⟨x1, x2, x3, x4, xv, xs, e⟩ | ⟨x1, x2, x3, x4, x5, xv, xw, e⟩ | e
  · rw [e]; unfold decodeN; rw [if_pos x]
  · rw [e, h1 x2]; unfold decodeN; rw [if_neg (by omega), if_pos (by omega), if_pos (by omega)]
  · rw [e, h1 (by omega), h2 x2]; unfold decodeN; rw [if_neg (by omega), if_neg (by omega), if_pos (by omega), if_pos (by omega)]
  · rw [e, h1 (by omega), h2 (by omega), h3 x2]; unfold decodeN; rw [if_neg (by omega), if_neg (by omega), if_neg (by omega), if_pos (by omega), if_pos (by omega)]
  · rw [e] at hv; simp at hv

theorem getD_app (l m : List UInt8) (k : Nat) (h : k < l.length) : (l ++ m).getD k 0 = l.getD k 0 := by
  simp only [List.getD_eq_getElem?_getD, List.getElem?_append_left h]
theorem decodeL_app (l m : List UInt8) (hne : l ≠ []) (hv : (decodeL l).1 ≠ 65533) : decodeL (l ++ m) = decodeL l := by
  have hl : 0 < l.length := List.length_pos_iff.2 hne
  rw [decodeL_N, decodeL_N, getD_app l m 0 hl]
  rw [decodeL_N] at hv
  refine decodeN_more _ _ _ _ _ _ _ _ _ (by rw [List.length_append]; omega) hv (fun h => by rw [getD_app l m 1 h]) (fun h => by rw [getD_app l m 2 h]) (fun h => by rw [getD_app l m 3 h])
theorem runes_app : ∀ (n : Nat) (l m : List UInt8), l.length ≤ n → (∀ c, c ∈ runes l → c ≠ 65533) → runes (l ++ m) = runes l ++ runes m
  | 0, l, m, h, _ => by
    have : l = [] := List.eq_nil_of_length_eq_zero (by omega)
    subst this; rfl
  | n + 1, l, m, h, hv => by
    by_cases hne : l = []
    · subst hne; rfl
    have hw := decodeL_width l
    have hl : 0 < l.length := List.length_pos_iff.2 hne
    have hle := decodeL_le l hne
    rw [runes_step l hne] at hv
    have hd := hv (decodeL l).1 (by simp)
    rw [runes_step l hne, runes_step (l ++ m) (by simp [hne]), decodeL_app l m hne hd, List.drop_append_of_le_length hle, runes_app n (l.drop (decodeL l).2) m (by rw [List.length_drop]; omega) (fun c hc => hv c (by simp [hc])), List.cons_append]

theorem BL_cat (a b : ByteArray) : BL (a ++ ⟨#[32]⟩ ++ b) = BL a ++ ([32] ++ BL b) := by
  simp [BL, ByteArray.data_append]
theorem cat_size (a b : ByteArray) : (a ++ ⟨#[32]⟩ ++ b : ByteArray).size = a.size + 1 + b.size := by
  rw [← BL_length, BL_cat]
  simp only [List.length_append, BL_length, List.length_cons, List.length_nil]
  omega
theorem runes_32 (m : List UInt8) : runes ([32] ++ m) = 32 :: runes m := by
  have h := runes_app 1 [32] m (by simp) (by decide)
  rw [h]; rfl
theorem ext_list {x y : ByteArray} (h : BL x = BL y) : x = y := by
  cases x; cases y
  congr 1
  exact Array.toList_inj.1 h
theorem no_big {n : Nat} (h : n ≤ 20000000) : (9223372036854775807 < n) = False := by
  rw [eq_iff_iff, iff_false]
  omega
theorem word_sizes (a b : ByteArray) (h : a.size ≤ 1048576 ∧ b.size ≤ 1048576) : (⟨(wordL (BL a)).toArray⟩ : ByteArray).size ≤ 4000000 ∧ (⟨(wordL (BL b)).toArray⟩ : ByteArray).size ≤ 4000000 := by
  have h1 := wordL_length (BL a); have h2 := wordL_length (BL b)
  rw [BL_length] at h1 h2
  constructor
  · show (wordL (BL a)).toArray.size ≤ _; rw [List.size_toArray]; omega
  · show (wordL (BL b)).toArray.size ≤ _; rw [List.size_toArray]; omega
theorem cat_is (a b : ByteArray) (ha : right (runes (BL a)) = true) (hb : right (runes (BL b)) = true) :
    (runes (BL (a ++ ⟨#[32]⟩ ++ b))).length = (runes (BL a)).length + 1 + (runes (BL b)).length ∧ right (runes (BL (a ++ ⟨#[32]⟩ ++ b))) = decide ((runes (BL a)).length + 1 + (runes (BL b)).length ≤ 24) ∧
      (⟨(wordL (BL (a ++ ⟨#[32]⟩ ++ b))).toArray⟩ : ByteArray) = ⟨(wordL (BL a)).toArray⟩ ++ ⟨#[37, 50, 48]⟩ ++ ⟨(wordL (BL b)).toArray⟩ := by
  have e : runes (BL (a ++ ⟨#[32]⟩ ++ b)) = runes (BL a) ++ (32 :: runes (BL b)) := by
    rw [BL_cat, runes_app _ _ _ (Nat.le_refl _) (right_ne _ ha), runes_32]
  rw [e]
  refine ⟨by simp only [List.length_append, List.length_cons]; omega, ?_, ?_⟩
  · generalize runes (BL a) = x at ha
    generalize runes (BL b) = y at hb
    unfold right at ha hb ⊢
    rw [Bool.and_eq_true] at ha hb
    obtain ⟨ha1, ha2⟩ := ha
    obtain ⟨hb1, hb2⟩ := hb
    obtain ⟨p1, p2, p3, p4⟩ := of_decide_eq_true ha2
    obtain ⟨q1, q2, q3, q4⟩ := of_decide_eq_true hb2
    rw [List.all_append, List.all_cons, ha1, hb1, show barredN 32 = false by decide]
    simp only [Bool.not_false, Bool.true_and]
    apply decide_eq_decide.2
    have hh : (x ++ 32 :: y).head? = x.head? := by
      cases x with
      | nil => simp at p1
      | cons c r => rfl
    have hg : (x ++ 32 :: y).getLast? = y.getLast? := by
      cases y with
      | nil => simp at q1
      | cons c r => simp [List.getLast?_append, List.getLast?_cons]
    rw [hh, hg, List.length_append, List.length_cons]
    constructor
    · rintro ⟨_, h, _, _⟩; omega
    · intro h; exact ⟨by omega, by omega, p3, q4⟩
  · apply ext_list
    rw [BL_of, BL_cat, wordL_append, wordL_append]
    simp [BL, ByteArray.data_append, wordL, itselfN, hexN]

set_option maxHeartbeats 8000000 in
set_option maxRecDepth 1000000 in
theorem NamesBoth_walk (a : ByteArray) (_ha : a.size ≤ 140737488351232) (b : ByteArray) (_hb : b.size ≤ 140737488351232) (hs : a.size + 1 + (b.size + 1) ≤ 1048576) (w : World) (hT : Lib.Utf8Tabs 0 1 w) :
    Calls Tryd.prog 5 #[.string a, .string b] w fun e w' => e = .returned (.bool true) ∧ Below w.heap.size w w' := by
  clear _ha _hb
  have HT0 := Aside0.mk hT
  clear hT
  have HS := Aside0.mk (show a.size ≤ 1048576 ∧ b.size ≤ 1048576 by omega)
  clear hs
  have RA := Aside0.mk (fun W => scriniumref10_Right.calls (a.size + 30) a _ W (Right_is a (by have := HS.out; omega)))
  have RB := Aside0.mk (fun W => scriniumref10_Right.calls (b.size + 30) b _ W (Right_is b (by have := HS.out; omega)))
  have hcat := fun h1 h2 => cat_is a b h1 h2
  have HCAT := Aside0.mk hcat
  clear hcat
  have HLA := Aside0.mk (right_24 (runes (BL a)))
  have HLB := Aside0.mk (right_24 (runes (BL b)))
  have QA := Aside0.mk (fun W => Runes_calls a W (by have := HS.out; omega))
  have QB := Aside0.mk (fun W => Runes_calls b W (by have := HS.out; omega))
  have HCS := Aside0.mk (cat_size a b)
  have QC := Aside0.mk (fun W => Runes_calls (a ++ ⟨#[32]⟩ ++ b) W (by have := HS.out; rw [HCS.out]; omega))
  have GC := Aside0.mk (fun W => Right_calls (a ++ ⟨#[32]⟩ ++ b) W (by have := HS.out; rw [HCS.out]; omega))
  have WC := Aside0.mk (fun W => Word_calls (a ++ ⟨#[32]⟩ ++ b) W (by have := HS.out; rw [HCS.out]; omega))
  have WA := Aside0.mk (fun W => Word_calls a W (by have := HS.out; omega))
  have WB := Aside0.mk (fun W => Word_calls b W (by have := HS.out; omega))
  go_enter Tryd.func5, Tryd.ntmps5
  go_wp2_with fail
  have h := wakes_calls w HT0.out
  refine h.mono ?_
  clear h
  rintro e w1 ⟨rfl, hb⟩
  have HB1 := Aside0.mk (hb)
  have HT1 := Aside0.mk (tabs_below HT0.out hb)
  clear hb
  go_wp2_with fail
  have h := RA.out w1
  refine h.mono ?_
  clear h
  rintro e w2 ⟨rfl, hb⟩
  have HB2 := Aside0.mk (below_step HB1.out hb)
  have HT2 := Aside0.mk (tabs_below HT1.out hb)
  clear hb
  cases hra : right (runes (BL a)) with
  | false =>
    go_wp2_with fail
    go_ret
    exact ⟨rfl, HB2.out⟩
  | true =>
    go_wp2_with fail
    have h := RB.out w2
    refine h.mono ?_
    clear h
    rintro e w3 ⟨rfl, hb⟩
    have HB3 := Aside0.mk (below_step HB2.out hb)
    have HT3 := Aside0.mk (tabs_below HT2.out hb)
    clear hb
    cases hrb : right (runes (BL b)) with
    | false =>
      go_wp2_with fail
      go_ret
      exact ⟨rfl, HB3.out⟩
    | true =>
      obtain ⟨e1, e2, e3⟩ := HCAT.out hra hrb
      have h24 := HLA.out hra
      have h24b := HLB.out hrb
      rw [e1] at QC
      rw [e2] at GC
      rw [e3] at WC
      clear e1 e2 e3 hra hrb
      generalize (runes (BL a)).length = la at QA QC GC h24
      generalize (runes (BL b)).length = lb at QB QC GC h24b
      have HXS := Aside0.mk (word_sizes a b HS.out)
      generalize (⟨(wordL (BL a)).toArray⟩ : ByteArray) = xa at WA WC HXS
      generalize (⟨(wordL (BL b)).toArray⟩ : ByteArray) = xb at WB WC HXS
      have k1 : (9223372036854775807 < a.size + 1) = False := no_big (by have := HS.out; omega)
      have k2 : (9223372036854775807 < a.size + 1 + b.size) = False := no_big (by have := HS.out; omega)
      have hE1 : IntKind.i64.wrap ((la : Int) + 1) = (la : Int) + 1 := IntWalk.i64_in _ (by omega)
      have hE2 : IntKind.i64.wrap ((la : Int) + 1 + (lb : Int)) = (la : Int) + 1 + (lb : Int) := IntWalk.i64_in _ (by clear hE1; omega)
      go_wp2_with fail
      have h := QA.out w3
      refine h.mono ?_
      clear h
      rintro e w4 ⟨rfl, hb⟩
      have HB4 := Aside0.mk (below_step HB3.out hb)
      have HT4 := Aside0.mk (tabs_below HT3.out hb)
      clear hb
      go_wp2_with fail
      have h := QB.out w4
      refine h.mono ?_
      clear h
      rintro e w5 ⟨rfl, hb⟩
      have HB5 := Aside0.mk (below_step HB4.out hb)
      have HT5 := Aside0.mk (tabs_below HT4.out hb)
      clear hb
      go_wp2_with fail
      have h := QC.out w5
      refine h.mono ?_
      clear h
      rintro e w6 ⟨rfl, hb⟩
      have HB6 := Aside0.mk (below_step HB5.out hb)
      have HT6 := Aside0.mk (tabs_below HT5.out hb)
      clear hb
      go_wp2_with fail
      by_cases c24 : la + 1 + lb ≤ 24
      · have c24i : ((la : Int) + 1 + (lb : Int) ≤ 24) := by clear hE1 hE2; omega
        rw [decide_eq_true c24] at GC
        have k5 : (9223372036854775807 < xa.size + 3) = False := no_big (by have := HXS.out; omega)
        have k6 : (9223372036854775807 < xa.size + 3 + xb.size) = False := no_big (by have := HXS.out; omega)
        go_wp2_with fail
        have h := GC.out w6
        refine h.mono ?_
        clear h
        rintro e w7 ⟨rfl, hb⟩
        have HB7 := Aside0.mk (below_step HB6.out hb)
        have HT7 := Aside0.mk (tabs_below HT6.out hb)
        clear hb
        go_wp2_with fail
        have h := WC.out w7
        refine h.mono ?_
        clear h
        rintro e w8 ⟨rfl, hb⟩
        have HB8 := Aside0.mk (below_step HB7.out hb)
        have HT8 := Aside0.mk (tabs_below HT7.out hb)
        clear hb
        go_wp2_with fail
        have h := WA.out w8
        refine h.mono ?_
        clear h
        rintro e w9 ⟨rfl, hb⟩
        have HB9 := Aside0.mk (below_step HB8.out hb)
        have HT9 := Aside0.mk (tabs_below HT8.out hb)
        clear hb
        go_wp2_with fail
        have h := WB.out w9
        refine h.mono ?_
        clear h
        rintro e w10 ⟨rfl, hb⟩
        have HB10 := Aside0.mk (below_step HB9.out hb)
        have HT10 := Aside0.mk (tabs_below HT9.out hb)
        clear hb
        go_wp2_with fail
        go_ret
        exact ⟨by first | rfl | (simp [c24i]), HB10.out⟩
      · have c24i : ¬ ((la : Int) + 1 + (lb : Int) ≤ 24) := by clear hE1 hE2; omega
        rw [decide_eq_false c24] at GC
        have k5 : (9223372036854775807 < xa.size + 3) = False := no_big (by have := HXS.out; omega)
        have k6 : (9223372036854775807 < xa.size + 3 + xb.size) = False := no_big (by have := HXS.out; omega)
        go_wp2_with fail
        have h := GC.out w6
        refine h.mono ?_
        clear h
        rintro e w7 ⟨rfl, hb⟩
        have HB7 := Aside0.mk (below_step HB6.out hb)
        have HT7 := Aside0.mk (tabs_below HT6.out hb)
        clear hb
        go_wp2_with fail
        have h := WC.out w7
        refine h.mono ?_
        clear h
        rintro e w8 ⟨rfl, hb⟩
        have HB8 := Aside0.mk (below_step HB7.out hb)
        have HT8 := Aside0.mk (tabs_below HT7.out hb)
        clear hb
        go_wp2_with fail
        have h := WA.out w8
        refine h.mono ?_
        clear h
        rintro e w9 ⟨rfl, hb⟩
        have HB9 := Aside0.mk (below_step HB8.out hb)
        have HT9 := Aside0.mk (tabs_below HT8.out hb)
        clear hb
        go_wp2_with fail
        have h := WB.out w9
        refine h.mono ?_
        clear h
        rintro e w10 ⟨rfl, hb⟩
        have HB10 := Aside0.mk (below_step HB9.out hb)
        have HT10 := Aside0.mk (tabs_below HT9.out hb)
        clear hb
        go_wp2_with fail
        go_ret
        exact ⟨by first | rfl | (simp [c24i]), HB10.out⟩

end Go.Proofs.YtmgookmfejenjaaDoor.Nm
