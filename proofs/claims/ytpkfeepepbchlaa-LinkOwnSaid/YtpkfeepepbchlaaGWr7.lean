import Derived.Test.YtpkfeepepbchlaaGWr5
namespace Go.Proofs.Ytpkfeepepbchlaa.Sb
open Go.RowKit Go.Proofs.YtpkfeepepbchlaaW.PrintWords Go.Proofs.YtpkfeepepbchlaaW.PrintLast Go.Proofs.YtpkfeepepbchlaaW.PrintMore Go.Proofs.Ytpkfeepepbchlaa.PK
set_option linter.unusedVariables false
set_option linter.unusedSimpArgs false
def namesB : List ByteArray → List Int
  | [] => []
  | s :: l => (textB (bytesOf s)).1 ++ namesB l
theorem namesB_append (l m : List ByteArray) : namesB (l ++ m) = namesB l ++ namesB m := by
  induction l with
  | nil => rfl
  | cons s l ih => simp only [List.cons_append, namesB, ih, List.append_assoc]
theorem okN_mem {l : List ByteArray} (h : okN l = true) (s : ByteArray) (hs : s ∈ l) : s.size ≤ 64 := by
  have := List.all_eq_true.1 h s hs
  exact of_decide_eq_true this
theorem namesB_length {l : List ByteArray} (h : ∀ s, s ∈ l → s.size ≤ 64) : (namesB l).length ≤ 73 * l.length := by
  induction l with
  | nil => simp [namesB]
  | cons s l ih =>
    have h1 := textB_length (bytesOf s)
    have h2 := ih (fun x hx => h x (List.mem_cons_of_mem _ hx))
    have h3 := h s List.mem_cons_self
    rw [bytesOf_length] at h1
    simp only [namesB, List.length_append, List.length_cons]
    omega
theorem rd_names_mem (l : List ByteArray) (i : Nat) (h : i < l.length) : rdOf ByteArray.empty l (i : Int) = l[i] := by simp [rdOf, h]
theorem namesB_take (l : List ByteArray) (i : Nat) (h : i < l.length) : namesB (l.take (i + 1)) = namesB (l.take i) ++ (textB (bytesOf (rdOf ByteArray.empty l (i : Int)))).1 := by
  rw [rd_names_mem l i h, List.take_succ_eq_append_getElem h, namesB_append]
  simp [namesB]
def ansB (num code : Int) (bd : List Int) (l : List ByteArray) : List Int × Int :=
  if okR num code bd.length l then ((numB code 1).1 ++ (numB num 4).1 ++ (textB bd).1 ++ (smallB l.length).1 ++ namesB l, 0) else ([], 14)
set_option maxRecDepth 20000 in
set_option maxHeartbeats 4000000 in
theorem putN_calls (num code : Int) (A : Option Addr) (n c : Nat) (bd : List Int) (B : Option Addr) (d : Nat) (l : List ByteArray) (w : World) (hn : n ≤ 140737488355328) (hm : l.length ≤ 140737488355328) (hl : bd.length = n) (hc : n ≤ c) (hr : Bs.C w A n bd) (hB : Kd.C Kd.string w B l.length l) :
    Calls Try.prog 34 #[.iface 89 (.agg #[.int .i64 num, .int .i64 code, .slice A n c, .slice B l.length d])] w fun e w' => ∃ u, e = .returned (.tuple #[u, .int .i64 (ansB num code bd l).2]) ∧ Bs.R 5 w' w.heap.size (fun _ => True) u (ansB num code bd l).1 ∧ Below w.heap.size w w' := by
  have HR := Aside0.mk hr
  have HL := Aside0.mk hl
  have HN := Aside0.mk hB
  clear hr hl hB
  cases hK : okR num code n l with
  | false =>
    have hf := Aside0.mk (show ansB num code bd l = ([], 14) by unfold ansB; rw [HL.out, hK]; rfl)
    go_enter Try.func34, Try.ntmps34
    go_wp2_with fail
    refine (answerRight_calls num code A n c B d l _ hn hm HN.out).mono ?_
    rw [hK]
    rintro e w1 ⟨rfl, hb1⟩
    go_wp2_with fail
    go_ret2
    rw [hf.out]
    exact ⟨_, rfl, Kd.R_nil _ _ _ _ _, hb1⟩
  | true =>
    have hK2 : okN l = true ∧ (0 ≤ code ∧ code ≤ 3 ∧ 0 ≤ num ∧ num ≤ 2147483647 ∧ n ≤ 60000 ∧ l.length ≤ 1000) := by
      have h := hK
      unfold okR at h
      rw [Bool.and_eq_true] at h
      exact ⟨h.1, of_decide_eq_true h.2⟩
    have HP := Aside0.mk hK2.2
    have HM := Aside0.mk (okN_mem hK2.1)
    have hf := Aside0.mk (show ansB num code bd l = ((numB code 1).1 ++ (numB num 4).1 ++ (textB bd).1 ++ (smallB l.length).1 ++ namesB l, 0) by unfold ansB; rw [HL.out, hK]; rfl)
    have e1 : IntKind.u64.wrap code = code := u64_small (by omega) (by unfold M64; omega)
    clear hK2
    go_enter Try.func34, Try.ntmps34
    go_wp2_with fail
    refine (answerRight_calls num code A n c B d l _ hn hm HN.out).mono ?_
    rw [hK]
    rintro e w1 ⟨rfl, hb1⟩
    have HB1 := Aside0.mk hb1
    clear hb1
    go_wp2_with fail
    refine (answerFirst_calls num code A n c B l.length d _).mono ?_
    rintro e w2 ⟨rfl, hb2⟩
    have HB2 := Aside0.mk hb2
    clear hb2
    go_wp2_with fail
    have hg2 : w2.heap[w1.heap.size]? = some (.cells #[.slice none 0 0] 93 (0, 0)) := blk_below (blk_new _ _) HB2.out
    have hs1 := HB1.out.size
    refine (Num_calls w.heap.size w1.heap.size (.slice none 0 0) [] code 1 w2 ?x0 ?xm hg2 (Kd.R_nil _ _ _ _ _) hs1 ?xl).mono ?_
    case x0 => have := HP.out; omega
    case xm => have := HP.out; unfold M64; omega
    case xl => simp
    clear e1
    rintro e w3 ⟨rfl, v3, h3⟩
    have hs3 := h3.keep.1
    have hs2 : w1.heap.size + 1 ≤ w2.heap.size := by have := HB2.out.size; simpa using this
    rw [List.nil_append] at h3
    have hq1 := numB_length code 1
    have hq2 := numB_length num 4
    generalize (numB code 1).1 = q1 at h3 hq1 hf
    have H3 := Aside0.mk h3
    clear h3 hg2
    have e2 : IntKind.u64.wrap num = num := u64_small (by have := HP.out; omega) (by have := HP.out; unfold M64; omega)
    obtain ⟨z, hz⟩ := ta_not (.agg #[.int .i64 num, .int .i64 code, .slice A n c, .slice B l.length d]) 91 w3
    go_wp2_with fail
    rw [ta_answer]
    go_wp2_with fail
    clear e2 hz
    generalize hW3 : w3.alloc (Obj.cells #[.int .i64 num, .int .i64 code, .slice A n c, .slice B l.length d] 89) = W3
    have hb3 : Below w3.heap.size w3 W3 := by rw [← hW3]; exact below_alloc (Below.refl _ _) _
    have hP3 : W3.heap[w3.heap.size]? = some (.cells #[.int .i64 num, .int .i64 code, .slice A n c, .slice B l.length d] 89 (0, 0)) := by rw [← hW3]; exact blk_new _ _
    have hS3 : W3.heap.size = w3.heap.size + 1 := by rw [← hW3]; simp
    have hv3 : some w3.heap.size ≠ v3.ownBlock := fun e => by have := (Kd.R_bound H3.out.row).1 _ e.symm; have := this.2.2.1; omega
    clear hW3
    refine (Num_calls w.heap.size w1.heap.size v3 q1 num 4 W3 ?x0 ?xm (blk_below H3.out.blk hb3) (Kd.R_below H3.out.row hb3) hs1 ?xl).mono ?_
    case x0 => have := HP.out; omega
    case xm => have := HP.out; unfold M64; omega
    case xl => omega
    rintro e w4 ⟨rfl, v4, h4⟩
    generalize (numB num 4).1 = q2 at h4 hq2 hf
    have hs4 := h4.keep.1
    have hP4 := h4.keep.blk hP3 (by omega) hv3
    have hv4 : some w3.heap.size ≠ v4.ownBlock := by
      rcases h4.at_ with e | ⟨b, e, hb⟩
      · rw [e]; exact hv3
      · rw [e]; intro e'; injection e' with e'; omega
    have p2 : w4.cell? ⟨w3.heap.size, 2, none⟩ = some (.slice A n c) := (blk_cell hP4 2).trans rfl
    have HB3 := Aside0.mk hb3; have H4 := Aside0.mk h4; have HP4 := Aside0.mk hP4; have HV4 := Aside0.mk hv4
    clear hb3 h4 hP4 hv4 hP3 hv3
    have hbo : Below w.heap.size w w4 := by
      have a1 : Below w.heap.size w w2 := (HB1.out.alloc hs1 _).trans (HB2.out.mono (by simp; omega))
      have a3 : Below w.heap.size w W3 := (a1.trans H3.out.below).trans (HB3.out.mono (by omega))
      exact a3.trans H4.out.below
    have HBO := Aside0.mk hbo
    clear hbo
    go_wp2_with fail
    refine (Text_calls w.heap.size w1.heap.size v4 (q1 ++ q2) A n c bd w4 H4.out.blk H4.out.row hs1 (foot_old HR.out HBO.out hs1 (Nat.le_refl _) H4.out.row) HL.out hc ?xl).mono ?_
    case xl => have := HP.out; rw [List.length_append]; omega
    rintro e w5 ⟨rfl, v5, h5⟩
    have hq3 := textB_length bd
    rw [HL.out] at hq3
    generalize (textB bd).1 = q3 at h5 hq3 hf
    have hs5 := h5.keep.1
    have hP5 := h5.keep.blk HP4.out (by omega) HV4.out
    have hv5 : some w3.heap.size ≠ v5.ownBlock := by
      rcases h5.at_ with e | ⟨b, e, hb⟩
      · rw [e]; exact HV4.out
      · rw [e]; intro e'; injection e' with e'; have := blk_lt HP4.out; omega
    have p3 : w5.cell? ⟨w3.heap.size, 3, none⟩ = some (.slice B l.length d) := (blk_cell hP5 3).trans rfl
    have H5 := Aside0.mk h5; have HP5 := Aside0.mk hP5; have HV5 := Aside0.mk hv5
    clear h5 hP5 p2 hv5
    have e3 : IntKind.u64.wrap (l.length : Int) = (l.length : Int) := u64_small (by omega) (by have := HP.out; unfold M64; omega)
    go_wp2_with fail
    clear e3
    refine (Small_calls w.heap.size w1.heap.size v5 (q1 ++ q2 ++ q3) (l.length : Int) w5 (by omega) (by unfold M64; omega) H5.out.blk H5.out.row hs1 ?xl).mono ?_
    case xl => have := HP.out; simp only [List.length_append]; omega
    rintro e w6 ⟨rfl, v6, h6⟩
    have hq4 := smallB_length (l.length : Int)
    generalize (smallB (l.length : Int)).1 = q4 at h6 hq4 hf
    have hs6 := h6.keep.1
    have hP6 := h6.keep.blk HP5.out (by omega) HV5.out
    have p4 : w6.cell? ⟨w3.heap.size, 3, none⟩ = some (.slice B l.length d) := (blk_cell hP6 3).trans rfl
    have HB6 := Aside0.mk ((HBO.out.trans H5.out.below).trans h6.below)
    have HG6 := Aside0.mk h6.blk; have HR6 := Aside0.mk h6.row
    clear h6 hP6 p3
    have hq : (q1 ++ q2 ++ q3 ++ q4).length ≤ 70000 := by have := HP.out; simp only [List.length_append]; omega
    have hf2 := Aside0.mk (show ansB num code bd l = ((q1 ++ q2 ++ q3 ++ q4) ++ namesB l, 0) from hf.out)
    generalize q1 ++ q2 ++ q3 ++ q4 = pre at hq hf2 HR6
    clear HP5 HV5 H5 HP4 HV4 H4 H3 hf hq1 hq2 hq3 hq4
    go_wp2_with fail
    go_loopg [56] l.length (fun kq v56 w' => ∃ (i : Nat) (v : Value), v56 = .int .i64 i ∧ i ≤ l.length ∧ Aside0 (kq + i = l.length) ∧ Aside0 (w'.heap[w1.heap.size]? = some (.cells #[v] 93 (0, 0))) ∧ Aside0 (Bs.R 5 w' w.heap.size (fun _ => True) v (pre ++ namesB (l.take i))) ∧ Aside0 (Below w.heap.size w w'))
    case atStart => exact ⟨0, v6, rfl, Nat.zero_le _, ⟨rfl⟩, HG6, ⟨by rw [List.take_zero]; show Bs.R _ _ _ _ _ (pre ++ []); rw [List.append_nil]; exact HR6.out⟩, HB6⟩
    case round =>
      clear HG6 HR6 HB6 p4
      obtain ⟨i, v, rfl, hi, HK, HG, HV, HB⟩ := hrel
      by_cases hlt : i < l.length
      · have hci : (i : Int) < (l.length : Int) := by omega
        obtain ⟨ad, e9, hx0⟩ := Kd.at_string HN.out i (Int.natCast_nonneg _) hci
        cases e9
        rw [Int.toNat_natCast] at hx0
        replace hx0 := (HB.out.cell (World.block_lt_of_cell? w _ hx0)).trans hx0
        have HT := Aside0.mk (namesB_take l i hlt)
        have hsz : (rdOf ByteArray.empty l (i : Int)).size ≤ 64 := HM.out _ (by rw [rd_names_mem l i hlt]; exact List.getElem_mem hlt)
        have hpl : (namesB (l.take i)).length ≤ 73 * i := by
          have := namesB_length (l := l.take i) (fun s hs => HM.out s (List.mem_of_mem_take hs))
          rw [List.length_take] at this
          omega
        have HPL := Aside0.mk hpl
        clear hpl
        generalize rdOf ByteArray.empty l (i : Int) = s at hx0 HT hsz
        have kb := fun W => print_bytes (P := Try.prog) 9 28 5 Try.underlying9 Try.underlying28 Try.underlying5 s W
        go_wp2_with fail
        have hlg : w1.heap.size < wr.heap.size := blk_lt HG.out
        have hbw : Below wr.heap.size wr (Lib.bytesWorld wr 5 s) := bytes_below (Below.refl _ _) (Nat.le_refl _) _ _
        have hzw : (Lib.bytesWorld wr 5 s).heap.size = wr.heap.size + 1 := Lib.bytesWorld_size _ _ _
        have hsz9 : s.size ≤ 9223372036854775807 := by omega
        have hfb := foot_bytes wr 5 s hsz9 (g := w1.heap.size) hlg HV.out
        refine (Text_calls w.heap.size w1.heap.size v (pre ++ namesB (l.take i)) (some ⟨wr.heap.size, 0, none⟩) s.size _ (bytesOf s) (Lib.bytesWorld wr 5 s) (blk_below HG.out hbw) (Kd.R_below HV.out hbw) hs1 hfb (bytesOf_length s) ?xc ?xl).mono ?_
        case xc => exact grownCap_ge _ _ _ _
        case xl => have := HP.out; have := HPL.out; rw [List.length_append]; omega
        rintro e w7 ⟨rfl, v7, h7⟩
        clear hsz9
        have HBW := Aside0.mk hbw
        have H7 := Aside0.mk h7
        clear hbw h7 hfb hx0
        go_wp2_with fail
        go_roundg (gk - 1)
        case measure => have := HK.out; omega
        case rel => exact ⟨i + 1, v7, by simp, by omega, ⟨by have := HK.out; omega⟩, ⟨H7.out.blk⟩, ⟨by rw [HT.out, ← List.append_assoc]; exact H7.out.row⟩, ⟨(HB.out.trans (HBW.out.mono HB.out.size)).trans H7.out.below⟩⟩
      · have hci : ¬ (i : Int) < (l.length : Int) := by omega
        have hV := HV.out
        rw [List.take_of_length_le (by omega)] at hV
        have HV := Aside0.mk hV
        clear hV
        go_wp2_with fail
        refine (Out_calls w.heap.size w1.heap.size v (pre ++ namesB l) wr HG.out HV.out ?xl).mono ?_
        case xl => have := HP.out; have := namesB_length HM.out; simp only [List.length_append]; omega
        rintro e w7 ⟨u, rfl, hu, hb7⟩
        have HU := Aside0.mk hu; have HB7 := Aside0.mk hb7
        clear hu hb7
        go_wp2_with fail
        go_ret2
        rw [hf2.out]
        exact ⟨u, rfl, Kd.R_lower HU.out HB.out.size, HB.out.trans (HB7.out.mono HB.out.size)⟩
set_option maxRecDepth 20000 in
set_option maxHeartbeats 2000000 in
theorem PutAnswer_calls (num code : Int) (A : Option Addr) (n c : Nat) (bd : List Int) (B : Option Addr) (d : Nat) (l : List ByteArray) (w : World) (hn : n ≤ 140737488355328) (hm : l.length ≤ 140737488355328) (hl : bd.length = n) (hc : n ≤ c) (hr : Bs.C w A n bd) (hB : Kd.C Kd.string w B l.length l) :
    Calls Try.prog 37 #[.agg #[.int .i64 num, .int .i64 code, .slice A n c, .slice B l.length d]] w fun e w' => ∃ u, e = .returned (.tuple #[u, .int .i64 (ansB num code bd l).2]) ∧ Bs.R 5 w' w.heap.size (fun _ => True) u (ansB num code bd l).1 ∧ Below w.heap.size w w' := by
  have HR := Aside0.mk hr
  have HN := Aside0.mk hB
  clear hr hB
  go_enter Try.func37, Try.ntmps37
  go_wp2_with fail
  refine (putN_calls num code A n c bd B d l _ hn hm hl hc (Kd.C_alloc HR.out _) (Kd.C_alloc HN.out _)).mono ?_
  rintro e w1 ⟨u, rfl, hu, hb⟩
  have HU := Aside0.mk hu
  have HB := Aside0.mk hb
  clear hu hb
  go_wp2_with fail
  go_ret2
  exact ⟨u, rfl, Kd.R_lower HU.out (by simp), below_step (below_alloc (Below.refl _ _) _) HB.out⟩
end Go.Proofs.Ytpkfeepepbchlaa.Sb
