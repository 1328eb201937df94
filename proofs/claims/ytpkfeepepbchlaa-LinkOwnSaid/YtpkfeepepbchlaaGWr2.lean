import Derived.Test.YtpkfeepepbchlaaGWr1
namespace Go.Proofs.Ytpkfeepepbchlaa.Sb
open Go.RowKit Go.Proofs.YtpkfeepepbchlaaW.PrintWords Go.Proofs.YtpkfeepepbchlaaW.PrintLast Go.Proofs.YtpkfeepepbchlaaW.PrintMore Go.Proofs.Ytpkfeepepbchlaa.PK
set_option linter.unusedVariables false
set_option linter.unusedSimpArgs false
def askB (kind num : Int) (name : ByteArray) (bd : List Int) : List Int × Int :=
  if okA kind num name.size bd.length then ((numB kind 1).1 ++ (numB num 4).1 ++ (textB (bytesOf name)).1 ++ (textB bd).1, 0) else ([], 14)
theorem ta_ask (v : Value) (xT : TypeId) (w : World) : (Instr.typeAssert (.iface 75 v) xT 75 true).run Try.prog w = .ok (.tuple #[v, .bool true]) w := by
  simp [Instr.typeAssert, run_underlying Try.underlying75]
theorem ta_answer (v : Value) (xT : TypeId) (w : World) : (Instr.typeAssert (.iface 89 v) xT 89 true).run Try.prog w = .ok (.tuple #[v, .bool true]) w := by
  simp [Instr.typeAssert, run_underlying Try.underlying89]
theorem ta_not (v : Value) (xT : TypeId) (w : World) : ∃ z, (Instr.typeAssert (.iface 89 v) xT 75 true).run Try.prog w = .ok (.tuple #[z, .bool false]) w := by
  have h0 : ((Try.prog.info? 75).bind (·.zero)).isSome = true := by kernel_rfl
  obtain ⟨z, hz⟩ := Option.isSome_iff_exists.1 h0
  obtain ⟨j, hj, hz'⟩ := Option.bind_eq_some_iff.1 hz
  exact ⟨z, by simp [Instr.typeAssert, run_underlying Try.underlying75, typeInfo, zeroValue, hj, hz']⟩
theorem foot_bytes (W : World) (e : TypeId) (s : ByteArray) (hs : s.size ≤ 9223372036854775807) {g base e' : Nat} {v : Value} {bs : List Int} (hg : g < W.heap.size) (hv : Bs.R e' W base (fun _ => True) v bs) :
    ∀ W', KeepBut (Lib.bytesWorld W e s) W' g v.ownBlock → Bs.C W' (some ⟨W.heap.size, 0, none⟩) s.size (bytesOf s) := fun W' hk => by
  have hb := hk.2 W.heap.size (by rw [Lib.bytesWorld_size]; omega) (by omega) (fun e => by
    have := (Kd.R_bound hv).1 _ e.symm
    have h2 := this.2.2
    omega)
  refine Kd.C_of_reads (enc := Value.int .u8) (d := (0 : Int)) (h1 := fun _ => rfl) ⟨bytesOf_length s, hs, fun _ => ⟨_, rfl, fun j hj => ?_⟩⟩
  rw [add_plain, World.cell?_of_block (a := ⟨W.heap.size, j, none⟩) hb, Lib.bytesWorld_cell W e s j hj]
  have h' : j < s.data.toList.length := by rw [data_length]; exact hj
  simp [bytesOf, List.getD_eq_getElem?_getD, List.getElem?_eq_getElem h']
set_option maxRecDepth 20000 in
set_option maxHeartbeats 2000000 in
theorem putA_calls (kind num : Int) (name : ByteArray) (A : Option Addr) (n c : Nat) (bd : List Int) (w : World) (hn : True) (hm : True) (hl : bd.length = n) (hc : n ≤ c) (hr : Bs.C w A n bd) :
    Calls Try.prog 34 #[.iface 75 (.agg #[.int .i64 kind, .int .i64 num, .string name, .slice A n c])] w fun e w' => ∃ u, e = .returned (.tuple #[u, .int .i64 (askB kind num name bd).2]) ∧ Bs.R 5 w' w.heap.size (fun _ => True) u (askB kind num name bd).1 ∧ Below w.heap.size w w' := by
  have HR := Aside0.mk hr
  have HL := Aside0.mk hl
  clear hr hl
  cases hK : okA kind num name.size n with
  | false =>
    have hf := Aside0.mk (show askB kind num name bd = ([], 14) by unfold askB; rw [HL.out, hK]; rfl)
    go_enter Try.func34, Try.ntmps34
    go_wp2_with fail
    refine (askRight_calls kind num name A n c _ hn hm).mono ?_
    rintro e w1 ⟨rfl, hb1⟩
    go_wp2_with fail
    go_ret2
    rw [hf.out]
    exact ⟨_, rfl, Kd.R_nil _ _ _ _ _, hb1⟩
  | true =>
    have hp : 1 ≤ kind ∧ kind ≤ 4 ∧ 0 ≤ num ∧ num ≤ 2147483647 ∧ n ≤ 60000 ∧ name.size ≤ 64 ∧ (kind = 1 ∨ n = 0) := of_decide_eq_true hK
    have HP := Aside0.mk hp
    have hf := Aside0.mk (show askB kind num name bd = ((numB kind 1).1 ++ (numB num 4).1 ++ (textB (bytesOf name)).1 ++ (textB bd).1, 0) by unfold askB; rw [HL.out, hK]; rfl)
    have e1 : IntKind.u64.wrap kind = kind := u64_small (by omega) (by unfold M64; omega)
    clear hp
    go_enter Try.func34, Try.ntmps34
    go_wp2_with fail
    refine (askRight_calls kind num name A n c _ hn hm).mono ?_
    rintro e w1 ⟨rfl, hb1⟩
    have HB1 := Aside0.mk hb1
    clear hb1
    go_wp2_with fail
    refine (askFirst_calls kind num name A n c _).mono ?_
    rintro e w2 ⟨rfl, hb2⟩
    have HB2 := Aside0.mk hb2
    clear hb2
    go_wp2_with fail
    have hg2 : w2.heap[w1.heap.size]? = some (.cells #[.slice none 0 0] 93 (0, 0)) := blk_below (blk_new _ _) HB2.out
    have hs1 := HB1.out.size
    refine (Num_calls w.heap.size w1.heap.size (.slice none 0 0) [] kind 1 w2 ?x0 ?xm hg2 (Kd.R_nil _ _ _ _ _) hs1 ?xl).mono ?_
    case x0 => have := HP.out; omega
    case xm => have := HP.out; unfold M64; omega
    case xl => simp
    clear e1
    rintro e w3 ⟨rfl, v3, h3⟩
    have hs3 := h3.keep.1
    have hs2 : w1.heap.size + 1 ≤ w2.heap.size := by have := HB2.out.size; simpa using this
    rw [List.nil_append] at h3
    have hq1 := numB_length kind 1
    have hq2 := numB_length num 4
    have hq3 := textB_length (bytesOf name)
    rw [bytesOf_length] at hq3
    generalize (numB kind 1).1 = q1 at h3 hq1 hf
    have H3 := Aside0.mk h3
    clear h3 hg2
    have e2 : IntKind.u64.wrap num = num := u64_small (by have := HP.out; omega) (by have := HP.out; unfold M64; omega)
    have kb := fun W => print_bytes (P := Try.prog) 9 28 5 Try.underlying9 Try.underlying28 Try.underlying5 name W
    go_wp2_with fail
    rw [ta_ask]
    go_wp2_with fail
    clear e2
    generalize hW3 : w3.alloc (Obj.cells #[.int .i64 kind, .int .i64 num, .string name, .slice A n c] 75) = W3
    have hb3 : Below w3.heap.size w3 W3 := by rw [← hW3]; exact below_alloc (Below.refl _ _) _
    have hP3 : W3.heap[w3.heap.size]? = some (.cells #[.int .i64 kind, .int .i64 num, .string name, .slice A n c] 75 (0, 0)) := by rw [← hW3]; exact blk_new _ _
    have hS3 : W3.heap.size = w3.heap.size + 1 := by rw [← hW3]; simp
    have hv3 : some w3.heap.size ≠ v3.ownBlock := fun e => by have := (Kd.R_bound H3.out.row).1 _ e.symm; have := this.2.2.1; omega
    clear hW3
    refine (Num_calls w.heap.size w1.heap.size v3 q1 num 4 W3 ?x0 ?xm (blk_below H3.out.blk hb3) (Kd.R_below H3.out.row hb3) hs1 ?xl).mono ?_
    case x0 => have := HP.out; omega
    case xm => have := HP.out; unfold M64; omega
    case xl => omega
    rintro e w4 ⟨rfl, v4, h4⟩
    generalize (numB num 4).1 = q2 at h4 hq2 hf
    have hs4 := h4.keep.1
    have hP4 := h4.keep.blk hP3 (by omega) hv3
    have hv4 : some w3.heap.size ≠ v4.ownBlock := by
      rcases h4.at_ with e | ⟨b, e, hb⟩
      · rw [e]; exact hv3
      · rw [e]; intro e'; injection e' with e'; omega
    have p2 : w4.cell? ⟨w3.heap.size, 2, none⟩ = some (.string name) := (blk_cell hP4 2).trans rfl
    have HB3 := Aside0.mk hb3; have H4 := Aside0.mk h4; have HP4 := Aside0.mk hP4; have HV4 := Aside0.mk hv4
    clear hb3 h4 hP4 hv4 hP3 hv3
    go_wp2_with fail
    have hbw : Below w4.heap.size w4 (Lib.bytesWorld w4 5 name) := bytes_below (Below.refl _ _) (Nat.le_refl _) _ _
    have hzw : (Lib.bytesWorld w4 5 name).heap.size = w4.heap.size + 1 := Lib.bytesWorld_size _ _ _
    have hfb := foot_bytes w4 5 name (by have := HP.out; omega) (g := w1.heap.size) (by omega) H4.out.row
    have hP5 := blk_below HP4.out hbw
    refine (Text_calls w.heap.size w1.heap.size v4 (q1 ++ q2) (some ⟨w4.heap.size, 0, none⟩) name.size _ (bytesOf name) (Lib.bytesWorld w4 5 name) (blk_below H4.out.blk hbw) (Kd.R_below H4.out.row hbw) hs1 hfb (bytesOf_length name) ?xc ?xl).mono ?_
    case xc => exact grownCap_ge _ _ _ _
    case xl => have := HP.out; rw [List.length_append]; omega
    rintro e w5 ⟨rfl, v5, h5⟩
    generalize (textB (bytesOf name)).1 = q3 at h5 hq3 hf
    have hs5 := h5.keep.1
    have hP6 := h5.keep.blk hP5 (by omega) HV4.out
    have p3 : w5.cell? ⟨w3.heap.size, 3, none⟩ = some (.slice A n c) := (blk_cell hP6 3).trans rfl
    have HBW := Aside0.mk hbw; have H5 := Aside0.mk h5
    clear hbw h5 hP5 hP6 hfb p2
    go_wp2_with fail
    have hbo : Below w.heap.size w w5 := by
      have a1 : Below w.heap.size w w2 := (HB1.out.alloc hs1 _).trans (HB2.out.mono (by simp; omega))
      have a3 : Below w.heap.size w W3 := (a1.trans H3.out.below).trans (HB3.out.mono (by omega))
      exact ((a3.trans H4.out.below).trans (HBW.out.mono (by omega))).trans H5.out.below
    have HBO := Aside0.mk hbo
    clear hbo
    refine (Text_calls w.heap.size w1.heap.size v5 (q1 ++ q2 ++ q3) A n c bd w5 H5.out.blk H5.out.row hs1 (foot_old HR.out HBO.out hs1 (Nat.le_refl _) H5.out.row) HL.out hc ?xl).mono ?_
    case xl => have := HP.out; rw [List.length_append, List.length_append]; omega
    rintro e w6 ⟨rfl, v6, h6⟩
    have hq4 := textB_length bd
    rw [HL.out] at hq4
    generalize (textB bd).1 = q4 at h6 hq4 hf
    have hs6 := h6.keep.1
    have H6 := Aside0.mk h6
    clear h6 p3
    go_wp2_with fail
    refine (Out_calls w.heap.size w1.heap.size v6 (q1 ++ q2 ++ q3 ++ q4) w6 H6.out.blk H6.out.row ?xl).mono ?_
    case xl => have := HP.out; simp only [List.length_append]; omega
    rintro e w7 ⟨u, rfl, hu, hb7⟩
    have HU := Aside0.mk hu; have HB7 := Aside0.mk hb7
    clear hu hb7
    go_wp2_with fail
    go_ret2
    rw [hf.out]
    refine ⟨u, rfl, Kd.R_lower HU.out (by omega), (HBO.out.trans H6.out.below).trans (HB7.out.mono (by omega))⟩
end Go.Proofs.Ytpkfeepepbchlaa.Sb
