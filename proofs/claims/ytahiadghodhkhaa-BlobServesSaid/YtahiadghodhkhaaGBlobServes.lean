import Derived.Test.YtahiadghodhkhaaGSv2
import Derived.Test.YtahiadghodhkhaaGOpenQ
import Derived.Test.YtahiadghodhkhaaGBlobQuota
namespace Go.Proofs.Ytahiadghodhkhaa.Bl
open Go.RowKit Go.Maps Go.Proofs.YtahiadghodhkhaaW.PrintWords Go.Proofs.YtahiadghodhkhaaW.PrintLast Go.Proofs.YtahiadghodhkhaaW.PrintMore Go.Proofs.Ytahiadghodhkhaa.PB
set_option linter.unusedVariables false
set_option linter.unusedSimpArgs false
theorem okR_of {num code : Int} {bl : Nat} {ns : List ByteArray} (hn : ∀ s ∈ ns, s.size ≤ 64) (h : 0 ≤ code ∧ code ≤ 3 ∧ 0 ≤ num ∧ num ≤ 2147483647 ∧ bl ≤ 60000 ∧ ns.length ≤ 1000) : Sb.okR num code bl ns = true := by
  unfold Sb.okR Sb.okN
  rw [Bool.and_eq_true, List.all_eq_true]
  exact ⟨fun s hs => decide_eq_true (hn s hs), decide_eq_true h⟩
theorem DoR.right {q : Int} {L L' : List Ent} {kind num nm code : Int} {k : ByteArray} {t bd : List Int} {ns : List ByteArray} (h : DoR q L kind num k t L' nm code bd ns) (hsm : ∀ y ∈ L, y.1.size ≤ 64 ∧ y.2.2.length ≤ 65536) (hE : ∀ y ∈ L, y.2.2.length ≤ 60000 ∧ Sb.Bytes y.2.2) : Sb.okR nm code bd.length ns = true ∧ Sb.Bytes bd := by
  have hs := (h.small hsm).2
  rcases h with ⟨_, _, rfl, rfl, rfl, rfl⟩ | ⟨hK, rfl, hcs⟩
  · refine ⟨okR_of (by simp) ⟨by omega, by omega, ?_, ?_, by simp, by simp⟩, Sb.Bytes.nil⟩
    · unfold fnum; split <;> (try split) <;> omega
    · unfold fnum; split <;> (try split) <;> omega
  · obtain ⟨_, _, p3, p4, p5, p6, _⟩ := okA_parts hK
    rcases hcs with ⟨_, rfl, rfl, ⟨_, rfl, _⟩ | ⟨_, rfl, _⟩⟩ | ⟨_, _, rfl, rfl, rfl⟩ | ⟨_, _, rfl, rfl, rfl⟩ | ⟨_, _, rfl, rfl, rfl⟩
    · exact ⟨okR_of (by simp) ⟨by omega, by omega, p3, p4, by simp, by simp⟩, Sb.Bytes.nil⟩
    · exact ⟨okR_of (by simp) ⟨by omega, by omega, p3, p4, by simp, by simp⟩, Sb.Bytes.nil⟩
    · cases hf : findE k L with
      | none => exact ⟨okR_of (by simp) ⟨by simp, by simp, p3, p4, by simp, by simp⟩, Sb.Bytes.nil⟩
      | some y =>
        have := hE y (find_mem hf).1
        exact ⟨okR_of (by simp) ⟨by simp, by simp, p3, p4, by simpa using this.1, by simp⟩, by simpa using this.2⟩
    · refine ⟨okR_of ?_ ⟨by omega, by omega, p3, p4, by simp, hs⟩, Sb.Bytes.nil⟩
      intro s hms
      unfold nmsE at hms
      have h1 := List.mem_of_mem_take hms
      obtain ⟨y, hy, rfl⟩ := List.mem_map.1 (List.mem_filter.1 h1).1
      exact (hsm y hy).1
    · refine ⟨okR_of (by simp) ⟨?_, ?_, p3, p4, by simp, by simp⟩, Sb.Bytes.nil⟩ <;> (split <;> omega)
theorem DoR.ents {q : Int} {L L' : List Ent} {kind num nm code : Int} {k : ByteArray} {t bd : List Int} {ns : List ByteArray} (h : DoR q L kind num k t L' nm code bd ns) (ht : Sb.Bytes t) (hE : ∀ y ∈ L, y.2.2.length ≤ 60000 ∧ Sb.Bytes y.2.2) : ∀ y ∈ L', y.2.2.length ≤ 60000 ∧ Sb.Bytes y.2.2 := by
  rcases h with ⟨_, rfl, _⟩ | ⟨hK, _, ⟨_, _, _, ⟨_, _, rfl⟩ | ⟨_, _, A, c, rfl⟩⟩ | ⟨_, rfl, _⟩ | ⟨_, rfl, _⟩ | ⟨_, rfl, _⟩⟩
  · exact hE
  · exact hE
  · obtain ⟨_, _, _, _, p5, _, _⟩ := okA_parts hK
    intro y hy
    rcases (mem_ins _ y _).1 hy with rfl | hy
    · exact ⟨p5, ht⟩
    · exact hE y ((mem_off k y L).1 hy).1
  · exact hE
  · exact hE
  · intro y hy
    exact hE y ((mem_off k y L).1 hy).1
theorem SvR.right {q : Int} {L L' : List Ent} {s out : List Int} (h : SvR q L s L' out) (hsm : ∀ y ∈ L, y.1.size ≤ 64 ∧ y.2.2.length ≤ 65536) (hE : ∀ y ∈ L, y.2.2.length ≤ 60000 ∧ Sb.Bytes y.2.2) : out.length ≤ 190000 ∧ Sb.Bytes out ∧ (Sb.getN out).2.2.2.2 = 0 := by
  have key : ∀ {nm code : Int} {bd : List Int} {ns : List ByteArray}, Sb.okR nm code bd.length ns = true → Sb.Bytes bd → ((Sb.ansB nm code bd ns).1.length ≤ 190000 ∧ Sb.Bytes (Sb.ansB nm code bd ns).1 ∧ (Sb.getN (Sb.ansB nm code bd ns).1).2.2.2.2 = 0) := by
    intro nm code bd ns h1 h2
    obtain ⟨z, h3, _, h4, h5, h6⟩ := Sb.ansB_ok h1 h2
    rw [h3]
    exact ⟨h4, h5, by rw [h6]⟩
  rcases h with ⟨_, _, rfl⟩ | ⟨_, nm, code, bd, ns, hD, rfl⟩
  · exact key (by decide +kernel) Sb.Bytes.nil
  · obtain ⟨h1, h2⟩ := hD.right hsm hE
    exact key h1 h2
theorem SvR.len {q : Int} {L L' : List Ent} {s out : List Int} (h : SvR q L s L' out) : L'.length ≤ L.length + 1 := by
  rcases h with ⟨_, rfl, _⟩ | ⟨_, nm, code, bd, ns, hD, _⟩
  · omega
  · exact hD.len
set_option maxRecDepth 20000 in
set_option maxHeartbeats 8000000 in
theorem BlobServes_walk (A : Option Addr) (cap : Nat) (l : List S29) (Aa : Option Addr) (capa : Nat) (s : List Int) (w : World) (hc : l.length ≤ cap) (hC : Kd.C k29 w A l.length l) (hwf : ∀ z ∈ l, AskWf z) (hca : s.length ≤ capa) (hA : Bs.C w Aa s.length s) (hsb : Sb.Bytes s) :
    Calls Try.prog 7 #[.slice A l.length cap, .slice Aa s.length capa] w fun e w' => e = .returned (.bool true) ∧ Below w.heap.size w w' := by
  have HC2 := Aside0.mk hC
  have HA2 := Aside0.mk hA
  have HSB := Aside0.mk hsb
  clear hC hA hsb
  obtain ⟨lr, hlr, hlr2⟩ := long_is l
  go_enter Try.func7, Try.ntmps7
  go_wp2_with fail
  refine (wakes_calls w).mono ?_
  rintro e w1 ⟨rfl, hb1⟩
  have B1 := Aside0.mk hb1
  clear hb1
  go_wp2_with fail
  refine (scriniumlaw19_long.calls 100 A cap l lr w1 (Kd.C_below HC2.out B1.out) hc hlr).mono ?_
  rintro e w2 ⟨rfl, hd2⟩
  have B2 := Aside0.mk (B1.out.trans (Drawn0.below hd2 |>.mono B1.out.size))
  clear hd2 hlr
  cases lr with
  | true =>
    go_wp2_with fail
    go_ret
    exact ⟨rfl, B2.out⟩
  | false =>
    have hl60 := hlr2 rfl
    clear hlr2
    by_cases hs1 : (1000 : Int) < (s.length : Int)
    · go_wp2_with fail
      go_ret
      exact ⟨rfl, B2.out⟩
    · have HS1 := Aside0.mk (show s.length ≤ 1000 by omega)
      go_wp2_with fail
      clear hs1
      refine (New_calls 1000 w2).mono ?_
      rintro e w3 ⟨g, b, rfl, hB, hg, hbb, hb3⟩
      rw [if_neg (by omega)] at hB
      have B3 := Aside0.mk (B2.out.trans (hb3.mono B2.out.size))
      have HB3 := Aside0.mk hB
      have hbw : w.heap.size ≤ b := Nat.le_trans B2.out.size hbb
      have hb3l := hB.lt.2
      clear hB hb3 hg hbb
      go_wp2_with fail
      refine (RNew_calls 1000 w3).mono ?_
      rintro e w4 ⟨x, rfl, hx, ⟨Ax, cx, hxb⟩, hb4⟩
      rw [if_neg (by omega)] at hxb
      have B5 := Aside0.mk (B3.out.trans (hb4.mono B3.out.size))
      have HB5 := Aside0.mk (Bl.kept HB3.out hb4)
      have hx4l := blk_lt hxb
      have hb4s := hb4.size
      have hS : ∀ s ∈ [b, x], s < w4.heap.size := by
        intro s hs
        simp only [List.mem_cons, List.not_mem_nil, or_false] at hs
        rcases hs with rfl | rfl <;> omega
      have RX5 := Aside0.mk (Rf.start (S := [b, x]) hxb (by simp) hS)
      have h3w := B3.out.size
      have hxw : w.heap.size ≤ x := by omega
      have hxbn : x ≠ b := by omega
      clear hxb hb4 hS HB3 B3 h3w hb3l hx4l hb4s hx
      have hxb := hxbn
      clear hxbn
      go_wp2_with fail
      go_loopg [25] l.length (fun kq v25 w' => ∃ (i : Nat) (L : List Ent), v25 = .int .i64 i ∧ i ≤ l.length ∧ L.length ≤ i ∧ Aside0 (kq + i = l.length) ∧ Aside0 (∀ y ∈ L, y.2.2.length ≤ 60000 ∧ Sb.Bytes y.2.2) ∧ Aside0 (Bl w' g b 1000 L) ∧ Aside0 (Rf [b, x] w' x 1000 L) ∧ Aside0 (Below w.heap.size w w'))
      case atStart => exact ⟨0, [], rfl, Nat.zero_le _, Nat.le_refl _, ⟨rfl⟩, ⟨fun y hy => absurd hy List.not_mem_nil⟩, HB5, RX5, B5⟩
      case round =>
        obtain ⟨i, L, rfl, hi, hLi, HK, HE, HBL, HRX, HB⟩ := hrel
        clear HB5 RX5 B5
        by_cases hlt : i < l.length
        · have hci : (i : Int) < (l.length : Int) := by omega
          have HWA := Aside0.mk (hwf (rd_T29 l i) (by
            unfold rd_T29
            rw [Int.toNat_natCast, List.getD_eq_getElem?_getD, List.getElem?_eq_getElem hlt]
            exact List.getElem_mem hlt)).2.2.2.2
          obtain ⟨ad, A9, c9, e9, hw0, hw1, hw2, hw3, hl9, hi9⟩ := at_T29 HC2.out i (Int.natCast_nonneg _) hci
          cases e9
          rw [Int.toNat_natCast] at hw0 hw1 hw2 hw3
          have hx0 := hp_cell (Nat.le_refl _) HB.out hw0
          have hx1 := hp_cell (Nat.le_refl _) HB.out hw1
          have hx2 := hp_cell (Nat.le_refl _) HB.out hw2
          have hx3 := hp_cell (Nat.le_refl _) HB.out hw3
          clear hw0 hw1 hw2 hw3
          generalize rd_T29 l i = a at hx0 hx1 hx2 hx3 hl9 hi9 HWA
          have HI9 := Aside0.mk hi9
          have HL9 := Aside0.mk hl9
          clear hi9 hl9
          go_wp2_with fail
          have P1 := Aside0.mk (blk_new wr (.cells #[.int .i64 a.f0, .int .i64 a.f1, .string a.f2, .slice A9 a.f3.length c9] 29))
          have bw1 := Aside0.mk (below_alloc (Below.refl wr.heap.size wr) (.cells #[.int .i64 a.f0, .int .i64 a.f1, .string a.f2, .slice A9 a.f3.length c9] 29))
          generalize wr.alloc (.cells #[.int .i64 a.f0, .int .i64 a.f1, .string a.f2, .slice A9 a.f3.length c9] 29) = W1 at P1 bw1 ⊢
          have B1 := Aside0.mk (HB.out.trans (bw1.out.mono HB.out.size))
          clear hx0 hx1 hx2 hx3
          refine (Do_calls g b 1000 L a.f0 a.f1 a.f2 A9 c9 a.f3 W1 (Bl.kept HBL.out bw1.out) (by omega) (by omega) HL9.out (Kd.C_below HI9.out B1.out)).mono ?_
          rintro e w6 ⟨vb, vn, nm, code, bd, ns, L', rfl, hvb, hvn, hB6, hg6, hD⟩
          obtain ⟨A1, c1, rfl, _, _⟩ := Kd.R_reads hvb
          obtain ⟨A2, c2, rfl, _, _⟩ := Kd.R_reads hvn
          have hlen := hD.len
          have HD := Aside0.mk hD
          have HB6 := Aside0.mk hB6
          have hsm := Aside0.mk (Bl.small (Bl.kept HBL.out bw1.out))
          obtain ⟨mes, mcl, hmb⟩ := own_blk (Bl.kept HBL.out bw1.out).map
          have hbm : wr.heap.size ≠ b := by have := HBL.out.lt.2; omega
          have P6 := Aside0.mk (blk_grown P1.out hg6 (by simpa using hbm))
          have B6 := Aside0.mk (B1.out.grown hg6 B1.out.size (fun j hj => by cases hj; exact hbw))
          have RX6 := Aside0.mk ((HRX.out.kept bw1.out).grown hg6 (by simp) hxb)
          have HE6 := Aside0.mk (HD.out.ents (Sb.wf_bytes HWA.out) HE.out)
          clear hvb hvn hB6 hg6 hD hmb
          have a0 : (w6).cell? ⟨wr.heap.size, 0, none⟩ = some (.int .i64 a.f0) := (blk_cell (P6.out) 0).trans rfl
          have a1 : (w6).cell? ⟨wr.heap.size, 1, none⟩ = some (.int .i64 a.f1) := (blk_cell (P6.out) 1).trans rfl
          have a2 : (w6).cell? ⟨wr.heap.size, 2, none⟩ = some (.string a.f2) := (blk_cell (P6.out) 2).trans rfl
          have a3 : (w6).cell? ⟨wr.heap.size, 3, none⟩ = some (.slice A9 a.f3.length c9) := (blk_cell (P6.out) 3).trans rfl
          generalize bd.length = nb
          generalize ns.length = nn
          go_wp2_with fail
          refine (RDo_calls [b, x] x 1000 L a.f0 a.f1 a.f2 A9 c9 a.f3 w6 RX6.out (by omega) hsm.out HL9.out (Kd.C_below HI9.out B6.out) HD.out).mono ?_
          rintro e w7 ⟨vb, vn, rfl, hvb, hvn, hR7, hg7⟩
          obtain ⟨A71, c71, rfl, _, _⟩ := Kd.R_reads hvb
          obtain ⟨A72, c72, rfl, _, _⟩ := Kd.R_reads hvn
          clear hvb hvn
          obtain ⟨_, _, hxx, _⟩ := RX6.out.ex
          have HB7 := Aside0.mk (Bl.farX HB6.out hxx hg7)
          have RX7 := Aside0.mk hR7
          have B7 := Aside0.mk (B6.out.grown hg7 B6.out.size (fun j hj => by cases hj; exact hxw))
          clear hR7 hg7 hxx a0 a1 a2 a3
          generalize bd.length = nb7
          generalize ns.length = nn7
          go_wp2_with fail
          go_roundg (l.length - (i + 1))
          case measure => have := HK.out; omega
          case rel => exact ⟨i + 1, L', by go_num, by omega, by omega, ⟨by omega⟩, HE6, HB7, RX7, B7⟩
        · have hil : i = l.length := by omega
          subst hil
          go_wp2_with (first | ((with_reducible refine gate_builtin (b := .append) (xs := #[.tmp 37, .tmp 38]) rfl ?_); at_builtin; refine Kd.R_append_row (Value.int .u8) (0 : Int) (h1 := fun _ => rfl) (w0 := wr) wr.heap.size rfl (.tmp 37) (.tmp 38) 27 5 (.int .u8 0) 1 rfl Try.underlying27 info5 rfl (by omega) (.slice (some ⟨wr.heap.size, 0, none⟩) 0 0) ([] : List Int) s Aa s.length capa (fun _ => True) rfl rfl (fun _ _ => trivial) ?aO ?aR ?aB ?aS ?aL ?_; (case aO => exact Kd.R_of_own (World.ownsRow_made wr #[] 0 (Nat.le_refl _) (Nat.zero_le _) rfl) (fun _ _ => trivial)); (case aR => exact Kd.C_alloc (Kd.C_below HA2.out HB.out) _); (case aB => exact below_alloc (Below.refl _ _) _); (case aS => simp); (case aL => have := HS1.out; simp; omega); intro v1 w3 ho hb hg hat; simp only [List.nil_append] at ho; obtain ⟨A3, c3, rfl, hc3, hC3⟩ := Kd.R_reads ho; have HC3 := Aside0.mk hC3; have HL3 := Aside0.mk hc3; have B3 := Aside0.mk hb; clear ho hb hg hat hC3 hc3) | fail)
          all_goals
            have BW3 := Aside0.mk (HB.out.trans (B3.out.mono HB.out.size))
            have HBL3 := Aside0.mk (Bl.kept HBL.out B3.out)
            have HRX3 := Aside0.mk (HRX.out.kept B3.out)
            refine (Serve_calls g b 1000 L A3 s.length c3 s w3 HBL3.out (by omega) (by omega) HC3.out rfl HL3.out (by have := HS1.out; omega) HSB.out).mono ?_
            rintro e w4 ⟨u, L', out, rfl, hU, hB4, hg4, hSv⟩
            have hSl := hSv.len
            obtain ⟨hol, hob, hoe⟩ := hSv.right HBL.out.small HE.out
            obtain ⟨A4, c4, rfl, hc4, hC4⟩ := Kd.R_reads hU
            have HB4 := Aside0.mk hB4
            have HRX4 := Aside0.mk (HRX3.out.grown hg4 (by simp) hxb)
            have BW4 := Aside0.mk (BW3.out.grown hg4 BW3.out.size (fun j hj => by cases hj; exact hbw))
            have HU4 := Aside0.mk hU
            have HC4 := Aside0.mk hC4
            have HL4 := Aside0.mk hc4
            have HSV := Aside0.mk hSv
            have HOB := Aside0.mk hob
            have HOE := Aside0.mk hoe
            clear hU hB4 hg4 hSv hob hoe hC4 hc4
            go_wp2_with fail
            refine (Sb.GetAnswer_calls A4 out.length c4 out w4 HC4.out rfl HL4.out (by omega) HOB.out).mono ?_
            rintro e w5 ⟨ua, va, rfl, hua, hva, hb5⟩
            rw [HOE.out]
            obtain ⟨A5, c5, rfl, _, _⟩ := Kd.R_reads hua
            obtain ⟨A6, c6, rfl, _, _⟩ := Kd.R_reads hva
            generalize (Sb.getN out).2.2.1.length = nu
            generalize (Sb.getN out).2.2.2.1.length = nv
            generalize (Sb.getN out).1 = g1
            generalize (Sb.getN out).2.1 = g2
            have bA := Aside0.mk (hb5.trans (below_alloc (Below.refl w5.heap.size w5) (.cells #[.int .i64 g1, .int .i64 g2, .slice A5 nu c5, .slice A6 nv c6] 32) |>.mono hb5.size))
            clear hua hva hb5
            go_wp2_with fail
            generalize w5.alloc (.cells #[.int .i64 g1, .int .i64 g2, .slice A5 nu c5, .slice A6 nv c6] 32) = W6 at bA ⊢
            have HB6 := Aside0.mk (Bl.kept HB4.out bA.out)
            have HRX6 := Aside0.mk (HRX4.out.kept bA.out)
            have BW6 := Aside0.mk (BW4.out.trans (bA.out.mono BW4.out.size))
            have HU6 := Aside0.mk (Kd.R_below HU4.out bA.out)
            have HSM := Aside0.mk HBL.out.small
            clear HBL HRX HB HB4 HRX4 BW4 HU4 HC4 HBL3 HRX3 BW3 HC3 B3 bA
            refine (RServe_calls [b, x] x 1000 L Aa s.length capa s W6 HRX6.out (by omega) HSM.out (Kd.C_below HA2.out BW6.out) rfl hca (by have := HS1.out; omega) HSB.out HSV.out).mono ?_
            rintro e w7 ⟨u7, rfl, hU7, hR7, hg7⟩
            obtain ⟨_, _, hxx, _⟩ := HRX6.out.ex
            obtain ⟨A7, c7, rfl, hc7, hC7⟩ := Kd.R_reads hU7
            have HU7 := Aside0.mk (Kd.R_grown (Kd.R_types HU6.out hxx (by decide)) hg7 (fun k hk e => hk.2 (by injection e)))
            have HB7 := Aside0.mk (Bl.farX HB6.out hxx hg7)
            have HR7 := Aside0.mk hR7
            have BW7 := Aside0.mk (BW6.out.grown hg7 BW6.out.size (fun j hj => by cases hj; exact hxw))
            have HC7 := Aside0.mk hC7
            have HL7 := Aside0.mk hc7
            clear hU7 hR7 hg7 hxx hC7 hc7 HB6 HRX6 BW6 HU6
            go_wp2_with fail
            refine (Sb.same_calls_self A4 out.length c4 A7 out.length c7 out w7 (Kd.R_reads' HU7.out).2.2 rfl HL4.out HC7.out rfl HL7.out (by omega)).mono ?_
            rintro e w8 ⟨rfl, nd, rfl⟩
            have hb8 := pw_below_drewN (Below.refl w7.heap.size w7) nd
            have HB8 := Aside0.mk (Bl.kept HB7.out hb8)
            have HR8 := Aside0.mk (Rf.kept HR7.out hb8)
            have BW8 := Aside0.mk (BW7.out.trans (hb8.mono BW7.out.size))
            generalize w7.drewN nd = w8 at HB8 HR8 BW8 ⊢
            clear hb8 HB7 HR7 BW7 HU7 HC7
            go_wp2_with fail
            refine (Size_calls g b 1000 L' w8 HB8.out (by omega)).mono ?_
            rintro e w9 ⟨rfl, hb9⟩
            have HR9 := Aside0.mk (Rf.kept HR8.out hb9)
            have BW9 := Aside0.mk (BW8.out.trans (hb9.mono BW8.out.size))
            clear hb9
            go_wp2_with fail
            refine (RSize_calls [b, x] x 1000 L' w9 HR9.out (by omega) (by have := sum_le L' HB8.out.small; omega)).mono ?_
            rintro e w10 ⟨rfl, hb10⟩
            have BW10 := Aside0.mk (BW9.out.trans (hb10.mono BW9.out.size))
            clear hb10
            go_wp2_with fail
            go_ret
            exact ⟨rfl, BW10.out⟩
theorem BlobServes_row (A : Option Addr) (len cap : Nat) (l : List S29) {w : World} (hl : l.length = len) (hC : Kd.C k29 w A len l) (hc : len ≤ cap) (hm : len ≤ maxLen) (hw : ∀ x ∈ l, AskWf x)
    (Aa : Option Addr) (lena capa : Nat) (s : List Int) (hls : s.length = lena) (hA : Bs.C w Aa lena s) (hca : lena ≤ capa) (hma : lena ≤ maxLen) (hwa : ∀ z ∈ s, (Lit.int .u8 z).wf = true) :
    Calls Try.prog 7 #[.slice A len cap, .slice Aa lena capa] w fun e w' => e = .returned (.bool true) ∧ Below w.heap.size w w' := by
  subst hl hls
  exact BlobServes_walk A cap l Aa capa s w hc hC hw hca hA (Sb.wf_bytes hwa)
end Go.Proofs.Ytahiadghodhkhaa.Bl
