/- blob: BlobLast. -/
import Derived.Test.YtahiadghodhkhaaBlobQuota
namespace Go.Proofs.Ytahiadghodhkhaa.Bl
open Go.RowKit Go.Maps Go.Proofs.YtahiadghodhkhaaW.PrintWords Go.Proofs.YtahiadghodhkhaaW.PrintLast Go.Proofs.YtahiadghodhkhaaW.PrintMore Go.Proofs.Ytahiadghodhkhaa.PB
set_option linter.unusedVariables false
set_option linter.unusedSimpArgs false

theorem toList_inj {a b : ByteArray} (h : a.toList = b.toList) : a = b := by
  rw [ByteArray.toList_eq, ByteArray.toList_eq] at h
  cases a; cases b
  congr 1
  exact Array.toList_inj.1 h
theorem bytes_beq (a b : ByteArray) : (a == b) = decide (a = b) := by
  cases a with | mk x => cases b with | mk y =>
  show (x == y) = _
  by_cases h : x = y
  · subst h
    simp
  · simp [h]
theorem bytes_bne (a b : ByteArray) : (a != b) = decide (a ≠ b) := by
  show (!(a == b)) = _
  rw [bytes_beq]
  by_cases h : a = b <;> simp [h]
def lastE (name : ByteArray) (L : List Ent) : Option (List Int) := (findE name L).map (·.2.2)
theorem find_off (k name : ByteArray) (L : List Ent) : findE name (offE k L) = if k = name then none else findE name L := by
  unfold findE offE
  induction L with
  | nil => simp
  | cons y r ih =>
    rw [List.filter_cons, List.find?_cons]
    by_cases hy : y.1 = k
    · rw [if_neg (by simp [hy]), ih]
      by_cases hk : k = name
      · rw [if_pos hk, if_pos hk]
      · have : decide (y.1 = name) = false := by simp [hy, hk]
        rw [if_neg hk, if_neg hk, this]
    · rw [if_pos (by simp [hy]), List.find?_cons, ih]
      by_cases hk : k = name
      · have : decide (y.1 = name) = false := by simp [← hk, hy]
        rw [if_pos hk, this, if_pos hk]
      · rw [if_neg hk, if_neg hk]
theorem find_ins_other (x : Ent) (name : ByteArray) (h : x.1 ≠ name) : ∀ L : List Ent, findE name (insE x L) = findE name L
  | [] => by simp [insE, findE, h]
  | y :: r => by
    unfold insE
    split
    · simp [findE, h]
    · have ih := find_ins_other x name h r
      unfold findE at ih ⊢
      rw [List.find?_cons, List.find?_cons, ih]
theorem find_ins_same (x : Ent) : ∀ L : List Ent, (∀ y ∈ L, y.1 ≠ x.1) → findE x.1 (insE x L) = some x
  | [], _ => by simp [insE, findE]
  | y :: r, h => by
    unfold insE
    split
    · simp [findE]
    · have ih := find_ins_same x r (fun z hz => h z (by simp [hz]))
      have hy : decide (y.1 = x.1) = false := by simpa using h y (by simp)
      unfold findE at ih ⊢
      rw [List.find?_cons, hy, ih]
theorem last_put (k name : ByteArray) (v : Value) (t : List Int) (L : List Ent) : lastE name (putE k v t L) = if k = name then some t else lastE name L := by
  unfold lastE putE
  by_cases h : k = name
  · subst h
    rw [if_pos rfl, find_ins_same (k, v, t) (offE k L) (fun y hy => ((mem_off k y L).1 hy).2)]
    rfl
  · rw [if_neg h, find_ins_other (k, v, t) name h, find_off, if_neg h]
theorem last_off (k name : ByteArray) (L : List Ent) : lastE name (offE k L) = if k = name then none else lastE name L := by
  unfold lastE
  rw [find_off]
  split <;> rfl
theorem DoR.last {q : Int} {L L' : List Ent} {kind num nm code : Int} {k : ByteArray} {t bd : List Int} {ns : List ByteArray} (h : DoR q L kind num k t L' nm code bd ns) (name : ByteArray) :
    ((k ≠ name ∨ code ≠ 0) → lastE name L' = lastE name L) ∧ (k = name → code = 0 → (kind = 1 → lastE name L' = some t) ∧ (kind = 4 → lastE name L' = none) ∧ (kind ≠ 1 → kind ≠ 4 → lastE name L' = lastE name L)) := by
  rcases h with ⟨_, rfl, _, hc, _⟩ | ⟨_, _, ⟨h1, _, _, ⟨_, hc, rfl⟩ | ⟨_, h2, A, c, rfl⟩⟩ | ⟨h1, rfl, _⟩ | ⟨h1, rfl, _⟩ | ⟨h1, rfl, _, _, hc⟩⟩
  · exact ⟨fun _ => rfl, fun _ h => by omega⟩
  · exact ⟨fun _ => rfl, fun _ h => by omega⟩
  · rw [last_put]
    refine ⟨fun h => ?_, fun hk _ => ⟨fun _ => by rw [if_pos hk], fun h => by omega, fun h => by omega⟩⟩
    rcases h with h | h
    · rw [if_neg h]
    · exact absurd h2 h
  · exact ⟨fun _ => rfl, fun _ _ => ⟨fun h => by omega, fun h => by omega, fun _ _ => rfl⟩⟩
  · exact ⟨fun _ => rfl, fun _ _ => ⟨fun h => by omega, fun h => by omega, fun _ _ => rfl⟩⟩
  · rw [last_off]
    refine ⟨fun h => ?_, fun hk _ => ⟨fun h => by omega, fun _ => by rw [if_pos hk], fun _ h => absurd h1 h⟩⟩
    by_cases hk : k = name
    · rw [if_pos hk]
      subst hk
      rcases h with h | h
      · exact absurd rfl h
      · cases hf : findE k L with
        | none => simp [lastE, hf]
        | some x => rw [hf] at hc; exact absurd (by simpa using hc) h
    · rw [if_neg hk]

set_option maxRecDepth 20000 in
set_option maxHeartbeats 8000000 in
theorem BlobLast_walk (A : Option Addr) (cap : Nat) (l : List S29) (name : ByteArray) (w : World) (hc : l.length ≤ cap) (hC : Kd.C k29 w A l.length l) :
    Calls Try.prog 3 #[.slice A l.length cap, .string name] w fun e w' => e = .returned (.bool true) ∧ Below w.heap.size w w' := by
  have HC2 := Aside0.mk hC
  clear hC
  obtain ⟨lr, hlr, hlr2⟩ := long_is l
  go_enter Try.func3, Try.ntmps3
  go_wp2_with fail
  refine (wakes_calls w).mono ?_
  rintro e w1 ⟨rfl, hb1⟩
  have B1 := Aside0.mk hb1
  clear hb1
  go_wp2_with fail
  refine (scriniumlaw19_long.calls 100 A cap l lr w1 (Kd.C_below HC2.out B1.out) hc hlr).mono ?_
  rintro e w2 ⟨rfl, hd2⟩
  have B2 := Aside0.mk (B1.out.trans (Drawn0.below hd2 |>.mono B1.out.size))
  clear hd2 hlr
  cases lr with
  | true =>
    go_wp2_with fail
    go_ret
    exact ⟨rfl, B2.out⟩
  | false =>
    have hl60 := hlr2 rfl
    clear hlr2
    by_cases hn64 : (64 : Int) < (name.size : Int)
    · go_wp2_with fail
      go_ret
      exact ⟨rfl, B2.out⟩
    go_wp2_with fail
    refine (New_calls 1048576 w2).mono ?_
    rintro e w3 ⟨g, b, rfl, hB, hg, hbb, hb3⟩
    rw [if_neg (by omega)] at hB
    have HB3 := Aside0.mk hB
    have B3 := Aside0.mk (B2.out.trans (hb3.mono B2.out.size))
    have hgw : w.heap.size ≤ g := Nat.le_trans B2.out.size hg
    have hbw : w.heap.size ≤ b := Nat.le_trans B2.out.size hbb
    clear hB hb3 hg hbb
    go_wp2_with fail
    go_loopg [6, 7, 24] l.length (fun kq v6 v7 v24 w' => ∃ (i : Nat) (L : List Ent) (A6 : Option Addr) (lt : List Int) (c6 : Nat) (th : Bool), v6 = .slice A6 lt.length c6 ∧ v7 = .bool th ∧ v24 = .int .i64 i ∧ i ≤ l.length ∧ L.length ≤ i ∧ lt.length ≤ c6 ∧
      Aside0 (lastE name L = if th then some lt else none) ∧ (th = false → lt = []) ∧ Aside0 (kq + i = l.length) ∧ Aside0 (Bs.C w' A6 lt.length lt) ∧ Aside0 (Bl w' g b 1048576 L) ∧ Aside0 (Below w.heap.size w w'))
    case atStart => exact ⟨0, [], none, [], 0, false, rfl, rfl, rfl, Nat.zero_le _, Nat.le_refl _, Nat.le_refl _, ⟨rfl⟩, fun _ => rfl, ⟨rfl⟩, ⟨Kd.C_nil _ _⟩, HB3, B3⟩
    case round =>
      obtain ⟨i, L, A6, lt, c6, th, rfl, rfl, rfl, hi, hLi, hlc6, HLAST, hnil, HK, HCL, HBL, HB⟩ := hrel
      clear HB3 B3
      have HNIL := Aside0.mk hnil
      clear hnil
      by_cases hlt : i < l.length
      · have hci : (i : Int) < (l.length : Int) := by omega
        obtain ⟨ad, A9, c9, e9, hx0, hx1, hx2, hx3, hl9, hi9⟩ := at_T29 (Kd.C_below HC2.out HB.out) i (Int.natCast_nonneg _) hci
        cases e9
        generalize rd_T29 l i = a at hx0 hx1 hx2 hx3 hl9 hi9
        rw [Int.toNat_natCast] at hx0 hx1 hx2 hx3
        have HI9 := Aside0.mk hi9
        have HL9 := Aside0.mk hl9
        clear hi9 hl9
        go_wp2_with fail
        have P1 := Aside0.mk (blk_new wr (.cells #[.int .i64 a.f0, .int .i64 a.f1, .string a.f2, .slice A9 a.f3.length c9] 29))
        have bw1 := Aside0.mk (below_alloc (Below.refl wr.heap.size wr) (.cells #[.int .i64 a.f0, .int .i64 a.f1, .string a.f2, .slice A9 a.f3.length c9] 29))
        generalize wr.alloc (.cells #[.int .i64 a.f0, .int .i64 a.f1, .string a.f2, .slice A9 a.f3.length c9] 29) = W1 at P1 bw1 ⊢
        clear hx0 hx1 hx2 hx3
        refine (Do_calls g b 1048576 L a.f0 a.f1 a.f2 A9 c9 a.f3 W1 (Bl.kept HBL.out bw1.out) (by omega) (by omega) HL9.out (Kd.C_below HI9.out bw1.out)).mono ?_
        rintro e w6 ⟨vb, vn, nm, code, bd, ns, L', rfl, hvb, hvn, hB6, hg6, hD⟩
        obtain ⟨A1, c1, rfl, _, _⟩ := Kd.R_reads hvb
        obtain ⟨A2, c2, rfl, _, _⟩ := Kd.R_reads hvn
        have hlen := hD.len
        obtain ⟨hsame, hnew⟩ := hD.last name
        have HB6 := Aside0.mk hB6
        obtain ⟨mes, mcl, hmb⟩ := own_blk (Bl.kept HBL.out bw1.out).map
        have HC6 := Aside0.mk (C_turn (Kd.C_below HCL.out bw1.out) hmb hg6)
        have HI6 := Aside0.mk (C_turn (Kd.C_below HI9.out bw1.out) hmb hg6)
        have hbm : wr.heap.size ≠ b := by have := HBL.out.lt.2; omega
        have P6 := Aside0.mk (blk_grown P1.out hg6 (by simpa using hbm))
        have a0 : (w6).cell? ⟨wr.heap.size, 0, none⟩ = some (.int .i64 a.f0) := (blk_cell (P6.out) 0).trans rfl
        have a1 : (w6).cell? ⟨wr.heap.size, 1, none⟩ = some (.int .i64 a.f1) := (blk_cell (P6.out) 1).trans rfl
        have a2 : (w6).cell? ⟨wr.heap.size, 2, none⟩ = some (.string a.f2) := (blk_cell (P6.out) 2).trans rfl
        have a3 : (w6).cell? ⟨wr.heap.size, 3, none⟩ = some (.slice A9 a.f3.length c9) := (blk_cell (P6.out) 3).trans rfl
        have n6 : wr.heap.size < w6.heap.size := blk_lt P6.out
        have e6 : (w6.heap.size == wr.heap.size) = false := by simpa using Nat.ne_of_gt n6
        have e7 : (wr.heap.size == w6.heap.size) = false := by simpa using Nat.ne_of_lt n6
        have B6 := Aside0.mk ((HB.out.trans (bw1.out.mono HB.out.size)).grown hg6 (Nat.le_trans HB.out.size bw1.out.size) (fun j hj => by cases hj; exact hbw))
        have HSAME := Aside0.mk hsame
        have HNEW := Aside0.mk hnew
        clear hvb hvn hB6 hg6 hD hsame hnew hmb
        generalize bd.length = nb
        generalize ns.length = nn
        have br1 := Aside0.mk (below_alloc (Below.refl w6.heap.size w6) (.cells #[.int .i64 nm, .int .i64 code, .slice A1 nb c1, .slice A2 nn c2] 32))
        have B7 := Aside0.mk (B6.out.trans (br1.out.mono B6.out.size))
        by_cases hnm : a.f2 = name
        · by_cases hc0 : code = 0
          · have hcb : (code != 0) = false := by simp [hc0]
            obtain ⟨hk1, hk4, hko⟩ := HNEW.out hnm hc0
            have K1 := Aside0.mk hk1
            have K4 := Aside0.mk hk4
            have KO := Aside0.mk hko
            have hnb : (a.f2 != name) = false := by rw [bytes_bne, hnm]; simp
            clear hk1 hk4 hko hc0
            by_cases h1 : a.f0 = 1
            · have hb1 : (a.f0 == 1) = true := by simpa using h1
              go_wp2_with fail
              go_roundg (l.length - (i + 1))
              case measure => have := HK.out; omega
              case rel => exact ⟨i + 1, L', A9, a.f3, c9, true, rfl, rfl, by go_num, by omega, by omega, HL9.out, ⟨by rw [if_pos rfl]; exact K1.out h1⟩, (fun h => nomatch h), ⟨by omega⟩, ⟨Kd.C_below HI6.out br1.out⟩, ⟨Bl.kept HB6.out br1.out⟩, B7⟩
            · have hb1 : (a.f0 == 1) = false := by simpa using h1
              by_cases h4 : a.f0 = 4
              · have hb4 : (a.f0 == 4) = true := by simpa using h4
                go_wp2_with fail
                go_roundg (l.length - (i + 1))
                case measure => have := HK.out; omega
                case rel => exact ⟨i + 1, L', none, [], 0, false, rfl, rfl, by go_num, by omega, by omega, Nat.zero_le _, ⟨K4.out h4⟩, fun _ => rfl, ⟨by omega⟩, ⟨Kd.C_nil _ _⟩, ⟨Bl.kept HB6.out br1.out⟩, B7⟩
              · have hb4 : (a.f0 == 4) = false := by simpa using h4
                go_wp2_with fail
                go_roundg (l.length - (i + 1))
                case measure => have := HK.out; omega
                case rel => exact ⟨i + 1, L', A6, lt, c6, th, rfl, rfl, by go_num, by omega, by omega, hlc6, ⟨(KO.out h1 h4).trans HLAST.out⟩, HNIL.out, ⟨by omega⟩, ⟨Kd.C_below HC6.out br1.out⟩, ⟨Bl.kept HB6.out br1.out⟩, B7⟩
          · have hcb : (code != 0) = true := by simpa using hc0
            have hnb : (a.f2 != name) = false := by rw [bytes_bne, hnm]; simp
            have KO := Aside0.mk (HSAME.out (.inr hc0))
            go_wp2_with fail
            go_roundg (l.length - (i + 1))
            case measure => have := HK.out; omega
            case rel => exact ⟨i + 1, L', A6, lt, c6, th, rfl, rfl, by go_num, by omega, by omega, hlc6, ⟨KO.out.trans HLAST.out⟩, HNIL.out, ⟨by omega⟩, ⟨Kd.C_below HC6.out br1.out⟩, ⟨Bl.kept HB6.out br1.out⟩, B7⟩
        · have hnb : (a.f2 != name) = true := by rw [bytes_bne]; simpa using hnm
          have hnt : ¬ a.f2.toList = name.toList := fun h => hnm (toList_inj h)
          have KO := Aside0.mk (HSAME.out (.inl hnm))
          go_wp2_with fail
          go_roundg (l.length - (i + 1))
          case measure => have := HK.out; omega
          case rel => exact ⟨i + 1, L', A6, lt, c6, th, rfl, rfl, by go_num, by omega, by omega, hlc6, ⟨KO.out.trans HLAST.out⟩, HNIL.out, ⟨by omega⟩, ⟨Kd.C_below HC6.out br1.out⟩, ⟨Bl.kept HB6.out br1.out⟩, B7⟩
      · have hil : i = l.length := by omega
        subst hil
        go_wp2_with fail
        have hfl : ((findE name L).map (·.2.2)).getD [] = lt := by
          have h1 := HLAST.out
          have h2 := HNIL.out
          unfold lastE at h1
          rw [h1]
          cases th with
          | true => rfl
          | false => exact (h2 rfl).symm
        have hfs : (findE name L).isSome = th := by
          have h1 := congrArg Option.isSome HLAST.out
          unfold lastE at h1
          rw [Option.isSome_map] at h1
          rw [h1]
          cases th <;> rfl
        refine (Do_get g b 1048576 L 0 name none 0 [] wr HBL.out (by unfold Sb.okA; exact decide_eq_true (by simp; omega)) (by omega) (by simp) (by simp) (Kd.C_nil _ _)).mono ?_
        rintro e w4 ⟨vb, vn, rfl, hvb, hvn, hB4, hb4⟩
        rw [hfl] at hvb
        rw [hfs]
        obtain ⟨A5, c5, rfl, hc5, hC5⟩ := Kd.R_reads hvb
        obtain ⟨A2, c2, rfl, _, _⟩ := Kd.R_reads hvn
        have HC5 := Aside0.mk hC5
        have HC6 := Aside0.mk (Kd.C_below HCL.out hb4)
        have B8 := Aside0.mk (HB.out.trans (hb4.mono HB.out.size))
        have hc5' := Aside0.mk hc5
        clear hvb hvn hB4 hb4 hC5 hfl hfs hc5
        have hsz : lt.length ≤ 140737488355328 := by
          have h1 := HLAST.out
          cases th with
          | true =>
            unfold lastE at h1
            cases hf : findE name L with
            | none => rw [hf] at h1; simp at h1
            | some x =>
              rw [hf] at h1
              have h2 : x.2.2 = lt := by simpa using h1
              rw [← h2]
              exact Nat.le_trans (HBL.out.small x (find_mem hf).1).2 (by omega)
          | false => rw [HNIL.out rfl]; simp
        cases th with
        | true =>
          go_wp2_with fail
          have B9 := Aside0.mk (below_alloc B8.out (.cells #[.int .i64 0, .int .i64 0, .slice A5 lt.length c5, .slice A2 0 c2] 32))
          refine (Sb.same_calls_self A5 lt.length c5 A6 lt.length c6 lt _ (Kd.C_alloc HC5.out _) rfl hc5'.out (Kd.C_alloc HC6.out _) rfl hlc6 hsz).mono ?_
          rintro e w5 ⟨rfl, nd, rfl⟩
          go_wp2_with fail
          go_ret
          exact ⟨rfl, B9.out.os, B9.out.tape, B9.out.output, B9.out.size, B9.out.block⟩
        | false =>
          go_wp2_with fail
          have B9 := Aside0.mk (below_alloc B8.out (.cells #[.int .i64 0, .int .i64 1, .slice A5 lt.length c5, .slice A2 0 c2] 32))
          refine (Sb.same_calls_self A5 lt.length c5 A6 lt.length c6 lt _ (Kd.C_alloc HC5.out _) rfl hc5'.out (Kd.C_alloc HC6.out _) rfl hlc6 hsz).mono ?_
          rintro e w5 ⟨rfl, nd, rfl⟩
          go_wp2_with fail
          go_ret
          exact ⟨rfl, B9.out.os, B9.out.tape, B9.out.output, B9.out.size, B9.out.block⟩
theorem BlobLast_row (A : Option Addr) (len cap : Nat) (l : List S29) {P : S29 → Prop} {w : World} (hl : l.length = len) (hC : Kd.C k29 w A len l) (hc : len ≤ cap) (hm : len ≤ maxLen) (hw : ∀ x ∈ l, P x) (name : ByteArray) (hn : name.size ≤ 140737488351232) :
    Calls Try.prog 3 #[.slice A len cap, .string name] w fun e w' => e = .returned (.bool true) ∧ Below w.heap.size w w' := by
  subst hl
  exact BlobLast_walk A cap l name w hc hC
end Go.Proofs.Ytahiadghodhkhaa.Bl
