import Derived.Test.YtpkfeepepbchlaaGLkA
import Derived.Test.YtpkfeepepbchlaaGOpenL
namespace Go.Proofs.Ytpkfeepepbchlaa.Bl
open Go.RowKit Go.Maps Go.Proofs.YtpkfeepepbchlaaW.PrintWords Go.Proofs.YtpkfeepepbchlaaW.PrintLast Go.Proofs.YtpkfeepepbchlaaW.PrintMore Go.Proofs.Ytpkfeepepbchlaa.PK
set_option linter.unusedVariables false
set_option linter.unusedSimpArgs false
def kU : Kd (Int × Unit) := Kd.pair (Kd.int .i64) (Kd.scalar (fun _ : Unit => Value.slice none 0 0) (fun _ => rfl))
def toF (x : Int × Unit) : Ft := ⟨x.1, []⟩
def xsU (m : Nat) : List (Int × Unit) := (List.range m).map fun i : Nat => (1 + (i : Int) % 2, ())
def fsU (m : Nat) : List Ft := (xsU m).map toF
theorem kU_mk (x : Int) (w : World) (base : Nat) (ok : Nat → Prop) : kU.M w base ok (x, ()) [.int .i64 x, .slice none 0 0] := ⟨[.int .i64 x], [.slice none 0 0], rfl, rfl, rfl⟩
theorem kU_C {w : World} {A : Option Addr} {n : Nat} {xs : List (Int × Unit)} (h : Kd.C kU w A n xs) : Kd.C kF w A n (xs.map toF) := by
  refine ⟨by rw [List.length_map]; exact h.1, h.2.1, fun hn => ?_⟩
  obtain ⟨ad, e, hc⟩ := h.2.2 hn
  refine ⟨ad, e, fun j p hj => ?_⟩
  rw [List.getElem?_map] at hj
  obtain ⟨x, hx, rfl⟩ := Option.map_eq_some_iff.1 hj
  obtain ⟨cs, h1, ⟨c0, c1, rfl, h2, h3⟩, h4⟩ := hc j x hx
  have h2' : c0 = [.int .i64 x.1] := h2
  have h3' : c1 = [.slice none 0 0] := h3
  subst h2' h3'
  exact ⟨_, h1, k43_mk w (toF x) (Nat.le_refl 0) (Kd.C_nil _ _), h4⟩
theorem kU_empty (W : World) (base : Nat) (h : base ≤ W.heap.size) : Kd.R kU 43 (W.alloc (.cells #[] 43)) base (fun _ => True) (.slice (some ⟨W.heap.size, 0, none⟩) 0 0) [] :=
  ⟨fun _ _ => trivial, [], ⟨rfl, .inr ⟨W.heap.size, 0, #[], rfl, h, heap_alloc_new W _, Nat.le_refl _, Nat.zero_le _, rfl, rfl⟩⟩, ⟨rfl, fun j p hj => by simp at hj⟩⟩
theorem xsU_len (m : Nat) : (xsU m).length = m := by simp [xsU]
theorem xsU_succ (m : Nat) : xsU (m + 1) = xsU m ++ [(1 + (m : Int) % 2, ())] := by simp [xsU, List.range_succ]
theorem fsU_len (m : Nat) : (fsU m).length = m := by simp [fsU, xsU]
theorem fsU_get (m i : Nat) (h : i < m) : (fsU m)[i]? = some ⟨1 + (i : Int) % 2, []⟩ := by
  unfold fsU xsU
  rw [List.getElem?_map, List.getElem?_map, List.getElem?_range h]
  rfl
def fsS (m : Nat) : List Ft := fsU m ++ [⟨0, []⟩]
theorem fsS_is (m : Nat) : (xsU m ++ [(0, ())]).map toF = fsS m := by rw [List.map_append]; rfl
theorem fsS_hd (m i : Nat) (h : i ≤ m) : (hdF ((fsS m).drop i)).f0 = if i < m then 1 + (i : Int) % 2 else 0 := by
  have key : hdF ((fsS m).drop i) = ((fsS m)[i]?).getD ⟨0, []⟩ := by
    unfold hdF
    rw [List.headD_eq_head?_getD, List.head?_drop]
  rw [key]
  unfold fsS
  by_cases hl : i < m
  · rw [List.getElem?_append_left (by rw [fsU_len]; exact hl), fsU_get m i hl, if_pos hl]
    rfl
  · have e : i = m := by omega
    subst e
    rw [List.getElem?_append_right (by rw [fsU_len]; omega), fsU_len, if_neg hl]
    simp
theorem fsS_nil (m : Nat) : ∀ f ∈ fsS m, f.f1 = [] := fun f hf => by
  rcases List.mem_append.1 hf with h | h
  · obtain ⟨x, _, rfl⟩ := List.mem_map.1 h
    rfl
  · have e : f = ⟨0, []⟩ := by simpa using h
    rw [e]
theorem fsS_ok (m : Nat) : FtOk (fsS m) := fun f hf => by
  rw [fsS_nil m f hf]
  exact ⟨by simp, Sb.Bytes.nil⟩
def rqS (m : Nat) : Rq := ⟨fsS m, 0, 0, 0, [], false, false⟩
theorem rqS_ok (m : Nat) : Rok 0 (rqS m) := ⟨by simp [rqS], (fun y hy => by cases hy), fsS_ok m, ⟨by simp [rqS], by simp [rqS]⟩, ⟨by simp [rqS], by simp [rqS]⟩, ⟨by simp [rqS], by simp [rqS]⟩⟩
def SureL (name : ByteArray) (body : List Int) (L : List Ent) : Prop := L = [] ∨ ∃ v, L = [(name, v, body)]
theorem put_sure {name : ByteArray} {body : List Int} {L : List Ent} {v : Value} (h : SureL name body L) : putE name v body L = [(name, v, body)] ∧ offE name L = [] := by
  have e : offE name L = [] := by
    rcases h with rfl | ⟨v', rfl⟩
    · rfl
    · simp [offE]
  refine ⟨?_, e⟩
  unfold putE
  rw [e]
  rfl
theorem do_sure {name : ByteArray} {body bd : List Int} {L L' : List Ent} {num nm code : Int} {ns : List ByteArray} (h : DoR 1048576 L 1 num name body L' nm code bd ns) (hs : SureL name body L) (hK : Sb.okA 1 num name.size body.length = true) : code = 0 ∧ ∃ v, L' = [(name, v, body)] := by
  obtain ⟨_, _, _, _, p5, p6, _⟩ := okA_parts hK
  have h0 : (sumE (offE name L) : Int) = 0 := by rw [(put_sure (v := .slice none 0 0) hs).2]; rfl
  rcases h with ⟨h, _⟩ | ⟨_, _, ⟨_, _, _, ⟨hq, _⟩ | ⟨_, hc, A, c, rfl⟩⟩ | ⟨h, _⟩ | ⟨h, _⟩ | ⟨h, _⟩⟩
  · rw [hK] at h; cases h
  · omega
  · exact ⟨hc, _, (put_sure hs).1⟩
  · exact absurd h (by decide)
  · exact absurd h (by decide)
  · exact absurd h (by decide)
structure SureI (m : Nat) (name : ByteArray) (body : List Int) (i : Nat) (r : Rq) : Prop where
  le : i ≤ m
  fs : r.fs = (fsS m).drop i
  sent : r.sent = i
  L : SureL name body r.L
theorem sure_tries {m : Nat} {name : ByteArray} {body : List Int} {i : Nat} {r : Rq} (hK : Sb.okA 1 0 name.size body.length = true) (hb : Sb.Bytes body) (h : Tries 1048576 1 name body i (rqS m) r) : SureI m name body i r := by
  generalize ha : rqS m = a at h
  induction h with
  | nil r => subst ha; exact ⟨by omega, by simp [rqS], by simp [rqS], .inl rfl⟩
  | more h1 hl ih =>
    rename_i j a' b c
    obtain ⟨i1, i2, i3, i4⟩ := ih ha
    subst ha
    have hok := (h1.ok hK hb (rqS_ok m)).1
    have hsm := (h1.hon hK hb (rqS_ok m) (fun y hy => by cases hy) (fun e => by cases e)).1
    have hh := fsS_hd m j i1
    rw [← i2] at hh
    by_cases hjm : j < m
    · rw [if_pos hjm] at hh
      have h12 : (hdF b.fs).f0 = 1 ∨ (hdF b.fs).f0 = 2 := by rw [hh]; omega
      obtain ⟨_, _, e3, e4, e5, _, e7⟩ := hl.mute h12
      refine ⟨by omega, by rw [e3, i2, List.tail_drop], by rw [e5, i3]; push_cast; rfl, ?_⟩
      rcases e7 with ⟨_, e⟩ | ⟨_, o, hv⟩
      · rw [e]; exact i4
      · have hx := nxt_in hok.2.2.2.1
        have hK' := okA_num hK (num' := nxt b.num) ⟨by omega, hx.2⟩
        obtain ⟨code, bd, ns, hD, _⟩ := honest hK' hb hsm hok.2.1 hv
        exact .inr (do_sure hD i4 hK').2
    · rw [if_neg hjm] at hh
      exact (hl.no hh hK hb hok hsm).elim
theorem sure_got {m : Nat} {name : ByteArray} {body bd : List Int} {ns : List ByteArray} {i : Nat} {r r' : Rq} {code : Int} (hK : Sb.okA 1 0 name.size body.length = true) (hb : Sb.Bytes body) (h : Tries 1048576 1 name body i (rqS m) r) (hg : Got 1048576 1 name body r r' code bd ns) : code = 0 ∧ r'.sent = m + 1 ∧ ∃ v, r'.L = [(name, v, body)] := by
  obtain ⟨i1, i2, i3, i4⟩ := sure_tries hK hb h
  have hok := (h.ok hK hb (rqS_ok m)).1
  have hsm := (h.hon hK hb (rqS_ok m) (fun y hy => by cases hy) (fun e => by cases e)).1
  have hh := fsS_hd m i i1
  rw [← i2] at hh
  by_cases him : i < m
  · rw [if_pos him] at hh
    exact (hg.no (by rw [hh]; omega)).elim
  · rw [if_neg him] at hh
    have e : i = m := by omega
    subst e
    obtain ⟨out, hs, _, hgn⟩ := hg
    obtain ⟨_, _, _, code', bd', ns', hD, hg'⟩ := hs.plain hh hK hb hok hsm
    rw [hg'] at hgn
    injection hgn with _ hgn
    injection hgn with hgn _
    have hx := nxt_in hok.2.2.2.1
    have hK' := okA_num hK (num' := nxt r.num) ⟨by omega, hx.2⟩
    obtain ⟨c0, hL⟩ := do_sure hD i4 hK'
    obtain ⟨tk, _, _, h3, _⟩ := hs
    exact ⟨by rw [← hgn]; exact c0, by rw [h3, i3], hL⟩
set_option maxRecDepth 20000 in
set_option maxHeartbeats 16000000 in
theorem LinkSure_walk (lost : Int) (hlo : 0 ≤ lost ∧ lost ≤ 255) (name : ByteArray) (A : Option Addr) (c : Nat) (body : List Int) (w : World) (hc : body.length ≤ c) (hC : Bs.C w A body.length body) (hbb : Sb.Bytes body) :
    Calls Try.prog 5 #[.int .u8 lost, .string name, .slice A body.length c] w fun e w' => e = .returned (.bool true) ∧ Below w.heap.size w w' := by
  have HC := Aside0.mk hC
  have HBB := Aside0.mk hbb
  clear hC hbb
  go_enter Try.func5, Try.ntmps5
  go_wp2_with fail
  refine (wakes_calls w).mono ?_
  rintro e w1 ⟨rfl, hb1⟩
  have B1 := Aside0.mk hb1
  clear hb1
  by_cases h64 : (name.size : Int) > 64
  · have d1 : decide ((64 : Int) < (name.size : Int)) = true := decide_eq_true h64
    go_wp2_with fail
    go_ret
    exact ⟨rfl, B1.out⟩
  · have d1 : decide ((64 : Int) < (name.size : Int)) = false := decide_eq_false h64
    by_cases h500 : (body.length : Int) > 500
    · have d2 : decide ((500 : Int) < (body.length : Int)) = true := decide_eq_true h500
      go_wp2_with fail
      go_ret
      exact ⟨rfl, B1.out⟩
    · have d2 : decide ((500 : Int) < (body.length : Int)) = false := decide_eq_false h500
      have hK : Sb.okA 1 0 name.size body.length = true := decide_eq_true ⟨by omega, by omega, by omega, by omega, by omega, by omega, .inl rfl⟩
      clear h64 h500
      obtain ⟨m, hm, hm4⟩ : ∃ m : Nat, lost % 5 = (m : Int) ∧ m ≤ 4 := ⟨(lost % 5).toNat, by omega, by omega⟩
      go_wp2_with fail
      rw [hm]
      clear hm d1 d2
      go_loopg [7, 27] m (fun kq v7 v27 w' => ∃ (i : Nat), v27 = .int .i64 i ∧ i ≤ m ∧ Aside0 (kq + i = m) ∧ Aside0 (Kd.R kU 43 w' w.heap.size (fun _ => True) v7 (xsU i)) ∧ Aside0 (Below w.heap.size w w'))
      case atStart => exact ⟨0, rfl, by omega, ⟨rfl⟩, ⟨by show Kd.R kU _ _ _ _ _ []; exact Kd.R_nil _ _ _ _ _⟩, B1⟩
      case round =>
        obtain ⟨i, rfl, hi, HK, HR, HB⟩ := hrel
        by_cases hlt : i < m
        · have hci : (i : Int) < (m : Int) := by omega
          have hw2 : IntKind.i64.wrap (1 + (i : Int) % 2) = 1 + (i : Int) % 2 := IntWalk.i64_in (n := _) (by omega)
          obtain ⟨Av, cv, rfl, _, _⟩ := Kd.R_reads HR.out
          go_wp2_with (first | ((with_reducible refine gate_builtin (b := .append) (xs := #[.tmp 30, .tmp 35]) rfl ?_); at_builtin; refine Kd.R_append kU (w0 := w) w.heap.size rfl (.tmp 30) (.tmp 35) 22 43 (.agg #[.int .i64 0, .slice none 0 0]) 32 rfl Try.underlying22 infoF rfl (by decide) (by omega) _ (xsU i) (1 + (i : Int) % 2, ()) [.int .i64 (1 + (i : Int) % 2), .slice none 0 0] (fun _ => True) (fun _ => False) rfl rfl ?aP (fun _ hk => hk.elim) ?aF ?aO ?aB ?aS ?aL ?_; (case aP => exact kU_mk _ _ _ _); (case aF => exact (fun _ _ => trivial)); (case aO => exact HR.out); (case aB => exact HB.out); (case aS => exact (HB.out).size); (case aL => rw [xsU_len]; omega); intro v8 w8 ho hb hg hat; rw [← xsU_succ] at ho; have HO8 := Aside0.mk ho; have HB8 := Aside0.mk hb; clear ho hb hg hat) | fail)
          go_roundg (m - (i + 1))
          case measure => have := HK.out; omega
          case rel => exact ⟨i + 1, by first | rfl | simp, by omega, ⟨by have := HK.out; omega⟩, HO8, HB8⟩
        · have hci : ¬ ((i : Int) < (m : Int)) := by omega
          have him : i = m := by omega
          subst him
          obtain ⟨Av, cv, rfl, hcv, hCv⟩ := Kd.R_reads HR.out
          have HCV := Aside0.mk hCv
          have HE := Aside0.mk (kU_empty wr w.heap.size HB.out.size)
          have BE := Aside0.mk (below_alloc HB.out (.cells #[] 43))
          clear hCv B1
          have hxl := xsU_len i
          go_wp2_with (first | ((with_reducible refine gate_builtin (b := .append) (xs := #[.tmp 38, .tmp 39]) rfl ?_); at_builtin; refine Kd.R_append_rows kU (Rr := kU.K wr) (w0 := w) w.heap.size rfl (.tmp 38) (.tmp 39) 22 43 (.agg #[.int .i64 0, .slice none 0 0]) 32 rfl Try.underlying22 infoF rfl (by decide) (by omega) _ [] (xsU i) Av (xsU i).length cv (fun _ => True) (fun _ => False) rfl rfl ?bO ?bR ?bK (fun _ hk => hk.elim) (fun _ _ => trivial) ?bB ?bS ?bL ?_; (case bO => exact HE.out); (case bR => exact Kd.C_alloc HCV.out _); (case bK => exact fun _ _ h => h); (case bB => exact BE.out); (case bS => exact BE.out.size); (case bL => rw [hxl]; simp only [List.length_nil]; omega); intro v8 w8 ho8 hb8 _ _; rw [List.nil_append] at ho8; have HO8 := Aside0.mk ho8; have HB8 := Aside0.mk hb8; clear ho8 hb8) | ((with_reducible refine gate_builtin (b := .append) (xs := #[.tmp 40, .tmp 42]) rfl ?_); at_builtin; refine Kd.R_append kU (w0 := w) w.heap.size rfl (.tmp 40) (.tmp 42) 22 43 (.agg #[.int .i64 0, .slice none 0 0]) 32 rfl Try.underlying22 infoF rfl (by decide) (by omega) _ (xsU i) (0, ()) [.int .i64 0, .slice none 0 0] (fun _ => True) (fun _ => False) rfl rfl ?cP (fun _ hk => hk.elim) ?cF ?cO ?cB ?cS ?cL ?_; (case cP => exact kU_mk _ _ _ _); (case cF => exact (fun _ _ => trivial)); (case cO => exact HO8.out); (case cB => exact HB8.out); (case cS => exact (HB8.out).size); (case cL => rw [hxl]; omega); intro v9 w9 ho hb hg hat; have HO9 := Aside0.mk ho; have HB9 := Aside0.mk hb; clear ho hb hg hat) | fail)
          obtain ⟨A9, c9, rfl, hc9, hC9⟩ := Kd.R_reads HO9.out
          have hC9' := kU_C hC9
          rw [fsS_is] at hC9'
          have hl9 : (xsU i ++ [((0 : Int), ())]).length = (fsS i).length := by rw [← fsS_is, List.length_map]
          have hlS : (fsS i).length = i + 1 := by rw [← fsS_is, List.length_map, List.length_append, hxl]; rfl
          rw [hl9] at hc9 hC9' ⊢
          have HC9 := Aside0.mk hC9'
          clear hC9 hC9' HO9 HO8 HB8 HE BE HCV
          refine (New_net 1 (by omega) 1048576 (by omega) A9 c9 (fsS i) w9 HC9.out hc9 (by omega) (fun f hf => by rw [fsS_nil i f hf]; simp)).mono ?_
          rintro e w10 ⟨n, gp, cap, ps, rfl, hN, hpl, hps, hnew, hb10⟩
          obtain ⟨p, rfl⟩ : ∃ p, ps = [p] := by
            match ps, hpl with
            | [p], _ => exact ⟨p, rfl⟩
          obtain ⟨p1, p2, p3, p4⟩ := hps p (by simp)
          have HB10 := Aside0.mk (HB9.out.trans (hb10.mono HB9.out.size))
          have HN := Aside0.mk hN
          have HNW := Aside0.mk (show ∀ s ∈ n :: gp :: [p].map (·.b), w.heap.size ≤ s from fun s hs => Nat.le_trans HB9.out.size (hnew s hs))
          have hpe : (rqS i).of p = p := by
            cases p
            simp only at p1 p3 p4
            subst p1 p3 p4
            rfl
          have hN' : Nt (n :: gp :: [p].map (·.b)) w10 n gp cap 1048576 ([p].set 0 ((rqS i).of p)) (rqS i).fs (rqS i).num (rqS i).sent (rqS i).ticks := by rw [hpe]; exact HN.out
          have hTs : Ts (n :: gp :: [p].map (·.b)) (n :: gp :: [p].map (·.b)) n gp [p] := ⟨by simp, by simp, by simp, fun _ h => h⟩
          clear hN hnew hps hb10 HN HB9 HC9
          go_wp2_with fail
          refine (Ask_calls (m := 0) (rqS i) (show [p][0]? = some p from rfl) hN' hTs p2 (by omega) (rqS_ok i) (by omega) 1 0 name A c body hK HBB.out (F_elder HC.out HB10.out HNW.out) hc).mono ?_
          rintro e w11 ⟨ub, un, er, code, bd, ns, r', rfl, hub, hun, hN3, hT3, hcs⟩
          have hk : er = 0 ∧ code = 0 ∧ r'.sent = i + 1 ∧ ∃ v, r'.L = [(name, v, body)] := by
            rcases hcs with ⟨h0, j, r1, _, h1, h2⟩ | ⟨_, _, _, _, h⟩
            · exact ⟨h0, sure_got hK HBB.out h1 h2⟩
            · have := (sure_tries hK HBB.out h).le
              omega
          obtain ⟨rfl, rfl, hs, v0, hL⟩ := hk
          rw [hs] at hN3
          obtain ⟨A3, c3, rfl, _, _⟩ := Kd.R_reads hub
          obtain ⟨A4, c4, rfl, _, _⟩ := Kd.R_reads hun
          have HB11 := Aside0.mk (Tn.below HB10.out hT3 HB10.out.size HNW.out)
          have HN3 := Aside0.mk hN3
          clear hcs hub hun hN3 hT3 hs HB10 hN' hTs
          have bb := below_alloc (Below.refl w11.heap.size w11) (.cells #[.int .i64 0, .int .i64 0, .slice A3 bd.length c3, .slice A4 ns.length c4] 36)
          have N12 := Aside0.mk (HN3.out.kept bb)
          have B12 := Aside0.mk (HB11.out.trans (bb.mono HB11.out.size))
          have KX := Aside0.mk (blk_new w11 (.cells #[.int .i64 0, .int .i64 0, .slice A3 bd.length c3, .slice A4 ns.length c4] 36))
          go_wp2_with fail
          generalize hpx : w11.heap.size = px at KX ⊢
          generalize w11.alloc (.cells #[.int .i64 0, .int .i64 0, .slice A3 bd.length c3, .slice A4 ns.length c4] 36) = w12 at N12 B12 KX ⊢
          clear bb HB11 HN3 hpx
          refine (Provider_calls N12.out (tt := 0) (p := r'.of p) rfl).mono ?_
          rintro e w13 ⟨rfl, rfl⟩
          go_wp2_with fail
          have hbl := N12.out.prov (r'.of p) (by simp)
          have hff : findE name r'.L = some (name, v0, body) := by rw [hL]; simp [findE]
          have h64' : name.size ≤ 9223372036854775807 := by have := (okA_parts hK).2.2.2.2.2.1; omega
          refine (Has_calls p.g p.b 1048576 r'.L name w13 hbl h64').mono ?_
          rintro e w14 ⟨vt, rfl, hvt, hb14⟩
          rw [hff] at hvt ⊢
          simp only [Option.isSome, Option.map, Option.getD] at hvt ⊢
          obtain ⟨At, ct, rfl, hct, hCt⟩ := Kd.R_reads hvt
          have N14 := Aside0.mk (N12.out.kept hb14)
          have B14 := Aside0.mk (B12.out.trans (hb14.mono B12.out.size))
          have KX14 := Aside0.mk (blk_below KX.out hb14)
          have ks := Kd.C_string (P := Try.prog) Try.underlying28 Try.underlying5 Try.underlying9 (c := ct) hCt
          have kb := Kd.C_string (P := Try.prog) Try.underlying28 Try.underlying5 Try.underlying9 (c := c) (Kd.C_below HC.out B14.out)
          have y1 : w14.cell? ⟨px, 1, none⟩ = some (.int .i64 0) := (blk_cell KX14.out 1).trans rfl
          have hwi : IntKind.i64.wrap (1 + (i : Int)) = (i : Int) + 1 := by rw [IntWalk.i64_in (n := _) (by omega)]; omega
          clear hvt hb14 hCt hbl
          go_wp2_with fail
          refine (Sent_calls N14.out).mono ?_
          rintro e w15 ⟨rfl, rfl⟩
          go_wp2_with fail
          go_ret
          exact ⟨rfl, B14.out⟩
theorem LinkSure_row (lost : Int) (wl : (Lit.int .u8 lost).wf = true) (name : ByteArray) (hn : name.size ≤ 140737488351232) (A : Option Addr) (len cap : Nat) (l : List Int) {w : World} (hl : l.length = len) (hC : Bs.C w A len l) (hc : len ≤ cap) (hm : len ≤ maxLen) (hw : ∀ x ∈ l, (Lit.int .u8 x).wf = true) :
    Calls Try.prog 5 #[.int .u8 lost, .string name, .slice A len cap] w fun e w' => e = .returned (.bool true) ∧ Below w.heap.size w w' := by
  subst hl
  exact LinkSure_walk lost (wf_u8 wl) name A cap l w hc hC (fun x hx => wf_u8 (hw x hx))
end Go.Proofs.Ytpkfeepepbchlaa.Bl
