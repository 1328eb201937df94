import Derived.Test.YtahiadghodhkhaaGSv2
import Derived.Test.YtahiadghodhkhaaGOpenQ
import Derived.Test.YtahiadghodhkhaaGBlobQuota
import Derived.Test.YtahiadghodhkhaaGBlobServes
import Derived.Test.YtahiadghodhkhaaGBlobCopy
namespace Go.Proofs.Ytahiadghodhkhaa.Bl
open Go.RowKit Go.Maps Go.Proofs.YtahiadghodhkhaaW.PrintWords Go.Proofs.YtahiadghodhkhaaW.PrintLast Go.Proofs.YtahiadghodhkhaaW.PrintMore Go.Proofs.Ytahiadghodhkhaa.PB
set_option linter.unusedVariables false
set_option linter.unusedSimpArgs false
theorem long_loop2 (l : List S29) (hl : l.length ≤ 60) : ∀ (d i k : Nat), i + d = l.length → scriniumlaw19_long.l0 k l (l.length : Int) i = some false → ∀ j (hj : j < l.length), i ≤ j → l[j].f3.length ≤ 300 ∧ l[j].f2.size ≤ 100 := by
  intro d
  induction d with
  | zero => intro i k hi _ j hj hij; omega
  | succ d ih =>
    intro i k hi hk j hj hij
    cases k with
    | zero => exact absurd hk (by simp [scriniumlaw19_long.l0])
    | succ k =>
      unfold scriniumlaw19_long.l0 at hk
      rw [if_pos (by omega), if_pos (by omega), if_pos (by omega)] at hk
      have e : wrap64 ((i : Int) + 1) = ((i + 1 : Nat) : Int) := by unfold wrap64; omega
      have hr : rd_T29 l (i : Int) = l[i]'(by omega) := by
        unfold rd_T29
        rw [Int.toNat_natCast, List.getD_eq_getElem?_getD, List.getElem?_eq_getElem (by omega)]
        rfl
      rw [hr, e] at hk
      by_cases h1 : ((l[i]'(by omega)).f3.length : Int) > 300
      · rw [if_pos h1] at hk; cases hk
      · rw [if_neg h1] at hk
        by_cases h2 : ((l[i]'(by omega)).f2.size : Int) > 100
        · rw [if_pos h2] at hk; cases hk
        · rw [if_neg h2] at hk
          rcases Nat.eq_or_lt_of_le hij with rfl | hlt
          · exact ⟨by omega, by omega⟩
          · exact ih (i + 1) k (by omega) hk j hj (by omega)
theorem long_is2 (l : List S29) (h : scriniumlaw19_long.f 100 l = some false) : ∀ z ∈ l, z.f3.length ≤ 300 ∧ z.f2.size ≤ 100 := by
  unfold scriniumlaw19_long.f at h
  by_cases hl : (l.length : Int) > 60
  · rw [if_pos hl] at h; cases h
  · rw [if_neg hl] at h
    intro z hz
    obtain ⟨j, hj, rfl⟩ := List.getElem_of_mem hz
    exact long_loop2 l (by omega) l.length 0 100 (by omega) h j hj (Nat.zero_le _)
theorem bset' {n : Nat} {w W : World} (h : Below n w W) {g : Nat} (hg : n ≤ g) (i : Nat) (u : Value) : Below n w (W.setCell ⟨g, i, none⟩ u) := h.setCell (p := ⟨g, i, none⟩) hg u
theorem R_turn {α : Type} {d : Kd α} {e : Nat} {W W' : World} {base b : Nat} {ok : Nat → Prop} {v : Value} {xs : List α} (h : d.R e W base ok v xs) (hE : d.E = []) (hg : W.grownBy W' (some b)) (hb : b < base) : d.R e W' base ok v xs :=
  Kd.R_grown2 h hE hg (fun k hk e => by
    injection hk with hk
    have := Kd.R_base h k e.symm
    omega)
structure Rs (W : World) (base : Nat) (v vn : Value) (bd : List Int) (ns : List ByteArray) : Prop where
  b : Bs.R 5 W base (fun _ => True) v bd
  n : Kd.string.R 9 W base (fun _ => True) vn ns
theorem Rs.below {W W' : World} {base : Nat} {v vn : Value} {bd : List Int} {ns : List ByteArray} (h : Rs W base v vn bd ns) (hb : Below W.heap.size W W') : Rs W' base v vn bd ns := ⟨Kd.R_below h.b hb, Kd.R_below h.n hb⟩
theorem Rs.turn {W W' : World} {base k : Nat} {v vn : Value} {bd : List Int} {ns : List ByteArray} (h : Rs W base v vn bd ns) (hg : W.grownBy W' (some k)) (hb : k < base) : Rs W' base v vn bd ns := ⟨R_turn h.b rfl hg hb, R_turn h.n rfl hg hb⟩
theorem Rf.more {S : List Nat} {W W' : World} {x : Nat} {q : Int} {L : List Ent} (h : Rf S W x q L) (hb : Below W.heap.size W W') (hl : W.heap.size < W'.heap.size) : Rf (W.heap.size :: S) W' x q L :=
  (h.kept hb).wider (n := W.heap.size) (fun s hs => by
    rcases List.mem_cons.1 hs with rfl | hs
    · exact .inl (Nat.le_refl _)
    · exact .inr hs) (List.mem_cons_of_mem _ h.mem) (fun s hs => by
    rcases List.mem_cons.1 hs with rfl | hs
    · exact hl
    · exact Nat.lt_of_lt_of_le (h.lt s hs) hb.size) h hb rfl
structure Sx (w W : World) (g b g2 b2 x o9 o10 base : Nat) (q : Int) (S : List Nat) (LB LY LR : List Ent) (c9 c10 : Array Value) (v8 : Value) (t : List Int) : Prop where
  hb : Bl W g b q LB
  hy : Bl W g2 b2 q LY
  hr : Rf S W x q LR
  k9 : W.heap[o9]? = some (.cells c9 29 (0, 0))
  k10 : W.heap[o10]? = some (.cells c10 29 (0, 0))
  bw : Below w.heap.size w W
  r8 : Bs.R 5 W base (fun _ => True) v8 t
structure Ne (w : World) (b b2 x o9 o10 base : Nat) (S : List Nat) : Prop where
  bS : b ∈ S
  xb : x ≠ b
  bb : b ≠ b2
  b9 : o9 ≠ b
  b10 : o10 ≠ b
  x9 : o9 ≠ x
  x10 : o10 ≠ x
  bw : w.heap.size ≤ b
  xw : w.heap.size ≤ x
  bt : b < base
  xt : x < base
theorem Ne.more {w : World} {b b2 x o9 o10 base : Nat} {S : List Nat} (h : Ne w b b2 x o9 o10 base S) (p : Nat) : Ne w b b2 x o9 o10 base (p :: S) := ⟨List.mem_cons_of_mem _ h.bS, h.xb, h.bb, h.b9, h.b10, h.x9, h.x10, h.bw, h.xw, h.bt, h.xt⟩
theorem Bl.notcells {W : World} {g b p : Nat} {q : Int} {L : List Ent} {cs : Array Value} {t : TypeId} {fr : Nat × Nat} (h : Bl W g b q L) (hp : W.heap[p]? = some (.cells cs t fr)) : p ≠ b := by
  obtain ⟨es, cl, hm⟩ := own_blk h.map
  rintro rfl
  rw [hp] at hm
  cases hm
theorem region_via {P : Program} {c : Code} {Q : Exit → Act → World → Prop} {a : Act} {W : World} (T : Act → Act → World → Prop) (h1 : c.wp P (fun e a' W' => e = .normal ∧ T a a' W') a W) (h2 : ∀ a' W', T a a' W' → Q .normal a' W') : c.wp P Q a W :=
  Code.wp_mono (fun e a' w' h => by obtain ⟨rfl, h⟩ := h; exact h2 a' w' h) h1
abbrev f4 (W : World) (p : Nat) (a b c d : Value) : World := (((W.setCell ⟨p, 0, none⟩ a).setCell ⟨p, 1, none⟩ b).setCell ⟨p, 2, none⟩ c).setCell ⟨p, 3, none⟩ d
theorem Rs.set4 {W : World} {base p : Nat} {r0 r1 r2 r3 v vn : Value} {bd : List Int} {ns : List ByteArray} (h : Rs W base v vn bd ns) (hp : W.heap[p]? = some (.cells #[r0, r1, r2, r3] 32 (0, 0))) (a b c d : Value) : Rs (f4 W p a b c d) base v vn bd ns :=
  ⟨(set4_R hp a b c d).1 _ _ h.b, (set4_R hp a b c d).2 _ _ h.n⟩
section
variable {w W W' : World} {g b g2 b2 x o9 o10 base : Nat} {q : Int} {S : List Nat} {LB LY LR : List Ent} {c9 c10 : Array Value} {v8 : Value} {t : List Int}
theorem Sx.more (h : Sx w W g b g2 b2 x o9 o10 base q S LB LY LR c9 c10 v8 t) (o : Obj) : Sx w (W.alloc o) g b g2 b2 x o9 o10 base q (W.heap.size :: S) LB LY LR c9 c10 v8 t := by
  have hb := below_alloc (Below.refl W.heap.size W) o
  exact ⟨Bl.kept h.hb hb, Bl.kept h.hy hb, h.hr.more hb (by simp), blk_below h.k9 hb, blk_below h.k10 hb, h.bw.trans (hb.mono h.bw.size), Kd.R_below h.r8 hb⟩
theorem Sx.below (h : Sx w W g b g2 b2 x o9 o10 base q S LB LY LR c9 c10 v8 t) (hb : Below W.heap.size W W') : Sx w W' g b g2 b2 x o9 o10 base q S LB LY LR c9 c10 v8 t :=
  ⟨Bl.kept h.hb hb, Bl.kept h.hy hb, h.hr.kept hb, blk_below h.k9 hb, blk_below h.k10 hb, h.bw.trans (hb.mono h.bw.size), Kd.R_below h.r8 hb⟩
theorem Sx.turn {L' : List Ent} (h : Sx w W g b g2 b2 x o9 o10 base q S LB LY LR c9 c10 v8 t) (n : Ne w b b2 x o9 o10 base S) (hB : Bl W' g b q L') (hg : W.grownBy W' (some b)) : Sx w W' g b g2 b2 x o9 o10 base q S L' LY LR c9 c10 v8 t := by
  obtain ⟨es, cl, hm⟩ := own_blk h.hb.map
  exact ⟨hB, h.hy.far hm hg (Ne.symm n.bb), h.hr.grown hg n.bS n.xb, blk_grown h.k9 hg (by simpa using n.b9), blk_grown h.k10 hg (by simpa using n.b10), h.bw.grown hg h.bw.size (fun j hj => by cases hj; exact n.bw), R_turn h.r8 rfl hg n.bt⟩
theorem Sx.turnX {L' : List Ent} (h : Sx w W g b g2 b2 x o9 o10 base q S LB LY LR c9 c10 v8 t) (n : Ne w b b2 x o9 o10 base S) (hR : Rf S W' x q L') (hg : W.grownBy W' (some x)) : Sx w W' g b g2 b2 x o9 o10 base q S LB LY L' c9 c10 v8 t := by
  obtain ⟨_, _, hx, _⟩ := h.hr.ex
  exact ⟨h.hb.farX hx hg, h.hy.farX hx hg, hR, blk_grown h.k9 hg (by simpa using n.x9), blk_grown h.k10 hg (by simpa using n.x10), h.bw.grown hg h.bw.size (fun j hj => by cases hj; exact n.xw), R_turn h.r8 rfl hg n.xt⟩
theorem Sx.set {p : Nat} {cs : Array Value} (h : Sx w W g b g2 b2 x o9 o10 base q S LB LY LR c9 c10 v8 t) (hp : W.heap[p]? = some (.cells cs 32 (0, 0))) (hpS : p ∈ S) (hpx : x ≠ p) (hpw : w.heap.size ≤ p) (i : Nat) (u : Value) : Sx w (W.setCell ⟨p, i, none⟩ u) g b g2 b2 x o9 o10 base q S LB LY LR c9 c10 v8 t := by
  have hne : ∀ {o : Nat} {c : Array Value}, W.heap[o]? = some (.cells c 29 (0, 0)) → o ≠ p := by
    rintro o c h1 rfl
    rw [hp] at h1
    injection h1 with h1
    injection h1 with _ h1
    exact absurd h1 (by decide)
  exact ⟨h.hb.set hp (by decide) (by decide) i u, h.hy.set hp (by decide) (by decide) i u, h.hr.setS hpS hpx i u, blk_far h.k9 (hne h.k9) u, blk_far h.k10 (hne h.k10) u, h.bw.setCell hpw u, Kd.R_set h.r8 hp (by decide) i u⟩
theorem Sx.set4 {p : Nat} {r0 r1 r2 r3 : Value} (h : Sx w W g b g2 b2 x o9 o10 base q S LB LY LR c9 c10 v8 t) (hp : W.heap[p]? = some (.cells #[r0, r1, r2, r3] 32 (0, 0))) (hpS : p ∈ S) (hpx : x < p ∧ w.heap.size ≤ p) (a' b' c' d' : Value) : Sx w (f4 W p a' b' c' d') g b g2 b2 x o9 o10 base q S LB LY LR c9 c10 v8 t :=
  (((h.set hp hpS (Nat.ne_of_lt hpx.1) hpx.2 0 a').set (blk_put hp 0 _ rfl) hpS (Nat.ne_of_lt hpx.1) hpx.2 1 b').set (blk_put (blk_put hp 0 _ rfl) 1 _ rfl) hpS (Nat.ne_of_lt hpx.1) hpx.2 2 c').set (blk_put (blk_put (blk_put hp 0 _ rfl) 1 _ rfl) 2 _ rfl) hpS (Nat.ne_of_lt hpx.1) hpx.2 3 d'
end
theorem ref_sum {L1 L2 : List Ent} (h : refL L1 = refL L2) : sumE L1 = sumE L2 := by
  have e : ∀ L : List Ent, sumE L = ((refL L).map fun x => x.f0.size + x.f1.length).sum := by
    intro L
    unfold sumE refL
    rw [List.map_map]
    rfl
  rw [e, e, h]
theorem ref_off (k : ByteArray) (L : List Ent) : refL (offE k L) = (refL L).filter fun x => !decide (x.f0 = k) := by
  unfold refL offE
  rw [List.filter_map]
  rfl
theorem ref_off2 {L1 L2 : List Ent} (h : refL L1 = refL L2) (k : ByteArray) : refL (offE k L1) = refL (offE k L2) := by rw [ref_off, ref_off, h]
theorem ref_find (k : ByteArray) (L : List Ent) : (findE k L).map (·.2.2) = ((refL L).find? fun x => decide (x.f0 = k)).map (·.f1) := by
  unfold refL findE
  rw [List.find?_map, Option.map_map]
  rfl
theorem ref_find2 {L1 L2 : List Ent} (h : refL L1 = refL L2) (k : ByteArray) : (findE k L1).map (·.2.2) = (findE k L2).map (·.2.2) := by rw [ref_find, ref_find, h]
theorem ref_some {L1 L2 : List Ent} (h : refL L1 = refL L2) (k : ByteArray) : (findE k L1).isSome = (findE k L2).isSome := by
  have := congrArg Option.isSome (ref_find2 h k)
  rw [Option.isSome_map, Option.isSome_map] at this
  exact this
theorem ref_nms {L1 L2 : List Ent} (h : refL L1 = refL L2) (k : ByteArray) : nmsE k L1 = nmsE k L2 := by
  have e : ∀ L : List Ent, L.map (·.1) = (refL L).map (·.f0) := by
    intro L
    unfold refL
    rw [List.map_map]
    rfl
  unfold nmsE
  rw [e, e, h]
theorem DoR.same {q : Int} {L1 L2 M1 M2 : List Ent} {kind num n1 n2 c1 c2 : Int} {k : ByteArray} {t b1 b2 : List Int} {s1 s2 : List ByteArray} (h : refL L1 = refL L2) (d1 : DoR q L1 kind num k t M1 n1 c1 b1 s1) (d2 : DoR q L2 kind num k t M2 n2 c2 b2 s2) : n1 = n2 ∧ c1 = c2 ∧ b1 = b2 ∧ s1 = s2 ∧ refL M1 = refL M2 := by
  have hs := ref_sum (ref_off2 h k)
  have hi := ref_some h k
  have hf := ref_find2 h k
  have hn := ref_nms h k
  have ho := ref_off2 h k
  rcases d1 with ⟨k1, rfl, rfl, rfl, rfl, rfl⟩ | ⟨k1, rfl, e1⟩
  · rcases d2 with ⟨k2, rfl, rfl, rfl, rfl, rfl⟩ | ⟨k2, _⟩
    · exact ⟨rfl, rfl, rfl, rfl, h⟩
    · rw [k1] at k2; cases k2
  · rcases d2 with ⟨k2, _⟩ | ⟨_, rfl, e2⟩
    · rw [k1] at k2; cases k2
    · rcases e1 with ⟨rfl, rfl, rfl, f1⟩ | ⟨rfl, rfl, rfl, rfl, rfl⟩ | ⟨rfl, rfl, rfl, rfl, rfl⟩ | ⟨rfl, rfl, rfl, rfl, rfl⟩
      · rcases e2 with ⟨_, rfl, rfl, f2⟩ | ⟨x, _⟩ | ⟨x, _⟩ | ⟨x, _⟩
        · rcases f1 with ⟨a1, rfl, rfl⟩ | ⟨a1, rfl, A1, z1, rfl⟩
          · rcases f2 with ⟨a2, rfl, rfl⟩ | ⟨a2, rfl, A2, z2, rfl⟩
            · exact ⟨rfl, rfl, rfl, rfl, h⟩
            · omega
          · rcases f2 with ⟨a2, rfl, rfl⟩ | ⟨a2, rfl, A2, z2, rfl⟩
            · omega
            · refine ⟨rfl, rfl, rfl, rfl, ?_⟩
              unfold putE
              rw [ins_ref, ins_ref, ho]
        · exact absurd x (by decide)
        · exact absurd x (by decide)
        · exact absurd x (by decide)
      · rcases e2 with ⟨x, _⟩ | ⟨_, rfl, rfl, rfl, rfl⟩ | ⟨x, _⟩ | ⟨x, _⟩
        · exact absurd x (by decide)
        · exact ⟨rfl, by rw [hi], by rw [hf], rfl, h⟩
        · exact absurd x (by decide)
        · exact absurd x (by decide)
      · rcases e2 with ⟨x, _⟩ | ⟨x, _⟩ | ⟨_, rfl, rfl, rfl, rfl⟩ | ⟨x, _⟩
        · exact absurd x (by decide)
        · exact absurd x (by decide)
        · exact ⟨rfl, rfl, rfl, hn, h⟩
        · exact absurd x (by decide)
      · rcases e2 with ⟨x, _⟩ | ⟨x, _⟩ | ⟨x, _⟩ | ⟨_, rfl, rfl, rfl, rfl⟩
        · exact absurd x (by decide)
        · exact absurd x (by decide)
        · exact absurd x (by decide)
        · exact ⟨rfl, by rw [hi], rfl, rfl, ho⟩
theorem Sx.turnY {w W W' : World} {g b g2 b2 x o9 o10 base : Nat} {q : Int} {S : List Nat} {LB LY LR L' : List Ent} {c9 c10 : Array Value} {v8 : Value} {t : List Int} (h : Sx w W g b g2 b2 x o9 o10 base q S LB LY LR c9 c10 v8 t) (hbS : b2 ∈ S) (hxb : x ≠ b2) (hbb : b ≠ b2) (hbw : w.heap.size ≤ b2) (hbt : b2 < base) (hB : Bl W' g2 b2 q L') (hg : W.grownBy W' (some b2)) : Sx w W' g b g2 b2 x o9 o10 base q S LB L' LR c9 c10 v8 t := by
  obtain ⟨es, cl, hm⟩ := own_blk h.hy.map
  exact ⟨h.hb.far hm hg hbb, hB, h.hr.grown hg hbS hxb, blk_grown h.k9 hg (by simpa using h.hy.notcells h.k9), blk_grown h.k10 hg (by simpa using h.hy.notcells h.k10), h.bw.grown hg h.bw.size (fun j hj => by cases hj; exact hbw), R_turn h.r8 rfl hg hbt⟩
set_option maxRecDepth 20000 in
set_option maxHeartbeats 8000000 in
theorem BlobAsks_walk (q0 q : Int) (hq0 : (if q0 < 0 then 0 else q0) = q) (hq : 0 ≤ q ∧ q ≤ 9223372036854775807) (A : Option Addr) (cap : Nat) (l : List S29) (w : World) (hc : l.length ≤ cap) (hC : Kd.C k29 w A l.length l) (hwf : ∀ z ∈ l, AskWf z) :
    Calls Try.prog 6 #[.int .i64 q0, .slice A l.length cap] w fun e w' => e = .returned (.bool true) ∧ Below w.heap.size w w' := by
  have HC2 := Aside0.mk hC
  clear hC
  obtain ⟨lr, hlr, hlr2⟩ := long_is l
  have HLR := Aside0.mk hlr
  go_enter Try.func6, Try.ntmps6
  go_wp2_with fail
  refine (wakes_calls w).mono ?_
  rintro e w1 ⟨rfl, hb1⟩
  have B1 := Aside0.mk hb1
  clear hb1
  go_wp2_with fail
  refine (scriniumlaw19_long.calls 100 A cap l lr w1 (Kd.C_below HC2.out B1.out) hc hlr).mono ?_
  rintro e w2 ⟨rfl, hd2⟩
  have B2 := Aside0.mk (B1.out.trans (Drawn0.below hd2 |>.mono B1.out.size))
  clear hd2 hlr
  cases lr with
  | true =>
    go_wp2_with fail
    go_ret
    exact ⟨rfl, B2.out⟩
  | false =>
    have hl60 := hlr2 rfl
    have HLG := Aside0.mk (long_is2 l HLR.out)
    clear hlr2
    go_wp2_with fail
    refine (New_calls q0 w2).mono ?_
    rintro e w3 ⟨g, b, rfl, hB, hg, hbb, hb3⟩
    rw [hq0] at hB
    have B3 := Aside0.mk (B2.out.trans (hb3.mono B2.out.size))
    have HB3 := Aside0.mk hB
    have hbw : w.heap.size ≤ b := Nat.le_trans B2.out.size hbb
    have hb3l := hB.lt.2
    clear hB hb3 hg hbb
    go_wp2_with fail
    refine (RNew_calls q0 w3).mono ?_
    rintro e w4 ⟨x, rfl, hx, ⟨Ax, cx, hxb⟩, hb4⟩
    rw [hq0] at hxb
    have B4 := Aside0.mk (B3.out.trans (hb4.mono B3.out.size))
    have HB4 := Aside0.mk (Bl.kept HB3.out hb4)
    have HX4 := Aside0.mk hxb
    have hx4l := blk_lt hxb
    have hb4s := hb4.size
    clear hxb hb4
    go_wp2_with fail
    refine (New_calls q0 w4).mono ?_
    rintro e w5 ⟨g2, b2, rfl, hB2, hg2, hbb2, hb5⟩
    rw [hq0] at hB2
    have B5 := Aside0.mk (B4.out.trans (hb5.mono B4.out.size))
    have HB5 := Aside0.mk (Bl.kept HB4.out hb5)
    have HY5 := Aside0.mk hB2
    have hy5l := hB2.lt.2
    have hb5s := hb5.size
    have hS : ∀ s ∈ [b, b2, x], s < w5.heap.size := by
      intro s hs
      simp only [List.mem_cons, List.not_mem_nil, or_false] at hs
      rcases hs with rfl | rfl | rfl <;> omega
    have RX5 := Aside0.mk (Rf.start (S := [b, b2, x]) (blk_below HX4.out hb5) (by simp) hS)
    have h3w := B3.out.size
    have hxw : w.heap.size ≤ x := by omega
    have hb2w : w.heap.size ≤ b2 := by omega
    have hxbn : x ≠ b := by omega
    have hxb2 : x ≠ b2 := by omega
    have hbb2n : b ≠ b2 := by omega
    clear hB2 hb5 hS HB3 HB4 HX4 B3 B4 h3w hb3l hx4l hb4s hy5l hb5s hx hg2 hbb2
    go_wp2_with fail
    go_loopg [33] l.length (fun kq v33 w' => ∃ (i : Nat) (L LY : List Ent), v33 = .int .i64 i ∧ i ≤ l.length ∧ L.length ≤ i ∧ Aside0 (kq + i = l.length) ∧ Aside0 (refL LY = refL L) ∧ Aside0 (∀ y ∈ L, y.2.2.length ≤ 60000 ∧ Sb.Bytes y.2.2) ∧ Aside0 (Bl w' g b q L) ∧ Aside0 (Bl w' g2 b2 q LY) ∧ Aside0 (Rf [b, b2, x] w' x q L) ∧ Aside0 (Below w.heap.size w w'))
    case atStart => exact ⟨0, [], [], rfl, Nat.zero_le _, Nat.le_refl _, ⟨rfl⟩, ⟨rfl⟩, ⟨fun y hy => absurd hy List.not_mem_nil⟩, HB5, HY5, RX5, B5⟩
    case round =>
      obtain ⟨i, L, LY, rfl, hi, hLi, HK, HLY, HE, HBL, HYL, HRX, HB⟩ := hrel
      clear HB5 HY5 RX5 B5
      by_cases hlt : i < l.length
      · have hci : (i : Int) < (l.length : Int) := by omega
        have HWA := Aside0.mk (hwf (rd_T29 l i) (by
          unfold rd_T29
          rw [Int.toNat_natCast, List.getD_eq_getElem?_getD, List.getElem?_eq_getElem hlt]
          exact List.getElem_mem hlt)).2.2.2
        have HBD := Aside0.mk (HLG.out (rd_T29 l i) (by
          unfold rd_T29
          rw [Int.toNat_natCast, List.getD_eq_getElem?_getD, List.getElem?_eq_getElem hlt]
          exact List.getElem_mem hlt))
        obtain ⟨ad, A9, c9, e9, hw0, hw1, hw2, hw3, hl9, hi9⟩ := at_T29 HC2.out i (Int.natCast_nonneg _) hci
        cases e9
        rw [Int.toNat_natCast] at hw0 hw1 hw2 hw3
        have hx0 := hp_cell (Nat.le_refl _) HB.out hw0
        have hx1 := hp_cell (Nat.le_refl _) HB.out hw1
        have hx2 := hp_cell (Nat.le_refl _) HB.out hw2
        have hx3 := hp_cell (Nat.le_refl _) HB.out hw3
        clear hw0 hw1 hw2 hw3
        generalize rd_T29 l i = a at hx0 hx1 hx2 hx3 hl9 hi9 HWA HBD
        have HI9 := Aside0.mk hi9
        have HL9 := Aside0.mk hl9
        clear hi9 hl9
        have HA3 := Aside0.mk HBD.out.1
        have hL : L.length ≤ 100000 := by omega
        have HOE := Aside0.mk (show (Kd.int .u8).R 5 ((((wr.alloc (.cells #[.int .i64 a.f0, .int .i64 a.f1, .string a.f2, .slice A9 a.f3.length c9] 29)).alloc (.cells #[.int .i64 a.f0, .int .i64 a.f1, .string a.f2, .slice A9 a.f3.length c9] 29))).alloc (.cells #[] 5)) (((wr.alloc (.cells #[.int .i64 a.f0, .int .i64 a.f1, .string a.f2, .slice A9 a.f3.length c9] 29)).alloc (.cells #[.int .i64 a.f0, .int .i64 a.f1, .string a.f2, .slice A9 a.f3.length c9] 29))).heap.size (fun _ => True) (.slice (some ⟨wr.heap.size + 1 + 1, 0, none⟩) 0 0) [] from by
          have h : (Kd.int .u8).R 5 ((((wr.alloc (.cells #[.int .i64 a.f0, .int .i64 a.f1, .string a.f2, .slice A9 a.f3.length c9] 29)).alloc (.cells #[.int .i64 a.f0, .int .i64 a.f1, .string a.f2, .slice A9 a.f3.length c9] 29))).alloc (.cells #[] 5)) (((wr.alloc (.cells #[.int .i64 a.f0, .int .i64 a.f1, .string a.f2, .slice A9 a.f3.length c9] 29)).alloc (.cells #[.int .i64 a.f0, .int .i64 a.f1, .string a.f2, .slice A9 a.f3.length c9] 29))).heap.size (fun _ => True) (.slice (some ⟨(((wr.alloc (.cells #[.int .i64 a.f0, .int .i64 a.f1, .string a.f2, .slice A9 a.f3.length c9] 29)).alloc (.cells #[.int .i64 a.f0, .int .i64 a.f1, .string a.f2, .slice A9 a.f3.length c9] 29))).heap.size, 0, none⟩) 0 0) [] := Kd.R_of_own (World.ownsRow_made _ #[] 0 (Nat.le_refl _) (Nat.zero_le _) rfl) (fun _ _ => trivial)
          have e2 : (((wr.alloc (.cells #[.int .i64 a.f0, .int .i64 a.f1, .string a.f2, .slice A9 a.f3.length c9] 29)).alloc (.cells #[.int .i64 a.f0, .int .i64 a.f1, .string a.f2, .slice A9 a.f3.length c9] 29))).heap.size = wr.heap.size + 1 + 1 := by simp
          have h2 : (Value.slice (some ⟨(((wr.alloc (.cells #[.int .i64 a.f0, .int .i64 a.f1, .string a.f2, .slice A9 a.f3.length c9] 29)).alloc (.cells #[.int .i64 a.f0, .int .i64 a.f1, .string a.f2, .slice A9 a.f3.length c9] 29))).heap.size, 0, none⟩) 0 0) = .slice (some ⟨wr.heap.size + 1 + 1, 0, none⟩) 0 0 := by rw [e2]
          rw [h2] at h
          exact h)
        have KA9 := Aside0.mk (blk_alloc (blk_new wr (.cells #[.int .i64 a.f0, .int .i64 a.f1, .string a.f2, .slice A9 a.f3.length c9] 29)) (.cells #[.int .i64 a.f0, .int .i64 a.f1, .string a.f2, .slice A9 a.f3.length c9] 29))
        have hws : (wr.alloc (.cells #[.int .i64 a.f0, .int .i64 a.f1, .string a.f2, .slice A9 a.f3.length c9] 29)).heap.size = wr.heap.size + 1 := by simp
        have KA10 := Aside0.mk (blk_new (wr.alloc (.cells #[.int .i64 a.f0, .int .i64 a.f1, .string a.f2, .slice A9 a.f3.length c9] 29)) (.cells #[.int .i64 a.f0, .int .i64 a.f1, .string a.f2, .slice A9 a.f3.length c9] 29))
        have HRA := Aside0.mk (Rf.more (Rf.kept HRX.out (below_alloc (Below.refl wr.heap.size wr) (.cells #[.int .i64 a.f0, .int .i64 a.f1, .string a.f2, .slice A9 a.f3.length c9] 29))) (below_alloc (Below.refl (wr.alloc (.cells #[.int .i64 a.f0, .int .i64 a.f1, .string a.f2, .slice A9 a.f3.length c9] 29)).heap.size (wr.alloc (.cells #[.int .i64 a.f0, .int .i64 a.f1, .string a.f2, .slice A9 a.f3.length c9] 29))) (.cells #[.int .i64 a.f0, .int .i64 a.f1, .string a.f2, .slice A9 a.f3.length c9] 29)) (by simp))
        rw [hws] at KA10 HRA
        have bw2 := Aside0.mk (below_alloc (below_alloc (Below.refl wr.heap.size wr) (.cells #[.int .i64 a.f0, .int .i64 a.f1, .string a.f2, .slice A9 a.f3.length c9] 29)) (.cells #[.int .i64 a.f0, .int .i64 a.f1, .string a.f2, .slice A9 a.f3.length c9] 29))
        clear hws
        go_wp2_with (first | ((with_reducible refine gate_builtin (b := .append) (xs := #[.tmp 38, .tmp 40]) rfl ?_); at_builtin; refine Kd.R_append_row (Value.int .u8) (0 : Int) (h1 := fun _ => rfl) (w0 := ((wr.alloc (.cells #[.int .i64 a.f0, .int .i64 a.f1, .string a.f2, .slice A9 a.f3.length c9] 29)).alloc (.cells #[.int .i64 a.f0, .int .i64 a.f1, .string a.f2, .slice A9 a.f3.length c9] 29))) (((wr.alloc (.cells #[.int .i64 a.f0, .int .i64 a.f1, .string a.f2, .slice A9 a.f3.length c9] 29)).alloc (.cells #[.int .i64 a.f0, .int .i64 a.f1, .string a.f2, .slice A9 a.f3.length c9] 29))).heap.size rfl (.tmp 38) (.tmp 40) 27 5 (.int .u8 0) 1 rfl Try.underlying27 info5 rfl (by omega) _ ([] : List Int) a.f3 A9 a.f3.length c9 (fun _ => True) rfl rfl (fun _ _ => trivial) ?aO ?aR ?aB ?aS ?aL ?_; (case aO => exact HOE.out); (case aR => exact Kd.C_alloc (Kd.C_alloc (Kd.C_alloc (Kd.C_below HI9.out HB.out) _) _) _); (case aB => exact below_alloc (Below.refl _ _) _); (case aS => simp); (case aL => have := HA3.out; simp; omega); intro v1 w3 ho hb hg hat; simp only [List.nil_append] at ho; obtain ⟨A8, c8, rfl, hc8, _⟩ := Kd.R_reads ho; have HO8 := Aside0.mk ho; have HL8 := Aside0.mk hc8; have B3 := Aside0.mk hb; have K9 := Aside0.mk (blk_below KA9.out hb); have K10 := Aside0.mk (blk_below KA10.out hb); have HR3 := Aside0.mk (Rf.kept HRA.out hb); clear ho hb hg hat hc8; have f0 : (w3).cell? ⟨wr.heap.size + 1, 0, none⟩ = some (.int .i64 a.f0) := (blk_cell (K10.out) 0).trans rfl; have f1 : (w3).cell? ⟨wr.heap.size + 1, 1, none⟩ = some (.int .i64 a.f1) := (blk_cell (K10.out) 1).trans rfl; have f2 : (w3).cell? ⟨wr.heap.size + 1, 2, none⟩ = some (.string a.f2) := (blk_cell (K10.out) 2).trans rfl; have f3 : (w3).cell? ⟨wr.heap.size + 1, 3, none⟩ = some (.slice A9 a.f3.length c9) := (blk_cell (K10.out) 3).trans rfl; have fz0 := blk_frozen K10.out 0; have fz1 := blk_frozen K10.out 1; have fz2 := blk_frozen K10.out 2; have fz3 := blk_frozen K10.out 3) | fail)
        all_goals
          have bw3 := Aside0.mk (bw2.out.trans (B3.out.mono bw2.out.size))
          have hwr := HB.out.size
          have hbl := HBL.out.lt.2
          have hb2l := HYL.out.lt.2
          have hxl := HRX.out.xlt
          have R8 := Aside0.mk (Kd.R_lower HO8.out bw2.out.size)
          have SX := Aside0.mk (show Sx w (w3.setCell ⟨wr.heap.size + 1, 3, none⟩ (.slice A8 a.f3.length c8)) g b g2 b2 x wr.heap.size (wr.heap.size + 1) wr.heap.size q [wr.heap.size + 1, b, b2, x] L LY L #[.int .i64 a.f0, .int .i64 a.f1, .string a.f2, .slice A9 a.f3.length c9] #[.int .i64 a.f0, .int .i64 a.f1, .string a.f2, .slice A8 a.f3.length c8] (.slice A8 a.f3.length c8) a.f3 from
            ⟨Bl.set (Bl.kept HBL.out bw3.out) K10.out (by decide) (by decide) 3 _, Bl.set (Bl.kept HYL.out bw3.out) K10.out (by decide) (by decide) 3 _, HR3.out.setS (by simp) (by omega) 3 _, blk_far K9.out (by show wr.heap.size ≠ wr.heap.size + 1; omega) _, blk_put K10.out 3 _ rfl, bset' (HB.out.trans (bw3.out.mono HB.out.size)) (by omega) 3 _, Kd.R_set R8.out K10.out (by decide) 3 _⟩)
          have NX := Aside0.mk (show Ne w b b2 x wr.heap.size (wr.heap.size + 1) wr.heap.size [wr.heap.size + 1, b, b2, x] from ⟨by simp, hxbn, hbb2n, by omega, by omega, by omega, by omega, hbw, hxw, hbl, hxl⟩)
          have hsmL := Aside0.mk HBL.out.small
          clear HO8 R8 K9 K10 HR3 HRA KA9 KA10 bw2 bw3 B3 HBL HYL HRX HB f0 f1 f2 f3 fz0 fz1 fz2 fz3 hx0 hx1 hx2 hx3 HOE
          generalize w3.setCell ⟨wr.heap.size + 1, 3, none⟩ (.slice A8 a.f3.length c8) = W4 at SX ⊢
          obtain ⟨base, hbase⟩ : ∃ n, n = wr.heap.size := ⟨_, rfl⟩
          obtain ⟨o9, ho9⟩ : ∃ n, n = wr.heap.size := ⟨_, rfl⟩
          obtain ⟨o10, ho10⟩ : ∃ n, n = wr.heap.size + 1 := ⟨_, rfl⟩
          have SX0 := SX.out
          have NX0 := NX.out
          have SX1 : Sx w W4 g b g2 b2 x o9 o10 base q [o10, b, b2, x] L LY L #[.int .i64 a.f0, .int .i64 a.f1, .string a.f2, .slice A9 a.f3.length c9] #[.int .i64 a.f0, .int .i64 a.f1, .string a.f2, .slice A8 a.f3.length c8] (.slice A8 a.f3.length c8) a.f3 := by rw [ho9, ho10, hbase]; exact SX0
          have NX1 : Ne w b b2 x o9 o10 base [o10, b, b2, x] := by rw [ho9, ho10, hbase]; exact NX0
          rw [← ho10, ← ho9]
          clear SX NX SX0 NX0
          have SX := Aside0.mk SX1
          have NX := Aside0.mk NX1
          have hb2t : b2 < base := by rw [hbase]; exact hb2l
          clear SX1 NX1 ho9 ho10 hbase hwr hbl hb2l hxl
          refine region_via (fun a0 a' W' => ∃ (p6 p7 : Nat) (S' : List Nat) (nm code : Int) (bd : List Int) (ns : List ByteArray) (L' : List Ent) (A1 : Option Addr) (c1 : Nat) (A2 : Option Addr) (c2 : Nat) (A3 : Option Addr) (c3 : Nat) (A4 : Option Addr) (c4 : Nat) (b1 b3 : Nat),
            Sx w W' g b g2 b2 x o9 o10 base q S' L' LY L' #[.int .i64 a.f0, .int .i64 a.f1, .string a.f2, .slice A9 a.f3.length c9] #[.int .i64 a.f0, .int .i64 a.f1, .string a.f2, .slice A8 a.f3.length c8] (.slice A8 a.f3.length c8) a.f3 ∧ Ne w b b2 x o9 o10 base S' ∧
            W'.heap[p6]? = some (.cells #[.int .i64 nm, .int .i64 code, .slice A1 bd.length c1, .slice A2 ns.length c2] 32 (0, 0)) ∧ W'.heap[p7]? = some (.cells #[.int .i64 nm, .int .i64 code, .slice A3 bd.length c3, .slice A4 ns.length c4] 32 (0, 0)) ∧
            Rs W' b1 (.slice A1 bd.length c1) (.slice A2 ns.length c2) bd ns ∧ Rs W' b3 (.slice A3 bd.length c3) (.slice A4 ns.length c4) bd ns ∧ (bd.length ≤ c1 ∧ ns.length ≤ c2) ∧ (bd.length ≤ c3 ∧ ns.length ≤ c4) ∧ DoR q L a.f0 a.f1 a.f2 a.f3 L' nm code bd ns ∧ p6 ≠ p7 ∧ (x < p6 ∧ w.heap.size ≤ p6) ∧ (x < p7 ∧ w.heap.size ≤ p7) ∧ (∀ z ∈ [o10, b, b2, x], z ∈ S') ∧
            a' = (((((((a0.put (some 43) (.pointer (some ⟨g, 0, none⟩))).put (some 46) (.pointer (some ⟨x, 0, none⟩))).put (some 44) (.agg #[.int .i64 a.f0, .int .i64 a.f1, .string a.f2, .slice A8 a.f3.length c8])).put (some 47) (.agg #[.int .i64 a.f0, .int .i64 a.f1, .string a.f2, .slice A9 a.f3.length c9])).put (some 45) (.agg #[.int .i64 nm, .int .i64 code, .slice A1 bd.length c1, .slice A2 ns.length c2])).put (some 48) (.agg #[.int .i64 nm, .int .i64 code, .slice A3 bd.length c3, .slice A4 ns.length c4])).put (some 11) (.pointer (some ⟨p6, 0, none⟩))).put (some 12) (.pointer (some ⟨p7, 0, none⟩))) ?_ ?_
          · refine wp_region_noPanic ?_
            refine wp_region_held_drew (S := fun W => W.heap[o9]? = some (.cells #[.int .i64 a.f0, .int .i64 a.f1, .string a.f2, .slice A9 a.f3.length c9] 29 (0, 0)) ∧ W.heap[o10]? = some (.cells #[.int .i64 a.f0, .int .i64 a.f1, .string a.f2, .slice A8 a.f3.length c8] 29 (0, 0))) (by kernel_rfl) (⟨SX.out.k9, SX.out.k10⟩) (fun hHeld => ?_)
            replace SX := Aside0.mk (SX.out.below (below_drew (Below.refl _ _)))
            generalize W4.drew = V0 at SX hHeld ⊢
            refine wpAnyH_take (i := 0) (oi := { dst := some 43, op := _, type := _, pos := _, after := _, guard := _ }) (v := ?_) rfl (by kernel_rfl) (by kernel_rfl) (by kernel_rfl) (fun _ _ _ h => h) (Or.inl ⟨by rfl, ?_⟩) hHeld ?_
            rotate_left
            · (intro w hSw; go_simp) <;> (with_reducible rfl)
            try simp only [Act.put, List.setIfInBounds_toArray, List.set_cons_zero, List.set_cons_succ]
            refine wpAnyH_take (i := 3) (oi := { dst := some 46, op := _, type := _, pos := _, after := _, guard := _ }) (v := ?_) rfl (by kernel_rfl) (by kernel_rfl) (by kernel_rfl) (fun _ _ _ h => h) (Or.inl ⟨by rfl, ?_⟩) hHeld ?_
            rotate_left
            · (intro w hSw; go_simp) <;> (with_reducible rfl)
            try simp only [Act.put, List.setIfInBounds_toArray, List.set_cons_zero, List.set_cons_succ]
            refine wpAnyH_take (i := 1) (oi := { dst := some 44, op := _, type := _, pos := _, after := _, guard := _ }) (v := ?_) rfl (by kernel_rfl) (by kernel_rfl) (by kernel_rfl) (fun _ _ _ h => h) (Or.inl ⟨by rfl, ?_⟩) hHeld ?_
            rotate_left
            · (intro w hSw; have h0 : w.cell? ⟨o10, 0, none⟩ = some (.int .i64 a.f0) := (blk_cell hSw.2 0).trans rfl; have h1 : w.cell? ⟨o10, 1, none⟩ = some (.int .i64 a.f1) := (blk_cell hSw.2 1).trans rfl; have h2 : w.cell? ⟨o10, 2, none⟩ = some (.string a.f2) := (blk_cell hSw.2 2).trans rfl; have h3 : w.cell? ⟨o10, 3, none⟩ = some (.slice A8 a.f3.length c8) := (blk_cell hSw.2 3).trans rfl; go_simp) <;> (with_reducible rfl)
            try simp only [Act.put, List.setIfInBounds_toArray, List.set_cons_zero, List.set_cons_succ]
            refine wpAnyH_take (i := 4) (oi := { dst := some 47, op := _, type := _, pos := _, after := _, guard := _ }) (v := ?_) rfl (by kernel_rfl) (by kernel_rfl) (by kernel_rfl) (fun _ _ _ h => h) (Or.inl ⟨by rfl, ?_⟩) hHeld ?_
            rotate_left
            · (intro w hSw; have h0 : w.cell? ⟨o9, 0, none⟩ = some (.int .i64 a.f0) := (blk_cell hSw.1 0).trans rfl; have h1 : w.cell? ⟨o9, 1, none⟩ = some (.int .i64 a.f1) := (blk_cell hSw.1 1).trans rfl; have h2 : w.cell? ⟨o9, 2, none⟩ = some (.string a.f2) := (blk_cell hSw.1 2).trans rfl; have h3 : w.cell? ⟨o9, 3, none⟩ = some (.slice A9 a.f3.length c9) := (blk_cell hSw.1 3).trans rfl; go_simp) <;> (with_reducible rfl)
            try simp only [Act.put, List.setIfInBounds_toArray, List.set_cons_zero, List.set_cons_succ]
            refine wpAnyH_ready (rs := [2, 6, 7]) (by kernel_rfl) (by simp) (AllReadyH.cons (o := { dst := some 45, op := _, type := _, pos := _, after := _, guard := _ }) rfl (fun K hK => ?_) (AllReadyH.cons (o := { dst := some 11, op := _, type := _, pos := _, after := _, guard := _ }) rfl (fun K hK => ?_) (AllReadyH.cons (o := { dst := some 12, op := _, type := _, pos := _, after := _, guard := _ }) rfl (fun K hK => ?_) (AllReadyH.nil))))
            · go_simp
              refine (Do_calls g b q L a.f0 a.f1 a.f2 A8 c8 a.f3 V0 SX.out.hb hL hq HL8.out (Kd.R_reads' SX.out.r8).2.2).mono ?_
              rintro e V1 ⟨vb, vn, nm, code, bd, ns, L', rfl, hvb, hvn, hB, hg, hD⟩
              obtain ⟨A1, c1, rfl, hc1, _⟩ := Kd.R_reads hvb
              obtain ⟨A2, c2, rfl, hc2, _⟩ := Kd.R_reads hvn
              refine hK.out _ _ (⟨blk_grown hHeld.1 hg (by simpa using NX.out.b9), blk_grown hHeld.2 hg (by simpa using NX.out.b10)⟩) (fun hHeld2 => ?_)
              clear hK K hHeld
              have hHeld := hHeld2
              clear hHeld2
              try simp only [Act.put, List.setIfInBounds_toArray, List.set_cons_zero, List.set_cons_succ]
              have HD := Aside0.mk hD
              have Q2 := Aside0.mk (Rs.mk hvb hvn)
              have U2 := Aside0.mk (And.intro hc1 hc2)
              have T2 := Aside0.mk (show x < V0.heap.size from SX.out.hr.xlt)
              have hsm := Aside0.mk SX.out.hb.small
              replace SX := Aside0.mk (SX.out.turn NX.out hB hg)
              clear hvb hvn hB hg hD hc1 hc2
              refine wpAnyH_ready (rs := [5, 6, 7]) (by kernel_rfl) (by simp) (AllReadyH.cons (o := { dst := some 48, op := _, type := _, pos := _, after := _, guard := _ }) rfl (fun K hK => ?_) (AllReadyH.cons (o := { dst := some 11, op := _, type := _, pos := _, after := _, guard := _ }) rfl (fun K hK => ?_) (AllReadyH.cons (o := { dst := some 12, op := _, type := _, pos := _, after := _, guard := _ }) rfl (fun K hK => ?_) (AllReadyH.nil))))
              · go_simp
                refine (RDo_calls [o10, b, b2, x] x q L a.f0 a.f1 a.f2 A9 c9 a.f3 V1 SX.out.hr hL hsm.out HL9.out (Kd.C_below HI9.out SX.out.bw) HD.out).mono ?_
                rintro e V2 ⟨vb, vn, rfl, hvb, hvn, hR, hg⟩
                obtain ⟨A3, c3, rfl, hc3, _⟩ := Kd.R_reads hvb
                obtain ⟨A4, c4, rfl, hc4, _⟩ := Kd.R_reads hvn
                refine hK.out _ _ (⟨blk_grown hHeld.1 hg (by simpa using NX.out.x9), blk_grown hHeld.2 hg (by simpa using NX.out.x10)⟩) (fun hHeld2 => ?_)
                clear hK K hHeld
                have hHeld := hHeld2
                clear hHeld2
                try simp only [Act.put, List.setIfInBounds_toArray, List.set_cons_zero, List.set_cons_succ]
                have Q5 := Aside0.mk (Rs.mk hvb hvn)
                have U5 := Aside0.mk (And.intro hc3 hc4)
                replace Q2 := Aside0.mk (Q2.out.turn hg T2.out)
                replace SX := Aside0.mk (SX.out.turnX NX.out hR hg)
                clear hvb hvn hR hg hc3 hc4
                refine wpAnyH_ready (rs := [6, 7]) (by kernel_rfl) (by simp) (AllReadyH.cons (o := { dst := some 11, op := _, type := _, pos := _, after := _, guard := _ }) rfl (fun K hK => ?_) (AllReadyH.cons (o := { dst := some 12, op := _, type := _, pos := _, after := _, guard := _ }) rfl (fun K hK => ?_) (AllReadyH.nil)))
                · go_simp
                  refine hK.out _ _ (⟨blk_alloc hHeld.1 _, blk_alloc hHeld.2 _⟩) (fun hHeld2 => ?_)
                  clear hK K hHeld
                  have hHeld := hHeld2
                  clear hHeld2
                  try simp only [Act.put, List.setIfInBounds_toArray, List.set_cons_zero, List.set_cons_succ]
                  have bz := Aside0.mk (below_alloc (Below.refl V2.heap.size V2) (.cells #[.int .i64 0, .int .i64 0, .slice none 0 0, .slice none 0 0] 32))
                  have Z6 := Aside0.mk (blk_new V2 (.cells #[.int .i64 0, .int .i64 0, .slice none 0 0, .slice none 0 0] 32))
                  have X6 := Aside0.mk (And.intro SX.out.hr.xlt SX.out.bw.size)
                  replace Q2 := Aside0.mk (Q2.out.below bz.out)
                  replace Q5 := Aside0.mk (Q5.out.below bz.out)
                  replace SX := Aside0.mk (SX.out.more (.cells #[.int .i64 0, .int .i64 0, .slice none 0 0, .slice none 0 0] 32))
                  replace NX := Aside0.mk (NX.out.more V2.heap.size)
                  clear bz
                  generalize V2.heap.size = p6 at Z6 X6 SX NX ⊢
                  generalize V2.alloc (.cells #[.int .i64 0, .int .i64 0, .slice none 0 0, .slice none 0 0] 32) = V3 at Z6 Q2 Q5 SX hHeld ⊢
                  refine wpAnyH_ready (rs := [7]) (by kernel_rfl) (by simp) (AllReadyH.cons (o := { dst := some 12, op := _, type := _, pos := _, after := _, guard := _ }) rfl (fun K hK => ?_) (AllReadyH.nil))
                  go_simp
                  refine hK.out _ _ (⟨blk_alloc hHeld.1 _, blk_alloc hHeld.2 _⟩) (fun hHeld2 => ?_)
                  clear hK K hHeld
                  have hHeld := hHeld2
                  clear hHeld2
                  try simp only [Act.put, List.setIfInBounds_toArray, List.set_cons_zero, List.set_cons_succ]
                  have bz := Aside0.mk (below_alloc (Below.refl V3.heap.size V3) (.cells #[.int .i64 0, .int .i64 0, .slice none 0 0, .slice none 0 0] 32))
                  have Z7 := Aside0.mk (blk_new V3 (.cells #[.int .i64 0, .int .i64 0, .slice none 0 0, .slice none 0 0] 32))
                  have X7 := Aside0.mk (And.intro SX.out.hr.xlt SX.out.bw.size)
                  have D7 := Aside0.mk (blk_lt Z6.out)
                  replace Z6 := Aside0.mk (blk_below Z6.out bz.out)
                  replace Q2 := Aside0.mk (Q2.out.below bz.out)
                  replace Q5 := Aside0.mk (Q5.out.below bz.out)
                  replace SX := Aside0.mk (SX.out.more (.cells #[.int .i64 0, .int .i64 0, .slice none 0 0, .slice none 0 0] 32))
                  replace NX := Aside0.mk (NX.out.more V3.heap.size)
                  clear bz
                  generalize V3.heap.size = p7 at Z7 X7 D7 SX NX ⊢
                  generalize V3.alloc (.cells #[.int .i64 0, .int .i64 0, .slice none 0 0, .slice none 0 0] 32) = V4 at Z7 Z6 Q2 Q5 SX hHeld ⊢
                  have hne67 : p6 ≠ p7 := by first | (have := D6.out; omega) | (have := D7.out; omega)
                  have e0 : (V4).cell? ⟨p6, 0, none⟩ = some (.int .i64 0) := (blk_cell (Z6.out) 0).trans rfl
                  have e1 : (V4).cell? ⟨p6, 1, none⟩ = some (.int .i64 0) := (blk_cell (Z6.out) 1).trans rfl
                  have e2 : (V4).cell? ⟨p6, 2, none⟩ = some (.slice none 0 0) := (blk_cell (Z6.out) 2).trans rfl
                  have e3 : (V4).cell? ⟨p6, 3, none⟩ = some (.slice none 0 0) := (blk_cell (Z6.out) 3).trans rfl
                  have ez0 := blk_frozen Z6.out 0
                  have ez1 := blk_frozen Z6.out 1
                  have ez2 := blk_frozen Z6.out 2
                  have ez3 := blk_frozen Z6.out 3
                  refine wpAnyH_ready (rs := [8]) (by kernel_rfl) (by simp) (AllReadyH.cons (o := { dst := none, op := _, type := _, pos := _, after := _, guard := _ }) rfl (fun K hK => ?_) AllReadyH.nil)
                  go_simp
                  refine hK.out _ _ (⟨(SX.out.set4 Z6.out (by simp) X6.out _ _ _ _).k9, (SX.out.set4 Z6.out (by simp) X6.out _ _ _ _).k10⟩) (fun hHeld2 => ?_)
                  clear hK K hHeld
                  have hHeld := hHeld2
                  clear hHeld2
                  try simp only [Act.put, List.setIfInBounds_toArray, List.set_cons_zero, List.set_cons_succ]
                  clear e0 e1 e2 e3 ez0 ez1 ez2 ez3
                  replace Z7 := Aside0.mk ((set4_far (W := V4) (Ne.symm hne67) (.int .i64 nm) (.int .i64 code) (.slice A1 bd.length c1) (.slice A2 ns.length c2)).trans Z7.out)
                  replace SX := Aside0.mk (SX.out.set4 Z6.out (by simp) X6.out (.int .i64 nm) (.int .i64 code) (.slice A1 bd.length c1) (.slice A2 ns.length c2))
                  replace Q2 := Aside0.mk (Q2.out.set4 Z6.out (.int .i64 nm) (.int .i64 code) (.slice A1 bd.length c1) (.slice A2 ns.length c2))
                  replace Q5 := Aside0.mk (Q5.out.set4 Z6.out (.int .i64 nm) (.int .i64 code) (.slice A1 bd.length c1) (.slice A2 ns.length c2))
                  replace Z6 := Aside0.mk (fill4_res Z6.out (.int .i64 nm) (.int .i64 code) (.slice A1 bd.length c1) (.slice A2 ns.length c2))
                  unfold f4 at SX Q2 Q5
                  generalize ((((V4.setCell ⟨p6, 0, none⟩ (.int .i64 nm)).setCell ⟨p6, 1, none⟩ (.int .i64 code)).setCell ⟨p6, 2, none⟩ (.slice A1 bd.length c1)).setCell ⟨p6, 3, none⟩ (.slice A2 ns.length c2)) = W8 at SX Q2 Q5 Z6 Z7 hHeld ⊢
                  have e0 : (W8).cell? ⟨p7, 0, none⟩ = some (.int .i64 0) := (blk_cell (Z7.out) 0).trans rfl
                  have e1 : (W8).cell? ⟨p7, 1, none⟩ = some (.int .i64 0) := (blk_cell (Z7.out) 1).trans rfl
                  have e2 : (W8).cell? ⟨p7, 2, none⟩ = some (.slice none 0 0) := (blk_cell (Z7.out) 2).trans rfl
                  have e3 : (W8).cell? ⟨p7, 3, none⟩ = some (.slice none 0 0) := (blk_cell (Z7.out) 3).trans rfl
                  have ez0 := blk_frozen Z7.out 0
                  have ez1 := blk_frozen Z7.out 1
                  have ez2 := blk_frozen Z7.out 2
                  have ez3 := blk_frozen Z7.out 3
                  refine wpAnyH_ready (rs := [9]) (by kernel_rfl) (by simp) (AllReadyH.cons (o := { dst := none, op := _, type := _, pos := _, after := _, guard := _ }) rfl (fun K hK => ?_) AllReadyH.nil)
                  go_simp
                  refine hK.out _ _ (⟨(SX.out.set4 Z7.out (by simp) X7.out _ _ _ _).k9, (SX.out.set4 Z7.out (by simp) X7.out _ _ _ _).k10⟩) (fun hHeld2 => ?_)
                  clear hK K hHeld
                  have hHeld := hHeld2
                  clear hHeld2
                  try simp only [Act.put, List.setIfInBounds_toArray, List.set_cons_zero, List.set_cons_succ]
                  clear e0 e1 e2 e3 ez0 ez1 ez2 ez3
                  refine wpAnyH_done (by kernel_rfl) ?_ _
                  refine NoPanic.normal ?_
                  refine ⟨rfl, p6, p7, _, nm, code, bd, ns, L', A1, c1, A2, c2, A3, c3, A4, c4, _, _, SX.out.set4 Z7.out (by simp) X7.out (.int .i64 nm) (.int .i64 code) (.slice A3 bd.length c3) (.slice A4 ns.length c4), NX.out, (set4_far hne67 (.int .i64 nm) (.int .i64 code) (.slice A3 bd.length c3) (.slice A4 ns.length c4)).trans Z6.out, fill4_res Z7.out (.int .i64 nm) (.int .i64 code) (.slice A3 bd.length c3) (.slice A4 ns.length c4), Q2.out.set4 Z7.out (.int .i64 nm) (.int .i64 code) (.slice A3 bd.length c3) (.slice A4 ns.length c4), Q5.out.set4 Z7.out (.int .i64 nm) (.int .i64 code) (.slice A3 bd.length c3) (.slice A4 ns.length c4), U2.out, U5.out, HD.out, hne67, X6.out, X7.out, fun z hz => by simp [hz], ?_⟩
                  simp only [Act.put, List.setIfInBounds_toArray, List.set_cons_zero, List.set_cons_succ]
                · go_simp
                  refine hK.out _ _ (⟨blk_alloc hHeld.1 _, blk_alloc hHeld.2 _⟩) (fun hHeld2 => ?_)
                  clear hK K hHeld
                  have hHeld := hHeld2
                  clear hHeld2
                  try simp only [Act.put, List.setIfInBounds_toArray, List.set_cons_zero, List.set_cons_succ]
                  have bz := Aside0.mk (below_alloc (Below.refl V2.heap.size V2) (.cells #[.int .i64 0, .int .i64 0, .slice none 0 0, .slice none 0 0] 32))
                  have Z7 := Aside0.mk (blk_new V2 (.cells #[.int .i64 0, .int .i64 0, .slice none 0 0, .slice none 0 0] 32))
                  have X7 := Aside0.mk (And.intro SX.out.hr.xlt SX.out.bw.size)
                  replace Q2 := Aside0.mk (Q2.out.below bz.out)
                  replace Q5 := Aside0.mk (Q5.out.below bz.out)
                  replace SX := Aside0.mk (SX.out.more (.cells #[.int .i64 0, .int .i64 0, .slice none 0 0, .slice none 0 0] 32))
                  replace NX := Aside0.mk (NX.out.more V2.heap.size)
                  clear bz
                  generalize V2.heap.size = p7 at Z7 X7 SX NX ⊢
                  generalize V2.alloc (.cells #[.int .i64 0, .int .i64 0, .slice none 0 0, .slice none 0 0] 32) = V5 at Z7 Q2 Q5 SX hHeld ⊢
                  refine wpAnyH_ready (rs := [6]) (by kernel_rfl) (by simp) (AllReadyH.cons (o := { dst := some 11, op := _, type := _, pos := _, after := _, guard := _ }) rfl (fun K hK => ?_) (AllReadyH.nil))
                  go_simp
                  refine hK.out _ _ (⟨blk_alloc hHeld.1 _, blk_alloc hHeld.2 _⟩) (fun hHeld2 => ?_)
                  clear hK K hHeld
                  have hHeld := hHeld2
                  clear hHeld2
                  try simp only [Act.put, List.setIfInBounds_toArray, List.set_cons_zero, List.set_cons_succ]
                  have bz := Aside0.mk (below_alloc (Below.refl V5.heap.size V5) (.cells #[.int .i64 0, .int .i64 0, .slice none 0 0, .slice none 0 0] 32))
                  have Z6 := Aside0.mk (blk_new V5 (.cells #[.int .i64 0, .int .i64 0, .slice none 0 0, .slice none 0 0] 32))
                  have X6 := Aside0.mk (And.intro SX.out.hr.xlt SX.out.bw.size)
                  have D6 := Aside0.mk (blk_lt Z7.out)
                  replace Z7 := Aside0.mk (blk_below Z7.out bz.out)
                  replace Q2 := Aside0.mk (Q2.out.below bz.out)
                  replace Q5 := Aside0.mk (Q5.out.below bz.out)
                  replace SX := Aside0.mk (SX.out.more (.cells #[.int .i64 0, .int .i64 0, .slice none 0 0, .slice none 0 0] 32))
                  replace NX := Aside0.mk (NX.out.more V5.heap.size)
                  clear bz
                  generalize V5.heap.size = p6 at Z6 X6 D6 SX NX ⊢
                  generalize V5.alloc (.cells #[.int .i64 0, .int .i64 0, .slice none 0 0, .slice none 0 0] 32) = V6 at Z6 Z7 Q2 Q5 SX hHeld ⊢
                  have hne67 : p6 ≠ p7 := by first | (have := D6.out; omega) | (have := D7.out; omega)
                  have e0 : (V6).cell? ⟨p6, 0, none⟩ = some (.int .i64 0) := (blk_cell (Z6.out) 0).trans rfl
                  have e1 : (V6).cell? ⟨p6, 1, none⟩ = some (.int .i64 0) := (blk_cell (Z6.out) 1).trans rfl
                  have e2 : (V6).cell? ⟨p6, 2, none⟩ = some (.slice none 0 0) := (blk_cell (Z6.out) 2).trans rfl
                  have e3 : (V6).cell? ⟨p6, 3, none⟩ = some (.slice none 0 0) := (blk_cell (Z6.out) 3).trans rfl
                  have ez0 := blk_frozen Z6.out 0
                  have ez1 := blk_frozen Z6.out 1
                  have ez2 := blk_frozen Z6.out 2
                  have ez3 := blk_frozen Z6.out 3
                  refine wpAnyH_ready (rs := [8]) (by kernel_rfl) (by simp) (AllReadyH.cons (o := { dst := none, op := _, type := _, pos := _, after := _, guard := _ }) rfl (fun K hK => ?_) AllReadyH.nil)
                  go_simp
                  refine hK.out _ _ (⟨(SX.out.set4 Z6.out (by simp) X6.out _ _ _ _).k9, (SX.out.set4 Z6.out (by simp) X6.out _ _ _ _).k10⟩) (fun hHeld2 => ?_)
                  clear hK K hHeld
                  have hHeld := hHeld2
                  clear hHeld2
                  try simp only [Act.put, List.setIfInBounds_toArray, List.set_cons_zero, List.set_cons_succ]
                  clear e0 e1 e2 e3 ez0 ez1 ez2 ez3
                  replace Z7 := Aside0.mk ((set4_far (W := V6) (Ne.symm hne67) (.int .i64 nm) (.int .i64 code) (.slice A1 bd.length c1) (.slice A2 ns.length c2)).trans Z7.out)
                  replace SX := Aside0.mk (SX.out.set4 Z6.out (by simp) X6.out (.int .i64 nm) (.int .i64 code) (.slice A1 bd.length c1) (.slice A2 ns.length c2))
                  replace Q2 := Aside0.mk (Q2.out.set4 Z6.out (.int .i64 nm) (.int .i64 code) (.slice A1 bd.length c1) (.slice A2 ns.length c2))
                  replace Q5 := Aside0.mk (Q5.out.set4 Z6.out (.int .i64 nm) (.int .i64 code) (.slice A1 bd.length c1) (.slice A2 ns.length c2))
                  replace Z6 := Aside0.mk (fill4_res Z6.out (.int .i64 nm) (.int .i64 code) (.slice A1 bd.length c1) (.slice A2 ns.length c2))
                  unfold f4 at SX Q2 Q5
                  generalize ((((V6.setCell ⟨p6, 0, none⟩ (.int .i64 nm)).setCell ⟨p6, 1, none⟩ (.int .i64 code)).setCell ⟨p6, 2, none⟩ (.slice A1 bd.length c1)).setCell ⟨p6, 3, none⟩ (.slice A2 ns.length c2)) = W8 at SX Q2 Q5 Z6 Z7 hHeld ⊢
                  have e0 : (W8).cell? ⟨p7, 0, none⟩ = some (.int .i64 0) := (blk_cell (Z7.out) 0).trans rfl
                  have e1 : (W8).cell? ⟨p7, 1, none⟩ = some (.int .i64 0) := (blk_cell (Z7.out) 1).trans rfl
                  have e2 : (W8).cell? ⟨p7, 2, none⟩ = some (.slice none 0 0) := (blk_cell (Z7.out) 2).trans rfl
                  have e3 : (W8).cell? ⟨p7, 3, none⟩ = some (.slice none 0 0) := (blk_cell (Z7.out) 3).trans rfl
                  have ez0 := blk_frozen Z7.out 0
                  have ez1 := blk_frozen Z7.out 1
                  have ez2 := blk_frozen Z7.out 2
                  have ez3 := blk_frozen Z7.out 3
                  refine wpAnyH_ready (rs := [9]) (by kernel_rfl) (by simp) (AllReadyH.cons (o := { dst := none, op := _, type := _, pos := _, after := _, guard := _ }) rfl (fun K hK => ?_) AllReadyH.nil)
                  go_simp
                  refine hK.out _ _ (⟨(SX.out.set4 Z7.out (by simp) X7.out _ _ _ _).k9, (SX.out.set4 Z7.out (by simp) X7.out _ _ _ _).k10⟩) (fun hHeld2 => ?_)
                  clear hK K hHeld
                  have hHeld := hHeld2
                  clear hHeld2
                  try simp only [Act.put, List.setIfInBounds_toArray, List.set_cons_zero, List.set_cons_succ]
                  clear e0 e1 e2 e3 ez0 ez1 ez2 ez3
                  refine wpAnyH_done (by kernel_rfl) ?_ _
                  refine NoPanic.normal ?_
                  refine ⟨rfl, p6, p7, _, nm, code, bd, ns, L', A1, c1, A2, c2, A3, c3, A4, c4, _, _, SX.out.set4 Z7.out (by simp) X7.out (.int .i64 nm) (.int .i64 code) (.slice A3 bd.length c3) (.slice A4 ns.length c4), NX.out, (set4_far hne67 (.int .i64 nm) (.int .i64 code) (.slice A3 bd.length c3) (.slice A4 ns.length c4)).trans Z6.out, fill4_res Z7.out (.int .i64 nm) (.int .i64 code) (.slice A3 bd.length c3) (.slice A4 ns.length c4), Q2.out.set4 Z7.out (.int .i64 nm) (.int .i64 code) (.slice A3 bd.length c3) (.slice A4 ns.length c4), Q5.out.set4 Z7.out (.int .i64 nm) (.int .i64 code) (.slice A3 bd.length c3) (.slice A4 ns.length c4), U2.out, U5.out, HD.out, hne67, X6.out, X7.out, fun z hz => by simp [hz], ?_⟩
                  simp only [Act.put, List.setIfInBounds_toArray, List.set_cons_zero, List.set_cons_succ]
              · go_simp
                refine hK.out _ _ (⟨blk_alloc hHeld.1 _, blk_alloc hHeld.2 _⟩) (fun hHeld2 => ?_)
                clear hK K hHeld
                have hHeld := hHeld2
                clear hHeld2
                try simp only [Act.put, List.setIfInBounds_toArray, List.set_cons_zero, List.set_cons_succ]
                have bz := Aside0.mk (below_alloc (Below.refl V1.heap.size V1) (.cells #[.int .i64 0, .int .i64 0, .slice none 0 0, .slice none 0 0] 32))
                have Z6 := Aside0.mk (blk_new V1 (.cells #[.int .i64 0, .int .i64 0, .slice none 0 0, .slice none 0 0] 32))
                have X6 := Aside0.mk (And.intro SX.out.hr.xlt SX.out.bw.size)
                replace Q2 := Aside0.mk (Q2.out.below bz.out)
                replace SX := Aside0.mk (SX.out.more (.cells #[.int .i64 0, .int .i64 0, .slice none 0 0, .slice none 0 0] 32))
                replace NX := Aside0.mk (NX.out.more V1.heap.size)
                clear bz
                generalize V1.heap.size = p6 at Z6 X6 SX NX ⊢
                generalize V1.alloc (.cells #[.int .i64 0, .int .i64 0, .slice none 0 0, .slice none 0 0] 32) = V7 at Z6 Q2 SX hHeld ⊢
                refine wpAnyH_ready (rs := [5, 7]) (by kernel_rfl) (by simp) (AllReadyH.cons (o := { dst := some 48, op := _, type := _, pos := _, after := _, guard := _ }) rfl (fun K hK => ?_) (AllReadyH.cons (o := { dst := some 12, op := _, type := _, pos := _, after := _, guard := _ }) rfl (fun K hK => ?_) (AllReadyH.nil)))
                · go_simp
                  refine (RDo_calls (p6 :: [o10, b, b2, x]) x q L a.f0 a.f1 a.f2 A9 c9 a.f3 V7 SX.out.hr hL hsm.out HL9.out (Kd.C_below HI9.out SX.out.bw) HD.out).mono ?_
                  rintro e V8 ⟨vb, vn, rfl, hvb, hvn, hR, hg⟩
                  obtain ⟨A3, c3, rfl, hc3, _⟩ := Kd.R_reads hvb
                  obtain ⟨A4, c4, rfl, hc4, _⟩ := Kd.R_reads hvn
                  refine hK.out _ _ (⟨blk_grown hHeld.1 hg (by simpa using NX.out.x9), blk_grown hHeld.2 hg (by simpa using NX.out.x10)⟩) (fun hHeld2 => ?_)
                  clear hK K hHeld
                  have hHeld := hHeld2
                  clear hHeld2
                  try simp only [Act.put, List.setIfInBounds_toArray, List.set_cons_zero, List.set_cons_succ]
                  have Q5 := Aside0.mk (Rs.mk hvb hvn)
                  have U5 := Aside0.mk (And.intro hc3 hc4)
                  replace Q2 := Aside0.mk (Q2.out.turn hg T2.out)
                  replace Z6 := Aside0.mk (blk_grown Z6.out hg (by have := X6.out.1; intro e; injection e; omega))
                  replace SX := Aside0.mk (SX.out.turnX NX.out hR hg)
                  clear hvb hvn hR hg hc3 hc4
                  refine wpAnyH_ready (rs := [7]) (by kernel_rfl) (by simp) (AllReadyH.cons (o := { dst := some 12, op := _, type := _, pos := _, after := _, guard := _ }) rfl (fun K hK => ?_) (AllReadyH.nil))
                  go_simp
                  refine hK.out _ _ (⟨blk_alloc hHeld.1 _, blk_alloc hHeld.2 _⟩) (fun hHeld2 => ?_)
                  clear hK K hHeld
                  have hHeld := hHeld2
                  clear hHeld2
                  try simp only [Act.put, List.setIfInBounds_toArray, List.set_cons_zero, List.set_cons_succ]
                  have bz := Aside0.mk (below_alloc (Below.refl V8.heap.size V8) (.cells #[.int .i64 0, .int .i64 0, .slice none 0 0, .slice none 0 0] 32))
                  have Z7 := Aside0.mk (blk_new V8 (.cells #[.int .i64 0, .int .i64 0, .slice none 0 0, .slice none 0 0] 32))
                  have X7 := Aside0.mk (And.intro SX.out.hr.xlt SX.out.bw.size)
                  have D7 := Aside0.mk (blk_lt Z6.out)
                  replace Z6 := Aside0.mk (blk_below Z6.out bz.out)
                  replace Q2 := Aside0.mk (Q2.out.below bz.out)
                  replace Q5 := Aside0.mk (Q5.out.below bz.out)
                  replace SX := Aside0.mk (SX.out.more (.cells #[.int .i64 0, .int .i64 0, .slice none 0 0, .slice none 0 0] 32))
                  replace NX := Aside0.mk (NX.out.more V8.heap.size)
                  clear bz
                  generalize V8.heap.size = p7 at Z7 X7 D7 SX NX ⊢
                  generalize V8.alloc (.cells #[.int .i64 0, .int .i64 0, .slice none 0 0, .slice none 0 0] 32) = V9 at Z7 Z6 Q2 Q5 SX hHeld ⊢
                  have hne67 : p6 ≠ p7 := by first | (have := D6.out; omega) | (have := D7.out; omega)
                  have e0 : (V9).cell? ⟨p6, 0, none⟩ = some (.int .i64 0) := (blk_cell (Z6.out) 0).trans rfl
                  have e1 : (V9).cell? ⟨p6, 1, none⟩ = some (.int .i64 0) := (blk_cell (Z6.out) 1).trans rfl
                  have e2 : (V9).cell? ⟨p6, 2, none⟩ = some (.slice none 0 0) := (blk_cell (Z6.out) 2).trans rfl
                  have e3 : (V9).cell? ⟨p6, 3, none⟩ = some (.slice none 0 0) := (blk_cell (Z6.out) 3).trans rfl
                  have ez0 := blk_frozen Z6.out 0
                  have ez1 := blk_frozen Z6.out 1
                  have ez2 := blk_frozen Z6.out 2
                  have ez3 := blk_frozen Z6.out 3
                  refine wpAnyH_ready (rs := [8]) (by kernel_rfl) (by simp) (AllReadyH.cons (o := { dst := none, op := _, type := _, pos := _, after := _, guard := _ }) rfl (fun K hK => ?_) AllReadyH.nil)
                  go_simp
                  refine hK.out _ _ (⟨(SX.out.set4 Z6.out (by simp) X6.out _ _ _ _).k9, (SX.out.set4 Z6.out (by simp) X6.out _ _ _ _).k10⟩) (fun hHeld2 => ?_)
                  clear hK K hHeld
                  have hHeld := hHeld2
                  clear hHeld2
                  try simp only [Act.put, List.setIfInBounds_toArray, List.set_cons_zero, List.set_cons_succ]
                  clear e0 e1 e2 e3 ez0 ez1 ez2 ez3
                  replace Z7 := Aside0.mk ((set4_far (W := V9) (Ne.symm hne67) (.int .i64 nm) (.int .i64 code) (.slice A1 bd.length c1) (.slice A2 ns.length c2)).trans Z7.out)
                  replace SX := Aside0.mk (SX.out.set4 Z6.out (by simp) X6.out (.int .i64 nm) (.int .i64 code) (.slice A1 bd.length c1) (.slice A2 ns.length c2))
                  replace Q2 := Aside0.mk (Q2.out.set4 Z6.out (.int .i64 nm) (.int .i64 code) (.slice A1 bd.length c1) (.slice A2 ns.length c2))
                  replace Q5 := Aside0.mk (Q5.out.set4 Z6.out (.int .i64 nm) (.int .i64 code) (.slice A1 bd.length c1) (.slice A2 ns.length c2))
                  replace Z6 := Aside0.mk (fill4_res Z6.out (.int .i64 nm) (.int .i64 code) (.slice A1 bd.length c1) (.slice A2 ns.length c2))
                  unfold f4 at SX Q2 Q5
                  generalize ((((V9.setCell ⟨p6, 0, none⟩ (.int .i64 nm)).setCell ⟨p6, 1, none⟩ (.int .i64 code)).setCell ⟨p6, 2, none⟩ (.slice A1 bd.length c1)).setCell ⟨p6, 3, none⟩ (.slice A2 ns.length c2)) = W8 at SX Q2 Q5 Z6 Z7 hHeld ⊢
                  have e0 : (W8).cell? ⟨p7, 0, none⟩ = some (.int .i64 0) := (blk_cell (Z7.out) 0).trans rfl
                  have e1 : (W8).cell? ⟨p7, 1, none⟩ = some (.int .i64 0) := (blk_cell (Z7.out) 1).trans rfl
                  have e2 : (W8).cell? ⟨p7, 2, none⟩ = some (.slice none 0 0) := (blk_cell (Z7.out) 2).trans rfl
                  have e3 : (W8).cell? ⟨p7, 3, none⟩ = some (.slice none 0 0) := (blk_cell (Z7.out) 3).trans rfl
                  have ez0 := blk_frozen Z7.out 0
                  have ez1 := blk_frozen Z7.out 1
                  have ez2 := blk_frozen Z7.out 2
                  have ez3 := blk_frozen Z7.out 3
                  refine wpAnyH_ready (rs := [9]) (by kernel_rfl) (by simp) (AllReadyH.cons (o := { dst := none, op := _, type := _, pos := _, after := _, guard := _ }) rfl (fun K hK => ?_) AllReadyH.nil)
                  go_simp
                  refine hK.out _ _ (⟨(SX.out.set4 Z7.out (by simp) X7.out _ _ _ _).k9, (SX.out.set4 Z7.out (by simp) X7.out _ _ _ _).k10⟩) (fun hHeld2 => ?_)
                  clear hK K hHeld
                  have hHeld := hHeld2
                  clear hHeld2
                  try simp only [Act.put, List.setIfInBounds_toArray, List.set_cons_zero, List.set_cons_succ]
                  clear e0 e1 e2 e3 ez0 ez1 ez2 ez3
                  refine wpAnyH_done (by kernel_rfl) ?_ _
                  refine NoPanic.normal ?_
                  refine ⟨rfl, p6, p7, _, nm, code, bd, ns, L', A1, c1, A2, c2, A3, c3, A4, c4, _, _, SX.out.set4 Z7.out (by simp) X7.out (.int .i64 nm) (.int .i64 code) (.slice A3 bd.length c3) (.slice A4 ns.length c4), NX.out, (set4_far hne67 (.int .i64 nm) (.int .i64 code) (.slice A3 bd.length c3) (.slice A4 ns.length c4)).trans Z6.out, fill4_res Z7.out (.int .i64 nm) (.int .i64 code) (.slice A3 bd.length c3) (.slice A4 ns.length c4), Q2.out.set4 Z7.out (.int .i64 nm) (.int .i64 code) (.slice A3 bd.length c3) (.slice A4 ns.length c4), Q5.out.set4 Z7.out (.int .i64 nm) (.int .i64 code) (.slice A3 bd.length c3) (.slice A4 ns.length c4), U2.out, U5.out, HD.out, hne67, X6.out, X7.out, fun z hz => by simp [hz], ?_⟩
                  simp only [Act.put, List.setIfInBounds_toArray, List.set_cons_zero, List.set_cons_succ]
                · go_simp
                  refine hK.out _ _ (⟨blk_alloc hHeld.1 _, blk_alloc hHeld.2 _⟩) (fun hHeld2 => ?_)
                  clear hK K hHeld
                  have hHeld := hHeld2
                  clear hHeld2
                  try simp only [Act.put, List.setIfInBounds_toArray, List.set_cons_zero, List.set_cons_succ]
                  have bz := Aside0.mk (below_alloc (Below.refl V7.heap.size V7) (.cells #[.int .i64 0, .int .i64 0, .slice none 0 0, .slice none 0 0] 32))
                  have Z7 := Aside0.mk (blk_new V7 (.cells #[.int .i64 0, .int .i64 0, .slice none 0 0, .slice none 0 0] 32))
                  have X7 := Aside0.mk (And.intro SX.out.hr.xlt SX.out.bw.size)
                  have D7 := Aside0.mk (blk_lt Z6.out)
                  replace Z6 := Aside0.mk (blk_below Z6.out bz.out)
                  replace Q2 := Aside0.mk (Q2.out.below bz.out)
                  replace SX := Aside0.mk (SX.out.more (.cells #[.int .i64 0, .int .i64 0, .slice none 0 0, .slice none 0 0] 32))
                  replace NX := Aside0.mk (NX.out.more V7.heap.size)
                  clear bz
                  generalize V7.heap.size = p7 at Z7 X7 D7 SX NX ⊢
                  generalize V7.alloc (.cells #[.int .i64 0, .int .i64 0, .slice none 0 0, .slice none 0 0] 32) = V10 at Z7 Z6 Q2 SX hHeld ⊢
                  refine wpAnyH_ready (rs := [5]) (by kernel_rfl) (by simp) (AllReadyH.cons (o := { dst := some 48, op := _, type := _, pos := _, after := _, guard := _ }) rfl (fun K hK => ?_) (AllReadyH.nil))
                  go_simp
                  refine (RDo_calls (p7 :: (p6 :: [o10, b, b2, x])) x q L a.f0 a.f1 a.f2 A9 c9 a.f3 V10 SX.out.hr hL hsm.out HL9.out (Kd.C_below HI9.out SX.out.bw) HD.out).mono ?_
                  rintro e V11 ⟨vb, vn, rfl, hvb, hvn, hR, hg⟩
                  obtain ⟨A3, c3, rfl, hc3, _⟩ := Kd.R_reads hvb
                  obtain ⟨A4, c4, rfl, hc4, _⟩ := Kd.R_reads hvn
                  refine hK.out _ _ (⟨blk_grown hHeld.1 hg (by simpa using NX.out.x9), blk_grown hHeld.2 hg (by simpa using NX.out.x10)⟩) (fun hHeld2 => ?_)
                  clear hK K hHeld
                  have hHeld := hHeld2
                  clear hHeld2
                  try simp only [Act.put, List.setIfInBounds_toArray, List.set_cons_zero, List.set_cons_succ]
                  have Q5 := Aside0.mk (Rs.mk hvb hvn)
                  have U5 := Aside0.mk (And.intro hc3 hc4)
                  replace Q2 := Aside0.mk (Q2.out.turn hg T2.out)
                  replace Z6 := Aside0.mk (blk_grown Z6.out hg (by have := X6.out.1; intro e; injection e; omega))
                  replace Z7 := Aside0.mk (blk_grown Z7.out hg (by have := X7.out.1; intro e; injection e; omega))
                  replace SX := Aside0.mk (SX.out.turnX NX.out hR hg)
                  clear hvb hvn hR hg hc3 hc4
                  have hne67 : p6 ≠ p7 := by first | (have := D6.out; omega) | (have := D7.out; omega)
                  have e0 : (V11).cell? ⟨p6, 0, none⟩ = some (.int .i64 0) := (blk_cell (Z6.out) 0).trans rfl
                  have e1 : (V11).cell? ⟨p6, 1, none⟩ = some (.int .i64 0) := (blk_cell (Z6.out) 1).trans rfl
                  have e2 : (V11).cell? ⟨p6, 2, none⟩ = some (.slice none 0 0) := (blk_cell (Z6.out) 2).trans rfl
                  have e3 : (V11).cell? ⟨p6, 3, none⟩ = some (.slice none 0 0) := (blk_cell (Z6.out) 3).trans rfl
                  have ez0 := blk_frozen Z6.out 0
                  have ez1 := blk_frozen Z6.out 1
                  have ez2 := blk_frozen Z6.out 2
                  have ez3 := blk_frozen Z6.out 3
                  refine wpAnyH_ready (rs := [8]) (by kernel_rfl) (by simp) (AllReadyH.cons (o := { dst := none, op := _, type := _, pos := _, after := _, guard := _ }) rfl (fun K hK => ?_) AllReadyH.nil)
                  go_simp
                  refine hK.out _ _ (⟨(SX.out.set4 Z6.out (by simp) X6.out _ _ _ _).k9, (SX.out.set4 Z6.out (by simp) X6.out _ _ _ _).k10⟩) (fun hHeld2 => ?_)
                  clear hK K hHeld
                  have hHeld := hHeld2
                  clear hHeld2
                  try simp only [Act.put, List.setIfInBounds_toArray, List.set_cons_zero, List.set_cons_succ]
                  clear e0 e1 e2 e3 ez0 ez1 ez2 ez3
                  replace Z7 := Aside0.mk ((set4_far (W := V11) (Ne.symm hne67) (.int .i64 nm) (.int .i64 code) (.slice A1 bd.length c1) (.slice A2 ns.length c2)).trans Z7.out)
                  replace SX := Aside0.mk (SX.out.set4 Z6.out (by simp) X6.out (.int .i64 nm) (.int .i64 code) (.slice A1 bd.length c1) (.slice A2 ns.length c2))
                  replace Q2 := Aside0.mk (Q2.out.set4 Z6.out (.int .i64 nm) (.int .i64 code) (.slice A1 bd.length c1) (.slice A2 ns.length c2))
                  replace Q5 := Aside0.mk (Q5.out.set4 Z6.out (.int .i64 nm) (.int .i64 code) (.slice A1 bd.length c1) (.slice A2 ns.length c2))
                  replace Z6 := Aside0.mk (fill4_res Z6.out (.int .i64 nm) (.int .i64 code) (.slice A1 bd.length c1) (.slice A2 ns.length c2))
                  unfold f4 at SX Q2 Q5
                  generalize ((((V11.setCell ⟨p6, 0, none⟩ (.int .i64 nm)).setCell ⟨p6, 1, none⟩ (.int .i64 code)).setCell ⟨p6, 2, none⟩ (.slice A1 bd.length c1)).setCell ⟨p6, 3, none⟩ (.slice A2 ns.length c2)) = W8 at SX Q2 Q5 Z6 Z7 hHeld ⊢
                  have e0 : (W8).cell? ⟨p7, 0, none⟩ = some (.int .i64 0) := (blk_cell (Z7.out) 0).trans rfl
                  have e1 : (W8).cell? ⟨p7, 1, none⟩ = some (.int .i64 0) := (blk_cell (Z7.out) 1).trans rfl
                  have e2 : (W8).cell? ⟨p7, 2, none⟩ = some (.slice none 0 0) := (blk_cell (Z7.out) 2).trans rfl
                  have e3 : (W8).cell? ⟨p7, 3, none⟩ = some (.slice none 0 0) := (blk_cell (Z7.out) 3).trans rfl
                  have ez0 := blk_frozen Z7.out 0
                  have ez1 := blk_frozen Z7.out 1
                  have ez2 := blk_frozen Z7.out 2
                  have ez3 := blk_frozen Z7.out 3
                  refine wpAnyH_ready (rs := [9]) (by kernel_rfl) (by simp) (AllReadyH.cons (o := { dst := none, op := _, type := _, pos := _, after := _, guard := _ }) rfl (fun K hK => ?_) AllReadyH.nil)
                  go_simp
                  refine hK.out _ _ (⟨(SX.out.set4 Z7.out (by simp) X7.out _ _ _ _).k9, (SX.out.set4 Z7.out (by simp) X7.out _ _ _ _).k10⟩) (fun hHeld2 => ?_)
                  clear hK K hHeld
                  have hHeld := hHeld2
                  clear hHeld2
                  try simp only [Act.put, List.setIfInBounds_toArray, List.set_cons_zero, List.set_cons_succ]
                  clear e0 e1 e2 e3 ez0 ez1 ez2 ez3
                  refine wpAnyH_done (by kernel_rfl) ?_ _
                  refine NoPanic.normal ?_
                  refine ⟨rfl, p6, p7, _, nm, code, bd, ns, L', A1, c1, A2, c2, A3, c3, A4, c4, _, _, SX.out.set4 Z7.out (by simp) X7.out (.int .i64 nm) (.int .i64 code) (.slice A3 bd.length c3) (.slice A4 ns.length c4), NX.out, (set4_far hne67 (.int .i64 nm) (.int .i64 code) (.slice A3 bd.length c3) (.slice A4 ns.length c4)).trans Z6.out, fill4_res Z7.out (.int .i64 nm) (.int .i64 code) (.slice A3 bd.length c3) (.slice A4 ns.length c4), Q2.out.set4 Z7.out (.int .i64 nm) (.int .i64 code) (.slice A3 bd.length c3) (.slice A4 ns.length c4), Q5.out.set4 Z7.out (.int .i64 nm) (.int .i64 code) (.slice A3 bd.length c3) (.slice A4 ns.length c4), U2.out, U5.out, HD.out, hne67, X6.out, X7.out, fun z hz => by simp [hz], ?_⟩
                  simp only [Act.put, List.setIfInBounds_toArray, List.set_cons_zero, List.set_cons_succ]
              · go_simp
                refine hK.out _ _ (⟨blk_alloc hHeld.1 _, blk_alloc hHeld.2 _⟩) (fun hHeld2 => ?_)
                clear hK K hHeld
                have hHeld := hHeld2
                clear hHeld2
                try simp only [Act.put, List.setIfInBounds_toArray, List.set_cons_zero, List.set_cons_succ]
                have bz := Aside0.mk (below_alloc (Below.refl V1.heap.size V1) (.cells #[.int .i64 0, .int .i64 0, .slice none 0 0, .slice none 0 0] 32))
                have Z7 := Aside0.mk (blk_new V1 (.cells #[.int .i64 0, .int .i64 0, .slice none 0 0, .slice none 0 0] 32))
                have X7 := Aside0.mk (And.intro SX.out.hr.xlt SX.out.bw.size)
                replace Q2 := Aside0.mk (Q2.out.below bz.out)
                replace SX := Aside0.mk (SX.out.more (.cells #[.int .i64 0, .int .i64 0, .slice none 0 0, .slice none 0 0] 32))
                replace NX := Aside0.mk (NX.out.more V1.heap.size)
                clear bz
                generalize V1.heap.size = p7 at Z7 X7 SX NX ⊢
                generalize V1.alloc (.cells #[.int .i64 0, .int .i64 0, .slice none 0 0, .slice none 0 0] 32) = V12 at Z7 Q2 SX hHeld ⊢
                refine wpAnyH_ready (rs := [5, 6]) (by kernel_rfl) (by simp) (AllReadyH.cons (o := { dst := some 48, op := _, type := _, pos := _, after := _, guard := _ }) rfl (fun K hK => ?_) (AllReadyH.cons (o := { dst := some 11, op := _, type := _, pos := _, after := _, guard := _ }) rfl (fun K hK => ?_) (AllReadyH.nil)))
                · go_simp
                  refine (RDo_calls (p7 :: [o10, b, b2, x]) x q L a.f0 a.f1 a.f2 A9 c9 a.f3 V12 SX.out.hr hL hsm.out HL9.out (Kd.C_below HI9.out SX.out.bw) HD.out).mono ?_
                  rintro e V13 ⟨vb, vn, rfl, hvb, hvn, hR, hg⟩
                  obtain ⟨A3, c3, rfl, hc3, _⟩ := Kd.R_reads hvb
                  obtain ⟨A4, c4, rfl, hc4, _⟩ := Kd.R_reads hvn
                  refine hK.out _ _ (⟨blk_grown hHeld.1 hg (by simpa using NX.out.x9), blk_grown hHeld.2 hg (by simpa using NX.out.x10)⟩) (fun hHeld2 => ?_)
                  clear hK K hHeld
                  have hHeld := hHeld2
                  clear hHeld2
                  try simp only [Act.put, List.setIfInBounds_toArray, List.set_cons_zero, List.set_cons_succ]
                  have Q5 := Aside0.mk (Rs.mk hvb hvn)
                  have U5 := Aside0.mk (And.intro hc3 hc4)
                  replace Q2 := Aside0.mk (Q2.out.turn hg T2.out)
                  replace Z7 := Aside0.mk (blk_grown Z7.out hg (by have := X7.out.1; intro e; injection e; omega))
                  replace SX := Aside0.mk (SX.out.turnX NX.out hR hg)
                  clear hvb hvn hR hg hc3 hc4
                  refine wpAnyH_ready (rs := [6]) (by kernel_rfl) (by simp) (AllReadyH.cons (o := { dst := some 11, op := _, type := _, pos := _, after := _, guard := _ }) rfl (fun K hK => ?_) (AllReadyH.nil))
                  go_simp
                  refine hK.out _ _ (⟨blk_alloc hHeld.1 _, blk_alloc hHeld.2 _⟩) (fun hHeld2 => ?_)
                  clear hK K hHeld
                  have hHeld := hHeld2
                  clear hHeld2
                  try simp only [Act.put, List.setIfInBounds_toArray, List.set_cons_zero, List.set_cons_succ]
                  have bz := Aside0.mk (below_alloc (Below.refl V13.heap.size V13) (.cells #[.int .i64 0, .int .i64 0, .slice none 0 0, .slice none 0 0] 32))
                  have Z6 := Aside0.mk (blk_new V13 (.cells #[.int .i64 0, .int .i64 0, .slice none 0 0, .slice none 0 0] 32))
                  have X6 := Aside0.mk (And.intro SX.out.hr.xlt SX.out.bw.size)
                  have D6 := Aside0.mk (blk_lt Z7.out)
                  replace Z7 := Aside0.mk (blk_below Z7.out bz.out)
                  replace Q2 := Aside0.mk (Q2.out.below bz.out)
                  replace Q5 := Aside0.mk (Q5.out.below bz.out)
                  replace SX := Aside0.mk (SX.out.more (.cells #[.int .i64 0, .int .i64 0, .slice none 0 0, .slice none 0 0] 32))
                  replace NX := Aside0.mk (NX.out.more V13.heap.size)
                  clear bz
                  generalize V13.heap.size = p6 at Z6 X6 D6 SX NX ⊢
                  generalize V13.alloc (.cells #[.int .i64 0, .int .i64 0, .slice none 0 0, .slice none 0 0] 32) = V14 at Z6 Z7 Q2 Q5 SX hHeld ⊢
                  have hne67 : p6 ≠ p7 := by first | (have := D6.out; omega) | (have := D7.out; omega)
                  have e0 : (V14).cell? ⟨p6, 0, none⟩ = some (.int .i64 0) := (blk_cell (Z6.out) 0).trans rfl
                  have e1 : (V14).cell? ⟨p6, 1, none⟩ = some (.int .i64 0) := (blk_cell (Z6.out) 1).trans rfl
                  have e2 : (V14).cell? ⟨p6, 2, none⟩ = some (.slice none 0 0) := (blk_cell (Z6.out) 2).trans rfl
                  have e3 : (V14).cell? ⟨p6, 3, none⟩ = some (.slice none 0 0) := (blk_cell (Z6.out) 3).trans rfl
                  have ez0 := blk_frozen Z6.out 0
                  have ez1 := blk_frozen Z6.out 1
                  have ez2 := blk_frozen Z6.out 2
                  have ez3 := blk_frozen Z6.out 3
                  refine wpAnyH_ready (rs := [8]) (by kernel_rfl) (by simp) (AllReadyH.cons (o := { dst := none, op := _, type := _, pos := _, after := _, guard := _ }) rfl (fun K hK => ?_) AllReadyH.nil)
                  go_simp
                  refine hK.out _ _ (⟨(SX.out.set4 Z6.out (by simp) X6.out _ _ _ _).k9, (SX.out.set4 Z6.out (by simp) X6.out _ _ _ _).k10⟩) (fun hHeld2 => ?_)
                  clear hK K hHeld
                  have hHeld := hHeld2
                  clear hHeld2
                  try simp only [Act.put, List.setIfInBounds_toArray, List.set_cons_zero, List.set_cons_succ]
                  clear e0 e1 e2 e3 ez0 ez1 ez2 ez3
                  replace Z7 := Aside0.mk ((set4_far (W := V14) (Ne.symm hne67) (.int .i64 nm) (.int .i64 code) (.slice A1 bd.length c1) (.slice A2 ns.length c2)).trans Z7.out)
                  replace SX := Aside0.mk (SX.out.set4 Z6.out (by simp) X6.out (.int .i64 nm) (.int .i64 code) (.slice A1 bd.length c1) (.slice A2 ns.length c2))
                  replace Q2 := Aside0.mk (Q2.out.set4 Z6.out (.int .i64 nm) (.int .i64 code) (.slice A1 bd.length c1) (.slice A2 ns.length c2))
                  replace Q5 := Aside0.mk (Q5.out.set4 Z6.out (.int .i64 nm) (.int .i64 code) (.slice A1 bd.length c1) (.slice A2 ns.length c2))
                  replace Z6 := Aside0.mk (fill4_res Z6.out (.int .i64 nm) (.int .i64 code) (.slice A1 bd.length c1) (.slice A2 ns.length c2))
                  unfold f4 at SX Q2 Q5
                  generalize ((((V14.setCell ⟨p6, 0, none⟩ (.int .i64 nm)).setCell ⟨p6, 1, none⟩ (.int .i64 code)).setCell ⟨p6, 2, none⟩ (.slice A1 bd.length c1)).setCell ⟨p6, 3, none⟩ (.slice A2 ns.length c2)) = W8 at SX Q2 Q5 Z6 Z7 hHeld ⊢
                  have e0 : (W8).cell? ⟨p7, 0, none⟩ = some (.int .i64 0) := (blk_cell (Z7.out) 0).trans rfl
                  have e1 : (W8).cell? ⟨p7, 1, none⟩ = some (.int .i64 0) := (blk_cell (Z7.out) 1).trans rfl
                  have e2 : (W8).cell? ⟨p7, 2, none⟩ = some (.slice none 0 0) := (blk_cell (Z7.out) 2).trans rfl
                  have e3 : (W8).cell? ⟨p7, 3, none⟩ = some (.slice none 0 0) := (blk_cell (Z7.out) 3).trans rfl
                  have ez0 := blk_frozen Z7.out 0
                  have ez1 := blk_frozen Z7.out 1
                  have ez2 := blk_frozen Z7.out 2
                  have ez3 := blk_frozen Z7.out 3
                  refine wpAnyH_ready (rs := [9]) (by kernel_rfl) (by simp) (AllReadyH.cons (o := { dst := none, op := _, type := _, pos := _, after := _, guard := _ }) rfl (fun K hK => ?_) AllReadyH.nil)
                  go_simp
                  refine hK.out _ _ (⟨(SX.out.set4 Z7.out (by simp) X7.out _ _ _ _).k9, (SX.out.set4 Z7.out (by simp) X7.out _ _ _ _).k10⟩) (fun hHeld2 => ?_)
                  clear hK K hHeld
                  have hHeld := hHeld2
                  clear hHeld2
                  try simp only [Act.put, List.setIfInBounds_toArray, List.set_cons_zero, List.set_cons_succ]
                  clear e0 e1 e2 e3 ez0 ez1 ez2 ez3
                  refine wpAnyH_done (by kernel_rfl) ?_ _
                  refine NoPanic.normal ?_
                  refine ⟨rfl, p6, p7, _, nm, code, bd, ns, L', A1, c1, A2, c2, A3, c3, A4, c4, _, _, SX.out.set4 Z7.out (by simp) X7.out (.int .i64 nm) (.int .i64 code) (.slice A3 bd.length c3) (.slice A4 ns.length c4), NX.out, (set4_far hne67 (.int .i64 nm) (.int .i64 code) (.slice A3 bd.length c3) (.slice A4 ns.length c4)).trans Z6.out, fill4_res Z7.out (.int .i64 nm) (.int .i64 code) (.slice A3 bd.length c3) (.slice A4 ns.length c4), Q2.out.set4 Z7.out (.int .i64 nm) (.int .i64 code) (.slice A3 bd.length c3) (.slice A4 ns.length c4), Q5.out.set4 Z7.out (.int .i64 nm) (.int .i64 code) (.slice A3 bd.length c3) (.slice A4 ns.length c4), U2.out, U5.out, HD.out, hne67, X6.out, X7.out, fun z hz => by simp [hz], ?_⟩
                  simp only [Act.put, List.setIfInBounds_toArray, List.set_cons_zero, List.set_cons_succ]
                · go_simp
                  refine hK.out _ _ (⟨blk_alloc hHeld.1 _, blk_alloc hHeld.2 _⟩) (fun hHeld2 => ?_)
                  clear hK K hHeld
                  have hHeld := hHeld2
                  clear hHeld2
                  try simp only [Act.put, List.setIfInBounds_toArray, List.set_cons_zero, List.set_cons_succ]
                  have bz := Aside0.mk (below_alloc (Below.refl V12.heap.size V12) (.cells #[.int .i64 0, .int .i64 0, .slice none 0 0, .slice none 0 0] 32))
                  have Z6 := Aside0.mk (blk_new V12 (.cells #[.int .i64 0, .int .i64 0, .slice none 0 0, .slice none 0 0] 32))
                  have X6 := Aside0.mk (And.intro SX.out.hr.xlt SX.out.bw.size)
                  have D6 := Aside0.mk (blk_lt Z7.out)
                  replace Z7 := Aside0.mk (blk_below Z7.out bz.out)
                  replace Q2 := Aside0.mk (Q2.out.below bz.out)
                  replace SX := Aside0.mk (SX.out.more (.cells #[.int .i64 0, .int .i64 0, .slice none 0 0, .slice none 0 0] 32))
                  replace NX := Aside0.mk (NX.out.more V12.heap.size)
                  clear bz
                  generalize V12.heap.size = p6 at Z6 X6 D6 SX NX ⊢
                  generalize V12.alloc (.cells #[.int .i64 0, .int .i64 0, .slice none 0 0, .slice none 0 0] 32) = V15 at Z6 Z7 Q2 SX hHeld ⊢
                  refine wpAnyH_ready (rs := [5]) (by kernel_rfl) (by simp) (AllReadyH.cons (o := { dst := some 48, op := _, type := _, pos := _, after := _, guard := _ }) rfl (fun K hK => ?_) (AllReadyH.nil))
                  go_simp
                  refine (RDo_calls (p6 :: (p7 :: [o10, b, b2, x])) x q L a.f0 a.f1 a.f2 A9 c9 a.f3 V15 SX.out.hr hL hsm.out HL9.out (Kd.C_below HI9.out SX.out.bw) HD.out).mono ?_
                  rintro e V16 ⟨vb, vn, rfl, hvb, hvn, hR, hg⟩
                  obtain ⟨A3, c3, rfl, hc3, _⟩ := Kd.R_reads hvb
                  obtain ⟨A4, c4, rfl, hc4, _⟩ := Kd.R_reads hvn
                  refine hK.out _ _ (⟨blk_grown hHeld.1 hg (by simpa using NX.out.x9), blk_grown hHeld.2 hg (by simpa using NX.out.x10)⟩) (fun hHeld2 => ?_)
                  clear hK K hHeld
                  have hHeld := hHeld2
                  clear hHeld2
                  try simp only [Act.put, List.setIfInBounds_toArray, List.set_cons_zero, List.set_cons_succ]
                  have Q5 := Aside0.mk (Rs.mk hvb hvn)
                  have U5 := Aside0.mk (And.intro hc3 hc4)
                  replace Q2 := Aside0.mk (Q2.out.turn hg T2.out)
                  replace Z6 := Aside0.mk (blk_grown Z6.out hg (by have := X6.out.1; intro e; injection e; omega))
                  replace Z7 := Aside0.mk (blk_grown Z7.out hg (by have := X7.out.1; intro e; injection e; omega))
                  replace SX := Aside0.mk (SX.out.turnX NX.out hR hg)
                  clear hvb hvn hR hg hc3 hc4
                  have hne67 : p6 ≠ p7 := by first | (have := D6.out; omega) | (have := D7.out; omega)
                  have e0 : (V16).cell? ⟨p6, 0, none⟩ = some (.int .i64 0) := (blk_cell (Z6.out) 0).trans rfl
                  have e1 : (V16).cell? ⟨p6, 1, none⟩ = some (.int .i64 0) := (blk_cell (Z6.out) 1).trans rfl
                  have e2 : (V16).cell? ⟨p6, 2, none⟩ = some (.slice none 0 0) := (blk_cell (Z6.out) 2).trans rfl
                  have e3 : (V16).cell? ⟨p6, 3, none⟩ = some (.slice none 0 0) := (blk_cell (Z6.out) 3).trans rfl
                  have ez0 := blk_frozen Z6.out 0
                  have ez1 := blk_frozen Z6.out 1
                  have ez2 := blk_frozen Z6.out 2
                  have ez3 := blk_frozen Z6.out 3
                  refine wpAnyH_ready (rs := [8]) (by kernel_rfl) (by simp) (AllReadyH.cons (o := { dst := none, op := _, type := _, pos := _, after := _, guard := _ }) rfl (fun K hK => ?_) AllReadyH.nil)
                  go_simp
                  refine hK.out _ _ (⟨(SX.out.set4 Z6.out (by simp) X6.out _ _ _ _).k9, (SX.out.set4 Z6.out (by simp) X6.out _ _ _ _).k10⟩) (fun hHeld2 => ?_)
                  clear hK K hHeld
                  have hHeld := hHeld2
                  clear hHeld2
                  try simp only [Act.put, List.setIfInBounds_toArray, List.set_cons_zero, List.set_cons_succ]
                  clear e0 e1 e2 e3 ez0 ez1 ez2 ez3
                  replace Z7 := Aside0.mk ((set4_far (W := V16) (Ne.symm hne67) (.int .i64 nm) (.int .i64 code) (.slice A1 bd.length c1) (.slice A2 ns.length c2)).trans Z7.out)
                  replace SX := Aside0.mk (SX.out.set4 Z6.out (by simp) X6.out (.int .i64 nm) (.int .i64 code) (.slice A1 bd.length c1) (.slice A2 ns.length c2))
                  replace Q2 := Aside0.mk (Q2.out.set4 Z6.out (.int .i64 nm) (.int .i64 code) (.slice A1 bd.length c1) (.slice A2 ns.length c2))
                  replace Q5 := Aside0.mk (Q5.out.set4 Z6.out (.int .i64 nm) (.int .i64 code) (.slice A1 bd.length c1) (.slice A2 ns.length c2))
                  replace Z6 := Aside0.mk (fill4_res Z6.out (.int .i64 nm) (.int .i64 code) (.slice A1 bd.length c1) (.slice A2 ns.length c2))
                  unfold f4 at SX Q2 Q5
                  generalize ((((V16.setCell ⟨p6, 0, none⟩ (.int .i64 nm)).setCell ⟨p6, 1, none⟩ (.int .i64 code)).setCell ⟨p6, 2, none⟩ (.slice A1 bd.length c1)).setCell ⟨p6, 3, none⟩ (.slice A2 ns.length c2)) = W8 at SX Q2 Q5 Z6 Z7 hHeld ⊢
                  have e0 : (W8).cell? ⟨p7, 0, none⟩ = some (.int .i64 0) := (blk_cell (Z7.out) 0).trans rfl
                  have e1 : (W8).cell? ⟨p7, 1, none⟩ = some (.int .i64 0) := (blk_cell (Z7.out) 1).trans rfl
                  have e2 : (W8).cell? ⟨p7, 2, none⟩ = some (.slice none 0 0) := (blk_cell (Z7.out) 2).trans rfl
                  have e3 : (W8).cell? ⟨p7, 3, none⟩ = some (.slice none 0 0) := (blk_cell (Z7.out) 3).trans rfl
                  have ez0 := blk_frozen Z7.out 0
                  have ez1 := blk_frozen Z7.out 1
                  have ez2 := blk_frozen Z7.out 2
                  have ez3 := blk_frozen Z7.out 3
                  refine wpAnyH_ready (rs := [9]) (by kernel_rfl) (by simp) (AllReadyH.cons (o := { dst := none, op := _, type := _, pos := _, after := _, guard := _ }) rfl (fun K hK => ?_) AllReadyH.nil)
                  go_simp
                  refine hK.out _ _ (⟨(SX.out.set4 Z7.out (by simp) X7.out _ _ _ _).k9, (SX.out.set4 Z7.out (by simp) X7.out _ _ _ _).k10⟩) (fun hHeld2 => ?_)
                  clear hK K hHeld
                  have hHeld := hHeld2
                  clear hHeld2
                  try simp only [Act.put, List.setIfInBounds_toArray, List.set_cons_zero, List.set_cons_succ]
                  clear e0 e1 e2 e3 ez0 ez1 ez2 ez3
                  refine wpAnyH_done (by kernel_rfl) ?_ _
                  refine NoPanic.normal ?_
                  refine ⟨rfl, p6, p7, _, nm, code, bd, ns, L', A1, c1, A2, c2, A3, c3, A4, c4, _, _, SX.out.set4 Z7.out (by simp) X7.out (.int .i64 nm) (.int .i64 code) (.slice A3 bd.length c3) (.slice A4 ns.length c4), NX.out, (set4_far hne67 (.int .i64 nm) (.int .i64 code) (.slice A3 bd.length c3) (.slice A4 ns.length c4)).trans Z6.out, fill4_res Z7.out (.int .i64 nm) (.int .i64 code) (.slice A3 bd.length c3) (.slice A4 ns.length c4), Q2.out.set4 Z7.out (.int .i64 nm) (.int .i64 code) (.slice A3 bd.length c3) (.slice A4 ns.length c4), Q5.out.set4 Z7.out (.int .i64 nm) (.int .i64 code) (.slice A3 bd.length c3) (.slice A4 ns.length c4), U2.out, U5.out, HD.out, hne67, X6.out, X7.out, fun z hz => by simp [hz], ?_⟩
                  simp only [Act.put, List.setIfInBounds_toArray, List.set_cons_zero, List.set_cons_succ]
            · go_simp
              refine hK.out _ _ (⟨blk_alloc hHeld.1 _, blk_alloc hHeld.2 _⟩) (fun hHeld2 => ?_)
              clear hK K hHeld
              have hHeld := hHeld2
              clear hHeld2
              try simp only [Act.put, List.setIfInBounds_toArray, List.set_cons_zero, List.set_cons_succ]
              have bz := Aside0.mk (below_alloc (Below.refl V0.heap.size V0) (.cells #[.int .i64 0, .int .i64 0, .slice none 0 0, .slice none 0 0] 32))
              have Z6 := Aside0.mk (blk_new V0 (.cells #[.int .i64 0, .int .i64 0, .slice none 0 0, .slice none 0 0] 32))
              have X6 := Aside0.mk (And.intro SX.out.hr.xlt SX.out.bw.size)
              replace SX := Aside0.mk (SX.out.more (.cells #[.int .i64 0, .int .i64 0, .slice none 0 0, .slice none 0 0] 32))
              replace NX := Aside0.mk (NX.out.more V0.heap.size)
              clear bz
              generalize V0.heap.size = p6 at Z6 X6 SX NX ⊢
              generalize V0.alloc (.cells #[.int .i64 0, .int .i64 0, .slice none 0 0, .slice none 0 0] 32) = V17 at Z6 SX hHeld ⊢
              refine wpAnyH_ready (rs := [2, 7]) (by kernel_rfl) (by simp) (AllReadyH.cons (o := { dst := some 45, op := _, type := _, pos := _, after := _, guard := _ }) rfl (fun K hK => ?_) (AllReadyH.cons (o := { dst := some 12, op := _, type := _, pos := _, after := _, guard := _ }) rfl (fun K hK => ?_) (AllReadyH.nil)))
              · go_simp
                refine (Do_calls g b q L a.f0 a.f1 a.f2 A8 c8 a.f3 V17 SX.out.hb hL hq HL8.out (Kd.R_reads' SX.out.r8).2.2).mono ?_
                rintro e V18 ⟨vb, vn, nm, code, bd, ns, L', rfl, hvb, hvn, hB, hg, hD⟩
                obtain ⟨A1, c1, rfl, hc1, _⟩ := Kd.R_reads hvb
                obtain ⟨A2, c2, rfl, hc2, _⟩ := Kd.R_reads hvn
                refine hK.out _ _ (⟨blk_grown hHeld.1 hg (by simpa using NX.out.b9), blk_grown hHeld.2 hg (by simpa using NX.out.b10)⟩) (fun hHeld2 => ?_)
                clear hK K hHeld
                have hHeld := hHeld2
                clear hHeld2
                try simp only [Act.put, List.setIfInBounds_toArray, List.set_cons_zero, List.set_cons_succ]
                have HD := Aside0.mk hD
                have Q2 := Aside0.mk (Rs.mk hvb hvn)
                have U2 := Aside0.mk (And.intro hc1 hc2)
                replace Z6 := Aside0.mk (blk_grown Z6.out hg (by simpa using SX.out.hb.notcells Z6.out))
                have T2 := Aside0.mk (show x < V17.heap.size from SX.out.hr.xlt)
                have hsm := Aside0.mk SX.out.hb.small
                replace SX := Aside0.mk (SX.out.turn NX.out hB hg)
                clear hvb hvn hB hg hD hc1 hc2
                refine wpAnyH_ready (rs := [5, 7]) (by kernel_rfl) (by simp) (AllReadyH.cons (o := { dst := some 48, op := _, type := _, pos := _, after := _, guard := _ }) rfl (fun K hK => ?_) (AllReadyH.cons (o := { dst := some 12, op := _, type := _, pos := _, after := _, guard := _ }) rfl (fun K hK => ?_) (AllReadyH.nil)))
                · go_simp
                  refine (RDo_calls (p6 :: [o10, b, b2, x]) x q L a.f0 a.f1 a.f2 A9 c9 a.f3 V18 SX.out.hr hL hsm.out HL9.out (Kd.C_below HI9.out SX.out.bw) HD.out).mono ?_
                  rintro e V19 ⟨vb, vn, rfl, hvb, hvn, hR, hg⟩
                  obtain ⟨A3, c3, rfl, hc3, _⟩ := Kd.R_reads hvb
                  obtain ⟨A4, c4, rfl, hc4, _⟩ := Kd.R_reads hvn
                  refine hK.out _ _ (⟨blk_grown hHeld.1 hg (by simpa using NX.out.x9), blk_grown hHeld.2 hg (by simpa using NX.out.x10)⟩) (fun hHeld2 => ?_)
                  clear hK K hHeld
                  have hHeld := hHeld2
                  clear hHeld2
                  try simp only [Act.put, List.setIfInBounds_toArray, List.set_cons_zero, List.set_cons_succ]
                  have Q5 := Aside0.mk (Rs.mk hvb hvn)
                  have U5 := Aside0.mk (And.intro hc3 hc4)
                  replace Q2 := Aside0.mk (Q2.out.turn hg T2.out)
                  replace Z6 := Aside0.mk (blk_grown Z6.out hg (by have := X6.out.1; intro e; injection e; omega))
                  replace SX := Aside0.mk (SX.out.turnX NX.out hR hg)
                  clear hvb hvn hR hg hc3 hc4
                  refine wpAnyH_ready (rs := [7]) (by kernel_rfl) (by simp) (AllReadyH.cons (o := { dst := some 12, op := _, type := _, pos := _, after := _, guard := _ }) rfl (fun K hK => ?_) (AllReadyH.nil))
                  go_simp
                  refine hK.out _ _ (⟨blk_alloc hHeld.1 _, blk_alloc hHeld.2 _⟩) (fun hHeld2 => ?_)
                  clear hK K hHeld
                  have hHeld := hHeld2
                  clear hHeld2
                  try simp only [Act.put, List.setIfInBounds_toArray, List.set_cons_zero, List.set_cons_succ]
                  have bz := Aside0.mk (below_alloc (Below.refl V19.heap.size V19) (.cells #[.int .i64 0, .int .i64 0, .slice none 0 0, .slice none 0 0] 32))
                  have Z7 := Aside0.mk (blk_new V19 (.cells #[.int .i64 0, .int .i64 0, .slice none 0 0, .slice none 0 0] 32))
                  have X7 := Aside0.mk (And.intro SX.out.hr.xlt SX.out.bw.size)
                  have D7 := Aside0.mk (blk_lt Z6.out)
                  replace Z6 := Aside0.mk (blk_below Z6.out bz.out)
                  replace Q2 := Aside0.mk (Q2.out.below bz.out)
                  replace Q5 := Aside0.mk (Q5.out.below bz.out)
                  replace SX := Aside0.mk (SX.out.more (.cells #[.int .i64 0, .int .i64 0, .slice none 0 0, .slice none 0 0] 32))
                  replace NX := Aside0.mk (NX.out.more V19.heap.size)
                  clear bz
                  generalize V19.heap.size = p7 at Z7 X7 D7 SX NX ⊢
                  generalize V19.alloc (.cells #[.int .i64 0, .int .i64 0, .slice none 0 0, .slice none 0 0] 32) = V20 at Z7 Z6 Q2 Q5 SX hHeld ⊢
                  have hne67 : p6 ≠ p7 := by first | (have := D6.out; omega) | (have := D7.out; omega)
                  have e0 : (V20).cell? ⟨p6, 0, none⟩ = some (.int .i64 0) := (blk_cell (Z6.out) 0).trans rfl
                  have e1 : (V20).cell? ⟨p6, 1, none⟩ = some (.int .i64 0) := (blk_cell (Z6.out) 1).trans rfl
                  have e2 : (V20).cell? ⟨p6, 2, none⟩ = some (.slice none 0 0) := (blk_cell (Z6.out) 2).trans rfl
                  have e3 : (V20).cell? ⟨p6, 3, none⟩ = some (.slice none 0 0) := (blk_cell (Z6.out) 3).trans rfl
                  have ez0 := blk_frozen Z6.out 0
                  have ez1 := blk_frozen Z6.out 1
                  have ez2 := blk_frozen Z6.out 2
                  have ez3 := blk_frozen Z6.out 3
                  refine wpAnyH_ready (rs := [8]) (by kernel_rfl) (by simp) (AllReadyH.cons (o := { dst := none, op := _, type := _, pos := _, after := _, guard := _ }) rfl (fun K hK => ?_) AllReadyH.nil)
                  go_simp
                  refine hK.out _ _ (⟨(SX.out.set4 Z6.out (by simp) X6.out _ _ _ _).k9, (SX.out.set4 Z6.out (by simp) X6.out _ _ _ _).k10⟩) (fun hHeld2 => ?_)
                  clear hK K hHeld
                  have hHeld := hHeld2
                  clear hHeld2
                  try simp only [Act.put, List.setIfInBounds_toArray, List.set_cons_zero, List.set_cons_succ]
                  clear e0 e1 e2 e3 ez0 ez1 ez2 ez3
                  replace Z7 := Aside0.mk ((set4_far (W := V20) (Ne.symm hne67) (.int .i64 nm) (.int .i64 code) (.slice A1 bd.length c1) (.slice A2 ns.length c2)).trans Z7.out)
                  replace SX := Aside0.mk (SX.out.set4 Z6.out (by simp) X6.out (.int .i64 nm) (.int .i64 code) (.slice A1 bd.length c1) (.slice A2 ns.length c2))
                  replace Q2 := Aside0.mk (Q2.out.set4 Z6.out (.int .i64 nm) (.int .i64 code) (.slice A1 bd.length c1) (.slice A2 ns.length c2))
                  replace Q5 := Aside0.mk (Q5.out.set4 Z6.out (.int .i64 nm) (.int .i64 code) (.slice A1 bd.length c1) (.slice A2 ns.length c2))
                  replace Z6 := Aside0.mk (fill4_res Z6.out (.int .i64 nm) (.int .i64 code) (.slice A1 bd.length c1) (.slice A2 ns.length c2))
                  unfold f4 at SX Q2 Q5
                  generalize ((((V20.setCell ⟨p6, 0, none⟩ (.int .i64 nm)).setCell ⟨p6, 1, none⟩ (.int .i64 code)).setCell ⟨p6, 2, none⟩ (.slice A1 bd.length c1)).setCell ⟨p6, 3, none⟩ (.slice A2 ns.length c2)) = W8 at SX Q2 Q5 Z6 Z7 hHeld ⊢
                  have e0 : (W8).cell? ⟨p7, 0, none⟩ = some (.int .i64 0) := (blk_cell (Z7.out) 0).trans rfl
                  have e1 : (W8).cell? ⟨p7, 1, none⟩ = some (.int .i64 0) := (blk_cell (Z7.out) 1).trans rfl
                  have e2 : (W8).cell? ⟨p7, 2, none⟩ = some (.slice none 0 0) := (blk_cell (Z7.out) 2).trans rfl
                  have e3 : (W8).cell? ⟨p7, 3, none⟩ = some (.slice none 0 0) := (blk_cell (Z7.out) 3).trans rfl
                  have ez0 := blk_frozen Z7.out 0
                  have ez1 := blk_frozen Z7.out 1
                  have ez2 := blk_frozen Z7.out 2
                  have ez3 := blk_frozen Z7.out 3
                  refine wpAnyH_ready (rs := [9]) (by kernel_rfl) (by simp) (AllReadyH.cons (o := { dst := none, op := _, type := _, pos := _, after := _, guard := _ }) rfl (fun K hK => ?_) AllReadyH.nil)
                  go_simp
                  refine hK.out _ _ (⟨(SX.out.set4 Z7.out (by simp) X7.out _ _ _ _).k9, (SX.out.set4 Z7.out (by simp) X7.out _ _ _ _).k10⟩) (fun hHeld2 => ?_)
                  clear hK K hHeld
                  have hHeld := hHeld2
                  clear hHeld2
                  try simp only [Act.put, List.setIfInBounds_toArray, List.set_cons_zero, List.set_cons_succ]
                  clear e0 e1 e2 e3 ez0 ez1 ez2 ez3
                  refine wpAnyH_done (by kernel_rfl) ?_ _
                  refine NoPanic.normal ?_
                  refine ⟨rfl, p6, p7, _, nm, code, bd, ns, L', A1, c1, A2, c2, A3, c3, A4, c4, _, _, SX.out.set4 Z7.out (by simp) X7.out (.int .i64 nm) (.int .i64 code) (.slice A3 bd.length c3) (.slice A4 ns.length c4), NX.out, (set4_far hne67 (.int .i64 nm) (.int .i64 code) (.slice A3 bd.length c3) (.slice A4 ns.length c4)).trans Z6.out, fill4_res Z7.out (.int .i64 nm) (.int .i64 code) (.slice A3 bd.length c3) (.slice A4 ns.length c4), Q2.out.set4 Z7.out (.int .i64 nm) (.int .i64 code) (.slice A3 bd.length c3) (.slice A4 ns.length c4), Q5.out.set4 Z7.out (.int .i64 nm) (.int .i64 code) (.slice A3 bd.length c3) (.slice A4 ns.length c4), U2.out, U5.out, HD.out, hne67, X6.out, X7.out, fun z hz => by simp [hz], ?_⟩
                  simp only [Act.put, List.setIfInBounds_toArray, List.set_cons_zero, List.set_cons_succ]
                · go_simp
                  refine hK.out _ _ (⟨blk_alloc hHeld.1 _, blk_alloc hHeld.2 _⟩) (fun hHeld2 => ?_)
                  clear hK K hHeld
                  have hHeld := hHeld2
                  clear hHeld2
                  try simp only [Act.put, List.setIfInBounds_toArray, List.set_cons_zero, List.set_cons_succ]
                  have bz := Aside0.mk (below_alloc (Below.refl V18.heap.size V18) (.cells #[.int .i64 0, .int .i64 0, .slice none 0 0, .slice none 0 0] 32))
                  have Z7 := Aside0.mk (blk_new V18 (.cells #[.int .i64 0, .int .i64 0, .slice none 0 0, .slice none 0 0] 32))
                  have X7 := Aside0.mk (And.intro SX.out.hr.xlt SX.out.bw.size)
                  have D7 := Aside0.mk (blk_lt Z6.out)
                  replace Z6 := Aside0.mk (blk_below Z6.out bz.out)
                  replace Q2 := Aside0.mk (Q2.out.below bz.out)
                  replace SX := Aside0.mk (SX.out.more (.cells #[.int .i64 0, .int .i64 0, .slice none 0 0, .slice none 0 0] 32))
                  replace NX := Aside0.mk (NX.out.more V18.heap.size)
                  clear bz
                  generalize V18.heap.size = p7 at Z7 X7 D7 SX NX ⊢
                  generalize V18.alloc (.cells #[.int .i64 0, .int .i64 0, .slice none 0 0, .slice none 0 0] 32) = V21 at Z7 Z6 Q2 SX hHeld ⊢
                  refine wpAnyH_ready (rs := [5]) (by kernel_rfl) (by simp) (AllReadyH.cons (o := { dst := some 48, op := _, type := _, pos := _, after := _, guard := _ }) rfl (fun K hK => ?_) (AllReadyH.nil))
                  go_simp
                  refine (RDo_calls (p7 :: (p6 :: [o10, b, b2, x])) x q L a.f0 a.f1 a.f2 A9 c9 a.f3 V21 SX.out.hr hL hsm.out HL9.out (Kd.C_below HI9.out SX.out.bw) HD.out).mono ?_
                  rintro e V22 ⟨vb, vn, rfl, hvb, hvn, hR, hg⟩
                  obtain ⟨A3, c3, rfl, hc3, _⟩ := Kd.R_reads hvb
                  obtain ⟨A4, c4, rfl, hc4, _⟩ := Kd.R_reads hvn
                  refine hK.out _ _ (⟨blk_grown hHeld.1 hg (by simpa using NX.out.x9), blk_grown hHeld.2 hg (by simpa using NX.out.x10)⟩) (fun hHeld2 => ?_)
                  clear hK K hHeld
                  have hHeld := hHeld2
                  clear hHeld2
                  try simp only [Act.put, List.setIfInBounds_toArray, List.set_cons_zero, List.set_cons_succ]
                  have Q5 := Aside0.mk (Rs.mk hvb hvn)
                  have U5 := Aside0.mk (And.intro hc3 hc4)
                  replace Q2 := Aside0.mk (Q2.out.turn hg T2.out)
                  replace Z6 := Aside0.mk (blk_grown Z6.out hg (by have := X6.out.1; intro e; injection e; omega))
                  replace Z7 := Aside0.mk (blk_grown Z7.out hg (by have := X7.out.1; intro e; injection e; omega))
                  replace SX := Aside0.mk (SX.out.turnX NX.out hR hg)
                  clear hvb hvn hR hg hc3 hc4
                  have hne67 : p6 ≠ p7 := by first | (have := D6.out; omega) | (have := D7.out; omega)
                  have e0 : (V22).cell? ⟨p6, 0, none⟩ = some (.int .i64 0) := (blk_cell (Z6.out) 0).trans rfl
                  have e1 : (V22).cell? ⟨p6, 1, none⟩ = some (.int .i64 0) := (blk_cell (Z6.out) 1).trans rfl
                  have e2 : (V22).cell? ⟨p6, 2, none⟩ = some (.slice none 0 0) := (blk_cell (Z6.out) 2).trans rfl
                  have e3 : (V22).cell? ⟨p6, 3, none⟩ = some (.slice none 0 0) := (blk_cell (Z6.out) 3).trans rfl
                  have ez0 := blk_frozen Z6.out 0
                  have ez1 := blk_frozen Z6.out 1
                  have ez2 := blk_frozen Z6.out 2
                  have ez3 := blk_frozen Z6.out 3
                  refine wpAnyH_ready (rs := [8]) (by kernel_rfl) (by simp) (AllReadyH.cons (o := { dst := none, op := _, type := _, pos := _, after := _, guard := _ }) rfl (fun K hK => ?_) AllReadyH.nil)
                  go_simp
                  refine hK.out _ _ (⟨(SX.out.set4 Z6.out (by simp) X6.out _ _ _ _).k9, (SX.out.set4 Z6.out (by simp) X6.out _ _ _ _).k10⟩) (fun hHeld2 => ?_)
                  clear hK K hHeld
                  have hHeld := hHeld2
                  clear hHeld2
                  try simp only [Act.put, List.setIfInBounds_toArray, List.set_cons_zero, List.set_cons_succ]
                  clear e0 e1 e2 e3 ez0 ez1 ez2 ez3
                  replace Z7 := Aside0.mk ((set4_far (W := V22) (Ne.symm hne67) (.int .i64 nm) (.int .i64 code) (.slice A1 bd.length c1) (.slice A2 ns.length c2)).trans Z7.out)
                  replace SX := Aside0.mk (SX.out.set4 Z6.out (by simp) X6.out (.int .i64 nm) (.int .i64 code) (.slice A1 bd.length c1) (.slice A2 ns.length c2))
                  replace Q2 := Aside0.mk (Q2.out.set4 Z6.out (.int .i64 nm) (.int .i64 code) (.slice A1 bd.length c1) (.slice A2 ns.length c2))
                  replace Q5 := Aside0.mk (Q5.out.set4 Z6.out (.int .i64 nm) (.int .i64 code) (.slice A1 bd.length c1) (.slice A2 ns.length c2))
                  replace Z6 := Aside0.mk (fill4_res Z6.out (.int .i64 nm) (.int .i64 code) (.slice A1 bd.length c1) (.slice A2 ns.length c2))
                  unfold f4 at SX Q2 Q5
                  generalize ((((V22.setCell ⟨p6, 0, none⟩ (.int .i64 nm)).setCell ⟨p6, 1, none⟩ (.int .i64 code)).setCell ⟨p6, 2, none⟩ (.slice A1 bd.length c1)).setCell ⟨p6, 3, none⟩ (.slice A2 ns.length c2)) = W8 at SX Q2 Q5 Z6 Z7 hHeld ⊢
                  have e0 : (W8).cell? ⟨p7, 0, none⟩ = some (.int .i64 0) := (blk_cell (Z7.out) 0).trans rfl
                  have e1 : (W8).cell? ⟨p7, 1, none⟩ = some (.int .i64 0) := (blk_cell (Z7.out) 1).trans rfl
                  have e2 : (W8).cell? ⟨p7, 2, none⟩ = some (.slice none 0 0) := (blk_cell (Z7.out) 2).trans rfl
                  have e3 : (W8).cell? ⟨p7, 3, none⟩ = some (.slice none 0 0) := (blk_cell (Z7.out) 3).trans rfl
                  have ez0 := blk_frozen Z7.out 0
                  have ez1 := blk_frozen Z7.out 1
                  have ez2 := blk_frozen Z7.out 2
                  have ez3 := blk_frozen Z7.out 3
                  refine wpAnyH_ready (rs := [9]) (by kernel_rfl) (by simp) (AllReadyH.cons (o := { dst := none, op := _, type := _, pos := _, after := _, guard := _ }) rfl (fun K hK => ?_) AllReadyH.nil)
                  go_simp
                  refine hK.out _ _ (⟨(SX.out.set4 Z7.out (by simp) X7.out _ _ _ _).k9, (SX.out.set4 Z7.out (by simp) X7.out _ _ _ _).k10⟩) (fun hHeld2 => ?_)
                  clear hK K hHeld
                  have hHeld := hHeld2
                  clear hHeld2
                  try simp only [Act.put, List.setIfInBounds_toArray, List.set_cons_zero, List.set_cons_succ]
                  clear e0 e1 e2 e3 ez0 ez1 ez2 ez3
                  refine wpAnyH_done (by kernel_rfl) ?_ _
                  refine NoPanic.normal ?_
                  refine ⟨rfl, p6, p7, _, nm, code, bd, ns, L', A1, c1, A2, c2, A3, c3, A4, c4, _, _, SX.out.set4 Z7.out (by simp) X7.out (.int .i64 nm) (.int .i64 code) (.slice A3 bd.length c3) (.slice A4 ns.length c4), NX.out, (set4_far hne67 (.int .i64 nm) (.int .i64 code) (.slice A3 bd.length c3) (.slice A4 ns.length c4)).trans Z6.out, fill4_res Z7.out (.int .i64 nm) (.int .i64 code) (.slice A3 bd.length c3) (.slice A4 ns.length c4), Q2.out.set4 Z7.out (.int .i64 nm) (.int .i64 code) (.slice A3 bd.length c3) (.slice A4 ns.length c4), Q5.out.set4 Z7.out (.int .i64 nm) (.int .i64 code) (.slice A3 bd.length c3) (.slice A4 ns.length c4), U2.out, U5.out, HD.out, hne67, X6.out, X7.out, fun z hz => by simp [hz], ?_⟩
                  simp only [Act.put, List.setIfInBounds_toArray, List.set_cons_zero, List.set_cons_succ]
              · go_simp
                refine hK.out _ _ (⟨blk_alloc hHeld.1 _, blk_alloc hHeld.2 _⟩) (fun hHeld2 => ?_)
                clear hK K hHeld
                have hHeld := hHeld2
                clear hHeld2
                try simp only [Act.put, List.setIfInBounds_toArray, List.set_cons_zero, List.set_cons_succ]
                have bz := Aside0.mk (below_alloc (Below.refl V17.heap.size V17) (.cells #[.int .i64 0, .int .i64 0, .slice none 0 0, .slice none 0 0] 32))
                have Z7 := Aside0.mk (blk_new V17 (.cells #[.int .i64 0, .int .i64 0, .slice none 0 0, .slice none 0 0] 32))
                have X7 := Aside0.mk (And.intro SX.out.hr.xlt SX.out.bw.size)
                have D7 := Aside0.mk (blk_lt Z6.out)
                replace Z6 := Aside0.mk (blk_below Z6.out bz.out)
                replace SX := Aside0.mk (SX.out.more (.cells #[.int .i64 0, .int .i64 0, .slice none 0 0, .slice none 0 0] 32))
                replace NX := Aside0.mk (NX.out.more V17.heap.size)
                clear bz
                generalize V17.heap.size = p7 at Z7 X7 D7 SX NX ⊢
                generalize V17.alloc (.cells #[.int .i64 0, .int .i64 0, .slice none 0 0, .slice none 0 0] 32) = V23 at Z7 Z6 SX hHeld ⊢
                refine wpAnyH_ready (rs := [2]) (by kernel_rfl) (by simp) (AllReadyH.cons (o := { dst := some 45, op := _, type := _, pos := _, after := _, guard := _ }) rfl (fun K hK => ?_) (AllReadyH.nil))
                go_simp
                refine (Do_calls g b q L a.f0 a.f1 a.f2 A8 c8 a.f3 V23 SX.out.hb hL hq HL8.out (Kd.R_reads' SX.out.r8).2.2).mono ?_
                rintro e V24 ⟨vb, vn, nm, code, bd, ns, L', rfl, hvb, hvn, hB, hg, hD⟩
                obtain ⟨A1, c1, rfl, hc1, _⟩ := Kd.R_reads hvb
                obtain ⟨A2, c2, rfl, hc2, _⟩ := Kd.R_reads hvn
                refine hK.out _ _ (⟨blk_grown hHeld.1 hg (by simpa using NX.out.b9), blk_grown hHeld.2 hg (by simpa using NX.out.b10)⟩) (fun hHeld2 => ?_)
                clear hK K hHeld
                have hHeld := hHeld2
                clear hHeld2
                try simp only [Act.put, List.setIfInBounds_toArray, List.set_cons_zero, List.set_cons_succ]
                have HD := Aside0.mk hD
                have Q2 := Aside0.mk (Rs.mk hvb hvn)
                have U2 := Aside0.mk (And.intro hc1 hc2)
                replace Z6 := Aside0.mk (blk_grown Z6.out hg (by simpa using SX.out.hb.notcells Z6.out))
                replace Z7 := Aside0.mk (blk_grown Z7.out hg (by simpa using SX.out.hb.notcells Z7.out))
                have T2 := Aside0.mk (show x < V23.heap.size from SX.out.hr.xlt)
                have hsm := Aside0.mk SX.out.hb.small
                replace SX := Aside0.mk (SX.out.turn NX.out hB hg)
                clear hvb hvn hB hg hD hc1 hc2
                refine wpAnyH_ready (rs := [5]) (by kernel_rfl) (by simp) (AllReadyH.cons (o := { dst := some 48, op := _, type := _, pos := _, after := _, guard := _ }) rfl (fun K hK => ?_) (AllReadyH.nil))
                go_simp
                refine (RDo_calls (p7 :: (p6 :: [o10, b, b2, x])) x q L a.f0 a.f1 a.f2 A9 c9 a.f3 V24 SX.out.hr hL hsm.out HL9.out (Kd.C_below HI9.out SX.out.bw) HD.out).mono ?_
                rintro e V25 ⟨vb, vn, rfl, hvb, hvn, hR, hg⟩
                obtain ⟨A3, c3, rfl, hc3, _⟩ := Kd.R_reads hvb
                obtain ⟨A4, c4, rfl, hc4, _⟩ := Kd.R_reads hvn
                refine hK.out _ _ (⟨blk_grown hHeld.1 hg (by simpa using NX.out.x9), blk_grown hHeld.2 hg (by simpa using NX.out.x10)⟩) (fun hHeld2 => ?_)
                clear hK K hHeld
                have hHeld := hHeld2
                clear hHeld2
                try simp only [Act.put, List.setIfInBounds_toArray, List.set_cons_zero, List.set_cons_succ]
                have Q5 := Aside0.mk (Rs.mk hvb hvn)
                have U5 := Aside0.mk (And.intro hc3 hc4)
                replace Q2 := Aside0.mk (Q2.out.turn hg T2.out)
                replace Z6 := Aside0.mk (blk_grown Z6.out hg (by have := X6.out.1; intro e; injection e; omega))
                replace Z7 := Aside0.mk (blk_grown Z7.out hg (by have := X7.out.1; intro e; injection e; omega))
                replace SX := Aside0.mk (SX.out.turnX NX.out hR hg)
                clear hvb hvn hR hg hc3 hc4
                have hne67 : p6 ≠ p7 := by first | (have := D6.out; omega) | (have := D7.out; omega)
                have e0 : (V25).cell? ⟨p6, 0, none⟩ = some (.int .i64 0) := (blk_cell (Z6.out) 0).trans rfl
                have e1 : (V25).cell? ⟨p6, 1, none⟩ = some (.int .i64 0) := (blk_cell (Z6.out) 1).trans rfl
                have e2 : (V25).cell? ⟨p6, 2, none⟩ = some (.slice none 0 0) := (blk_cell (Z6.out) 2).trans rfl
                have e3 : (V25).cell? ⟨p6, 3, none⟩ = some (.slice none 0 0) := (blk_cell (Z6.out) 3).trans rfl
                have ez0 := blk_frozen Z6.out 0
                have ez1 := blk_frozen Z6.out 1
                have ez2 := blk_frozen Z6.out 2
                have ez3 := blk_frozen Z6.out 3
                refine wpAnyH_ready (rs := [8]) (by kernel_rfl) (by simp) (AllReadyH.cons (o := { dst := none, op := _, type := _, pos := _, after := _, guard := _ }) rfl (fun K hK => ?_) AllReadyH.nil)
                go_simp
                refine hK.out _ _ (⟨(SX.out.set4 Z6.out (by simp) X6.out _ _ _ _).k9, (SX.out.set4 Z6.out (by simp) X6.out _ _ _ _).k10⟩) (fun hHeld2 => ?_)
                clear hK K hHeld
                have hHeld := hHeld2
                clear hHeld2
                try simp only [Act.put, List.setIfInBounds_toArray, List.set_cons_zero, List.set_cons_succ]
                clear e0 e1 e2 e3 ez0 ez1 ez2 ez3
                replace Z7 := Aside0.mk ((set4_far (W := V25) (Ne.symm hne67) (.int .i64 nm) (.int .i64 code) (.slice A1 bd.length c1) (.slice A2 ns.length c2)).trans Z7.out)
                replace SX := Aside0.mk (SX.out.set4 Z6.out (by simp) X6.out (.int .i64 nm) (.int .i64 code) (.slice A1 bd.length c1) (.slice A2 ns.length c2))
                replace Q2 := Aside0.mk (Q2.out.set4 Z6.out (.int .i64 nm) (.int .i64 code) (.slice A1 bd.length c1) (.slice A2 ns.length c2))
                replace Q5 := Aside0.mk (Q5.out.set4 Z6.out (.int .i64 nm) (.int .i64 code) (.slice A1 bd.length c1) (.slice A2 ns.length c2))
                replace Z6 := Aside0.mk (fill4_res Z6.out (.int .i64 nm) (.int .i64 code) (.slice A1 bd.length c1) (.slice A2 ns.length c2))
                unfold f4 at SX Q2 Q5
                generalize ((((V25.setCell ⟨p6, 0, none⟩ (.int .i64 nm)).setCell ⟨p6, 1, none⟩ (.int .i64 code)).setCell ⟨p6, 2, none⟩ (.slice A1 bd.length c1)).setCell ⟨p6, 3, none⟩ (.slice A2 ns.length c2)) = W8 at SX Q2 Q5 Z6 Z7 hHeld ⊢
                have e0 : (W8).cell? ⟨p7, 0, none⟩ = some (.int .i64 0) := (blk_cell (Z7.out) 0).trans rfl
                have e1 : (W8).cell? ⟨p7, 1, none⟩ = some (.int .i64 0) := (blk_cell (Z7.out) 1).trans rfl
                have e2 : (W8).cell? ⟨p7, 2, none⟩ = some (.slice none 0 0) := (blk_cell (Z7.out) 2).trans rfl
                have e3 : (W8).cell? ⟨p7, 3, none⟩ = some (.slice none 0 0) := (blk_cell (Z7.out) 3).trans rfl
                have ez0 := blk_frozen Z7.out 0
                have ez1 := blk_frozen Z7.out 1
                have ez2 := blk_frozen Z7.out 2
                have ez3 := blk_frozen Z7.out 3
                refine wpAnyH_ready (rs := [9]) (by kernel_rfl) (by simp) (AllReadyH.cons (o := { dst := none, op := _, type := _, pos := _, after := _, guard := _ }) rfl (fun K hK => ?_) AllReadyH.nil)
                go_simp
                refine hK.out _ _ (⟨(SX.out.set4 Z7.out (by simp) X7.out _ _ _ _).k9, (SX.out.set4 Z7.out (by simp) X7.out _ _ _ _).k10⟩) (fun hHeld2 => ?_)
                clear hK K hHeld
                have hHeld := hHeld2
                clear hHeld2
                try simp only [Act.put, List.setIfInBounds_toArray, List.set_cons_zero, List.set_cons_succ]
                clear e0 e1 e2 e3 ez0 ez1 ez2 ez3
                refine wpAnyH_done (by kernel_rfl) ?_ _
                refine NoPanic.normal ?_
                refine ⟨rfl, p6, p7, _, nm, code, bd, ns, L', A1, c1, A2, c2, A3, c3, A4, c4, _, _, SX.out.set4 Z7.out (by simp) X7.out (.int .i64 nm) (.int .i64 code) (.slice A3 bd.length c3) (.slice A4 ns.length c4), NX.out, (set4_far hne67 (.int .i64 nm) (.int .i64 code) (.slice A3 bd.length c3) (.slice A4 ns.length c4)).trans Z6.out, fill4_res Z7.out (.int .i64 nm) (.int .i64 code) (.slice A3 bd.length c3) (.slice A4 ns.length c4), Q2.out.set4 Z7.out (.int .i64 nm) (.int .i64 code) (.slice A3 bd.length c3) (.slice A4 ns.length c4), Q5.out.set4 Z7.out (.int .i64 nm) (.int .i64 code) (.slice A3 bd.length c3) (.slice A4 ns.length c4), U2.out, U5.out, HD.out, hne67, X6.out, X7.out, fun z hz => by simp [hz], ?_⟩
                simp only [Act.put, List.setIfInBounds_toArray, List.set_cons_zero, List.set_cons_succ]
            · go_simp
              refine hK.out _ _ (⟨blk_alloc hHeld.1 _, blk_alloc hHeld.2 _⟩) (fun hHeld2 => ?_)
              clear hK K hHeld
              have hHeld := hHeld2
              clear hHeld2
              try simp only [Act.put, List.setIfInBounds_toArray, List.set_cons_zero, List.set_cons_succ]
              have bz := Aside0.mk (below_alloc (Below.refl V0.heap.size V0) (.cells #[.int .i64 0, .int .i64 0, .slice none 0 0, .slice none 0 0] 32))
              have Z7 := Aside0.mk (blk_new V0 (.cells #[.int .i64 0, .int .i64 0, .slice none 0 0, .slice none 0 0] 32))
              have X7 := Aside0.mk (And.intro SX.out.hr.xlt SX.out.bw.size)
              replace SX := Aside0.mk (SX.out.more (.cells #[.int .i64 0, .int .i64 0, .slice none 0 0, .slice none 0 0] 32))
              replace NX := Aside0.mk (NX.out.more V0.heap.size)
              clear bz
              generalize V0.heap.size = p7 at Z7 X7 SX NX ⊢
              generalize V0.alloc (.cells #[.int .i64 0, .int .i64 0, .slice none 0 0, .slice none 0 0] 32) = V26 at Z7 SX hHeld ⊢
              refine wpAnyH_ready (rs := [2, 6]) (by kernel_rfl) (by simp) (AllReadyH.cons (o := { dst := some 45, op := _, type := _, pos := _, after := _, guard := _ }) rfl (fun K hK => ?_) (AllReadyH.cons (o := { dst := some 11, op := _, type := _, pos := _, after := _, guard := _ }) rfl (fun K hK => ?_) (AllReadyH.nil)))
              · go_simp
                refine (Do_calls g b q L a.f0 a.f1 a.f2 A8 c8 a.f3 V26 SX.out.hb hL hq HL8.out (Kd.R_reads' SX.out.r8).2.2).mono ?_
                rintro e V27 ⟨vb, vn, nm, code, bd, ns, L', rfl, hvb, hvn, hB, hg, hD⟩
                obtain ⟨A1, c1, rfl, hc1, _⟩ := Kd.R_reads hvb
                obtain ⟨A2, c2, rfl, hc2, _⟩ := Kd.R_reads hvn
                refine hK.out _ _ (⟨blk_grown hHeld.1 hg (by simpa using NX.out.b9), blk_grown hHeld.2 hg (by simpa using NX.out.b10)⟩) (fun hHeld2 => ?_)
                clear hK K hHeld
                have hHeld := hHeld2
                clear hHeld2
                try simp only [Act.put, List.setIfInBounds_toArray, List.set_cons_zero, List.set_cons_succ]
                have HD := Aside0.mk hD
                have Q2 := Aside0.mk (Rs.mk hvb hvn)
                have U2 := Aside0.mk (And.intro hc1 hc2)
                replace Z7 := Aside0.mk (blk_grown Z7.out hg (by simpa using SX.out.hb.notcells Z7.out))
                have T2 := Aside0.mk (show x < V26.heap.size from SX.out.hr.xlt)
                have hsm := Aside0.mk SX.out.hb.small
                replace SX := Aside0.mk (SX.out.turn NX.out hB hg)
                clear hvb hvn hB hg hD hc1 hc2
                refine wpAnyH_ready (rs := [5, 6]) (by kernel_rfl) (by simp) (AllReadyH.cons (o := { dst := some 48, op := _, type := _, pos := _, after := _, guard := _ }) rfl (fun K hK => ?_) (AllReadyH.cons (o := { dst := some 11, op := _, type := _, pos := _, after := _, guard := _ }) rfl (fun K hK => ?_) (AllReadyH.nil)))
                · go_simp
                  refine (RDo_calls (p7 :: [o10, b, b2, x]) x q L a.f0 a.f1 a.f2 A9 c9 a.f3 V27 SX.out.hr hL hsm.out HL9.out (Kd.C_below HI9.out SX.out.bw) HD.out).mono ?_
                  rintro e V28 ⟨vb, vn, rfl, hvb, hvn, hR, hg⟩
                  obtain ⟨A3, c3, rfl, hc3, _⟩ := Kd.R_reads hvb
                  obtain ⟨A4, c4, rfl, hc4, _⟩ := Kd.R_reads hvn
                  refine hK.out _ _ (⟨blk_grown hHeld.1 hg (by simpa using NX.out.x9), blk_grown hHeld.2 hg (by simpa using NX.out.x10)⟩) (fun hHeld2 => ?_)
                  clear hK K hHeld
                  have hHeld := hHeld2
                  clear hHeld2
                  try simp only [Act.put, List.setIfInBounds_toArray, List.set_cons_zero, List.set_cons_succ]
                  have Q5 := Aside0.mk (Rs.mk hvb hvn)
                  have U5 := Aside0.mk (And.intro hc3 hc4)
                  replace Q2 := Aside0.mk (Q2.out.turn hg T2.out)
                  replace Z7 := Aside0.mk (blk_grown Z7.out hg (by have := X7.out.1; intro e; injection e; omega))
                  replace SX := Aside0.mk (SX.out.turnX NX.out hR hg)
                  clear hvb hvn hR hg hc3 hc4
                  refine wpAnyH_ready (rs := [6]) (by kernel_rfl) (by simp) (AllReadyH.cons (o := { dst := some 11, op := _, type := _, pos := _, after := _, guard := _ }) rfl (fun K hK => ?_) (AllReadyH.nil))
                  go_simp
                  refine hK.out _ _ (⟨blk_alloc hHeld.1 _, blk_alloc hHeld.2 _⟩) (fun hHeld2 => ?_)
                  clear hK K hHeld
                  have hHeld := hHeld2
                  clear hHeld2
                  try simp only [Act.put, List.setIfInBounds_toArray, List.set_cons_zero, List.set_cons_succ]
                  have bz := Aside0.mk (below_alloc (Below.refl V28.heap.size V28) (.cells #[.int .i64 0, .int .i64 0, .slice none 0 0, .slice none 0 0] 32))
                  have Z6 := Aside0.mk (blk_new V28 (.cells #[.int .i64 0, .int .i64 0, .slice none 0 0, .slice none 0 0] 32))
                  have X6 := Aside0.mk (And.intro SX.out.hr.xlt SX.out.bw.size)
                  have D6 := Aside0.mk (blk_lt Z7.out)
                  replace Z7 := Aside0.mk (blk_below Z7.out bz.out)
                  replace Q2 := Aside0.mk (Q2.out.below bz.out)
                  replace Q5 := Aside0.mk (Q5.out.below bz.out)
                  replace SX := Aside0.mk (SX.out.more (.cells #[.int .i64 0, .int .i64 0, .slice none 0 0, .slice none 0 0] 32))
                  replace NX := Aside0.mk (NX.out.more V28.heap.size)
                  clear bz
                  generalize V28.heap.size = p6 at Z6 X6 D6 SX NX ⊢
                  generalize V28.alloc (.cells #[.int .i64 0, .int .i64 0, .slice none 0 0, .slice none 0 0] 32) = V29 at Z6 Z7 Q2 Q5 SX hHeld ⊢
                  have hne67 : p6 ≠ p7 := by first | (have := D6.out; omega) | (have := D7.out; omega)
                  have e0 : (V29).cell? ⟨p6, 0, none⟩ = some (.int .i64 0) := (blk_cell (Z6.out) 0).trans rfl
                  have e1 : (V29).cell? ⟨p6, 1, none⟩ = some (.int .i64 0) := (blk_cell (Z6.out) 1).trans rfl
                  have e2 : (V29).cell? ⟨p6, 2, none⟩ = some (.slice none 0 0) := (blk_cell (Z6.out) 2).trans rfl
                  have e3 : (V29).cell? ⟨p6, 3, none⟩ = some (.slice none 0 0) := (blk_cell (Z6.out) 3).trans rfl
                  have ez0 := blk_frozen Z6.out 0
                  have ez1 := blk_frozen Z6.out 1
                  have ez2 := blk_frozen Z6.out 2
                  have ez3 := blk_frozen Z6.out 3
                  refine wpAnyH_ready (rs := [8]) (by kernel_rfl) (by simp) (AllReadyH.cons (o := { dst := none, op := _, type := _, pos := _, after := _, guard := _ }) rfl (fun K hK => ?_) AllReadyH.nil)
                  go_simp
                  refine hK.out _ _ (⟨(SX.out.set4 Z6.out (by simp) X6.out _ _ _ _).k9, (SX.out.set4 Z6.out (by simp) X6.out _ _ _ _).k10⟩) (fun hHeld2 => ?_)
                  clear hK K hHeld
                  have hHeld := hHeld2
                  clear hHeld2
                  try simp only [Act.put, List.setIfInBounds_toArray, List.set_cons_zero, List.set_cons_succ]
                  clear e0 e1 e2 e3 ez0 ez1 ez2 ez3
                  replace Z7 := Aside0.mk ((set4_far (W := V29) (Ne.symm hne67) (.int .i64 nm) (.int .i64 code) (.slice A1 bd.length c1) (.slice A2 ns.length c2)).trans Z7.out)
                  replace SX := Aside0.mk (SX.out.set4 Z6.out (by simp) X6.out (.int .i64 nm) (.int .i64 code) (.slice A1 bd.length c1) (.slice A2 ns.length c2))
                  replace Q2 := Aside0.mk (Q2.out.set4 Z6.out (.int .i64 nm) (.int .i64 code) (.slice A1 bd.length c1) (.slice A2 ns.length c2))
                  replace Q5 := Aside0.mk (Q5.out.set4 Z6.out (.int .i64 nm) (.int .i64 code) (.slice A1 bd.length c1) (.slice A2 ns.length c2))
                  replace Z6 := Aside0.mk (fill4_res Z6.out (.int .i64 nm) (.int .i64 code) (.slice A1 bd.length c1) (.slice A2 ns.length c2))
                  unfold f4 at SX Q2 Q5
                  generalize ((((V29.setCell ⟨p6, 0, none⟩ (.int .i64 nm)).setCell ⟨p6, 1, none⟩ (.int .i64 code)).setCell ⟨p6, 2, none⟩ (.slice A1 bd.length c1)).setCell ⟨p6, 3, none⟩ (.slice A2 ns.length c2)) = W8 at SX Q2 Q5 Z6 Z7 hHeld ⊢
                  have e0 : (W8).cell? ⟨p7, 0, none⟩ = some (.int .i64 0) := (blk_cell (Z7.out) 0).trans rfl
                  have e1 : (W8).cell? ⟨p7, 1, none⟩ = some (.int .i64 0) := (blk_cell (Z7.out) 1).trans rfl
                  have e2 : (W8).cell? ⟨p7, 2, none⟩ = some (.slice none 0 0) := (blk_cell (Z7.out) 2).trans rfl
                  have e3 : (W8).cell? ⟨p7, 3, none⟩ = some (.slice none 0 0) := (blk_cell (Z7.out) 3).trans rfl
                  have ez0 := blk_frozen Z7.out 0
                  have ez1 := blk_frozen Z7.out 1
                  have ez2 := blk_frozen Z7.out 2
                  have ez3 := blk_frozen Z7.out 3
                  refine wpAnyH_ready (rs := [9]) (by kernel_rfl) (by simp) (AllReadyH.cons (o := { dst := none, op := _, type := _, pos := _, after := _, guard := _ }) rfl (fun K hK => ?_) AllReadyH.nil)
                  go_simp
                  refine hK.out _ _ (⟨(SX.out.set4 Z7.out (by simp) X7.out _ _ _ _).k9, (SX.out.set4 Z7.out (by simp) X7.out _ _ _ _).k10⟩) (fun hHeld2 => ?_)
                  clear hK K hHeld
                  have hHeld := hHeld2
                  clear hHeld2
                  try simp only [Act.put, List.setIfInBounds_toArray, List.set_cons_zero, List.set_cons_succ]
                  clear e0 e1 e2 e3 ez0 ez1 ez2 ez3
                  refine wpAnyH_done (by kernel_rfl) ?_ _
                  refine NoPanic.normal ?_
                  refine ⟨rfl, p6, p7, _, nm, code, bd, ns, L', A1, c1, A2, c2, A3, c3, A4, c4, _, _, SX.out.set4 Z7.out (by simp) X7.out (.int .i64 nm) (.int .i64 code) (.slice A3 bd.length c3) (.slice A4 ns.length c4), NX.out, (set4_far hne67 (.int .i64 nm) (.int .i64 code) (.slice A3 bd.length c3) (.slice A4 ns.length c4)).trans Z6.out, fill4_res Z7.out (.int .i64 nm) (.int .i64 code) (.slice A3 bd.length c3) (.slice A4 ns.length c4), Q2.out.set4 Z7.out (.int .i64 nm) (.int .i64 code) (.slice A3 bd.length c3) (.slice A4 ns.length c4), Q5.out.set4 Z7.out (.int .i64 nm) (.int .i64 code) (.slice A3 bd.length c3) (.slice A4 ns.length c4), U2.out, U5.out, HD.out, hne67, X6.out, X7.out, fun z hz => by simp [hz], ?_⟩
                  simp only [Act.put, List.setIfInBounds_toArray, List.set_cons_zero, List.set_cons_succ]
                · go_simp
                  refine hK.out _ _ (⟨blk_alloc hHeld.1 _, blk_alloc hHeld.2 _⟩) (fun hHeld2 => ?_)
                  clear hK K hHeld
                  have hHeld := hHeld2
                  clear hHeld2
                  try simp only [Act.put, List.setIfInBounds_toArray, List.set_cons_zero, List.set_cons_succ]
                  have bz := Aside0.mk (below_alloc (Below.refl V27.heap.size V27) (.cells #[.int .i64 0, .int .i64 0, .slice none 0 0, .slice none 0 0] 32))
                  have Z6 := Aside0.mk (blk_new V27 (.cells #[.int .i64 0, .int .i64 0, .slice none 0 0, .slice none 0 0] 32))
                  have X6 := Aside0.mk (And.intro SX.out.hr.xlt SX.out.bw.size)
                  have D6 := Aside0.mk (blk_lt Z7.out)
                  replace Z7 := Aside0.mk (blk_below Z7.out bz.out)
                  replace Q2 := Aside0.mk (Q2.out.below bz.out)
                  replace SX := Aside0.mk (SX.out.more (.cells #[.int .i64 0, .int .i64 0, .slice none 0 0, .slice none 0 0] 32))
                  replace NX := Aside0.mk (NX.out.more V27.heap.size)
                  clear bz
                  generalize V27.heap.size = p6 at Z6 X6 D6 SX NX ⊢
                  generalize V27.alloc (.cells #[.int .i64 0, .int .i64 0, .slice none 0 0, .slice none 0 0] 32) = V30 at Z6 Z7 Q2 SX hHeld ⊢
                  refine wpAnyH_ready (rs := [5]) (by kernel_rfl) (by simp) (AllReadyH.cons (o := { dst := some 48, op := _, type := _, pos := _, after := _, guard := _ }) rfl (fun K hK => ?_) (AllReadyH.nil))
                  go_simp
                  refine (RDo_calls (p6 :: (p7 :: [o10, b, b2, x])) x q L a.f0 a.f1 a.f2 A9 c9 a.f3 V30 SX.out.hr hL hsm.out HL9.out (Kd.C_below HI9.out SX.out.bw) HD.out).mono ?_
                  rintro e V31 ⟨vb, vn, rfl, hvb, hvn, hR, hg⟩
                  obtain ⟨A3, c3, rfl, hc3, _⟩ := Kd.R_reads hvb
                  obtain ⟨A4, c4, rfl, hc4, _⟩ := Kd.R_reads hvn
                  refine hK.out _ _ (⟨blk_grown hHeld.1 hg (by simpa using NX.out.x9), blk_grown hHeld.2 hg (by simpa using NX.out.x10)⟩) (fun hHeld2 => ?_)
                  clear hK K hHeld
                  have hHeld := hHeld2
                  clear hHeld2
                  try simp only [Act.put, List.setIfInBounds_toArray, List.set_cons_zero, List.set_cons_succ]
                  have Q5 := Aside0.mk (Rs.mk hvb hvn)
                  have U5 := Aside0.mk (And.intro hc3 hc4)
                  replace Q2 := Aside0.mk (Q2.out.turn hg T2.out)
                  replace Z6 := Aside0.mk (blk_grown Z6.out hg (by have := X6.out.1; intro e; injection e; omega))
                  replace Z7 := Aside0.mk (blk_grown Z7.out hg (by have := X7.out.1; intro e; injection e; omega))
                  replace SX := Aside0.mk (SX.out.turnX NX.out hR hg)
                  clear hvb hvn hR hg hc3 hc4
                  have hne67 : p6 ≠ p7 := by first | (have := D6.out; omega) | (have := D7.out; omega)
                  have e0 : (V31).cell? ⟨p6, 0, none⟩ = some (.int .i64 0) := (blk_cell (Z6.out) 0).trans rfl
                  have e1 : (V31).cell? ⟨p6, 1, none⟩ = some (.int .i64 0) := (blk_cell (Z6.out) 1).trans rfl
                  have e2 : (V31).cell? ⟨p6, 2, none⟩ = some (.slice none 0 0) := (blk_cell (Z6.out) 2).trans rfl
                  have e3 : (V31).cell? ⟨p6, 3, none⟩ = some (.slice none 0 0) := (blk_cell (Z6.out) 3).trans rfl
                  have ez0 := blk_frozen Z6.out 0
                  have ez1 := blk_frozen Z6.out 1
                  have ez2 := blk_frozen Z6.out 2
                  have ez3 := blk_frozen Z6.out 3
                  refine wpAnyH_ready (rs := [8]) (by kernel_rfl) (by simp) (AllReadyH.cons (o := { dst := none, op := _, type := _, pos := _, after := _, guard := _ }) rfl (fun K hK => ?_) AllReadyH.nil)
                  go_simp
                  refine hK.out _ _ (⟨(SX.out.set4 Z6.out (by simp) X6.out _ _ _ _).k9, (SX.out.set4 Z6.out (by simp) X6.out _ _ _ _).k10⟩) (fun hHeld2 => ?_)
                  clear hK K hHeld
                  have hHeld := hHeld2
                  clear hHeld2
                  try simp only [Act.put, List.setIfInBounds_toArray, List.set_cons_zero, List.set_cons_succ]
                  clear e0 e1 e2 e3 ez0 ez1 ez2 ez3
                  replace Z7 := Aside0.mk ((set4_far (W := V31) (Ne.symm hne67) (.int .i64 nm) (.int .i64 code) (.slice A1 bd.length c1) (.slice A2 ns.length c2)).trans Z7.out)
                  replace SX := Aside0.mk (SX.out.set4 Z6.out (by simp) X6.out (.int .i64 nm) (.int .i64 code) (.slice A1 bd.length c1) (.slice A2 ns.length c2))
                  replace Q2 := Aside0.mk (Q2.out.set4 Z6.out (.int .i64 nm) (.int .i64 code) (.slice A1 bd.length c1) (.slice A2 ns.length c2))
                  replace Q5 := Aside0.mk (Q5.out.set4 Z6.out (.int .i64 nm) (.int .i64 code) (.slice A1 bd.length c1) (.slice A2 ns.length c2))
                  replace Z6 := Aside0.mk (fill4_res Z6.out (.int .i64 nm) (.int .i64 code) (.slice A1 bd.length c1) (.slice A2 ns.length c2))
                  unfold f4 at SX Q2 Q5
                  generalize ((((V31.setCell ⟨p6, 0, none⟩ (.int .i64 nm)).setCell ⟨p6, 1, none⟩ (.int .i64 code)).setCell ⟨p6, 2, none⟩ (.slice A1 bd.length c1)).setCell ⟨p6, 3, none⟩ (.slice A2 ns.length c2)) = W8 at SX Q2 Q5 Z6 Z7 hHeld ⊢
                  have e0 : (W8).cell? ⟨p7, 0, none⟩ = some (.int .i64 0) := (blk_cell (Z7.out) 0).trans rfl
                  have e1 : (W8).cell? ⟨p7, 1, none⟩ = some (.int .i64 0) := (blk_cell (Z7.out) 1).trans rfl
                  have e2 : (W8).cell? ⟨p7, 2, none⟩ = some (.slice none 0 0) := (blk_cell (Z7.out) 2).trans rfl
                  have e3 : (W8).cell? ⟨p7, 3, none⟩ = some (.slice none 0 0) := (blk_cell (Z7.out) 3).trans rfl
                  have ez0 := blk_frozen Z7.out 0
                  have ez1 := blk_frozen Z7.out 1
                  have ez2 := blk_frozen Z7.out 2
                  have ez3 := blk_frozen Z7.out 3
                  refine wpAnyH_ready (rs := [9]) (by kernel_rfl) (by simp) (AllReadyH.cons (o := { dst := none, op := _, type := _, pos := _, after := _, guard := _ }) rfl (fun K hK => ?_) AllReadyH.nil)
                  go_simp
                  refine hK.out _ _ (⟨(SX.out.set4 Z7.out (by simp) X7.out _ _ _ _).k9, (SX.out.set4 Z7.out (by simp) X7.out _ _ _ _).k10⟩) (fun hHeld2 => ?_)
                  clear hK K hHeld
                  have hHeld := hHeld2
                  clear hHeld2
                  try simp only [Act.put, List.setIfInBounds_toArray, List.set_cons_zero, List.set_cons_succ]
                  clear e0 e1 e2 e3 ez0 ez1 ez2 ez3
                  refine wpAnyH_done (by kernel_rfl) ?_ _
                  refine NoPanic.normal ?_
                  refine ⟨rfl, p6, p7, _, nm, code, bd, ns, L', A1, c1, A2, c2, A3, c3, A4, c4, _, _, SX.out.set4 Z7.out (by simp) X7.out (.int .i64 nm) (.int .i64 code) (.slice A3 bd.length c3) (.slice A4 ns.length c4), NX.out, (set4_far hne67 (.int .i64 nm) (.int .i64 code) (.slice A3 bd.length c3) (.slice A4 ns.length c4)).trans Z6.out, fill4_res Z7.out (.int .i64 nm) (.int .i64 code) (.slice A3 bd.length c3) (.slice A4 ns.length c4), Q2.out.set4 Z7.out (.int .i64 nm) (.int .i64 code) (.slice A3 bd.length c3) (.slice A4 ns.length c4), Q5.out.set4 Z7.out (.int .i64 nm) (.int .i64 code) (.slice A3 bd.length c3) (.slice A4 ns.length c4), U2.out, U5.out, HD.out, hne67, X6.out, X7.out, fun z hz => by simp [hz], ?_⟩
                  simp only [Act.put, List.setIfInBounds_toArray, List.set_cons_zero, List.set_cons_succ]
              · go_simp
                refine hK.out _ _ (⟨blk_alloc hHeld.1 _, blk_alloc hHeld.2 _⟩) (fun hHeld2 => ?_)
                clear hK K hHeld
                have hHeld := hHeld2
                clear hHeld2
                try simp only [Act.put, List.setIfInBounds_toArray, List.set_cons_zero, List.set_cons_succ]
                have bz := Aside0.mk (below_alloc (Below.refl V26.heap.size V26) (.cells #[.int .i64 0, .int .i64 0, .slice none 0 0, .slice none 0 0] 32))
                have Z6 := Aside0.mk (blk_new V26 (.cells #[.int .i64 0, .int .i64 0, .slice none 0 0, .slice none 0 0] 32))
                have X6 := Aside0.mk (And.intro SX.out.hr.xlt SX.out.bw.size)
                have D6 := Aside0.mk (blk_lt Z7.out)
                replace Z7 := Aside0.mk (blk_below Z7.out bz.out)
                replace SX := Aside0.mk (SX.out.more (.cells #[.int .i64 0, .int .i64 0, .slice none 0 0, .slice none 0 0] 32))
                replace NX := Aside0.mk (NX.out.more V26.heap.size)
                clear bz
                generalize V26.heap.size = p6 at Z6 X6 D6 SX NX ⊢
                generalize V26.alloc (.cells #[.int .i64 0, .int .i64 0, .slice none 0 0, .slice none 0 0] 32) = V32 at Z6 Z7 SX hHeld ⊢
                refine wpAnyH_ready (rs := [2]) (by kernel_rfl) (by simp) (AllReadyH.cons (o := { dst := some 45, op := _, type := _, pos := _, after := _, guard := _ }) rfl (fun K hK => ?_) (AllReadyH.nil))
                go_simp
                refine (Do_calls g b q L a.f0 a.f1 a.f2 A8 c8 a.f3 V32 SX.out.hb hL hq HL8.out (Kd.R_reads' SX.out.r8).2.2).mono ?_
                rintro e V33 ⟨vb, vn, nm, code, bd, ns, L', rfl, hvb, hvn, hB, hg, hD⟩
                obtain ⟨A1, c1, rfl, hc1, _⟩ := Kd.R_reads hvb
                obtain ⟨A2, c2, rfl, hc2, _⟩ := Kd.R_reads hvn
                refine hK.out _ _ (⟨blk_grown hHeld.1 hg (by simpa using NX.out.b9), blk_grown hHeld.2 hg (by simpa using NX.out.b10)⟩) (fun hHeld2 => ?_)
                clear hK K hHeld
                have hHeld := hHeld2
                clear hHeld2
                try simp only [Act.put, List.setIfInBounds_toArray, List.set_cons_zero, List.set_cons_succ]
                have HD := Aside0.mk hD
                have Q2 := Aside0.mk (Rs.mk hvb hvn)
                have U2 := Aside0.mk (And.intro hc1 hc2)
                replace Z6 := Aside0.mk (blk_grown Z6.out hg (by simpa using SX.out.hb.notcells Z6.out))
                replace Z7 := Aside0.mk (blk_grown Z7.out hg (by simpa using SX.out.hb.notcells Z7.out))
                have T2 := Aside0.mk (show x < V32.heap.size from SX.out.hr.xlt)
                have hsm := Aside0.mk SX.out.hb.small
                replace SX := Aside0.mk (SX.out.turn NX.out hB hg)
                clear hvb hvn hB hg hD hc1 hc2
                refine wpAnyH_ready (rs := [5]) (by kernel_rfl) (by simp) (AllReadyH.cons (o := { dst := some 48, op := _, type := _, pos := _, after := _, guard := _ }) rfl (fun K hK => ?_) (AllReadyH.nil))
                go_simp
                refine (RDo_calls (p6 :: (p7 :: [o10, b, b2, x])) x q L a.f0 a.f1 a.f2 A9 c9 a.f3 V33 SX.out.hr hL hsm.out HL9.out (Kd.C_below HI9.out SX.out.bw) HD.out).mono ?_
                rintro e V34 ⟨vb, vn, rfl, hvb, hvn, hR, hg⟩
                obtain ⟨A3, c3, rfl, hc3, _⟩ := Kd.R_reads hvb
                obtain ⟨A4, c4, rfl, hc4, _⟩ := Kd.R_reads hvn
                refine hK.out _ _ (⟨blk_grown hHeld.1 hg (by simpa using NX.out.x9), blk_grown hHeld.2 hg (by simpa using NX.out.x10)⟩) (fun hHeld2 => ?_)
                clear hK K hHeld
                have hHeld := hHeld2
                clear hHeld2
                try simp only [Act.put, List.setIfInBounds_toArray, List.set_cons_zero, List.set_cons_succ]
                have Q5 := Aside0.mk (Rs.mk hvb hvn)
                have U5 := Aside0.mk (And.intro hc3 hc4)
                replace Q2 := Aside0.mk (Q2.out.turn hg T2.out)
                replace Z6 := Aside0.mk (blk_grown Z6.out hg (by have := X6.out.1; intro e; injection e; omega))
                replace Z7 := Aside0.mk (blk_grown Z7.out hg (by have := X7.out.1; intro e; injection e; omega))
                replace SX := Aside0.mk (SX.out.turnX NX.out hR hg)
                clear hvb hvn hR hg hc3 hc4
                have hne67 : p6 ≠ p7 := by first | (have := D6.out; omega) | (have := D7.out; omega)
                have e0 : (V34).cell? ⟨p6, 0, none⟩ = some (.int .i64 0) := (blk_cell (Z6.out) 0).trans rfl
                have e1 : (V34).cell? ⟨p6, 1, none⟩ = some (.int .i64 0) := (blk_cell (Z6.out) 1).trans rfl
                have e2 : (V34).cell? ⟨p6, 2, none⟩ = some (.slice none 0 0) := (blk_cell (Z6.out) 2).trans rfl
                have e3 : (V34).cell? ⟨p6, 3, none⟩ = some (.slice none 0 0) := (blk_cell (Z6.out) 3).trans rfl
                have ez0 := blk_frozen Z6.out 0
                have ez1 := blk_frozen Z6.out 1
                have ez2 := blk_frozen Z6.out 2
                have ez3 := blk_frozen Z6.out 3
                refine wpAnyH_ready (rs := [8]) (by kernel_rfl) (by simp) (AllReadyH.cons (o := { dst := none, op := _, type := _, pos := _, after := _, guard := _ }) rfl (fun K hK => ?_) AllReadyH.nil)
                go_simp
                refine hK.out _ _ (⟨(SX.out.set4 Z6.out (by simp) X6.out _ _ _ _).k9, (SX.out.set4 Z6.out (by simp) X6.out _ _ _ _).k10⟩) (fun hHeld2 => ?_)
                clear hK K hHeld
                have hHeld := hHeld2
                clear hHeld2
                try simp only [Act.put, List.setIfInBounds_toArray, List.set_cons_zero, List.set_cons_succ]
                clear e0 e1 e2 e3 ez0 ez1 ez2 ez3
                replace Z7 := Aside0.mk ((set4_far (W := V34) (Ne.symm hne67) (.int .i64 nm) (.int .i64 code) (.slice A1 bd.length c1) (.slice A2 ns.length c2)).trans Z7.out)
                replace SX := Aside0.mk (SX.out.set4 Z6.out (by simp) X6.out (.int .i64 nm) (.int .i64 code) (.slice A1 bd.length c1) (.slice A2 ns.length c2))
                replace Q2 := Aside0.mk (Q2.out.set4 Z6.out (.int .i64 nm) (.int .i64 code) (.slice A1 bd.length c1) (.slice A2 ns.length c2))
                replace Q5 := Aside0.mk (Q5.out.set4 Z6.out (.int .i64 nm) (.int .i64 code) (.slice A1 bd.length c1) (.slice A2 ns.length c2))
                replace Z6 := Aside0.mk (fill4_res Z6.out (.int .i64 nm) (.int .i64 code) (.slice A1 bd.length c1) (.slice A2 ns.length c2))
                unfold f4 at SX Q2 Q5
                generalize ((((V34.setCell ⟨p6, 0, none⟩ (.int .i64 nm)).setCell ⟨p6, 1, none⟩ (.int .i64 code)).setCell ⟨p6, 2, none⟩ (.slice A1 bd.length c1)).setCell ⟨p6, 3, none⟩ (.slice A2 ns.length c2)) = W8 at SX Q2 Q5 Z6 Z7 hHeld ⊢
                have e0 : (W8).cell? ⟨p7, 0, none⟩ = some (.int .i64 0) := (blk_cell (Z7.out) 0).trans rfl
                have e1 : (W8).cell? ⟨p7, 1, none⟩ = some (.int .i64 0) := (blk_cell (Z7.out) 1).trans rfl
                have e2 : (W8).cell? ⟨p7, 2, none⟩ = some (.slice none 0 0) := (blk_cell (Z7.out) 2).trans rfl
                have e3 : (W8).cell? ⟨p7, 3, none⟩ = some (.slice none 0 0) := (blk_cell (Z7.out) 3).trans rfl
                have ez0 := blk_frozen Z7.out 0
                have ez1 := blk_frozen Z7.out 1
                have ez2 := blk_frozen Z7.out 2
                have ez3 := blk_frozen Z7.out 3
                refine wpAnyH_ready (rs := [9]) (by kernel_rfl) (by simp) (AllReadyH.cons (o := { dst := none, op := _, type := _, pos := _, after := _, guard := _ }) rfl (fun K hK => ?_) AllReadyH.nil)
                go_simp
                refine hK.out _ _ (⟨(SX.out.set4 Z7.out (by simp) X7.out _ _ _ _).k9, (SX.out.set4 Z7.out (by simp) X7.out _ _ _ _).k10⟩) (fun hHeld2 => ?_)
                clear hK K hHeld
                have hHeld := hHeld2
                clear hHeld2
                try simp only [Act.put, List.setIfInBounds_toArray, List.set_cons_zero, List.set_cons_succ]
                clear e0 e1 e2 e3 ez0 ez1 ez2 ez3
                refine wpAnyH_done (by kernel_rfl) ?_ _
                refine NoPanic.normal ?_
                refine ⟨rfl, p6, p7, _, nm, code, bd, ns, L', A1, c1, A2, c2, A3, c3, A4, c4, _, _, SX.out.set4 Z7.out (by simp) X7.out (.int .i64 nm) (.int .i64 code) (.slice A3 bd.length c3) (.slice A4 ns.length c4), NX.out, (set4_far hne67 (.int .i64 nm) (.int .i64 code) (.slice A3 bd.length c3) (.slice A4 ns.length c4)).trans Z6.out, fill4_res Z7.out (.int .i64 nm) (.int .i64 code) (.slice A3 bd.length c3) (.slice A4 ns.length c4), Q2.out.set4 Z7.out (.int .i64 nm) (.int .i64 code) (.slice A3 bd.length c3) (.slice A4 ns.length c4), Q5.out.set4 Z7.out (.int .i64 nm) (.int .i64 code) (.slice A3 bd.length c3) (.slice A4 ns.length c4), U2.out, U5.out, HD.out, hne67, X6.out, X7.out, fun z hz => by simp [hz], ?_⟩
                simp only [Act.put, List.setIfInBounds_toArray, List.set_cons_zero, List.set_cons_succ]
          · intro a' W' hT
            obtain ⟨p6, p7, S', nm, code, bd, ns, L', A1, c1, A2, c2, A3, c3, A4, c4, b1, b3, hSX, hNX, hP6, hP7, hQ2, hQ5, hU2, hU5, hD, hne, hX6, hX7, hSS, rfl⟩ := hT
            simp only [Act.put, List.setIfInBounds_toArray, List.set_cons_zero, List.set_cons_succ]
            have hds := hD.small hsmL.out
            have hlb := hds.1
            have hln := hds.2
            have hlen := hD.len
            have HE2 := Aside0.mk (hD.ents (Sb.wf_bytes HWA.out.2) HE.out)
            replace SX := Aside0.mk hSX
            replace NX := Aside0.mk hNX
            have HD := Aside0.mk hD
            have Q2 := Aside0.mk hQ2
            have Q5 := Aside0.mk hQ5
            have Z7 := Aside0.mk hP7
            have e0 : (W').cell? ⟨p6, 0, none⟩ = some (.int .i64 nm) := (blk_cell (hP6) 0).trans rfl
            have e1 : (W').cell? ⟨p6, 1, none⟩ = some (.int .i64 code) := (blk_cell (hP6) 1).trans rfl
            have e2 : (W').cell? ⟨p6, 2, none⟩ = some (.slice A1 bd.length c1) := (blk_cell (hP6) 2).trans rfl
            have e3 : (W').cell? ⟨p6, 3, none⟩ = some (.slice A2 ns.length c2) := (blk_cell (hP6) 3).trans rfl
            have f0 : (W').cell? ⟨p7, 0, none⟩ = some (.int .i64 nm) := (blk_cell (hP7) 0).trans rfl
            have f1 : (W').cell? ⟨p7, 1, none⟩ = some (.int .i64 code) := (blk_cell (hP7) 1).trans rfl
            have f2 : (W').cell? ⟨p7, 2, none⟩ = some (.slice A3 bd.length c3) := (blk_cell (hP7) 2).trans rfl
            have f3 : (W').cell? ⟨p7, 3, none⟩ = some (.slice A4 ns.length c4) := (blk_cell (hP7) 3).trans rfl
            have k0 : (W').cell? ⟨o9, 0, none⟩ = some (.int .i64 a.f0) := (blk_cell (hSX.k9) 0).trans rfl
            have k1 : (W').cell? ⟨o9, 1, none⟩ = some (.int .i64 a.f1) := (blk_cell (hSX.k9) 1).trans rfl
            have k2 : (W').cell? ⟨o9, 2, none⟩ = some (.string a.f2) := (blk_cell (hSX.k9) 2).trans rfl
            have k3 : (W').cell? ⟨o9, 3, none⟩ = some (.slice A9 a.f3.length c9) := (blk_cell (hSX.k9) 3).trans rfl
            have m0 : (W').cell? ⟨o10, 0, none⟩ = some (.int .i64 a.f0) := (blk_cell (hSX.k10) 0).trans rfl
            have m1 : (W').cell? ⟨o10, 1, none⟩ = some (.int .i64 a.f1) := (blk_cell (hSX.k10) 1).trans rfl
            have m2 : (W').cell? ⟨o10, 2, none⟩ = some (.string a.f2) := (blk_cell (hSX.k10) 2).trans rfl
            have m3 : (W').cell? ⟨o10, 3, none⟩ = some (.slice A8 a.f3.length c8) := (blk_cell (hSX.k10) 3).trans rfl
            clear hSX hNX hD hQ2 hQ5 hP6 hP7 hds
            have hu1 := hU2.1
            have hu2 := hU2.2
            have hu3 := hU5.1
            have hu4 := hU5.2
            clear hU2 hU5
            go_wp2_with fail
            refine (Sb.sameAnswer_calls nm code bd ns A1 bd.length c1 A2 ns.length c2 A3 bd.length c3 A4 ns.length c4 W' (Kd.R_reads' Q2.out.b).2.2 rfl hu1 (Kd.R_reads' Q2.out.n).2.2 rfl hu2 (Kd.R_reads' Q5.out.b).2.2 rfl hu3 (Kd.R_reads' Q5.out.n).2.2 rfl hu4 (by omega) (by omega)).mono ?_
            rintro e w12 ⟨rfl, hb12⟩
            replace SX := Aside0.mk (SX.out.below hb12)
            replace Q5 := Aside0.mk (Q5.out.below hb12)
            replace Z7 := Aside0.mk (blk_below Z7.out hb12)
            clear hb12 e0 e1 e2 e3 f0 f1 f2 f3 k0 k1 k2 k3 m0 m1 m2 m3 Q2
            have k0 : (w12).cell? ⟨o9, 0, none⟩ = some (.int .i64 a.f0) := (blk_cell (SX.out.k9) 0).trans rfl
            have k1 : (w12).cell? ⟨o9, 1, none⟩ = some (.int .i64 a.f1) := (blk_cell (SX.out.k9) 1).trans rfl
            have k2 : (w12).cell? ⟨o9, 2, none⟩ = some (.string a.f2) := (blk_cell (SX.out.k9) 2).trans rfl
            have k3 : (w12).cell? ⟨o9, 3, none⟩ = some (.slice A9 a.f3.length c9) := (blk_cell (SX.out.k9) 3).trans rfl
            have m0 : (w12).cell? ⟨o10, 0, none⟩ = some (.int .i64 a.f0) := (blk_cell (SX.out.k10) 0).trans rfl
            have m1 : (w12).cell? ⟨o10, 1, none⟩ = some (.int .i64 a.f1) := (blk_cell (SX.out.k10) 1).trans rfl
            have m2 : (w12).cell? ⟨o10, 2, none⟩ = some (.string a.f2) := (blk_cell (SX.out.k10) 2).trans rfl
            have m3 : (w12).cell? ⟨o10, 3, none⟩ = some (.slice A8 a.f3.length c8) := (blk_cell (SX.out.k10) 3).trans rfl
            go_wp2_with fail
            refine (Sb.same_calls_self A8 a.f3.length c8 A9 a.f3.length c9 a.f3 w12 (Kd.R_reads' SX.out.r8).2.2 rfl HL8.out (Kd.C_below HI9.out SX.out.bw) rfl HL9.out (by have := HA3.out; omega)).mono ?_
            rintro e w13 ⟨rfl, nd, rfl⟩
            have hb13 := pw_below_drewN (Below.refl w12.heap.size w12) nd
            replace SX := Aside0.mk (SX.out.below hb13)
            replace Q5 := Aside0.mk (Q5.out.below hb13)
            replace Z7 := Aside0.mk (blk_below Z7.out hb13)
            generalize w12.drewN nd = w13 at SX Q5 Z7 ⊢
            clear hb13 k0 k1 k2 k3 m0 m1 m2 m3
            have k0 : (w13).cell? ⟨o9, 0, none⟩ = some (.int .i64 a.f0) := (blk_cell (SX.out.k9) 0).trans rfl
            have k1 : (w13).cell? ⟨o9, 1, none⟩ = some (.int .i64 a.f1) := (blk_cell (SX.out.k9) 1).trans rfl
            have k2 : (w13).cell? ⟨o9, 2, none⟩ = some (.string a.f2) := (blk_cell (SX.out.k9) 2).trans rfl
            have k3 : (w13).cell? ⟨o9, 3, none⟩ = some (.slice A9 a.f3.length c9) := (blk_cell (SX.out.k9) 3).trans rfl
            go_wp2_with fail
            refine (Sb.PutAsk_calls a.f0 a.f1 a.f2 A9 a.f3.length c9 a.f3 w13 trivial trivial rfl HL9.out (Kd.C_below HI9.out SX.out.bw)).mono ?_
            rintro e w14 ⟨u, rfl, hU, hb14⟩
            have hbt2 : b2 < w13.heap.size := SX.out.hy.lt.2
            have hb14s := hb14.size
            replace SX := Aside0.mk (SX.out.below hb14)
            replace Q5 := Aside0.mk (Q5.out.below hb14)
            replace Z7 := Aside0.mk (blk_below Z7.out hb14)
            have HU := Aside0.mk hU
            clear hb14 hU k0 k1 k2 k3
            have KEY : ∀ (W : World) (LY' : List Ent), Aside0 (Sx w W g b g2 b2 x o9 o10 base q S' L' LY' L' #[.int .i64 a.f0, .int .i64 a.f1, .string a.f2, .slice A9 a.f3.length c9] #[.int .i64 a.f0, .int .i64 a.f1, .string a.f2, .slice A8 a.f3.length c8] (.slice A8 a.f3.length c8) a.f3) → Aside0 (refL LY' = refL L') → True := fun _ _ _ _ => trivial
            clear KEY
            cases hok : Sb.okA a.f0 a.f1 a.f2.size a.f3.length with
            | false =>
              rw [show (Sb.askB a.f0 a.f1 a.f2 a.f3).2 = 14 by rw [Sb.askB_no hok]]
              have HLY2 := Aside0.mk (show refL LY = refL L' from by
                have hd := HD.out
                rcases hd with ⟨_, rfl, _⟩ | ⟨hk, _⟩
                · exact HLY.out
                · rw [hok] at hk; cases hk)
              obtain ⟨Au, cu, hu, _, _⟩ := Kd.R_reads HU.out
              rw [show (Sb.askB a.f0 a.f1 a.f2 a.f3).1.length = 0 by rw [Sb.askB_no hok]; rfl] at hu
              subst hu
              clear HU Q5 Z7
              go_wp2_with fail
              have hsL := sum_le L' SX.out.hb.small
              have hqL : sumE L' ≤ 100000000000 := by omega
              obtain ⟨nL, hnL⟩ : ∃ nl, nl = L'.map (·.1) := ⟨_, rfl⟩
              have hlL : nL.length = L'.length := by rw [hnL, List.length_map]
              have hlL2 : nL.length ≤ 1000 := by omega
              have HNL := Aside0.mk hnL
              clear hnL hlL
              refine (Size_calls g b q L' w14 SX.out.hb (by omega)).mono ?_
              rintro e w20 ⟨rfl, hb20⟩
              replace SX := Aside0.mk (SX.out.below hb20)
              clear hb20
              go_wp2_with fail
              refine (RSize_calls S' x q L' w20 SX.out.hr (by omega) hqL).mono ?_
              rintro e w21 ⟨rfl, hb21⟩
              replace SX := Aside0.mk (SX.out.below hb21)
              clear hb21
              go_wp2_with fail
              refine (Names_R g b q L' nL HNL.out w21 SX.out.hb (by omega)).mono ?_
              rintro e w22 ⟨v, rfl, hr, hb22⟩
              obtain ⟨Ap, cp, rfl, hcp, hCp⟩ := Kd.R_reads hr
              replace SX := Aside0.mk (SX.out.below hb22)
              have CP := Aside0.mk hCp
              have LP := Aside0.mk hcp
              clear hb22 hr hCp hcp
              go_wp2_with fail
              refine (RNames_R S' x q L' nL HNL.out w22 SX.out.hr (by omega)).mono ?_
              rintro e w23 ⟨v, rfl, hr, hb23⟩
              obtain ⟨Aq, cq, rfl, hcq, hCq⟩ := Kd.R_reads hr
              replace SX := Aside0.mk (SX.out.below hb23)
              replace CP := Aside0.mk (Kd.C_below CP.out hb23)
              have CQ := Aside0.mk hCq
              have LQ := Aside0.mk hcq
              clear hb23 hr hCq hcq
              go_wp2_with fail
              refine (scriniumref16_SameNames.calls (nL.length + 1) Ap cp nL Aq cq nL true w23 CP.out LP.out CQ.out LQ.out (sameN_is nL (by omega))).mono ?_
              rintro e w24 ⟨rfl, hd⟩
              have hb24 := Drawn0.below hd
              replace SX := Aside0.mk (SX.out.below hb24)
              clear hb24 hd CP CQ LP LQ
              have k0 : (w24).cell? ⟨o9, 0, none⟩ = some (.int .i64 a.f0) := (blk_cell (SX.out.k9) 0).trans rfl
              have k1 : (w24).cell? ⟨o9, 1, none⟩ = some (.int .i64 a.f1) := (blk_cell (SX.out.k9) 1).trans rfl
              have k2 : (w24).cell? ⟨o9, 2, none⟩ = some (.string a.f2) := (blk_cell (SX.out.k9) 2).trans rfl
              have k3 : (w24).cell? ⟨o9, 3, none⟩ = some (.slice A9 a.f3.length c9) := (blk_cell (SX.out.k9) 3).trans rfl
              go_wp2_with fail
              refine (Has_calls g b q L' a.f2 w24 SX.out.hb (by have := HBD.out.2; omega)).mono ?_
              rintro e w25 ⟨v, rfl, hR, hb25⟩
              replace SX := Aside0.mk (SX.out.below hb25)
              clear hb25 k0 k1 k2 k3
              have hsb : (((findE a.f2 L').map (·.2.2)).getD []).length ≤ 65536 := by
                cases hf : findE a.f2 L' with
                | none => simp
                | some y => exact (SX.out.hb.small y (find_mem hf).1).2
              have HFD := Aside0.mk (show ∃ tb th, tb = (((findE a.f2 L').map (·.2.2)).getD []) ∧ th = (findE a.f2 L').isSome from ⟨_, _, rfl, rfl⟩)
              obtain ⟨At, ct, rfl, hct, _⟩ := Kd.R_reads hR
              have HT := Aside0.mk hR
              have LT := Aside0.mk hct
              clear hR hct
              have k0 : (w25).cell? ⟨o9, 0, none⟩ = some (.int .i64 a.f0) := (blk_cell (SX.out.k9) 0).trans rfl
              have k1 : (w25).cell? ⟨o9, 1, none⟩ = some (.int .i64 a.f1) := (blk_cell (SX.out.k9) 1).trans rfl
              have k2 : (w25).cell? ⟨o9, 2, none⟩ = some (.string a.f2) := (blk_cell (SX.out.k9) 2).trans rfl
              have k3 : (w25).cell? ⟨o9, 3, none⟩ = some (.slice A9 a.f3.length c9) := (blk_cell (SX.out.k9) 3).trans rfl
              have hcall := Aside0.mk (RHas_calls S' x q L' a.f2 w25 SX.out.hr (by omega))
              generalize (((findE a.f2 L').map (·.2.2)).getD []) = tb at hsb HT LT hcall ⊢
              generalize (findE a.f2 L').isSome = th at hcall ⊢
              clear HFD
              go_wp2_with fail
              refine hcall.out.mono ?_
              rintro e w26 ⟨v, rfl, ⟨Av, cv, rfl, hcv, hFv⟩, hb26⟩
              replace SX := Aside0.mk (SX.out.below hb26)
              replace HT := Aside0.mk (Kd.R_below HT.out hb26)
              have HV := Aside0.mk (Kd.F_now hFv)
              have LV := Aside0.mk hcv
              clear hb26 hFv hcv hcall k0 k1 k2 k3
              cases th
              all_goals
                go_wp2_with fail
                refine (Sb.same_calls_self At tb.length ct Av tb.length cv tb w26 (Kd.R_reads' HT.out).2.2 rfl LT.out HV.out rfl LV.out (by omega)).mono ?_
                rintro e w27 ⟨rfl, nd, rfl⟩
                have hb27 := pw_below_drewN (Below.refl w26.heap.size w26) nd
                have SY := Aside0.mk (SX.out.below hb27)
                generalize w26.drewN nd = w27 at SY ⊢
                clear hb27
                go_wp2_with fail
                go_roundg (l.length - (i + 1))
                case measure => have := HK.out; omega
                case rel => exact ⟨i + 1, L', LY, by go_num, by omega, by omega, ⟨by omega⟩, HLY2, HE2, ⟨SY.out.hb⟩, ⟨SY.out.hy⟩, ⟨SY.out.hr.narrow (fun z hz => hSS z (List.mem_cons_of_mem _ hz)) (by simp)⟩, ⟨SY.out.bw⟩⟩
            | true =>
              obtain ⟨qq, hq1, hq2, hq3, hq4⟩ := Sb.askB_ok (name := a.f2) hok (Sb.wf_bytes HWA.out.2)
              rw [hq1] at HU ⊢
              obtain ⟨Au, cu, rfl, hcu, _⟩ := Kd.R_reads HU.out
              have HCU := Aside0.mk hcu
              clear hcu
              have f0 : (w14).cell? ⟨p7, 0, none⟩ = some (.int .i64 nm) := (blk_cell (Z7.out) 0).trans rfl
              have f1 : (w14).cell? ⟨p7, 1, none⟩ = some (.int .i64 code) := (blk_cell (Z7.out) 1).trans rfl
              have f2 : (w14).cell? ⟨p7, 2, none⟩ = some (.slice A3 bd.length c3) := (blk_cell (Z7.out) 2).trans rfl
              have f3 : (w14).cell? ⟨p7, 3, none⟩ = some (.slice A4 ns.length c4) := (blk_cell (Z7.out) 3).trans rfl
              generalize hql : qq.length = nq at HU HCU hq2 ⊢
              go_wp2_with fail
              refine (Sb.refPutAnswer_calls nm code A3 bd.length c3 bd A4 c4 ns w14 (by omega) rfl hu3 hu4 (Kd.R_reads' Q5.out.b).2.2 (Kd.R_reads' Q5.out.n).2.2).mono ?_
              rintro e w15 ⟨u2, rfl, hU2, hb15⟩
              replace SX := Aside0.mk (SX.out.below hb15)
              have HU15 := Aside0.mk (Kd.R_below HU.out hb15)
              have hb15s := hb15.size
              obtain ⟨Aw, cw, rfl, hcw, _⟩ := Kd.R_reads hU2
              have HW := Aside0.mk hU2
              have HCW := Aside0.mk hcw
              clear hU2 hb15 hcw f0 f1 f2 f3 Q5 Z7 HU
              generalize hout : (Sb.ansB nm code bd ns).1 = wt at HW HCW ⊢
              go_wp2_with fail
              refine (Serve_calls g2 b2 q LY Au nq cu qq w15 SX.out.hy (by have := congrArg List.length HLY.out; rw [refL_len, refL_len] at this; omega) hq (by have h := (Kd.R_reads' HU15.out).2.2; rw [hql] at h; exact h) hql (HCU.out) hq2 hq3).mono ?_
              rintro e w16 ⟨u3, LY', out, rfl, hU3, hB3, hg3, hSv⟩
              obtain ⟨rfl, HLY2⟩ : out = wt ∧ Aside0 (refL LY' = refL L') := by
                rcases hSv with ⟨h1, _⟩ | ⟨_, nm2, code2, bd2, ns2, hd2, ho2⟩
                · rw [hq4] at h1
                  exact absurd rfl h1
                · rw [hq4] at hd2
                  simp only [Sb.str_bytesOf] at hd2
                  obtain ⟨r1, r2, r3, r4, r5⟩ := DoR.same HLY.out hd2 HD.out
                  subst r1 r2 r3 r4
                  exact ⟨by rw [ho2, hout], ⟨r5⟩⟩
              have HW3 := Aside0.mk (R_turn HW.out rfl hg3 (by omega))
              replace SX := Aside0.mk (SX.out.turnY (hSS b2 (by simp)) hxb2 hbb2n hb2w hb2t hB3 hg3)
              obtain ⟨A5, c5, rfl, hc5, _⟩ := Kd.R_reads hU3
              have HU3 := Aside0.mk hU3
              have HC5 := Aside0.mk hc5
              have hol : out.length ≤ 140737488355328 := by
                rw [← hout]
                have h1 := (HD.out.right hsmL.out HE.out)
                obtain ⟨z, h3, _, h4, _⟩ := Sb.ansB_ok h1.1 h1.2
                rw [h3]
                exact Nat.le_trans h4 (by decide)
              clear hU3 hB3 hg3 hSv hc5 HW HU15 hout hq4 hq1
              generalize hon : out.length = no at HU3 HC5 HW3 HCW hol ⊢
              go_wp2_with fail
              refine (Sb.same_calls_self A5 no c5 Aw no cw out w16 (by have h := (Kd.R_reads' HU3.out).2.2; rw [hon] at h; exact h) hon (HC5.out) (by have h := (Kd.R_reads' HW3.out).2.2; rw [hon] at h; exact h) hon (HCW.out) hol).mono ?_
              rintro e w17 ⟨rfl, nd, rfl⟩
              have hb17 := pw_below_drewN (Below.refl w16.heap.size w16) nd
              replace SX := Aside0.mk (SX.out.below hb17)
              generalize w16.drewN nd = w14 at SX ⊢
              clear hb17 HU3 HC5 HW3 HCW
              go_wp2_with fail
              have hsL := sum_le L' SX.out.hb.small
              have hqL : sumE L' ≤ 100000000000 := by omega
              obtain ⟨nL, hnL⟩ : ∃ nl, nl = L'.map (·.1) := ⟨_, rfl⟩
              have hlL : nL.length = L'.length := by rw [hnL, List.length_map]
              have hlL2 : nL.length ≤ 1000 := by omega
              have HNL := Aside0.mk hnL
              clear hnL hlL
              refine (Size_calls g b q L' w14 SX.out.hb (by omega)).mono ?_
              rintro e w20 ⟨rfl, hb20⟩
              replace SX := Aside0.mk (SX.out.below hb20)
              clear hb20
              go_wp2_with fail
              refine (RSize_calls S' x q L' w20 SX.out.hr (by omega) hqL).mono ?_
              rintro e w21 ⟨rfl, hb21⟩
              replace SX := Aside0.mk (SX.out.below hb21)
              clear hb21
              go_wp2_with fail
              refine (Names_R g b q L' nL HNL.out w21 SX.out.hb (by omega)).mono ?_
              rintro e w22 ⟨v, rfl, hr, hb22⟩
              obtain ⟨Ap, cp, rfl, hcp, hCp⟩ := Kd.R_reads hr
              replace SX := Aside0.mk (SX.out.below hb22)
              have CP := Aside0.mk hCp
              have LP := Aside0.mk hcp
              clear hb22 hr hCp hcp
              go_wp2_with fail
              refine (RNames_R S' x q L' nL HNL.out w22 SX.out.hr (by omega)).mono ?_
              rintro e w23 ⟨v, rfl, hr, hb23⟩
              obtain ⟨Aq, cq, rfl, hcq, hCq⟩ := Kd.R_reads hr
              replace SX := Aside0.mk (SX.out.below hb23)
              replace CP := Aside0.mk (Kd.C_below CP.out hb23)
              have CQ := Aside0.mk hCq
              have LQ := Aside0.mk hcq
              clear hb23 hr hCq hcq
              go_wp2_with fail
              refine (scriniumref16_SameNames.calls (nL.length + 1) Ap cp nL Aq cq nL true w23 CP.out LP.out CQ.out LQ.out (sameN_is nL (by omega))).mono ?_
              rintro e w24 ⟨rfl, hd⟩
              have hb24 := Drawn0.below hd
              replace SX := Aside0.mk (SX.out.below hb24)
              clear hb24 hd CP CQ LP LQ
              have k0 : (w24).cell? ⟨o9, 0, none⟩ = some (.int .i64 a.f0) := (blk_cell (SX.out.k9) 0).trans rfl
              have k1 : (w24).cell? ⟨o9, 1, none⟩ = some (.int .i64 a.f1) := (blk_cell (SX.out.k9) 1).trans rfl
              have k2 : (w24).cell? ⟨o9, 2, none⟩ = some (.string a.f2) := (blk_cell (SX.out.k9) 2).trans rfl
              have k3 : (w24).cell? ⟨o9, 3, none⟩ = some (.slice A9 a.f3.length c9) := (blk_cell (SX.out.k9) 3).trans rfl
              go_wp2_with fail
              refine (Has_calls g b q L' a.f2 w24 SX.out.hb (by have := HBD.out.2; omega)).mono ?_
              rintro e w25 ⟨v, rfl, hR, hb25⟩
              replace SX := Aside0.mk (SX.out.below hb25)
              clear hb25 k0 k1 k2 k3
              have hsb : (((findE a.f2 L').map (·.2.2)).getD []).length ≤ 65536 := by
                cases hf : findE a.f2 L' with
                | none => simp
                | some y => exact (SX.out.hb.small y (find_mem hf).1).2
              have HFD := Aside0.mk (show ∃ tb th, tb = (((findE a.f2 L').map (·.2.2)).getD []) ∧ th = (findE a.f2 L').isSome from ⟨_, _, rfl, rfl⟩)
              obtain ⟨At, ct, rfl, hct, _⟩ := Kd.R_reads hR
              have HT := Aside0.mk hR
              have LT := Aside0.mk hct
              clear hR hct
              have k0 : (w25).cell? ⟨o9, 0, none⟩ = some (.int .i64 a.f0) := (blk_cell (SX.out.k9) 0).trans rfl
              have k1 : (w25).cell? ⟨o9, 1, none⟩ = some (.int .i64 a.f1) := (blk_cell (SX.out.k9) 1).trans rfl
              have k2 : (w25).cell? ⟨o9, 2, none⟩ = some (.string a.f2) := (blk_cell (SX.out.k9) 2).trans rfl
              have k3 : (w25).cell? ⟨o9, 3, none⟩ = some (.slice A9 a.f3.length c9) := (blk_cell (SX.out.k9) 3).trans rfl
              have hcall := Aside0.mk (RHas_calls S' x q L' a.f2 w25 SX.out.hr (by omega))
              generalize (((findE a.f2 L').map (·.2.2)).getD []) = tb at hsb HT LT hcall ⊢
              generalize (findE a.f2 L').isSome = th at hcall ⊢
              clear HFD
              go_wp2_with fail
              refine hcall.out.mono ?_
              rintro e w26 ⟨v, rfl, ⟨Av, cv, rfl, hcv, hFv⟩, hb26⟩
              replace SX := Aside0.mk (SX.out.below hb26)
              replace HT := Aside0.mk (Kd.R_below HT.out hb26)
              have HV := Aside0.mk (Kd.F_now hFv)
              have LV := Aside0.mk hcv
              clear hb26 hFv hcv hcall k0 k1 k2 k3
              cases th
              all_goals
                go_wp2_with fail
                refine (Sb.same_calls_self At tb.length ct Av tb.length cv tb w26 (Kd.R_reads' HT.out).2.2 rfl LT.out HV.out rfl LV.out (by omega)).mono ?_
                rintro e w27 ⟨rfl, nd, rfl⟩
                have hb27 := pw_below_drewN (Below.refl w26.heap.size w26) nd
                have SY := Aside0.mk (SX.out.below hb27)
                generalize w26.drewN nd = w27 at SY ⊢
                clear hb27
                go_wp2_with fail
                go_roundg (l.length - (i + 1))
                case measure => have := HK.out; omega
                case rel => exact ⟨i + 1, L', LY', by go_num, by omega, by omega, ⟨by omega⟩, HLY2, HE2, ⟨SY.out.hb⟩, ⟨SY.out.hy⟩, ⟨SY.out.hr.narrow (fun z hz => hSS z (List.mem_cons_of_mem _ hz)) (by simp)⟩, ⟨SY.out.bw⟩⟩
      · have hil : i = l.length := by omega
        subst hil
        go_wp2_with fail
        go_ret
        exact ⟨rfl, HB.out⟩
theorem wf_i64 {a : Int} (h : (Lit.int .i64 a).wf = true) : -9223372036854775808 ≤ a ∧ a ≤ 9223372036854775807 := by
  simp [Lit.wf, IntKind.min, IntKind.max, IntKind.signed, IntKind.bits] at h
  omega
theorem BlobAsks_row (q0 : Int) (wq : (Lit.int .i64 q0).wf = true) (A : Option Addr) (len cap : Nat) (l : List S29) {w : World} (hl : l.length = len) (hC : Kd.C k29 w A len l) (hc : len ≤ cap) (hm : len ≤ maxLen) (hw : ∀ x ∈ l, AskWf x) :
    Calls Try.prog 6 #[.int .i64 q0, .slice A len cap] w fun e w' => e = .returned (.bool true) ∧ Below w.heap.size w w' := by
  subst hl
  have h := wf_i64 wq
  exact BlobAsks_walk q0 _ rfl (by split <;> omega) A cap l w hc hC hw
end Go.Proofs.Ytahiadghodhkhaa.Bl
