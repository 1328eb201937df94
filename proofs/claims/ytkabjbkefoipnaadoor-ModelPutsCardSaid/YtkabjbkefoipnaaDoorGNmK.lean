import Derived.Test.YtkabjbkefoipnaaDoorGNm3
import Derived.Test.YtkabjbkefoipnaaDoorGShelf
import Derived.WalkKit
import Derived.BigCall
import Derived.Deep.LoopGhost
namespace Go.Proofs.YtkabjbkefoipnaaDoor.Nm
open Go.Lib Go.RowKit Go.Proofs.YtkabjbkefoipnaaDoorW.PrintWords Go.Proofs.YtkabjbkefoipnaaDoorW.PrintLast Go.Proofs.YtkabjbkefoipnaaDoorW.PrintMore Go.Proofs.YtkabjbkefoipnaaDoor.PM
set_option linter.unusedVariables false
set_option linter.unusedSimpArgs false
theorem drop_ne (s : ByteArray) (p : Nat) (h : p < s.size) : (BL s).drop p ≠ [] := by
  intro e
  have := congrArg List.length e
  rw [List.length_drop, BL_length] at this
  simp at this; omega
theorem dec_fit (s : ByteArray) (p : Nat) (h : p < s.size) : 1 ≤ (Utf8.decode s p).2 ∧ p + (Utf8.decode s p).2 ≤ s.size ∧ runes ((BL s).drop p) = (Utf8.decode s p).1 :: runes ((BL s).drop (p + (Utf8.decode s p).2)) ∧ (Utf8.decode s p).1 ≤ 1114111 := by
  have e := decodeL_drop s p
  have hw := decodeL_width ((BL s).drop p)
  have hle := decodeL_le ((BL s).drop p) (drop_ne s p h)
  have hr := decodeL_rune ((BL s).drop p)
  rw [List.length_drop, BL_length] at hle
  have hst := runes_step _ (drop_ne s p h)
  rw [List.drop_drop] at hst
  rw [e] at hw hle hst hr
  exact ⟨hw, by omega, hst, hr⟩
theorem runes_end (s : ByteArray) (p : Nat) (h : ¬ p < s.size) : runes ((BL s).drop p) = [] := by
  rw [List.drop_eq_nil_of_le (by rw [BL_length]; omega)]; rfl
def cr : List Nat → Nat → Nat → Bool
  | [], n, last => decide (n ≤ 24) && decide (last ≠ 32)
  | c :: r, n, last => if barredN c || (n == 0 && c == 32) then false else cr r (n + 1) c
theorem cr_nil (n last : Nat) : cr [] n last = (decide (n ≤ 24) && decide (last ≠ 32)) := rfl
theorem cr_cons (c : Nat) (r : List Nat) (n last : Nat) : cr (c :: r) n last = if barredN c || (n == 0 && c == 32) then false else cr r (n + 1) c := rfl
theorem cr_pos : ∀ (l : List Nat) (n last : Nat), 1 ≤ n → cr l n last = (l.all (fun c => !barredN c) && decide (n + l.length ≤ 24 ∧ (l.getLast?.getD last) ≠ 32))
  | [], n, last, h => by by_cases a : n ≤ 24 <;> by_cases b : last = 32 <;> simp [cr, a, b]
  | c :: r, n, last, h => by
    rw [cr_cons]
    have hn : (n == 0) = false := by rw [beq_eq_false_iff_ne]; omega
    rw [hn, Bool.false_and, Bool.or_false, List.all_cons]
    cases barredN c with
    | true => rfl
    | false =>
      rw [if_neg (by simp), cr_pos r (n + 1) c (by omega)]
      simp only [Bool.not_false, Bool.true_and, List.length_cons]
      congr 1
      apply decide_eq_decide.2
      have e : (c :: r).getLast?.getD last = r.getLast?.getD c := by
        cases r with
        | nil => rfl
        | cons d r => simp [List.getLast?_cons]
      rw [e]
      constructor
      · rintro ⟨h1, h2⟩; exact ⟨by omega, h2⟩
      · rintro ⟨h1, h2⟩; exact ⟨by omega, h2⟩
theorem cr_right (l : List Nat) : cr l 0 32 = right l := by
  cases l with
  | nil => rfl
  | cons c r =>
    unfold cr right
    rw [List.all_cons]
    cases barredN c with
    | true => rfl
    | false =>
      by_cases h : c = 32
      · subst h; simp
      · have h' : (c == 32) = false := by rw [beq_eq_false_iff_ne]; exact h
        rw [h', if_neg (by simp), cr_pos r 1 c (Nat.le_refl 1)]
        simp only [Bool.not_false, Bool.true_and]
        congr 1
        apply decide_eq_decide.2
        have e : (c :: r).getLast? = some (r.getLast?.getD c) := by
          cases r with
          | nil => rfl
          | cons d r => simp [List.getLast?_cons]
        rw [e]
        simp only [List.length_cons, List.head?_cons, Option.some.injEq, ne_eq]
        constructor
        · rintro ⟨h1, h2⟩; exact ⟨by omega, by omega, h, h2⟩
        · rintro ⟨h1, h2, h3, h4⟩; exact ⟨by omega, h4⟩
theorem barred_is (c : Nat) (h : c ≤ 1114111) : names_barred.f (c : Int) = some (barredN c) := by
  unfold names_barred.f barredN
  repeat' split
  all_goals (congr 1)
  all_goals first | (rw [eq_comm, decide_eq_true_eq]; omega) | skip
  all_goals (rw [Bool.eq_iff_iff, beq_iff_eq, decide_eq_true_eq]; omega)
set_option maxHeartbeats 4000000 in
set_option maxRecDepth 1000000 in
theorem Right_calls (s : ByteArray) (w : World) (hs : s.size ≤ 140737488355328) :
    Calls Tryd.prog 45 #[.string s] w fun e w' => e = .returned (.bool (right (runes (BL s)))) ∧ Below w.heap.size w w' := by
  rw [← cr_right]
  go_enter Tryd.func45, Tryd.ntmps45
  go_wp2
  go_loopg [3, 4] s.size (fun g v la wx => ∃ pos n last : Nat, pos + g = s.size ∧ v = .int .i64 n ∧ la = .int .i32 last ∧ n ≤ pos ∧ wx.heap[w.heap.size]? = some (.stringIter s pos) ∧ Below w.heap.size w wx ∧ cr (runes ((BL s).drop pos)) n last = cr (runes (BL s)) 0 32)
  case atStart => exact ⟨0, 0, 32, by omega, rfl, rfl, by omega, World.iter_heap w s 0, (Below.refl _ w).alloc (Nat.le_refl _) _, by simp⟩
  case round =>
    obtain ⟨pos, n, last, hg, rfl, rfl, hn, hit, hbw, hr⟩ := hrel
    have HIT := Aside0.mk hit; have HB := Aside0.mk hbw; have HR := Aside0.mk hr
    clear hit hbw hr
    by_cases hp : pos < s.size
    · obtain ⟨h1, h2, h3, h4⟩ := dec_fit s pos hp
      have hr3 := HR.out
      rw [h3, cr_cons] at hr3
      have H3 := Aside0.mk hr3
      clear h3 hr3
      have hnx : ∀ ty, (Instr.next (.pointer (some ⟨w.heap.size, 0, none⟩)) true ty).run Tryd.prog wr = _ := fun ty => Lib.run_next_any_at wr w.heap.size s pos ty HIT.out hp
      have HIT2 := Aside0.mk (iterAt_heap wr w.heap.size s pos (pos + (Utf8.decode s pos).2) HIT.out)
      have HB2 := Aside0.mk (below_iterAt HB.out (k := w.heap.size) (Nat.le_refl _) s (pos + (Utf8.decode s pos).2))
      go_wp2_with fail
      clear hnx
      generalize wr.iterAt w.heap.size s (pos + (Utf8.decode s pos).2) = w2 at HIT2 HB2 ⊢
      generalize (Utf8.decode s pos).2 = wd at h1 h2 H3 HIT2 ⊢
      generalize (Utf8.decode s pos).1 = c at h4 H3 ⊢
      refine (names_barred.calls (c : Int) (barredN c) _ (barred_is c h4)).mono ?_
      rintro e w3 ⟨rfl, nd, rfl⟩
      cases hbar : barredN c with
      | true =>
        rw [hbar] at H3
        go_wp2
        go_ret
        exact ⟨by rw [← H3.out]; rfl, pw_below_drewN HB2.out nd⟩
      | false =>
        rw [hbar] at H3
        by_cases hn0 : n = 0
        · subst hn0
          by_cases hc : c = 32
          · subst hc
            go_wp2
            go_ret
            exact ⟨by rw [← H3.out]; rfl, pw_below_drewN HB2.out nd⟩
          · have hc1 : ((c : Int) == 32) = false := by rw [beq_eq_false_iff_ne]; omega
            go_wp2
            go_roundg (s.size - (pos + wd))
            case measure => omega
            case rel =>
              refine ⟨pos + wd, 1, c, by omega, by first | rfl | simp, rfl, by omega, HIT2.out, pw_below_drewN HB2.out nd, ?_⟩
              have := H3.out
              rw [if_neg (by simp [hc])] at this
              exact this
        · have hn1 : ((n : Int) == 0) = false := by rw [beq_eq_false_iff_ne]; omega
          have hw1 : IntKind.i64.wrap ((n : Int) + 1) = (n : Int) + 1 := IntWalk.i64_in _ (by omega)
          go_wp2
          go_roundg (s.size - (pos + wd))
          case measure => clear hw1; omega
          case rel =>
            refine ⟨pos + wd, n + 1, c, by clear hw1; omega, by first | rfl | simp, rfl, by clear hw1; omega, HIT2.out, pw_below_drewN HB2.out nd, ?_⟩
            have := H3.out
            rw [if_neg (by simp [hn0])] at this
            exact this
    · have hnx : ∀ ty, (Instr.next (.pointer (some ⟨w.heap.size, 0, none⟩)) true ty).run Tryd.prog wr = _ := fun ty => Lib.run_next_end_at wr w.heap.size s pos ty HIT.out hp
      have hr3 := HR.out
      rw [runes_end s pos hp, cr_nil] at hr3
      have H3 := Aside0.mk hr3
      clear hr3
      by_cases h24 : n ≤ 24
      · have h24i : (n : Int) ≤ 24 := by omega
        by_cases h32 : last = 32
        · subst h32
          go_wp2
          go_ret
          exact ⟨by rw [← H3.out]; simp, HB.out⟩
        · have hc1 : ((last : Int) == 32) = false := by rw [beq_eq_false_iff_ne]; omega
          have hc2 : ((last : Int) != 32) = true := by rw [bne_iff_ne]; omega
          go_wp2
          go_ret
          exact ⟨by rw [← H3.out]; simp [h24, h32], HB.out⟩
      · have h24i : ¬ (n : Int) ≤ 24 := by omega
        go_wp2
        go_ret
        exact ⟨by rw [← H3.out]; simp [h24], HB.out⟩
theorem lower_at (w : World) : MapAtRunes Tryd.prog 56 #[] lowZ w := by
  intro W x hx hb
  refine (names_lower.calls (x : Int) (lowZ x) W (lower_is _ (by omega) (by omega))).mono ?_
  rintro e w' ⟨rfl, nd, rfl⟩
  exact ⟨rfl, nd, rfl⟩
theorem tabs_below {w w' : World} (h : Lib.Utf8Tabs 0 1 w) (hb : Below w.heap.size w w') : Lib.Utf8Tabs 0 1 w' := by
  have key : ∀ p v, w.cell? p = some v → w'.cell? p = some v := fun p v hv => (hb.cell (World.block_lt_of_cell? _ _ hv)).trans hv
  exact ⟨fun c hc => key _ _ (h.1 c hc), fun i hi => ⟨key _ _ (h.2 i hi).1, key _ _ (h.2 i hi).2⟩⟩
def plainB (s : ByteArray) : ByteArray × Int := if right (runes (BL s)) = true then (⟨((BL s).map lowB).toArray⟩, 0) else (⟨#[]⟩, 5)
set_option maxHeartbeats 4000000 in
set_option maxRecDepth 1000000 in
theorem Plain_calls (s : ByteArray) (w : World) (hs : s.size ≤ 4000000) (hT : Lib.Utf8Tabs 0 1 w) :
    Calls Tryd.prog 47 #[.string s] w fun e w' => e = .returned (.tuple #[.string (plainB s).1, .int .i64 (plainB s).2]) ∧ Below w.heap.size w w' := by
  have HT := Aside0.mk hT
  clear hT
  have hpl : plainB s = if right (runes (BL s)) = true then (⟨((BL s).map lowB).toArray⟩, 0) else (⟨#[]⟩, 5) := rfl
  rw [hpl]
  clear hpl
  have hm := Aside0.mk (fun hr => mapD_low _ (BL s) (Nat.le_refl _) (right_ne _ hr))
  have HR := Aside0.mk (Right_calls s w (by omega))
  generalize right (runes (BL s)) = rb at hm HR
  go_enter Tryd.func47, Tryd.ntmps47
  go_wp2_with fail
  refine HR.out.mono ?_
  rintro e w1 ⟨rfl, hb1⟩
  have HB1 := Aside0.mk hb1
  clear hb1
  cases rb with
  | false =>
    go_wp2
    go_ret2
    exact ⟨rfl, HB1.out⟩
  | true =>
    go_wp2_with fail
    refine (Tryd.strings_Map_runes 56 #[] (fun args w => ?eg) lowZ s w1 (by omega) (lower_at w1) ?hn (tabs_below HT.out HB1.out)).mono ?_
    case eg => kernel_rfl
    case hn =>
      intro x hx
      rw [lowZ_N]
      unfold lowN
      split <;> omega
    rintro e w2 ⟨rfl, hb2⟩
    go_wp2
    go_ret2
    exact ⟨by rw [← hm.out trivial]; rfl, below_step HB1.out hb2⟩
end Go.Proofs.YtkabjbkefoipnaaDoor.Nm
