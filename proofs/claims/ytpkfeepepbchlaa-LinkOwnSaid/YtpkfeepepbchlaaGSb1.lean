import Derived.Test.YtpkfeepepbchlaaGPKa
import Derived.WalkSpells
import Derived.Lib.SliceRun
namespace Go.Proofs.Ytpkfeepepbchlaa.Sb
open Go.RowKit Go.Proofs.YtpkfeepepbchlaaW.PrintWords Go.Proofs.YtpkfeepepbchlaaW.PrintLast Go.Proofs.YtpkfeepepbchlaaW.PrintMore Go.Proofs.Ytpkfeepepbchlaa.PK
set_option linter.unusedVariables false
set_option linter.unusedSimpArgs false
abbrev Bs := Kd.int .u8
set_option maxHeartbeats 1000000 in
theorem clone_calls (A : Option Addr) (c : Nat) (l : List Int) (w : World) (hr : Bs.C w A l.length l) (hc : l.length ≤ c) (hl : l.length ≤ 140737488355328) :
    Calls Try.prog 30 #[.slice A l.length c] w fun e w' => ∃ v, e = .returned v ∧ Bs.R 5 w' w.heap.size (fun _ => True) v l ∧ Below w.heap.size w w' := by
  have hn := Lib.run_eql_slice_nil (P := Try.prog) (t := 28) (e := 5)
  cases A with
  | none =>
    have h0 : l = [] := by
      rcases Nat.eq_zero_or_pos l.length with h | h
      · exact List.eq_nil_of_length_eq_zero h
      · obtain ⟨ad, h', _⟩ := (Kd.reads_of_C (enc := Value.int .u8) (d := (0 : Int)) (h1 := fun _ => rfl) hr).2.2 h
        cases h'
    subst h0
    go_enter Try.func30, Try.ntmps30
    go_wp2
    go_ret
    exact ⟨_, rfl, Kd.R_nil _ _ _ _ _, Below.refl _ _⟩
  | some ad =>
    go_enter Try.func30, Try.ntmps30
    go_wp2_with (first | ((with_reducible refine gate_builtin (b := .append) (xs := #[.tmp 5, .tmp 6]) rfl ?_); at_builtin; refine Kd.R_append_row (Value.int .u8) (0 : Int) (h1 := fun _ => rfl) (w0 := w) w.heap.size rfl (.tmp 5) (.tmp 6) 28 5 (.int .u8 0) 1 rfl Try.underlying28 info5 rfl (by omega) (.slice (some ⟨w.heap.size, 0, none⟩) 0 0) ([] : List Int) l (some ad) l.length c (fun _ => True) rfl rfl (fun _ _ => trivial) ?aO ?aR ?aB ?aS ?aL ?_; (case aO => exact Kd.R_of_own (World.ownsRow_made w #[] 0 (Nat.le_refl _) (Nat.zero_le _) rfl) (fun _ _ => trivial)); (case aR => exact Kd.C_alloc hr _); (case aB => exact below_alloc (Below.refl _ _) _); (case aS => simp); (case aL => simp; omega); intro v1 w1 ho hb hg hat; simp only [List.nil_append] at ho))
    go_ret
    exact ⟨_, rfl, ho, hb⟩
structure WStep (w w' : World) (base g : Nat) (v v' : Value) (bs' : List Int) : Prop where
  blk : w'.heap[g]? = some (.cells #[v'] 93 (0, 0))
  row : Bs.R 5 w' base (fun _ => True) v' bs'
  keep : KeepBut w w' g v.ownBlock
  below : Below base w w'
  at_ : v'.ownBlock = v.ownBlock ∨ ∃ b, v'.ownBlock = some b ∧ w.heap.size ≤ b
theorem WStep.refl {w : World} {base g : Nat} {v : Value} {bs : List Int} (h : w.heap[g]? = some (.cells #[v] 93 (0, 0))) (hr : Bs.R 5 w base (fun _ => True) v bs) : WStep w w base g v v bs :=
  ⟨h, hr, KeepBut.refl _ _ _, Below.refl _ _, .inl rfl⟩
theorem WStep.trans {w w1 w2 : World} {base g : Nat} {v v1 v2 : Value} {bs1 bs2 : List Int} (h : WStep w w1 base g v v1 bs1) (k : WStep w1 w2 base g v1 v2 bs2) : WStep w w2 base g v v2 bs2 := by
  refine ⟨k.blk, k.row, h.keep.trans k.keep h.at_, h.below.trans k.below, ?_⟩
  have hs := h.keep.1
  rcases k.at_ with e | ⟨b, e, hb⟩
  · rcases h.at_ with e1 | ⟨b, e1, hb⟩
    · exact .inl (e.trans e1)
    · exact .inr ⟨b, e.trans e1, hb⟩
  · exact .inr ⟨b, e, by omega⟩
theorem WStep.pre {w w1 w2 : World} {base g : Nat} {v v2 : Value} {bs2 : List Int} (h : Below w.heap.size w w1) (k : WStep w1 w2 base g v v2 bs2) (hb : base ≤ w.heap.size) : WStep w w2 base g v v2 bs2 := by
  refine ⟨k.blk, k.row, (KeepBut.of_below h g v.ownBlock).trans k.keep (.inl rfl), (h.mono hb).trans k.below, ?_⟩
  have hs := h.size
  rcases k.at_ with e | ⟨b, e, hb⟩
  · exact .inl e
  · exact .inr ⟨b, e, by omega⟩
theorem WStep.post {w w1 w2 : World} {base g : Nat} {v v1 : Value} {bs1 : List Int} (h : WStep w w1 base g v v1 bs1) (k : Below w1.heap.size w1 w2) (hb : base ≤ w.heap.size) : WStep w w2 base g v v1 bs1 := by
  have hs := h.keep.1
  exact ⟨blk_below h.blk k, Kd.R_below h.row k, h.keep.trans (KeepBut.of_below k g v.ownBlock) (.inl rfl), h.below.trans (k.mono (by omega)), h.at_⟩
set_option maxHeartbeats 1000000 in
theorem put_calls (base g : Nat) (v : Value) (bs : List Int) (A : Option Addr) (c : Nat) (l : List Int) (w : World)
    (hg : w.heap[g]? = some (.cells #[v] 93 (0, 0))) (hv : Bs.R 5 w base (fun _ => True) v bs) (hb0 : base ≤ g)
    (hr : Bs.C w A l.length l) (hc : l.length ≤ c) (hl : bs.length + l.length ≤ 140737488355328) :
    Calls Try.prog 59 #[.pointer (some ⟨g, 0, none⟩), .slice A l.length c] w fun e w' => e = .returned (.tuple #[]) ∧ ∃ v', WStep w w' base g v v' (bs ++ l) := by
  have hlt := blk_lt hg
  have HV := Aside0.mk hv
  have HR := Aside0.mk hr
  have HG := Aside0.mk hg
  have c0 : w.cell? ⟨g, 0, none⟩ = some v := (blk_cell hg 0).trans rfl
  have hne : some g ≠ v.ownBlock := Kd.R_ne hv hg (by decide)
  have HN := Aside0.mk hne
  clear hv hr hg hne
  go_enter Try.func59, Try.ntmps59
  go_wp2_with (first | ((with_reducible refine gate_builtin (b := .append) (xs := #[.tmp 8, .tmp 9]) rfl ?_); at_builtin; refine Kd.R_append_row (Value.int .u8) (0 : Int) (h1 := fun _ => rfl) (w0 := w) base rfl (.tmp 8) (.tmp 9) 28 5 (.int .u8 0) 1 rfl Try.underlying28 info5 rfl (by omega) v bs l A l.length c (fun _ => True) rfl rfl (fun _ _ => trivial) ?aO ?aR ?aB ?aS ?aL ?_; (case aO => exact HV.out); (case aR => exact HR.out); (case aB => exact Below.refl _ _); (case aS => omega); (case aL => omega); intro v1 w1 ho hb hgr hat; obtain ⟨A1, c1, rfl⟩ := Kd.R_slice ho; have hg1 := blk_grown HG.out hgr HN.out; have c1' : w1.cell? ⟨g, 0, none⟩ = some v := (blk_cell hg1 0).trans rfl; have f1 := blk_frozen hg1 0; have HO := Aside0.mk ho; have HB := Aside0.mk hb; have HGR := Aside0.mk hgr; have HAT := Aside0.mk hat; have HG1 := Aside0.mk hg1; clear ho hb hgr hat hg1))
  go_end0
  refine ⟨rfl, .slice A1 (bs.length + l.length) c1, ?_⟩
  have ho := HO.out
  rw [List.length_append] at ho
  have hat := HAT.out
  rw [List.length_append] at hat
  exact ⟨blk_put HG1.out 0 _ rfl, Kd.R_set ho HG1.out (by decide) 0 _, (KeepBut.of_grown HGR.out g).set_ 0 _, HB.out.setCell hb0 _, hat⟩
theorem R_over {α : Type} {d : Kd α} {e : Nat} {w w' : World} {base g : Nat} {ok : Nat → Prop} {v : Value} {xs : List α} (h : d.R e w base ok v xs) (hg : g < base) (hk : KeepBut w w' g none) : d.R e w' base ok v xs :=
  Kd.R_mono (Kd.R_keep (Kd.R_bound h) hk (fun k h => by have := h.2.1; omega)) (fun _ h => h.1)
theorem C_heap {k : IntKind} {w w' : World} {A : Option Addr} {n : Nat} {xs : List Int} (h : (Kd.int k).C w A n xs) (hh : ∀ b, b < w.heap.size → w'.heap[b]? = w.heap[b]?) : (Kd.int k).C w' A n xs := by
  refine ⟨h.1, h.2.1, fun hn => ?_⟩
  obtain ⟨ad, e, hc⟩ := h.2.2 hn
  refine ⟨ad, e, fun j p hj => ?_⟩
  obtain ⟨c, h1, h2, h3⟩ := hc j p hj
  exact ⟨c, h1, h2, fun i u hu => (World.cell?_of_block (hh _ (World.block_lt_of_cell? w _ (h3 i u hu)))).trans (h3 i u hu)⟩
theorem foot_old {k : IntKind} {w0 w : World} {A : Option Addr} {n base g : Nat} {xs bs : List Int} {v : Value} (h : (Kd.int k).C w0 A n xs) (hb : Below w0.heap.size w0 w) (hg : w0.heap.size ≤ g) (hbase : w0.heap.size ≤ base)
    (hv : Bs.R 5 w base (fun _ => True) v bs) : ∀ W', KeepBut w W' g v.ownBlock → (Kd.int k).C W' A n xs := fun W' hk => by
  refine C_heap h (fun b hlt => ?_)
  have hs := hb.size
  rw [hk.2 b (by omega) (by omega) (fun e => by
    have := (Kd.R_bound hv).1 b e.symm
    have h2 := this.2.1
    omega)]
  exact hb.block b hlt
theorem R_lit_new (k : IntKind) (e : TypeId) (W : World) (xs : List Int) (n : Nat) (hn : xs.length = n) (hm : n ≤ maxLen) :
    (Kd.int k).R e (W.alloc (.cells (nums k xs).toArray e)) W.heap.size (fun _ => True) (.slice (some ⟨W.heap.size, 0, none⟩) n n) xs := by
  subst hn
  exact Kd.R_of_own (enc := Value.int k) (h1 := fun _ => rfl) ⟨by simp [encs], .inr ⟨W.heap.size, xs.length, (nums k xs).toArray, rfl, Nat.le_refl _, heap_alloc_new W _, Nat.le_refl _, hm, by simp [nums], by rw [Nat.mul_one, List.take_of_length_le (by simp [nums])]; rfl⟩⟩ (fun _ _ => trivial)
theorem C_lit_new (k : IntKind) (e : TypeId) (W : World) (xs : List Int) (n : Nat) (cs : Array Value) (hcs : cs = (nums k xs).toArray) (hn : xs.length = n) (hm : n ≤ maxLen) :
    (Kd.int k).C (W.alloc (.cells cs e)) (some ⟨W.heap.size, 0, none⟩) n xs := by
  subst hcs
  obtain ⟨A, c, he, _, hr⟩ := Kd.R_reads (R_lit_new k e W xs n hn hm)
  subst hn
  injection he with h1 h2 h3
  subst h1
  exact hr
theorem put_calls' (base g : Nat) (v : Value) (bs : List Int) (A : Option Addr) (n c : Nat) (l : List Int) (w : World)
    (hg : w.heap[g]? = some (.cells #[v] 93 (0, 0))) (hv : Bs.R 5 w base (fun _ => True) v bs) (hb0 : base ≤ g)
    (hr : Bs.C w A n l) (hn : l.length = n) (hc : n ≤ c) (hl : bs.length + n ≤ 140737488355328) :
    Calls Try.prog 59 #[.pointer (some ⟨g, 0, none⟩), .slice A n c] w fun e w' => e = .returned (.tuple #[]) ∧ ∃ v', WStep w w' base g v v' (bs ++ l) := by
  subst hn
  exact put_calls base g v bs A c l w hg hv hb0 hr hc hl
end Go.Proofs.Ytpkfeepepbchlaa.Sb
