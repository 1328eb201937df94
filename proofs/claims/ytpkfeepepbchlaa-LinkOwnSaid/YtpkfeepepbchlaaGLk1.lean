import Derived.Test.YtpkfeepepbchlaaGBc
namespace Go.Proofs.Ytpkfeepepbchlaa.Bl
open Go.RowKit Go.Maps Go.Proofs.YtpkfeepepbchlaaW.PrintWords Go.Proofs.YtpkfeepepbchlaaW.PrintLast Go.Proofs.YtpkfeepepbchlaaW.PrintMore Go.Proofs.Ytpkfeepepbchlaa.PK
set_option linter.unusedVariables false
set_option linter.unusedSimpArgs false
structure Tn (S : List Nat) (w w' : World) : Prop where
  os : w'.os = w.os
  tape : w'.tape = w.tape
  output : w'.output = w.output
  size : w.heap.size ≤ w'.heap.size
  block : ∀ k, k < w.heap.size → k ∉ S → w'.heap[k]? = w.heap[k]?
theorem Tn.trans {S : List Nat} {a b c : World} (h : Tn S a b) (k : Tn S b c) : Tn S a c :=
  ⟨k.os.trans h.os, k.tape.trans h.tape, k.output.trans h.output, Nat.le_trans h.size k.size, fun i hi hs => (k.block i (Nat.lt_of_lt_of_le hi h.size) hs).trans (h.block i hi hs)⟩
theorem Tn.of_below {S : List Nat} {a b : World} (h : Below a.heap.size a b) : Tn S a b := ⟨h.os, h.tape, h.output, h.size, fun i hi _ => h.block i hi⟩
theorem Tn.of_grown {S : List Nat} {a b : World} {x : Nat} (h : a.grownBy b (some x)) (hx : x ∈ S) : Tn S a b :=
  ⟨h.os, h.tape, h.output, h.size, fun i hi hs => h.block i hi (fun e => hs (by injection e with e; rw [e]; exact hx))⟩
theorem Tn.of_set {S : List Nat} (w : World) {x : Nat} (hx : x ∈ S) (i : Nat) (u : Value) : Tn S w (w.setCell ⟨x, i, none⟩ u) :=
  ⟨rfl, rfl, rfl, by simp [World.setCell], fun k _ hs => Below.heap_setCell w ⟨x, i, none⟩ u k (fun e => hs (by rw [show k = x from e]; exact hx))⟩
theorem Tn.blk {S : List Nat} {w w' : World} {g : Nat} {x : Obj} (h : Tn S w w') (hg : w.heap[g]? = some x) (hs : g ∉ S) : w'.heap[g]? = some x := (h.block g (blk_lt hg) hs).trans hg
theorem Tn.below {S : List Nat} {B : Nat} {a b c : World} (h : Below B a b) (k : Tn S b c) (hB : B ≤ b.heap.size) (hS : ∀ s ∈ S, B ≤ s) : Below B a c :=
  ⟨k.os.trans h.os, k.tape.trans h.tape, k.output.trans h.output, Nat.le_trans h.size k.size, fun i hi => (k.block i (Nat.lt_of_lt_of_le hi hB) (fun hs => by have := hS i hs; omega)).trans (h.block i hi)⟩
theorem Tn.F {α : Type} {d : Kd α} {T S : List Nat} {w w' : World} {A : Option Addr} {n : Nat} {xs : List α} (h : Tn T w w') (hs : ∀ k ∈ T, k ∈ S) (hf : Kd.F d w (fun k => k ∉ S) A n xs) : Kd.F d w' (fun k => k ∉ S) A n xs := Kd.F_step hf (fun k hk hl => h.block k hl (fun hm => hk (hs k hm)))
abbrev Ft := S43
abbrev kF := k43
structure Pr where
  g : Nat
  b : Nat
  L : List Ent
  o : Value
  dev : Bool
  bl : Bool
def Pr.cs (p : Pr) : List Value := [.pointer (some ⟨p.g, 0, none⟩), p.o, .bool p.dev, .bool p.bl]
def OwnF (w : World) (o : Value) : Prop := o = .slice none 0 0 ∨ ∃ g off cap cur, o = .slice (some ⟨g, off, none⟩) 1 cap ∧ 1 ≤ cap ∧ w.heap[g]? = some (.cells cur 43 (0, 0)) ∧ cur.size = off + 2 * cap ∧ cur[off]? = some (.int .i64 1) ∧ cur[off + 1]? = some (.slice none 0 0)
theorem OwnF.keep {w w' : World} {o : Value} (h : OwnF w o) (hk : ∀ (k : Nat) (cells : Array Value), w.heap[k]? = some (.cells cells 43 (0, 0)) → w'.heap[k]? = w.heap[k]?) : OwnF w' o := by
  rcases h with h | ⟨g, off, cap, cur, h1, h2, h3, h4⟩
  · exact .inl h
  · exact .inr ⟨g, off, cap, cur, h1, h2, (hk g cur h3).trans h3, h4⟩
structure Nt (S : List Nat) (w : World) (n gp cap : Nat) (q : Int) (ps : List Pr) (fs : List Ft) (num sent ticks : Int) : Prop where
  net : ∃ A c, w.heap[n]? = some (.cells #[.slice (some ⟨gp, 0, none⟩) ps.length cap, .slice A fs.length c, .int .i64 num, .int .i64 sent, .int .i64 ticks] 58 (0, 0)) ∧ fs.length ≤ c ∧ Kd.F kF w (fun k => k ∉ S) A fs.length fs
  row : ∃ pc, w.heap[gp]? = some (.cells pc 60 (0, 0)) ∧ ∀ (i : Nat) (p : Pr), ps[i]? = some p → ∀ (j : Nat) (u : Value), p.cs[j]? = some u → pc[4 * i + j]? = some u
  prov : ∀ p ∈ ps, Bl w p.g p.b q p.L
  apart : ∀ (i j : Nat) (p r : Pr), ps[i]? = some p → ps[j]? = some r → p.b = r.b → i = j
  mem : n ∈ S ∧ gp ∈ S ∧ ∀ p ∈ ps, p.b ∈ S
  lt : ∀ k ∈ S, k < w.heap.size
  own : ∀ p ∈ ps, OwnF w p.o
structure Ts (T S : List Nat) (n gp : Nat) (ps : List Pr) : Prop where
  n : n ∈ T
  gp : gp ∈ T
  b : ∀ p ∈ ps, p.b ∈ T
  sub : ∀ k ∈ T, k ∈ S
section
variable {S : List Nat} {w w' : World} {n gp cap : Nat} {q : Int} {ps : List Pr} {fs : List Ft} {num sent ticks : Int}
theorem Nt.kept (h : Nt S w n gp cap q ps fs num sent ticks) (hb : Below w.heap.size w w') : Nt S w' n gp cap q ps fs num sent ticks where
  net := by
    obtain ⟨A, c, h1, h2, h3⟩ := h.net
    exact ⟨A, c, blk_below h1 hb, h2, Kd.F_below h3 hb⟩
  row := by
    obtain ⟨pc, h1, h2⟩ := h.row
    exact ⟨pc, blk_below h1 hb, h2⟩
  prov := fun p hp => (h.prov p hp).kept hb
  apart := h.apart
  mem := h.mem
  lt := fun k hk => Nat.lt_of_lt_of_le (h.lt k hk) hb.size
  own := fun p hp => (h.own p hp).keep (fun k cells hk => hb.block k (blk_lt hk))
theorem Nt.apartS {S2 : List Nat} (h : Nt S w n gp cap q ps fs num sent ticks) (ht : Tn S2 w w') (hd : ∀ k ∈ S, k ∉ S2) (hB : ∀ p ∈ ps, Bl w' p.g p.b q p.L) (hO : ∀ p ∈ ps, OwnF w' p.o) (hF : fs = []) : Nt S w' n gp cap q ps fs num sent ticks where
  net := by
    obtain ⟨A, c, h1, h2, h3⟩ := h.net
    subst hF
    exact ⟨A, c, ht.blk h1 (hd _ h.mem.1), h2, fun W _ => ⟨rfl, by simp, fun hn => absurd hn (Nat.lt_irrefl 0)⟩⟩
  row := by
    obtain ⟨pc, h1, h2⟩ := h.row
    exact ⟨pc, ht.blk h1 (hd _ h.mem.2.1), h2⟩
  prov := hB
  apart := h.apart
  mem := h.mem
  lt := fun k hk => Nat.lt_of_lt_of_le (h.lt k hk) ht.size
  own := hO
theorem Nt.serve (h : Nt S w n gp cap q ps fs num sent ticks) {tt : Nat} {p : Pr} (hp : ps[tt]? = some p) (hg : w.grownBy w' (some p.b)) {L' : List Ent} (hB : Bl w' p.g p.b q L') : Nt S w' n gp cap q (ps.set tt { p with L := L' }) fs num sent ticks := by
  have hm := List.mem_of_getElem? hp
  obtain ⟨es, cl, hmap⟩ := own_blk (h.prov p hm).map
  have hty : ∀ (k : Nat) (cells : Array Value) (t : TypeId), w.heap[k]? = some (.cells cells t (0, 0)) → w'.heap[k]? = w.heap[k]? := fun k cells t hk =>
    hg.block k (blk_lt hk) (fun e => by injection e with e; rw [e, hmap] at hk; cases hk)
  have hmem : ∀ r ∈ ps.set tt { p with L := L' }, r = { p with L := L' } ∨ (r ∈ ps ∧ r.b ≠ p.b) := fun r hr => by
    obtain ⟨i, hi⟩ := List.getElem?_of_mem hr
    rw [List.getElem?_set] at hi
    split at hi
    · split at hi
      · injection hi with hi; exact .inl hi.symm
      · cases hi
    · exact .inr ⟨List.mem_of_getElem? hi, fun e => by have := h.apart i tt r p hi hp e; omega⟩
  have hat : ∀ (i : Nat) (r : Pr), (ps.set tt { p with L := L' })[i]? = some r → ∃ r', ps[i]? = some r' ∧ r'.b = r.b ∧ r'.cs = r.cs := fun i r hi => by
    rw [List.getElem?_set] at hi
    split at hi
    · split at hi
      · injection hi with hi
        subst hi
        rename_i e _
        exact ⟨p, by rw [← e]; exact hp, rfl, rfl⟩
      · cases hi
    · exact ⟨r, hi, rfl, rfl⟩
  exact {
    net := by
      obtain ⟨A, c, h1, h2, h3⟩ := h.net
      rw [List.length_set]
      exact ⟨A, c, (hty _ _ _ h1).trans h1, h2, (Tn.of_grown hg (h.mem.2.2 p hm)).F (fun _ h => h) h3⟩
    row := by
      obtain ⟨pc, h1, h2⟩ := h.row
      refine ⟨pc, (hty _ _ _ h1).trans h1, fun i r hi j u hu => ?_⟩
      obtain ⟨r', e1, _, e2⟩ := hat i r hi
      exact h2 i r' e1 j u (by rw [e2]; exact hu)
    prov := fun r hr => by
      rcases hmem r hr with rfl | ⟨h1, h2⟩
      · exact hB
      · exact (h.prov r h1).far hmap hg h2
    apart := fun i j x y hx hy e => by
      obtain ⟨x', e1, e2, _⟩ := hat i x hx
      obtain ⟨y', e3, e4, _⟩ := hat j y hy
      exact h.apart i j x' y' e1 e3 (by rw [e2, e4, e])
    mem := ⟨h.mem.1, h.mem.2.1, fun r hr => by
      rcases hmem r hr with rfl | ⟨h1, _⟩
      · exact h.mem.2.2 p hm
      · exact h.mem.2.2 r h1⟩
    lt := fun k hk => Nat.lt_of_lt_of_le (h.lt k hk) hg.size
    own := fun r hr => by
      have hk := fun (k : Nat) (cells : Array Value) (hk : w.heap[k]? = some (.cells cells 43 (0, 0))) => hty k cells _ hk
      rcases hmem r hr with rfl | ⟨h1, _⟩
      · exact (h.own p hm).keep hk
      · exact (h.own r h1).keep hk }
theorem set_ty {r t t' : Nat} {cs : Array Value} (hr : w.heap[r]? = some (.cells cs t (0, 0))) (ht : t ≠ t') (i : Nat) (u : Value) : ∀ (k : Nat) (cells : Array Value), w.heap[k]? = some (.cells cells t' (0, 0)) → (w.setCell ⟨r, i, none⟩ u).heap[k]? = w.heap[k]? := fun k cells hk =>
  Below.heap_setCell w ⟨r, i, none⟩ u k (fun e => by
    have e' : k = r := e
    rw [e', hr] at hk
    injection hk with hk
    injection hk with _ hk
    exact ht hk)
theorem Nt.setN (h : Nt S w n gp cap q ps fs num sent ticks) (i : Nat) (u : Value) {fs' : List Ft} {num' sent' ticks' : Int}
    (hc : ∀ A c, fs.length ≤ c → Kd.F kF w (fun k => k ∉ S) A fs.length fs → (w.heap[n]? = some (.cells #[.slice (some ⟨gp, 0, none⟩) ps.length cap, .slice A fs.length c, .int .i64 num, .int .i64 sent, .int .i64 ticks] 58 (0, 0))) → ∃ A' c', fs'.length ≤ c' ∧ Kd.F kF w (fun k => k ∉ S) A' fs'.length fs' ∧
      (#[.slice (some ⟨gp, 0, none⟩) ps.length cap, .slice A fs.length c, .int .i64 num, .int .i64 sent, .int .i64 ticks] : Array Value).setIfInBounds i u = #[.slice (some ⟨gp, 0, none⟩) ps.length cap, .slice A' fs'.length c', .int .i64 num', .int .i64 sent', .int .i64 ticks']) :
    Nt S (w.setCell ⟨n, i, none⟩ u) n gp cap q ps fs' num' sent' ticks' := by
  obtain ⟨A, c, h1, h2, h3⟩ := h.net
  obtain ⟨A', c', e1, e2, e3⟩ := hc A c h2 h3 h1
  obtain ⟨pc, p1, p2⟩ := h.row
  have hne : gp ≠ n := by
    rintro rfl
    rw [p1] at h1
    injection h1 with h1
    injection h1 with _ h1
    exact absurd h1 (by decide)
  exact {
    net := ⟨A', c', blk_put h1 i u e3, e1, (Tn.of_set w h.mem.1 i u).F (fun _ h => h) e2⟩
    row := ⟨pc, blk_far p1 hne u, p2⟩
    prov := fun p hp => (h.prov p hp).set h1 (by decide) (by decide) i u
    apart := h.apart
    mem := h.mem
    lt := fun k hk => Nat.lt_of_lt_of_le (h.lt k hk) (Tn.of_set w h.mem.1 i u).size
    own := fun p hp => (h.own p hp).keep (set_ty h1 (by decide) i u) }
theorem Nt.setSent (h : Nt S w n gp cap q ps fs num sent ticks) (x : Int) : Nt S (w.setCell ⟨n, 3, none⟩ (.int .i64 x)) n gp cap q ps fs num x ticks := h.setN 3 _ (fun A c h1 h2 _ => ⟨A, c, h1, h2, rfl⟩)
theorem Nt.setTicks (h : Nt S w n gp cap q ps fs num sent ticks) (x : Int) : Nt S (w.setCell ⟨n, 4, none⟩ (.int .i64 x)) n gp cap q ps fs num sent x := h.setN 4 _ (fun A c h1 h2 _ => ⟨A, c, h1, h2, rfl⟩)
theorem Nt.setNum (h : Nt S w n gp cap q ps fs num sent ticks) (x : Int) : Nt S (w.setCell ⟨n, 2, none⟩ (.int .i64 x)) n gp cap q ps fs x sent ticks := h.setN 2 _ (fun A c h1 h2 _ => ⟨A, c, h1, h2, rfl⟩)
theorem Nt.setP (h : Nt S w n gp cap q ps fs num sent ticks) {tt : Nat} {p p' : Pr} (hp : ps[tt]? = some p) (i : Nat) (u : Value) (hi : i < 4) (hc : p'.cs = p.cs.set i u) (hg : p'.g = p.g) (hb : p'.b = p.b) (hL : p'.L = p.L) (ho : p'.o = p.o) :
    Nt S (w.setCell ⟨gp, 4 * tt + i, none⟩ u) n gp cap q (ps.set tt p') fs num sent ticks := by
  have hm := List.mem_of_getElem? hp
  obtain ⟨A, c, h1, h2, h3⟩ := h.net
  obtain ⟨pc, p1, p2⟩ := h.row
  have hne : n ≠ gp := by
    rintro rfl
    rw [p1] at h1
    injection h1 with h1
    injection h1 with _ h1
    exact absurd h1 (by decide)
  have hlt : tt < ps.length := (List.getElem?_eq_some_iff.1 hp).1
  have hat : ∀ (i : Nat) (r : Pr), (ps.set tt p')[i]? = some r → (i = tt ∧ r = p') ∨ (i ≠ tt ∧ ps[i]? = some r) := fun i r hi => by
    rw [List.getElem?_set] at hi
    by_cases e : tt = i
    · rw [if_pos e, if_pos hlt] at hi
      injection hi with hi
      exact .inl ⟨e.symm, hi.symm⟩
    · rw [if_neg e] at hi
      exact .inr ⟨fun e' => e e'.symm, hi⟩
  have hmem : ∀ r ∈ ps.set tt p', r = p' ∨ r ∈ ps := fun r hr => by
    obtain ⟨i, hi⟩ := List.getElem?_of_mem hr
    rcases hat i r hi with ⟨_, h⟩ | ⟨_, h⟩
    · exact .inl h
    · exact .inr (List.mem_of_getElem? h)
  have hcl : p.cs.length = 4 := rfl
  have hcl' : p'.cs.length = 4 := rfl
  exact {
    net := by
      rw [List.length_set]
      exact ⟨A, c, blk_far h1 hne u, h2, (Tn.of_set w h.mem.2.1 _ u).F (fun _ h => h) h3⟩
    row := by
      refine ⟨pc.setIfInBounds (4 * tt + i) u, blk_put p1 _ u rfl, fun k r hk j v hv => ?_⟩
      have hj : j < 4 := by
        have := (List.getElem?_eq_some_iff.1 hv).1
        exact this
      rw [Array.getElem?_setIfInBounds]
      rcases hat k r hk with ⟨rfl, rfl⟩ | ⟨hk1, hk2⟩
      · rw [hc, List.getElem?_set] at hv
        by_cases hij : i = j
        · subst hij
          rw [if_pos rfl, if_pos (by omega)] at hv
          obtain ⟨v0, hv0⟩ : ∃ v0, p.cs[i]? = some v0 := ⟨_, List.getElem?_eq_getElem (by omega)⟩
          have h5 := p2 k p hp i v0 hv0
          have h6 : 4 * k + i < pc.size := (Array.getElem?_eq_some_iff.1 h5).1
          rw [if_pos rfl, if_pos h6]
          exact hv
        · rw [if_neg hij] at hv
          rw [if_neg (by omega)]
          exact p2 k p hp j v hv
      · rw [if_neg (by omega)]
        exact p2 k r hk2 j v hv
    prov := fun r hr => by
      rcases hmem r hr with rfl | hr
      · rw [hg, hb, hL]
        exact (h.prov p hm).set p1 (by decide) (by decide) _ u
      · exact (h.prov r hr).set p1 (by decide) (by decide) _ u
    apart := fun i j x y hx hy e => by
      rcases hat i x hx with ⟨e1, e2⟩ | ⟨_, hx2⟩
      · rcases hat j y hy with ⟨e3, e4⟩ | ⟨_, hy2⟩
        · omega
        · rw [e1]
          exact h.apart tt j p y hp hy2 (by rw [← hb, ← e2, e])
      · rcases hat j y hy with ⟨e3, e4⟩ | ⟨_, hy2⟩
        · rw [e3]
          exact h.apart i tt x p hx2 hp (by rw [← hb, ← e4, e])
        · exact h.apart i j x y hx2 hy2 e
    mem := ⟨h.mem.1, h.mem.2.1, fun r hr => by
      rcases hmem r hr with rfl | hr
      · rw [hb]; exact h.mem.2.2 p hm
      · exact h.mem.2.2 r hr⟩
    lt := fun k hk => Nat.lt_of_lt_of_le (h.lt k hk) (Tn.of_set w h.mem.2.1 (4 * tt + i) u).size
    own := fun r hr => by
      rcases hmem r hr with rfl | hr
      · rw [ho]; exact (h.own p hm).keep (set_ty p1 (by decide) _ u)
      · exact (h.own r hr).keep (set_ty p1 (by decide) _ u) }
theorem Nt.ngp (h : Nt S w n gp cap q ps fs num sent ticks) : n ≠ gp := by
  obtain ⟨A, c, h1, h2, h3⟩ := h.net
  obtain ⟨pc, p1, p2⟩ := h.row
  rintro rfl
  rw [p1] at h1
  injection h1 with h1
  injection h1 with _ h1
  exact absurd h1 (by decide)
theorem Nt.cell (h : Nt S w n gp cap q ps fs num sent ticks) {tt : Nat} {p : Pr} (hp : ps[tt]? = some p) (j : Nat) (u : Value) (hu : p.cs[j]? = some u) : w.cell? ⟨gp, 4 * tt + j, none⟩ = some u := by
  obtain ⟨pc, p1, p2⟩ := h.row
  exact (blk_cell p1 _).trans (p2 tt p hp j u hu)
theorem Nt.frozen (h : Nt S w n gp cap q ps fs num sent ticks) (j : Nat) : w.frozen? ⟨gp, j, none⟩ = false := by
  obtain ⟨pc, p1, p2⟩ := h.row
  exact blk_frozen p1 _
end
end Go.Proofs.Ytpkfeepepbchlaa.Bl
