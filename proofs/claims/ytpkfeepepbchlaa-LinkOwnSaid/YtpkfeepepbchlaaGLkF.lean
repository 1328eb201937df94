import Derived.Test.YtpkfeepepbchlaaGLkD
import Derived.Test.YtpkfeepepbchlaaGLkB
namespace Go.Proofs.Ytpkfeepepbchlaa.Bl
open Go.RowKit Go.Maps Go.Proofs.YtpkfeepepbchlaaW.PrintWords Go.Proofs.YtpkfeepepbchlaaW.PrintLast Go.Proofs.YtpkfeepepbchlaaW.PrintMore Go.Proofs.Ytpkfeepepbchlaa.PK
set_option linter.unusedVariables false
set_option linter.unusedSimpArgs false
def refP (L : List Ent) : List (ByteArray × List Int) := L.map fun x => (x.1, x.2.2)
def insP (x : ByteArray × List Int) : List (ByteArray × List Int) → List (ByteArray × List Int)
  | [] => [x]
  | y :: r => if (keyL x.1).before (keyL y.1) then x :: y :: r else y :: insP x r
theorem P_ins (x : Ent) : ∀ L : List Ent, refP (insE x L) = insP (x.1, x.2.2) (refP L)
  | [] => rfl
  | y :: r => by
    have ih := P_ins x r
    unfold insE
    show _ = insP (x.1, x.2.2) ((y.1, y.2.2) :: refP r)
    unfold insP
    split
    · rfl
    · show (y.1, y.2.2) :: refP (insE x r) = _
      rw [ih]
theorem P_off (k : ByteArray) (L : List Ent) : refP (offE k L) = (refP L).filter fun x => !decide (x.1 = k) := by
  unfold refP offE
  rw [List.filter_map]
  rfl
theorem P_sum (L : List Ent) : sumE L = ((refP L).map fun x => x.1.size + x.2.length).sum := by
  unfold refP sumE
  rw [List.map_map]
  rfl
theorem P_find (k : ByteArray) (L : List Ent) : (findE k L).map (·.2.2) = ((refP L).find? fun x => decide (x.1 = k)).map (·.2) := by
  unfold findE refP
  rw [List.find?_map, Option.map_map]
  rfl
theorem P_nms (k : ByteArray) (L : List Ent) : nmsE k L = (((refP L).map (·.1)).filter fun s => Lib.hasPrefix s.data.toList k.data.toList).take 1000 := by
  unfold nmsE refP
  rw [List.map_map]
  rfl
theorem DoR.two {q : Int} {L1 L2 M1 M2 : List Ent} {kind m1 m2 n1 n2 c1 c2 : Int} {k : ByteArray} {t b1 b2 : List Int} {s1 s2 : List ByteArray} (h : refP L1 = refP L2) (d1 : DoR q L1 kind m1 k t M1 n1 c1 b1 s1) (d2 : DoR q L2 kind m2 k t M2 n2 c2 b2 s2)
    (o1 : Sb.okA kind m1 k.size t.length = true) (o2 : Sb.okA kind m2 k.size t.length = true) : c1 = c2 ∧ b1 = b2 ∧ s1 = s2 ∧ refP M1 = refP M2 := by
  have ho : refP (offE k L1) = refP (offE k L2) := by rw [P_off, P_off, h]
  have hs : sumE (offE k L1) = sumE (offE k L2) := by rw [P_sum, P_sum, ho]
  have hf : (findE k L1).map (·.2.2) = (findE k L2).map (·.2.2) := by rw [P_find, P_find, h]
  have hi : (findE k L1).isSome = (findE k L2).isSome := by
    have := congrArg Option.isSome hf
    rw [Option.isSome_map, Option.isSome_map] at this
    exact this
  have hn : nmsE k L1 = nmsE k L2 := by rw [P_nms, P_nms, h]
  rcases d1 with ⟨k1, _⟩ | ⟨_, _, e1⟩
  · rw [o1] at k1; cases k1
  rcases d2 with ⟨k2, _⟩ | ⟨_, _, e2⟩
  · rw [o2] at k2; cases k2
  rcases e1 with ⟨rfl, rfl, rfl, f1⟩ | ⟨rfl, rfl, rfl, rfl, rfl⟩ | ⟨rfl, rfl, rfl, rfl, rfl⟩ | ⟨rfl, rfl, rfl, rfl, rfl⟩
  · rcases e2 with ⟨_, rfl, rfl, f2⟩ | ⟨x, _⟩ | ⟨x, _⟩ | ⟨x, _⟩
    · rcases f1 with ⟨a1, rfl, rfl⟩ | ⟨a1, rfl, A1, z1, rfl⟩
      · rcases f2 with ⟨a2, rfl, rfl⟩ | ⟨a2, rfl, A2, z2, rfl⟩
        · exact ⟨rfl, rfl, rfl, h⟩
        · omega
      · rcases f2 with ⟨a2, rfl, rfl⟩ | ⟨a2, rfl, A2, z2, rfl⟩
        · omega
        · refine ⟨rfl, rfl, rfl, ?_⟩
          unfold putE
          rw [P_ins, P_ins, ho]
    · exact absurd x (by decide)
    · exact absurd x (by decide)
    · exact absurd x (by decide)
  · rcases e2 with ⟨x, _⟩ | ⟨_, rfl, rfl, rfl, rfl⟩ | ⟨x, _⟩ | ⟨x, _⟩
    · exact absurd x (by decide)
    · exact ⟨by rw [hi], by rw [hf], rfl, h⟩
    · exact absurd x (by decide)
    · exact absurd x (by decide)
  · rcases e2 with ⟨x, _⟩ | ⟨x, _⟩ | ⟨_, rfl, rfl, rfl, rfl⟩ | ⟨x, _⟩
    · exact absurd x (by decide)
    · exact absurd x (by decide)
    · exact ⟨rfl, rfl, by rw [hn], h⟩
    · exact absurd x (by decide)
  · rcases e2 with ⟨x, _⟩ | ⟨x, _⟩ | ⟨x, _⟩ | ⟨_, rfl, rfl, rfl, rfl⟩
    · exact absurd x (by decide)
    · exact absurd x (by decide)
    · exact absurd x (by decide)
    · exact ⟨by rw [hi], rfl, rfl, ho⟩
theorem first_try {q kind : Int} {k : ByteArray} {t bd : List Int} {ns : List ByteArray} {r r' : Rq} {m : Nat} {er code : Int} (hK : Sb.okA kind 0 k.size t.length = true) (ht : Sb.Bytes t) (hr : Rok m r) (hS : SmOk r.L) (h0 : r.fs = [])
    (h : (er = 0 ∧ ∃ i r1, i < 5 ∧ Tries q kind k t i r r1 ∧ Got q kind k t r1 r' code bd ns) ∨ (er = 9 ∧ code = 0 ∧ bd = [] ∧ ns = [] ∧ Tries q kind k t 5 r r')) :
    er = 0 ∧ DoR q r.L kind (nxt r.num) k t r'.L (nxt r.num) code bd ns ∧ r'.fs = [] ∧ r'.dev = r.dev ∧ r'.bl = r.bl ∧ Sb.okA kind (nxt r.num) k.size t.length = true ∧ Rok (m + 2) r' ∧ SmOk r'.L := by
  have hz : (hdF r.fs).f0 = 0 := by rw [h0]; rfl
  have no : ∀ {j : Nat} {c : Rq}, Tries q kind k t (j + 1) r c → False := fun hh => by
    obtain ⟨b, hb, _⟩ := hh.head
    exact hb.no hz hK ht hr hS
  rcases h with ⟨he, i, r1, _, h1, h2⟩ | ⟨_, _, _, _, h1⟩
  · cases i with
    | succ j => exact (no h1).elim
    | zero =>
      rw [h1.zero] at h2
      obtain ⟨out, hs, hbl, hg⟩ := h2
      obtain ⟨_, hd, _, code', bd', ns', hD, hg'⟩ := hs.plain hz hK ht hr hS
      rw [hg'] at hg
      injection hg with _ hg
      injection hg with e1 hg
      injection hg with e2 hg
      injection hg with e3 _
      subst e1 e2 e3
      have hx := nxt_in hr.2.2.2.1
      have hok := hs.ok hK ht hr
      obtain ⟨tk, hfs, _⟩ := hs
      exact ⟨he, hD, by rw [hfs, h0]; rfl, hd, hbl, okA_num hK ⟨by omega, hx.2⟩, hok, hD.smalls hS⟩
  · exact (no h1).elim
theorem Bl.tf {base : Nat} {T : List Nat} {w w' : World} {g b : Nat} {q : Int} {L : List Ent} (h : Bl w g b q L) (ht : Tf base T w w') (hT : ∀ k ∈ T, ∀ (cells : Array Value) (t : TypeId), w.heap[k]? = some (.cells cells t (0, 0)) → t ≠ 5 ∧ t ≠ 68) (hb : b ∉ T) : Bl w' g b q L := by
  have hh : ∀ (j : Nat) (cells : Array Value), w.heap[j]? = some (.cells cells 5 (0, 0)) → w'.heap[j]? = w.heap[j]? := fun j cells hj => by
    rcases ht.block j (blk_lt hj) (fun hm => (hT j hm cells _ hj).1 rfl) with e | ⟨_, cs, e⟩
    · exact e
    · rw [hj] at e
      injection e with e
      injection e with _ e
      exact absurd e (by decide)
  obtain ⟨es, cl, hbb, F, hs, hD⟩ := h.map
  have hb' : w'.heap[b]? = some (.map es cl) := by
    rcases ht.block b (blk_lt hbb) hb with e | ⟨_, cs, e⟩
    · exact e.trans hbb
    · rw [hbb] at e
      cases e
  exact ⟨ht.blk h.blk (by decide) (fun hm => (hT g hm _ _ h.blk).2 rfl), ⟨es, cl, hb', F, hs, hD⟩, h.apart, fun x hx => by
    obtain ⟨A, c, e, hc, hC, hTy⟩ := h.ent x hx
    exact ⟨A, c, e, hc, C_keep hC hTy hh, hTy.keep hh⟩, h.small⟩
theorem Nt.types {S : List Nat} {w : World} {n gp cap : Nat} {q : Int} {ps : List Pr} {fs : List Ft} {num sent ticks : Int} (h : Nt S w n gp cap q ps fs num sent ticks) {k : Nat} (hk : k = n ∨ k = gp ∨ ∃ p ∈ ps, p.b = k) (cells : Array Value) (t : TypeId) (hc : w.heap[k]? = some (.cells cells t (0, 0))) : t = 58 ∨ t = 60 := by
  rcases hk with rfl | rfl | ⟨p, hp, rfl⟩
  · obtain ⟨A, c, h1, _⟩ := h.net
    rw [hc] at h1
    injection h1 with h1
    injection h1 with _ h1
    exact .inl h1
  · obtain ⟨pc, h1, _⟩ := h.row
    rw [hc] at h1
    injection h1 with h1
    injection h1 with _ h1
    exact .inr h1
  · obtain ⟨es, cl, hb⟩ := own_blk (h.prov p hp).map
    rw [hc] at hb
    cases hb
theorem Nt.aside {base : Nat} {S T : List Nat} {w w' : World} {n gp cap : Nat} {q : Int} {ps : List Pr} {num sent ticks : Int} (h : Nt S w n gp cap q ps [] num sent ticks) (ht : Tf base T w w') (hd : ∀ k ∈ S, k ∉ T) (hT : ∀ k ∈ T, ∀ (cells : Array Value) (t : TypeId), w.heap[k]? = some (.cells cells t (0, 0)) → t = 58 ∨ t = 60) (hO : ∀ p ∈ ps, OwnF w' p.o) : Nt S w' n gp cap q ps [] num sent ticks where
  net := by
    obtain ⟨A, c, h1, h2, h3⟩ := h.net
    exact ⟨A, c, ht.blk h1 (by decide) (hd _ h.mem.1), h2, fun W _ => ⟨rfl, by simp, fun hn => absurd hn (Nat.lt_irrefl 0)⟩⟩
  row := by
    obtain ⟨pc, h1, h2⟩ := h.row
    exact ⟨pc, ht.blk h1 (by decide) (hd _ h.mem.2.1), h2⟩
  prov := fun p hp => (h.prov p hp).tf ht (fun k hk cells t hc => by rcases hT k hk cells t hc with rfl | rfl <;> decide) (hd _ (h.mem.2.2 p hp))
  apart := h.apart
  mem := h.mem
  lt := fun k hk => Nat.lt_of_lt_of_le (h.lt k hk) ht.size
  own := hO
theorem Mute.aside {base : Nat} {T : List Nat} {w w' : World} {v : Value} (h : Mute base w v) (ht : Tn T w w') (hT : ∀ k ∈ T, ∀ (cells : Array Value) (t : TypeId), w.heap[k]? = some (.cells cells t (0, 0)) → t = 58 ∨ t = 60) : Mute base w' v :=
  Q_keep' h (fun k cells hk => ht.block k (blk_lt hk) (fun hm => by rcases hT k hm cells _ hk with e | e <;> exact absurd e (by decide)))
end Go.Proofs.Ytpkfeepepbchlaa.Bl
