import Derived.Test.YtpkfeepepbchlaaGLk8
namespace Go.Proofs.Ytpkfeepepbchlaa.Bl
open Go.RowKit Go.Maps Go.Proofs.YtpkfeepepbchlaaW.PrintWords Go.Proofs.YtpkfeepepbchlaaW.PrintLast Go.Proofs.YtpkfeepepbchlaaW.PrintMore Go.Proofs.Ytpkfeepepbchlaa.PK
set_option linter.unusedVariables false
set_option linter.unusedSimpArgs false
theorem F_elder {S : List Nat} {w W : World} {A : Option Addr} {n : Nat} {t : List Int} (hC : Bs.C w A n t) (hb : Below w.heap.size w W) (hS : ∀ s ∈ S, w.heap.size ≤ s) : Kd.F Bs W (fun k => k ∉ S) A n t :=
  fun W' hW => Sb.C_heap hC (fun b hb' => (hW b (fun hm => by have := hS b hm; omega) (Nat.lt_of_lt_of_le hb' hb.size)).trans (hb.block b hb'))
def SmOk (L : List Ent) : Prop := ∀ y ∈ L, y.1.size ≤ 64 ∧ y.2.2.length ≤ 65536
theorem DoR.smalls {q : Int} {L L' : List Ent} {kind num nm code : Int} {k : ByteArray} {t bd : List Int} {ns : List ByteArray} (h : DoR q L kind num k t L' nm code bd ns) (hE : SmOk L) : SmOk L' := by
  rcases h with ⟨_, rfl, _⟩ | ⟨hK, _, ⟨_, _, _, ⟨_, _, rfl⟩ | ⟨_, _, A, c, rfl⟩⟩ | ⟨_, rfl, _⟩ | ⟨_, rfl, _⟩ | ⟨_, rfl, _⟩⟩
  · exact hE
  · exact hE
  · obtain ⟨_, _, _, _, p5, p6, _⟩ := okA_parts hK
    intro y hy
    rcases (mem_ins _ y _).1 hy with rfl | hy
    · exact ⟨p6, by show t.length ≤ 65536; omega⟩
    · exact hE y ((mem_off k y L).1 hy).1
  · exact hE
  · exact hE
  · intro y hy
    exact hE y ((mem_off k y L).1 hy).1
theorem SvR.smalls {q : Int} {L L' : List Ent} {s out : List Int} (h : SvR q L s L' out) (hE : SmOk L) : SmOk L' := by
  rcases h with ⟨_, rfl, _⟩ | ⟨_, nm, code, bd, ns, hD, _⟩
  · exact hE
  · exact hD.smalls hE
theorem TryR.smalls {q fk tk : Int} {s out : List Int} {L L' : List Ent} {dev dev' came : Bool} (h : TryR q s fk L dev L' dev' tk came out) (hE : SmOk L) : SmOk L' ∧ (dev = true → dev' = true) := by
  rcases h with ⟨_, _, rfl, rfl, _⟩ | ⟨_, _, ⟨o, hv⟩, rfl, _⟩ | ⟨_, _, rfl, _, hd, _⟩ | ⟨_, _, _, hd, o, hv, _⟩ | ⟨_, _, rfl, _, L1, o, hv, hv2⟩ | ⟨_, _, _, _, _, _, _, _, rfl, _, hv⟩
  · exact ⟨hE, id⟩
  · exact ⟨hv.smalls hE, id⟩
  · exact ⟨hE, hd⟩
  · exact ⟨hv.smalls hE, hd⟩
  · exact ⟨hv2.smalls (hv.smalls hE), id⟩
  · exact ⟨hv.smalls hE, id⟩
theorem TryR.honest {q fk tk : Int} {s out : List Int} {L L' : List Ent} {dev dev' : Bool} (h : TryR q s fk L dev L' dev' tk true out) (hd : dev' = false) : ∃ L1 L2, SvR q L1 s L2 out ∧ (SmOk L → SmOk L1) ∧ (∀ (kind nm : Int) (k : ByteArray) (t : List Int), Sb.getA s = (kind, nm, bytesOf k, t, 0) → Sb.Bytes t → EntOk L → EntOk L1) := by
  rcases h with ⟨_, h, _⟩ | ⟨_, h, _⟩ | ⟨_, _, _, _, _, h⟩ | ⟨_, _, _, _, o, hv, h⟩ | ⟨_, _, _, _, L1, o, hv, hv2⟩ | ⟨_, _, _, _, _, _, _, _, _, _, hv⟩
  · cases h
  · cases h
  · obtain ⟨L2, h⟩ := h hd
    exact ⟨L, L2, h, id, fun _ _ _ _ _ _ h => h⟩
  · rw [h hd]
    exact ⟨L, L', hv, id, fun _ _ _ _ _ _ h => h⟩
  · exact ⟨L1, L', hv2, fun h => hv.smalls h, fun _ _ _ _ hg ht hE => SvR_ents hv hg ht hE⟩
  · exact ⟨L, L', hv, id, fun _ _ _ _ _ _ h => h⟩
theorem Lost.hon {q kind : Int} {k : ByteArray} {t : List Int} {r r' : Rq} {m : Nat} (h : Lost q kind k t r r') (hK : Sb.okA kind 0 k.size t.length = true) (ht : Sb.Bytes t) (hr : Rok m r) (hS : SmOk r.L) (hb : r.bl = true → r.dev = true) : SmOk r'.L ∧ (r'.bl = true → r'.dev = true) := by
  rcases h with ⟨out, ⟨tk, _, _, _, _, h⟩, hbl⟩ | ⟨out, ⟨tk, _, _, _, _, h⟩, hbl, hno⟩
  · obtain ⟨h1, h2⟩ := h.smalls hS
    exact ⟨h1, fun e => h2 (hb (by rw [← hbl]; exact e))⟩
  · obtain ⟨h1, h2⟩ := h.smalls hS
    refine ⟨h1, fun _ => ?_⟩
    cases hd : r'.dev with
    | true => rfl
    | false =>
      exfalso
      have hx := nxt_in hr.2.2.2.1
      have hK' := okA_num hK ⟨by omega, hx.2⟩
      obtain ⟨L1, L2, hv, e1, e2⟩ := h.honest hd
      obtain ⟨s, hs1, _, _, hgs⟩ := Sb.askB_ok hK' ht
      have hgs' : Sb.getA (Rq.s kind k t r) = (kind, nxt r.num, bytesOf k, t, 0) := by unfold Rq.s; rw [hs1]; exact hgs
      obtain ⟨code, bd, ns, _, hg, _⟩ := honest hK' ht (e1 hS) (e2 _ _ _ _ hgs' ht hr.2.1) hv
      rw [hg] at hno
      exact hno ⟨rfl, rfl⟩
theorem Tries.hon {q kind : Int} {k : ByteArray} {t : List Int} {i : Nat} {r r' : Rq} {m : Nat} (h : Tries q kind k t i r r') (hK : Sb.okA kind 0 k.size t.length = true) (ht : Sb.Bytes t) (hr : Rok m r) (hS : SmOk r.L) (hb : r.bl = true → r.dev = true) : SmOk r'.L ∧ (r'.bl = true → r'.dev = true) := by
  induction h with
  | nil r => exact ⟨hS, hb⟩
  | more h1 hl ih =>
    obtain ⟨i1, i2⟩ := ih hr hS hb
    exact hl.hon hK ht (h1.ok hK ht hr).1 i1 i2
section
variable {T S : List Nat} {w : World} {n gp cap : Nat} {q : Int} {ps : List Pr} {fs : List Ft} {num sent ticks : Int}
end
end Go.Proofs.Ytpkfeepepbchlaa.Bl
