import Derived.Test.YtpkfeepepbchlaaGSv1
import Derived.Test.YtpkfeepepbchlaaGWc
namespace Go.Proofs.Ytpkfeepepbchlaa.Bl
open Go.RowKit Go.Maps Go.Proofs.YtpkfeepepbchlaaW.PrintWords Go.Proofs.YtpkfeepepbchlaaW.PrintLast Go.Proofs.YtpkfeepepbchlaaW.PrintMore Go.Proofs.Ytpkfeepepbchlaa.PK
set_option linter.unusedVariables false
set_option linter.unusedSimpArgs false
theorem toList_inj {a b : ByteArray} (h : a.toList = b.toList) : a = b := by
  rw [ByteArray.toList_eq, ByteArray.toList_eq] at h
  cases a; cases b
  congr 1
  exact Array.toList_inj.1 h
theorem okR_of {num code : Int} {bl : Nat} {ns : List ByteArray} (hn : ∀ s ∈ ns, s.size ≤ 64) (h : 0 ≤ code ∧ code ≤ 3 ∧ 0 ≤ num ∧ num ≤ 2147483647 ∧ bl ≤ 60000 ∧ ns.length ≤ 1000) : Sb.okR num code bl ns = true := by
  unfold Sb.okR Sb.okN
  rw [Bool.and_eq_true, List.all_eq_true]
  exact ⟨fun s hs => decide_eq_true (hn s hs), decide_eq_true h⟩
theorem DoR.right {q : Int} {L L' : List Ent} {kind num nm code : Int} {k : ByteArray} {t bd : List Int} {ns : List ByteArray} (h : DoR q L kind num k t L' nm code bd ns) (hsm : ∀ y ∈ L, y.1.size ≤ 64 ∧ y.2.2.length ≤ 65536) (hE : ∀ y ∈ L, y.2.2.length ≤ 60000 ∧ Sb.Bytes y.2.2) : Sb.okR nm code bd.length ns = true ∧ Sb.Bytes bd := by
  have hs := (h.small hsm).2
  rcases h with ⟨_, _, rfl, rfl, rfl, rfl⟩ | ⟨hK, rfl, hcs⟩
  · refine ⟨okR_of (by simp) ⟨by omega, by omega, ?_, ?_, by simp, by simp⟩, Sb.Bytes.nil⟩
    · unfold fnum; split <;> (try split) <;> omega
    · unfold fnum; split <;> (try split) <;> omega
  · obtain ⟨_, _, p3, p4, p5, p6, _⟩ := okA_parts hK
    rcases hcs with ⟨_, rfl, rfl, ⟨_, rfl, _⟩ | ⟨_, rfl, _⟩⟩ | ⟨_, _, rfl, rfl, rfl⟩ | ⟨_, _, rfl, rfl, rfl⟩ | ⟨_, _, rfl, rfl, rfl⟩
    · exact ⟨okR_of (by simp) ⟨by omega, by omega, p3, p4, by simp, by simp⟩, Sb.Bytes.nil⟩
    · exact ⟨okR_of (by simp) ⟨by omega, by omega, p3, p4, by simp, by simp⟩, Sb.Bytes.nil⟩
    · cases hf : findE k L with
      | none => exact ⟨okR_of (by simp) ⟨by simp, by simp, p3, p4, by simp, by simp⟩, Sb.Bytes.nil⟩
      | some y =>
        have := hE y (find_mem hf).1
        exact ⟨okR_of (by simp) ⟨by simp, by simp, p3, p4, by simpa using this.1, by simp⟩, by simpa using this.2⟩
    · refine ⟨okR_of ?_ ⟨by omega, by omega, p3, p4, by simp, hs⟩, Sb.Bytes.nil⟩
      intro s hms
      unfold nmsE at hms
      have h1 := List.mem_of_mem_take hms
      obtain ⟨y, hy, rfl⟩ := List.mem_map.1 (List.mem_filter.1 h1).1
      exact (hsm y hy).1
    · refine ⟨okR_of (by simp) ⟨?_, ?_, p3, p4, by simp, by simp⟩, Sb.Bytes.nil⟩ <;> (split <;> omega)
theorem DoR.ents {q : Int} {L L' : List Ent} {kind num nm code : Int} {k : ByteArray} {t bd : List Int} {ns : List ByteArray} (h : DoR q L kind num k t L' nm code bd ns) (ht : Sb.Bytes t) (hE : ∀ y ∈ L, y.2.2.length ≤ 60000 ∧ Sb.Bytes y.2.2) : ∀ y ∈ L', y.2.2.length ≤ 60000 ∧ Sb.Bytes y.2.2 := by
  rcases h with ⟨_, rfl, _⟩ | ⟨hK, _, ⟨_, _, _, ⟨_, _, rfl⟩ | ⟨_, _, A, c, rfl⟩⟩ | ⟨_, rfl, _⟩ | ⟨_, rfl, _⟩ | ⟨_, rfl, _⟩⟩
  · exact hE
  · exact hE
  · obtain ⟨_, _, _, _, p5, _, _⟩ := okA_parts hK
    intro y hy
    rcases (mem_ins _ y _).1 hy with rfl | hy
    · exact ⟨p5, ht⟩
    · exact hE y ((mem_off k y L).1 hy).1
  · exact hE
  · exact hE
  · intro y hy
    exact hE y ((mem_off k y L).1 hy).1
theorem SvR.right {q : Int} {L L' : List Ent} {s out : List Int} (h : SvR q L s L' out) (hsm : ∀ y ∈ L, y.1.size ≤ 64 ∧ y.2.2.length ≤ 65536) (hE : ∀ y ∈ L, y.2.2.length ≤ 60000 ∧ Sb.Bytes y.2.2) : out.length ≤ 190000 ∧ Sb.Bytes out ∧ (Sb.getN out).2.2.2.2 = 0 := by
  have key : ∀ {nm code : Int} {bd : List Int} {ns : List ByteArray}, Sb.okR nm code bd.length ns = true → Sb.Bytes bd → ((Sb.ansB nm code bd ns).1.length ≤ 190000 ∧ Sb.Bytes (Sb.ansB nm code bd ns).1 ∧ (Sb.getN (Sb.ansB nm code bd ns).1).2.2.2.2 = 0) := by
    intro nm code bd ns h1 h2
    obtain ⟨z, h3, _, h4, h5, h6⟩ := Sb.ansB_ok h1 h2
    rw [h3]
    exact ⟨h4, h5, by rw [h6]⟩
  rcases h with ⟨_, _, rfl⟩ | ⟨_, nm, code, bd, ns, hD, rfl⟩
  · exact key (by decide +kernel) Sb.Bytes.nil
  · obtain ⟨h1, h2⟩ := hD.right hsm hE
    exact key h1 h2
theorem SvR.len {q : Int} {L L' : List Ent} {s out : List Int} (h : SvR q L s L' out) : L'.length ≤ L.length + 1 := by
  rcases h with ⟨_, rfl, _⟩ | ⟨_, nm, code, bd, ns, hD, _⟩
  · omega
  · exact hD.len
theorem honest {q : Int} {L L' : List Ent} {kind num : Int} {name : ByteArray} {t out : List Int} (hok : Sb.okA kind num name.size t.length = true) (ht : Sb.Bytes t) (hsm : ∀ y ∈ L, y.1.size ≤ 64 ∧ y.2.2.length ≤ 65536) (hE : ∀ y ∈ L, y.2.2.length ≤ 60000 ∧ Sb.Bytes y.2.2)
    (h : SvR q L (Sb.askB kind num name t).1 L' out) : ∃ code bd ns, DoR q L kind num name t L' num code bd ns ∧ Sb.getN out = (num, code, bd, ns, 0) ∧ out.length ≤ 190000 ∧ Sb.Bytes out := by
  obtain ⟨qq, h1, h2, h3, h4⟩ := Sb.askB_ok (name := name) hok ht
  rw [h1] at h
  rcases h with ⟨he, _⟩ | ⟨_, nm, code, bd, ns, hD, rfl⟩
  · rw [h4] at he
    exact absurd rfl he
  · rw [h4] at hD
    simp only [Sb.str_bytesOf] at hD
    have hnm : nm = num := by
      rcases hD with ⟨hk, _⟩ | ⟨_, rfl, _⟩
      · rw [hok] at hk; cases hk
      · rfl
    subst hnm
    obtain ⟨r1, r2⟩ := hD.right hsm hE
    obtain ⟨z, g1, _, g3, g4, g5⟩ := Sb.ansB_ok r1 r2
    rw [g1]
    exact ⟨code, bd, ns, hD, g5, g3, g4⟩
end Go.Proofs.Ytpkfeepepbchlaa.Bl
