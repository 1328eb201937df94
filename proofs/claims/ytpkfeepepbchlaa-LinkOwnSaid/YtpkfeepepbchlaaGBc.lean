import Derived.Test.YtpkfeepepbchlaaGBb
import Derived.Test.YtpkfeepepbchlaaGSb3
namespace Go.Proofs.Ytpkfeepepbchlaa.Bl
open Go.RowKit Go.Maps Go.Proofs.YtpkfeepepbchlaaW.PrintWords Go.Proofs.YtpkfeepepbchlaaW.PrintLast Go.Proofs.YtpkfeepepbchlaaW.PrintMore Go.Proofs.Ytpkfeepepbchlaa.PK
set_option linter.unusedVariables false
set_option linter.unusedSimpArgs false
def DoR (q : Int) (L : List Ent) (kind num : Int) (k : ByteArray) (t : List Int) (L' : List Ent) (nm code : Int) (bd : List Int) (ns : List ByteArray) : Prop :=
  (Sb.okA kind num k.size t.length = false ∧ L' = L ∧ nm = fnum num ∧ code = 3 ∧ bd = [] ∧ ns = []) ∨
  (Sb.okA kind num k.size t.length = true ∧ nm = num ∧
    ((kind = 1 ∧ bd = [] ∧ ns = [] ∧ ((q < sumE (offE k L) + k.size + t.length ∧ code = 2 ∧ L' = L) ∨ (sumE (offE k L) + k.size + t.length ≤ q ∧ code = 0 ∧ ∃ A c, L' = putE k (.slice A t.length c) t L))) ∨
     (kind = 2 ∧ L' = L ∧ ns = [] ∧ bd = ((findE k L).map (·.2.2)).getD [] ∧ code = if (findE k L).isSome then 0 else 1) ∨
     (kind = 3 ∧ L' = L ∧ bd = [] ∧ code = 0 ∧ ns = nmsE k L) ∨
     (kind = 4 ∧ L' = offE k L ∧ bd = [] ∧ ns = [] ∧ code = if (findE k L).isSome then 0 else 1)))
theorem okA_parts {kind num : Int} {nl bl : Nat} (h : Sb.okA kind num nl bl = true) : 1 ≤ kind ∧ kind ≤ 4 ∧ 0 ≤ num ∧ num ≤ 2147483647 ∧ bl ≤ 60000 ∧ nl ≤ 64 ∧ (kind = 1 ∨ bl = 0) := of_decide_eq_true h
theorem Do_calls (g b : Nat) (q : Int) (L : List Ent) (kind num : Int) (k : ByteArray) (A : Option Addr) (c : Nat) (t : List Int) (w : World) (h : Bl w g b q L) (hl : L.length ≤ 100000) (hq : 0 ≤ q ∧ q ≤ 9223372036854775807)
    (hc : t.length ≤ c) (hr : Bs.C w A t.length t) :
    Calls Try.prog 51 #[.pointer (some ⟨g, 0, none⟩), .agg #[.int .i64 kind, .int .i64 num, .string k, .slice A t.length c]] w fun e w' => ∃ vb vn nm code bd ns L', e = .returned (.agg #[.int .i64 nm, .int .i64 code, vb, vn]) ∧
      Bs.R 5 w' w.heap.size (fun _ => True) vb bd ∧ Kd.string.R 9 w' w.heap.size (fun _ => True) vn ns ∧ Bl w' g b q L' ∧ w.grownBy w' (some b) ∧ DoR q L kind num k t L' nm code bd ns := by
  cases hK : Sb.okA kind num k.size t.length with
  | false =>
    refine (Do_foreign (some ⟨g, 0, none⟩) kind num k A c t w (.inl hK) hc hr).mono ?_
    rintro e w' ⟨vb, vn, rfl, h1, h2, hb⟩
    exact ⟨vb, vn, _, _, _, _, L, rfl, h1, h2, h.kept hb, grown_none hb, .inl ⟨hK, rfl, rfl, rfl, rfl, rfl⟩⟩
  | true =>
    obtain ⟨p1, p2, _, _, p5, p6, _⟩ := okA_parts hK
    have hkd : kind = 1 ∨ kind = 2 ∨ kind = 3 ∨ kind = 4 := by omega
    rcases hkd with rfl | rfl | rfl | rfl
    · refine (Do_put g b q L num k A c t w h hl hK p6 p5 hc hr hq).mono ?_
      rintro e w' ⟨vb, vn, code, L', rfl, h1, h2, h3, h4, h5⟩
      exact ⟨vb, vn, _, _, _, _, L', rfl, h1, h2, h3, h4, .inr ⟨hK, rfl, .inl ⟨rfl, rfl, rfl, h5⟩⟩⟩
    · refine (Do_get g b q L num k A c t w h hK p6 p5 hc hr).mono ?_
      rintro e w' ⟨vb, vn, rfl, h1, h2, h3, h4⟩
      exact ⟨vb, vn, _, _, _, _, L, rfl, h1, h2, h3, grown_none h4, .inr ⟨hK, rfl, .inr (.inl ⟨rfl, rfl, rfl, rfl, rfl⟩)⟩⟩
    · refine (Do_list g b q L num k A c t w h hl hK p6 p5 hc hr).mono ?_
      rintro e w' ⟨vb, vn, rfl, h1, h2, h3, h4⟩
      exact ⟨vb, vn, _, _, _, _, L, rfl, h1, h2, h3, grown_none h4, .inr ⟨hK, rfl, .inr (.inr (.inl ⟨rfl, rfl, rfl, rfl, rfl⟩))⟩⟩
    · refine (Do_drop g b q L num k A c t w h hl hK p6 p5 hc hr).mono ?_
      rintro e w' ⟨vb, vn, rfl, h1, h2, h3, h4⟩
      exact ⟨vb, vn, _, _, _, _, _, rfl, h1, h2, h3, h4, .inr ⟨hK, rfl, .inr (.inr (.inr ⟨rfl, rfl, rfl, rfl, rfl⟩))⟩⟩
theorem DoR.len {q : Int} {L L' : List Ent} {kind num nm code : Int} {k : ByteArray} {t bd : List Int} {ns : List ByteArray} (h : DoR q L kind num k t L' nm code bd ns) : L'.length ≤ L.length + 1 := by
  have ho : (offE k L).length ≤ L.length := List.length_filter_le _ _
  rcases h with ⟨_, rfl, _⟩ | ⟨_, _, ⟨_, _, _, ⟨_, _, rfl⟩ | ⟨_, _, A, c, rfl⟩⟩ | ⟨_, rfl, _⟩ | ⟨_, rfl, _⟩ | ⟨_, rfl, _⟩⟩
  · omega
  · omega
  · unfold putE
    rw [(ins_perm _ _).length_eq, List.length_cons]
    omega
  · omega
  · omega
  · omega
end Go.Proofs.Ytpkfeepepbchlaa.Bl
namespace Go.Proofs.Ytpkfeepepbchlaa.Bl
open Go.RowKit Go.Maps Go.Proofs.YtpkfeepepbchlaaW.PrintWords Go.Proofs.YtpkfeepepbchlaaW.PrintLast Go.Proofs.YtpkfeepepbchlaaW.PrintMore Go.Proofs.Ytpkfeepepbchlaa.PK
set_option linter.unusedVariables false
set_option linter.unusedSimpArgs false
end Go.Proofs.Ytpkfeepepbchlaa.Bl
