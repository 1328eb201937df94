/- ctr: what is hidden twice; bytes that are the same. -/
import Derived.Test.YtingegkipimakaaCtw
import Derived.Test.YtingegkipimakaaAp1
namespace Go.Proofs.Ytingegkipimakaa.Ae
open Go.RowKit Go.Proofs.YtingegkipimakaaW.PrintWords Go.Proofs.YtingegkipimakaaW.PrintLast Go.Proofs.YtingegkipimakaaW.PrintMore Go.Proofs.Ytingegkipimakaa.PA
set_option linter.unusedVariables false
set_option linter.unusedSimpArgs false

theorem xor_xor {a p : Int} (ha : 0 ≤ a ∧ a < 256) (hp : 0 ≤ p ∧ p < 256) : Go.bits .xor .u8 (Go.bits .xor .u8 a p) p = a := by
  refine B_inj (bits_by _ _ _) ha ?_
  rw [B_xor (bits_by _ _ _) hp, B_xor ha hp, BitVec.xor_assoc, BitVec.xor_self, BitVec.xor_zero]
theorem pad_by {key fr : List Int} (hk : By key) (j : Nat) : By (pad key fr j) := blockL_by (boxL_by hk) _
theorem hideL_getD (key fr text : List Int) (n j : Nat) : (hideL key fr text n).getD j 0 = if j < n then hb1 key fr text j else 0 := by
  unfold hideL
  rw [List.getD_eq_getElem?_getD, List.getElem?_map]
  by_cases h : j < n
  · rw [List.getElem?_range h]
    simp [h]
  · rw [List.getElem?_eq_none (by simp; omega)]
    simp [h]
theorem hideL_twice {key text : List Int} (fr : List Int) (hk : By key) (ht : By text) : hideL key fr (hideL key fr text text.length) text.length = text := by
  refine getD_ext (hideL_length _ _ _ _) fun j => ?_
  rw [hideL_getD]
  by_cases h : j < text.length
  · rw [if_pos h]
    unfold hb1
    rw [hideL_getD, if_pos h]
    exact xor_xor (ht j) (pad_by hk _ _)
  · rw [if_neg h, List.getD_eq_getElem?_getD, List.getElem?_eq_none (by omega)]
    rfl
theorem same_l0 (l : List Int) (hn : l.length ≤ 140737488351232) (d : Nat) : ∀ (k i : Nat), i + d = l.length → d < k → scriniumref01_Same.l0 k l l (i : Int) = some true := by
  induction d with
  | zero =>
    intro k i hd hk
    obtain ⟨k, rfl⟩ : ∃ m, k = m + 1 := ⟨k - 1, by omega⟩
    simp only [scriniumref01_Same.l0]
    rw [if_neg (by omega)]
  | succ d ih =>
    intro k i hd hk
    obtain ⟨k, rfl⟩ : ∃ m, k = m + 1 := ⟨k - 1, by omega⟩
    simp only [scriniumref01_Same.l0]
    rw [if_pos (by omega), if_pos (by omega), if_pos (by omega)]
    have hw : wrap64 ((i : Int) + 1) = ((i + 1 : Nat) : Int) := by unfold wrap64; omega
    first
    | rw [hw]; exact ih k (i + 1) (by omega) (by omega)
    | (simp only [if_true, hw]; exact ih k (i + 1) (by omega) (by omega))
    | (rw [if_pos rfl, hw]; exact ih k (i + 1) (by omega) (by omega))
theorem same_self (l : List Int) (hn : l.length ≤ 140737488351232) : scriniumref01_Same.f (l.length + 1) l l = some true := by
  unfold scriniumref01_Same.f
  rw [if_pos rfl]
  exact same_l0 l hn l.length (l.length + 1) 0 (by omega) (by omega)
theorem same_eq (w : World) (A0 : Option Addr) (c0 : Nat) (A1 : Option Addr) (c1 : Nat) (l : List Int) (n : Nat) (hn : l.length = n) (h0 : (Kd.int .u8).C w A0 n l) (hc0 : n ≤ c0) (h1 : (Kd.int .u8).C w A1 n l) (hc1 : n ≤ c1) (hm : n ≤ 1000) :
    Calls Try.prog 19 #[.slice A0 n c0, .slice A1 n c1] w fun e w' => e = .returned (.bool true) ∧ Below w.heap.size w w' := by
  subst hn
  refine (scriniumref01_Same.calls (l.length + 1) A0 c0 l A1 c1 l true w h0 hc0 h1 hc1 (same_self l (by omega))).mono ?_
  rintro e w' ⟨rfl, hd⟩
  exact ⟨rfl, drawn_below hd⟩

end Go.Proofs.Ytingegkipimakaa.Ae
