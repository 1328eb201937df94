import Derived.Test.YtpkfeepepbchlaaGWr9
import Derived.Test.YtpkfeepepbchlaaGWr7
namespace Go.Proofs.Ytpkfeepepbchlaa.Sb
open Go.RowKit Go.Proofs.YtpkfeepepbchlaaW.PrintWords Go.Proofs.YtpkfeepepbchlaaW.PrintLast Go.Proofs.YtpkfeepepbchlaaW.PrintMore Go.Proofs.Ytpkfeepepbchlaa.PK
set_option linter.unusedVariables false
set_option linter.unusedSimpArgs false
theorem bytes_bytesOf (s : ByteArray) : Bytes (bytesOf s) := by
  intro x hx
  obtain ⟨b, _, rfl⟩ := List.mem_map.1 hx
  exact ⟨by omega, by have := b.toNat_lt; omega⟩
theorem str_bytesOf (s : ByteArray) : strOfNums (bytesOf s) = s := by
  unfold strOfNums bytesOf
  rw [List.map_map]
  have e : ((fun n : Int => UInt8.ofNat n.toNat) ∘ fun b : UInt8 => ((b.toNat : Nat) : Int)) = id := by
    funext b
    simp
  rw [e, List.map_id]
theorem askB_ok {kind num : Int} {name : ByteArray} {bd : List Int} (h : okA kind num name.size bd.length = true) (hb : Bytes bd) :
    ∃ q, askB kind num name bd = (q, 0) ∧ q.length ≤ 70000 ∧ Bytes q ∧ getA q = (kind, num, bytesOf name, bd, 0) := by
  have hp : 1 ≤ kind ∧ kind ≤ 4 ∧ 0 ≤ num ∧ num ≤ 2147483647 ∧ bd.length ≤ 60000 ∧ name.size ≤ 64 ∧ (kind = 1 ∨ bd.length = 0) := of_decide_eq_true h
  have hs : askB kind num name bd = ([kind] ++ spr num 4 ++ (textB (bytesOf name)).1 ++ (textB bd).1, 0) := by unfold askB; rw [h, numB1 kind (by omega) (by omega), numB4 num (by omega)]; rfl
  refine ⟨_, hs, ?_, ?_, ?_⟩
  · have h3 := textB_length (bytesOf name)
    have h4 := textB_length bd
    rw [bytesOf_length] at h3
    simp only [List.length_append, List.length_singleton, spr_length]
    omega
  · exact (((Bytes.cons (by omega) (by omega) Bytes.nil).append (bytes_spr num 4)).append (bytes_textB _ (bytes_bytesOf name))).append (bytes_textB _ hb)
  · have t1 := text_forth ([kind] ++ spr num 4) ((textB bd).1) (bytesOf name) 64 (by rw [bytesOf_length]; omega) (by rw [bytesOf_length]; omega)
    have t2 := text_forth ([kind] ++ spr num 4 ++ (textB (bytesOf name)).1) [] bd 60000 (by omega) (by omega)
    have e5 : ([kind] ++ spr num 4).length = 5 := by simp [spr_length]
    rw [e5] at t1
    rw [List.length_append, e5, List.append_nil] at t2
    have e1 : [kind] ++ spr num 4 ++ ((textB (bytesOf name)).1 ++ (textB bd).1) = [kind] ++ spr num 4 ++ (textB (bytesOf name)).1 ++ (textB bd).1 := by rw [List.append_assoc ([kind] ++ spr num 4)]
    rw [e1] at t1
    have k1 : ([kind] ++ spr num 4 ++ (textB (bytesOf name)).1 ++ (textB bd).1).getD 0 0 = kind := rfl
    have k2 : (([kind] ++ spr num 4 ++ (textB (bytesOf name)).1 ++ (textB bd).1).drop 1).take 4 = spr num 4 := by
      have : ([kind] ++ spr num 4 ++ (textB (bytesOf name)).1 ++ (textB bd).1) = kind :: (spr num 4 ++ ((textB (bytesOf name)).1 ++ (textB bd).1)) := by simp
      rw [this, List.drop_succ_cons, List.drop_zero, List.take_append_of_le_length (by rw [spr_length]; omega), List.take_of_length_le (by rw [spr_length]; omega)]
    have k3 : be (spr num 4) = num := be_spr 4 num (by omega) (by omega)
    have kl : ([kind] ++ spr num 4 ++ (textB (bytesOf name)).1 ++ (textB bd).1).length = 5 + (textB (bytesOf name)).1.length + (textB bd).1.length := by simp only [List.length_append, List.length_singleton, spr_length]
    generalize [kind] ++ spr num 4 ++ (textB (bytesOf name)).1 ++ (textB bd).1 = q at *
    unfold getA
    rw [if_neg (by omega), t1]
    simp only [ne_eq, not_true_eq_false, if_false]
    rw [t2]
    simp only [ne_eq, not_true_eq_false, if_false]
    rw [if_neg (by omega), k1, k2, k3, bytesOf_length, if_neg (by rw [h]; decide)]
theorem askB_no {kind num : Int} {name : ByteArray} {bd : List Int} (h : okA kind num name.size bd.length = false) : askB kind num name bd = ([], 14) := by unfold askB; rw [h]; rfl
theorem i_next (i : Nat) (h : i < 140737488355328) : wrap64 ((i : Int) + 1) = ((i + 1 : Nat) : Int) := by unfold wrap64; omega
theorem sameNames_loop (l : List ByteArray) (hm : l.length ≤ 140737488355328) : ∀ (d k i : Nat), i + d = l.length → d < k → scriniumref16_SameNames.l0 k l l i = some true := by
  intro d
  induction d with
  | zero =>
    intro k i hi hk
    obtain ⟨k, rfl⟩ : ∃ j, k = j + 1 := ⟨k - 1, by omega⟩
    simp only [scriniumref16_SameNames.l0]
    rw [if_neg (by omega)]
  | succ d ih =>
    intro k i hi hk
    obtain ⟨k, rfl⟩ : ∃ j, k = j + 1 := ⟨k - 1, by omega⟩
    simp only [scriniumref16_SameNames.l0]
    rw [if_pos (by omega), if_pos (by omega), if_pos (by omega), if_true, i_next i (by omega), ih k (i + 1) (by omega) (by omega)]
theorem sameNames_is (l : List ByteArray) (hm : l.length ≤ 140737488355328) (k : Nat) (hk : l.length < k) : scriniumref16_SameNames.f k l l = some true := by
  unfold scriniumref16_SameNames.f
  rw [if_pos rfl]
  exact sameNames_loop l hm l.length k 0 (by omega) hk
theorem sameAnswer_calls (num code : Int) (bd : List Int) (l : List ByteArray) (A0 : Option Addr) (n0 c0 : Nat) (B0 : Option Addr) (m0 d0 : Nat) (A1 : Option Addr) (n1 c1 : Nat) (B1 : Option Addr) (m1 d1 : Nat) (w : World)
    (hr0 : Bs.C w A0 n0 bd) (h0 : bd.length = n0) (hc0 : n0 ≤ c0) (ks0 : Kd.C Kd.string w B0 m0 l) (g0 : l.length = m0) (kc0 : m0 ≤ d0)
    (hr1 : Bs.C w A1 n1 bd) (h1 : bd.length = n1) (hc1 : n1 ≤ c1) (ks1 : Kd.C Kd.string w B1 m1 l) (g1 : l.length = m1) (kc1 : m1 ≤ d1) (hm : n0 ≤ 140737488355328) (km : m0 ≤ 140737488355328) :
    Calls Try.prog 18 #[.agg #[.int .i64 num, .int .i64 code, .slice A0 n0 c0, .slice B0 m0 d0], .agg #[.int .i64 num, .int .i64 code, .slice A1 n1 c1, .slice B1 m1 d1]] w fun e w' => e = .returned (.bool true) ∧ Below w.heap.size w w' := by
  subst h0
  subst h1
  subst g0
  subst g1
  refine scriniumref16_SameAnswer.calls (bd.length + l.length + 1) num code A0 c0 bd B0 d0 l num code A1 c1 bd B1 d1 l true w hr0 hc0 ks0 kc0 hr1 hc1 ks1 kc1 ?_
  unfold scriniumref16_SameAnswer.f
  rw [if_pos rfl, if_pos rfl, same_is bd bd _ hm (by omega), sameNames_is l km _ (by omega)]
  simp
theorem names_forth : ∀ (l : List ByteArray) (p : List Int), (∀ s, s ∈ l → s.size ≤ 64) → namesR (p ++ namesB l) l.length p.length = (l, (p ++ namesB l).length, 0) := by
  intro l
  induction l with
  | nil => intro p _; simp [namesB, namesR]
  | cons s l ih =>
    intro p h
    have hs := h s List.mem_cons_self
    have ht := text_forth p (namesB l) (bytesOf s) 64 (by rw [bytesOf_length]; omega) (by rw [bytesOf_length]; omega)
    have hi := ih (p ++ (textB (bytesOf s)).1) (fun x hx => h x (List.mem_cons_of_mem _ hx))
    have e : p ++ (textB (bytesOf s)).1 ++ namesB l = p ++ ((textB (bytesOf s)).1 ++ namesB l) := List.append_assoc _ _ _
    rw [e, List.length_append] at hi
    show namesR (p ++ ((textB (bytesOf s)).1 ++ namesB l)) (l.length + 1) p.length = _
    simp only [namesR]
    rw [ht]
    simp only [ne_eq, not_true_eq_false, if_false]
    rw [hi, str_bytesOf]
    rfl
theorem bytes_namesB : ∀ (l : List ByteArray), Bytes (namesB l)
  | [] => Bytes.nil
  | s :: l => (bytes_textB _ (bytes_bytesOf s)).append (bytes_namesB l)
theorem ansB_ok {num code : Int} {bd : List Int} {l : List ByteArray} (h : okR num code bd.length l = true) (hb : Bytes bd) :
    ∃ q, ansB num code bd l = (q, 0) ∧ 5 ≤ q.length ∧ q.length ≤ 190000 ∧ Bytes q ∧ getN q = (num, code, bd, l, 0) := by
  have hK2 : okN l = true ∧ (0 ≤ code ∧ code ≤ 3 ∧ 0 ≤ num ∧ num ≤ 2147483647 ∧ bd.length ≤ 60000 ∧ l.length ≤ 1000) := by
    have h := h
    unfold okR at h
    rw [Bool.and_eq_true] at h
    exact ⟨h.1, of_decide_eq_true h.2⟩
  obtain ⟨hN, hp⟩ := hK2
  have hM := okN_mem hN
  have hs : ansB num code bd l = ([code] ++ spr num 4 ++ (textB bd).1 ++ (smallB l.length).1 ++ namesB l, 0) := by unfold ansB; rw [h, numB1 code (by omega) (by omega), numB4 num (by omega)]; rfl
  have kl : ([code] ++ spr num 4 ++ (textB bd).1 ++ (smallB l.length).1 ++ namesB l).length = 5 + (textB bd).1.length + (smallB (l.length : Int)).1.length + (namesB l).length := by simp only [List.length_append, List.length_singleton, spr_length]
  have h1 := textB_length bd
  have h2 := smallB_length (l.length : Int)
  have h3 := namesB_length hM
  refine ⟨_, hs, by omega, by omega, ?_, ?_⟩
  · exact ((((Bytes.cons (by omega) (by omega) Bytes.nil).append (bytes_spr num 4)).append (bytes_textB _ hb)).append (bytes_smallB _ (by omega))).append (bytes_namesB l)
  · have t1 := text_forth ([code] ++ spr num 4) ((smallB l.length).1 ++ namesB l) bd 60000 (by omega) (by omega)
    have t2 := small_forth ([code] ++ spr num 4 ++ (textB bd).1) (namesB l) (l.length : Int) 1000 (by omega) (by omega) (by omega)
    have t3 := names_forth l ([code] ++ spr num 4 ++ (textB bd).1 ++ (smallB l.length).1) hM
    have e5 : ([code] ++ spr num 4).length = 5 := by simp [spr_length]
    rw [e5] at t1
    rw [List.length_append, e5] at t2
    rw [show ([code] ++ spr num 4 ++ (textB bd).1 ++ (smallB (l.length : Int)).1).length = 5 + (textB bd).1.length + (smallB (l.length : Int)).1.length by simp only [List.length_append, List.length_singleton, spr_length]] at t3
    have a1 : [code] ++ spr num 4 ++ ((textB bd).1 ++ ((smallB l.length).1 ++ namesB l)) = [code] ++ spr num 4 ++ (textB bd).1 ++ (smallB l.length).1 ++ namesB l := by simp only [List.append_assoc]
    have a2 : [code] ++ spr num 4 ++ (textB bd).1 ++ ((smallB l.length).1 ++ namesB l) = [code] ++ spr num 4 ++ (textB bd).1 ++ (smallB l.length).1 ++ namesB l := by simp only [List.append_assoc]
    rw [a1] at t1
    rw [a2] at t2
    have k1 : ([code] ++ spr num 4 ++ (textB bd).1 ++ (smallB l.length).1 ++ namesB l).getD 0 0 = code := rfl
    have k2 : (([code] ++ spr num 4 ++ (textB bd).1 ++ (smallB l.length).1 ++ namesB l).drop 1).take 4 = spr num 4 := by
      have : ([code] ++ spr num 4 ++ (textB bd).1 ++ (smallB l.length).1 ++ namesB l) = code :: (spr num 4 ++ ((textB bd).1 ++ ((smallB l.length).1 ++ namesB l))) := by simp
      rw [this, List.drop_succ_cons, List.drop_zero, List.take_append_of_le_length (by rw [spr_length]; omega), List.take_of_length_le (by rw [spr_length]; omega)]
    have k3 : be (spr num 4) = num := be_spr 4 num (by omega) (by omega)
    generalize [code] ++ spr num 4 ++ (textB bd).1 ++ (smallB l.length).1 ++ namesB l = q at *
    unfold getN
    rw [if_neg (by omega), t1]
    simp only [ne_eq, not_true_eq_false, if_false]
    rw [t2]
    simp only [ne_eq, not_true_eq_false, if_false, Int.toNat_natCast]
    rw [t3]
    simp only [ne_eq, not_true_eq_false, if_false]
    rw [k1, k2, k3, h, if_neg (by decide)]
end Go.Proofs.Ytpkfeepepbchlaa.Sb
