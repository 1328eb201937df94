/- wire: an ask there and back: the plain law; the example. -/
import Derived.Test.YtcffacpdjcfidaaWr5
namespace Go.Proofs.Ytcffacpdjcfidaa.Sb
open Go.RowKit Go.Proofs.YtcffacpdjcfidaaW.PrintWords Go.Proofs.YtcffacpdjcfidaaW.PrintLast Go.Proofs.YtcffacpdjcfidaaW.PrintMore Go.Proofs.Ytcffacpdjcfidaa.PW
set_option linter.unusedVariables false
set_option linter.unusedSimpArgs false

theorem bytes_bytesOf (s : ByteArray) : Bytes (bytesOf s) := by
  intro x hx
  obtain ⟨b, _, rfl⟩ := List.mem_map.1 hx
  exact ⟨by omega, by have := b.toNat_lt; omega⟩
theorem str_bytesOf (s : ByteArray) : strOfNums (bytesOf s) = s := by
  unfold strOfNums bytesOf
  rw [List.map_map]
  have e : ((fun n : Int => UInt8.ofNat n.toNat) ∘ fun b : UInt8 => ((b.toNat : Nat) : Int)) = id := by
    funext b
    simp
  rw [e, List.map_id]

theorem askB_ok {kind num : Int} {name : ByteArray} {bd : List Int} (h : okA kind num name.size bd.length = true) (hb : Bytes bd) :
    ∃ q, askB kind num name bd = (q, 0) ∧ q.length ≤ 70000 ∧ Bytes q ∧ getA q = (kind, num, bytesOf name, bd, 0) := by
  have hp : 1 ≤ kind ∧ kind ≤ 4 ∧ 0 ≤ num ∧ num ≤ 2147483647 ∧ bd.length ≤ 60000 ∧ name.size ≤ 64 ∧ (kind = 1 ∨ bd.length = 0) := of_decide_eq_true h
  have hs : askB kind num name bd = ([kind] ++ spr num 4 ++ (textB (bytesOf name)).1 ++ (textB bd).1, 0) := by unfold askB; rw [h, numB1 kind (by omega) (by omega), numB4 num (by omega)]; rfl
  refine ⟨_, hs, ?_, ?_, ?_⟩
  · have h3 := textB_length (bytesOf name)
    have h4 := textB_length bd
    rw [bytesOf_length] at h3
    simp only [List.length_append, List.length_singleton, spr_length]
    omega
  · exact (((Bytes.cons (by omega) (by omega) Bytes.nil).append (bytes_spr num 4)).append (bytes_textB _ (bytes_bytesOf name))).append (bytes_textB _ hb)
  · have t1 := text_forth ([kind] ++ spr num 4) ((textB bd).1) (bytesOf name) 64 (by rw [bytesOf_length]; omega) (by rw [bytesOf_length]; omega)
    have t2 := text_forth ([kind] ++ spr num 4 ++ (textB (bytesOf name)).1) [] bd 60000 (by omega) (by omega)
    have e5 : ([kind] ++ spr num 4).length = 5 := by simp [spr_length]
    rw [e5] at t1
    rw [List.length_append, e5, List.append_nil] at t2
    have e1 : [kind] ++ spr num 4 ++ ((textB (bytesOf name)).1 ++ (textB bd).1) = [kind] ++ spr num 4 ++ (textB (bytesOf name)).1 ++ (textB bd).1 := by rw [List.append_assoc ([kind] ++ spr num 4)]
    rw [e1] at t1
    have k1 : ([kind] ++ spr num 4 ++ (textB (bytesOf name)).1 ++ (textB bd).1).getD 0 0 = kind := rfl
    have k2 : (([kind] ++ spr num 4 ++ (textB (bytesOf name)).1 ++ (textB bd).1).drop 1).take 4 = spr num 4 := by
      have : ([kind] ++ spr num 4 ++ (textB (bytesOf name)).1 ++ (textB bd).1) = kind :: (spr num 4 ++ ((textB (bytesOf name)).1 ++ (textB bd).1)) := by simp
      rw [this, List.drop_succ_cons, List.drop_zero, List.take_append_of_le_length (by rw [spr_length]; omega), List.take_of_length_le (by rw [spr_length]; omega)]
    have k3 : be (spr num 4) = num := be_spr 4 num (by omega) (by omega)
    have kl : ([kind] ++ spr num 4 ++ (textB (bytesOf name)).1 ++ (textB bd).1).length = 5 + (textB (bytesOf name)).1.length + (textB bd).1.length := by simp only [List.length_append, List.length_singleton, spr_length]
    generalize [kind] ++ spr num 4 ++ (textB (bytesOf name)).1 ++ (textB bd).1 = q at *
    unfold getA
    rw [if_neg (by omega), t1]
    simp only [ne_eq, not_true_eq_false, if_false]
    rw [t2]
    simp only [ne_eq, not_true_eq_false, if_false]
    rw [if_neg (by omega), k1, k2, k3, bytesOf_length, if_neg (by rw [h]; decide)]
theorem askB_no {kind num : Int} {name : ByteArray} {bd : List Int} (h : okA kind num name.size bd.length = false) : askB kind num name bd = ([], 14) := by unfold askB; rw [h]; rfl

theorem askB_ex : askB 2 5 ⟨#[97]⟩ [] = ([2, 0, 0, 0, 5, 1, 97, 0], 0) := by decide +kernel

set_option maxRecDepth 20000 in
set_option maxHeartbeats 2000000 in
theorem wakes_calls (w : World) : Calls Try.prog 7 #[] w fun e w' => e = .returned (.bool true) ∧ Below w.heap.size w w' := by
  go_enter Try.func7, Try.ntmps7
  go_wp2_with fail
  refine (PutAsk_calls 2 5 ⟨#[97]⟩ none 0 0 [] w (by omega) (by decide) rfl (Nat.le_refl _) (Kd.C_nil _ _)).mono ?_
  rw [askB_ex]
  rintro e w1 ⟨u, rfl, hu, hb⟩
  obtain ⟨A1, c1, rfl, hc1, hr1⟩ := Kd.R_reads hu
  have HC1 := Aside0.mk hr1; have HB := Aside0.mk hb; have HL := Aside0.mk hc1
  clear hu hr1 hb hc1
  go_wp2_with fail
  refine (same_calls_self A1 8 c1 _ 8 8 [2, 0, 0, 0, 5, 1, 97, 0] _ (Kd.C_alloc HC1.out _) rfl HL.out (C_lit_new .u8 5 w1 [2, 0, 0, 0, 5, 1, 97, 0] 8 _ (by rfl) rfl (by decide)) rfl (Nat.le_refl _) (by omega)).mono ?_
  rintro e w2 ⟨rfl, nd, rfl⟩
  go_wp2_with fail
  go_ret
  exact ⟨rfl, pw_below_drewN (below_alloc HB.out _) nd⟩

end Go.Proofs.Ytcffacpdjcfidaa.Sb
