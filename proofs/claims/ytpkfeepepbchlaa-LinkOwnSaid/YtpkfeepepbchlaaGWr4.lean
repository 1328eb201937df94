import Derived.Test.YtpkfeepepbchlaaGWb
import Derived.Test.YtpkfeepepbchlaaGWr3
namespace Go.Proofs.Ytpkfeepepbchlaa.Sb
open Go.RowKit Go.Proofs.YtpkfeepepbchlaaW.PrintWords Go.Proofs.YtpkfeepepbchlaaW.PrintLast Go.Proofs.YtpkfeepepbchlaaW.PrintMore Go.Proofs.Ytpkfeepepbchlaa.PK
set_option linter.unusedVariables false
set_option linter.unusedSimpArgs false
theorem be_four (s : List Int) (hs : Bytes s) (a : Nat) (h : a + 4 ≤ s.length) : 0 ≤ be ((s.drop a).take 4) ∧ be ((s.drop a).take 4) < 4294967296 := by
  have h1 := beF_bd ((s.drop a).take 4) ((hs.drop _).take _) 0 (Int.le_refl 0)
  rw [show ((s.drop a).take 4).length = 4 by rw [List.length_take, List.length_drop]; omega] at h1
  exact ⟨h1.1, by have := h1.2; show beF 0 _ < _; omega⟩
theorem numR_short (s : List Int) (at_ n : Nat) (h1 : 1 ≤ n) (h8 : n ≤ 8) (h : s.length < at_ + n) : numR s at_ n = (0, 0, 1) := by
  unfold numR; rw [if_neg (by omega), if_pos (by omega)]
theorem numR_full (s : List Int) (at_ n : Nat) (h1 : 1 ≤ n) (h8 : n ≤ 8) (h : at_ + n ≤ s.length) : numR s at_ n = (be ((s.drop at_).take n), n, 0) := by
  unfold numR; rw [if_neg (by omega), if_neg (by omega), Int.toNat_natCast]
theorem two_is (s : List Int) (hs : Bytes s) (hm : s.length ≤ 140737488355328) (h : 5 ≤ s.length) : wire_two.f 10 s 0 = some (s.getD 0 0, be ((s.drop 1).take 4), 0, 5) := by
  have e1 := Num_is s hs (by omega) 0 (by omega) ((1 : Nat) : Int)
  have e2 := Num_is s hs (by omega) 1 (by omega) ((4 : Nat) : Int)
  rw [numR_full s 0 1 (by omega) (by omega) (by omega)] at e1
  rw [numR_full s 1 4 (by omega) (by omega) (by omega)] at e2
  rw [take_one s 0 (by omega)] at e1
  obtain ⟨a1, a2⟩ := hs.get 0 (by omega)
  obtain ⟨b1, b2⟩ := be_four s hs 1 (by omega)
  generalize s.getD 0 0 = x at *
  generalize be ((s.drop 1).take 4) = y at *
  have e1' : bin_Reader_Num.f 10 s 0 1 = some (x, 0, 1) := e1
  have e2' : bin_Reader_Num.f 10 s 1 4 = some (y, 0, 5) := e2
  unfold wire_two.f
  rw [e1']
  simp only [Option.bind_some, if_true, e2']
  have k1 : wrap64 x = x := by unfold wrap64; omega
  have k2 : wrap64 y = y := by unfold wrap64; omega
  rw [k1, k2]
theorem two_short (s : List Int) (hs : Bytes s) (hm : s.length ≤ 140737488355328) (h : s.length < 5) : ∃ x y, ∃ p : Nat, p ≤ s.length ∧ wire_two.f 10 s 0 = some (x, y, 1, (p : Int)) := by
  by_cases c : s.length < 1
  · have e1 := Num_is s hs (by omega) 0 (by omega) ((1 : Nat) : Int)
    rw [numR_short s 0 1 (by omega) (by omega) (by omega)] at e1
    have e1' : bin_Reader_Num.f 10 s 0 1 = some (0, 1, 0) := e1
    refine ⟨0, 0, 0, Nat.zero_le _, ?_⟩
    unfold wire_two.f
    rw [e1']
    rfl
  · have e1 := Num_is s hs (by omega) 0 (by omega) ((1 : Nat) : Int)
    have e2 := Num_is s hs (by omega) 1 (by omega) ((4 : Nat) : Int)
    rw [numR_full s 0 1 (by omega) (by omega) (by omega)] at e1
    rw [numR_short s 1 4 (by omega) (by omega) (by omega)] at e2
    generalize be ((s.drop 0).take 1) = x at *
    have e1' : bin_Reader_Num.f 10 s 0 1 = some (x, 0, 1) := e1
    have e2' : bin_Reader_Num.f 10 s 1 4 = some (0, 1, 1) := e2
    refine ⟨wrap64 x, wrap64 0, 1, by omega, ?_⟩
    unfold wire_two.f
    rw [e1']
    simp only [Option.bind_some, if_true, e2']
    rfl
theorem Two_calls (g : Nat) (s : List Int) (w0 w : World) (h : Rd w0 w g s 0) (h5 : 5 ≤ s.length) :
    Calls Try.prog 41 #[.pointer (some ⟨g, 0, none⟩)] w fun e w' => e = .returned (.tuple #[.int .i64 (s.getD 0 0), .int .i64 (be ((s.drop 1).take 4)), .int .i64 0]) ∧ Rd w0 w' g s 5 ∧ KeepBut w w' g none := by
  refine (wire_two.calls 10 g s 0 _ _ _ _ w0 w h.is h.below (two_is s h.bytes h.small h5)).mono ?_
  rintro e w1 ⟨rfl, hi, hb, hk⟩
  exact ⟨rfl, ⟨hi, hb, h.bytes, h.small, h5⟩, hk⟩
theorem Two_short (g : Nat) (s : List Int) (w0 w : World) (h : Rd w0 w g s 0) (h5 : s.length < 5) :
    Calls Try.prog 41 #[.pointer (some ⟨g, 0, none⟩)] w fun e w' => ∃ x y p, e = .returned (.tuple #[.int .i64 x, .int .i64 y, .int .i64 1]) ∧ Rd w0 w' g s p ∧ KeepBut w w' g none := by
  obtain ⟨x, y, p, hp, he⟩ := two_short s h.bytes h.small h5
  refine (wire_two.calls 10 g s 0 _ _ _ _ w0 w h.is h.below he).mono ?_
  rintro e w1 ⟨rfl, hi, hb, hk⟩
  exact ⟨x, y, p, rfl, ⟨hi, hb, h.bytes, h.small, hp⟩, hk⟩
set_option maxRecDepth 20000 in
set_option maxHeartbeats 1000000 in
theorem endedA_calls (g : Nat) (s : List Int) (at_ : Nat) (kind num : Int) (name : ByteArray) (A : Option Addr) (n c : Nat) (w0 w : World) (h : Rd w0 w g s at_) (hn : n ≤ 140737488355328) (hm : name.size ≤ 140737488355328) :
    Calls Try.prog 44 #[.pointer (some ⟨g, 0, none⟩), .iface 75 (.agg #[.int .i64 kind, .int .i64 num, .string name, .slice A n c])] w fun e w' =>
      e = .returned (.int .i64 (if s.length = at_ then (if okA kind num name.size n then 0 else 14) else 2)) ∧ Rd w0 w' g s at_ ∧ KeepBut w w' g none := by
  have HR := Aside0.mk h
  clear h
  by_cases c1 : s.length = at_
  · have HE := Aside0.mk (show endR s at_ = 0 by unfold endR; rw [if_pos c1])
    rw [if_pos c1]
    clear c1
    cases hK : okA kind num name.size n with
    | true =>
      rw [if_pos rfl]
      go_enter Try.func44, Try.ntmps44
      go_wp2_with fail
      refine (REnd_calls g s at_ w0 w HR.out).mono ?_
      rw [HE.out]
      rintro e w1 ⟨rfl, h1, k1⟩
      have HR1 := Aside0.mk h1; have HK1 := Aside0.mk k1
      clear h1 k1
      go_wp2_with fail
      refine (askRight_calls kind num name A n c _ trivial trivial).mono ?_
      rintro e w2 ⟨rfl, hb⟩
      have HB := Aside0.mk hb
      clear hb
      go_wp2_with fail
      go_ret
      exact ⟨rfl, HR1.out.later HB.out, HK1.out.trans (KeepBut.of_below HB.out g none) (.inl rfl)⟩
    | false =>
      rw [if_neg (by decide)]
      go_enter Try.func44, Try.ntmps44
      go_wp2_with fail
      refine (REnd_calls g s at_ w0 w HR.out).mono ?_
      rw [HE.out]
      rintro e w1 ⟨rfl, h1, k1⟩
      have HR1 := Aside0.mk h1; have HK1 := Aside0.mk k1
      clear h1 k1
      go_wp2_with fail
      refine (askRight_calls kind num name A n c _ trivial trivial).mono ?_
      rintro e w2 ⟨rfl, hb⟩
      have HB := Aside0.mk hb
      clear hb
      go_wp2_with fail
      go_ret
      exact ⟨rfl, HR1.out.later HB.out, HK1.out.trans (KeepBut.of_below HB.out g none) (.inl rfl)⟩
  · have HE := Aside0.mk (show endR s at_ = 2 by unfold endR; rw [if_neg c1])
    rw [if_neg c1]
    clear c1
    go_enter Try.func44, Try.ntmps44
    go_wp2_with fail
    refine (REnd_calls g s at_ w0 w HR.out).mono ?_
    rw [HE.out]
    rintro e w1 ⟨rfl, h1, k1⟩
    go_wp2_with fail
    go_ret
    exact ⟨rfl, h1, k1⟩
end Go.Proofs.Ytpkfeepepbchlaa.Sb
