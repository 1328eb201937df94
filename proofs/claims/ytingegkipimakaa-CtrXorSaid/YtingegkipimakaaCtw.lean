/- ctr: the example holds: the walk of its wakes. -/
import Derived.Test.YtingegkipimakaaHide
import Derived.BigFrame
namespace Go.Proofs.Ytingegkipimakaa.Ae
open Go.RowKit Go.Proofs.YtingegkipimakaaW.PrintWords Go.Proofs.YtingegkipimakaaW.PrintLast Go.Proofs.YtingegkipimakaaW.PrintMore Go.Proofs.Ytingegkipimakaa.PA
set_option linter.unusedVariables false
set_option linter.unusedSimpArgs false

theorem load_bkg {P : Program} {ops : Array Oper} {rest : List Oper} {o : Oper} {a : Act} {w : World} {Q : Exit → Act → World → Prop} {n : Nat} (ty : TypeId) (x : Operand) (ho : o.op = .load ty x) (hw : Region.wanted o (yielded ops a.tmps) = true)
    (g : Nat) (t : TypeId) (l : List Int) (hx : a.eval x = .pointer (some ⟨g, 0, none⟩)) (hA : ArrT P ty n) (hg : Bk w g t l) (hl : l.length = n)
    (h : wpList P ops Q rest (a.put o.dst (.agg (u8s l))) w) : wpList P ops Q (o :: rest) a w := by
  obtain ⟨d, h1, h2⟩ := hA.und
  exact BigFrame.wpList_want hw fun _ hK => wp_load_row ty x ho g hx t _ (0, 0) d hg h1 (by cases d <;> first | rfl | cases h2) (by rw [hA.info, u8s_size, hl]) (hK _ _ h)
theorem hide_reads (w : World) (key fr text : List Int) (A : Option Addr) (n c : Nat) (hk : key.length = 32) (hkb : By key) (hf : fr.length = 16) (hfb : By fr) (hn : text.length = n) (hC : (Kd.int .u8).C w A n text) (hc : n ≤ c) (ht : n ≤ 1000) :
    Calls Try.prog 18 #[.agg (u8s key), .agg (u8s fr), .slice A n c] w fun e w' => ∃ A' c', e = .returned (.slice A' n c') ∧ n ≤ c' ∧ (Kd.int .u8).C w' A' n (hideL key fr text n) ∧ Below w.heap.size w w' := by
  subst hn
  refine (hide_calls w key fr text A c hk hkb hf hfb hC hc ht).mono ?_
  rintro e w' ⟨v, rfl, hv, hb⟩
  obtain ⟨A', c', hv', hc', hC'⟩ := Kd.R_reads hv
  rw [hideL_length] at hv' hc' hC'
  exact ⟨A', c', by rw [hv'], hc', hC', hb⟩
/-- A block of bytes is read as a slice. -/
theorem C_bk {W : World} {g : Nat} {l : List Int} {t : TypeId} (h : Bk W g t l) (n : Nat) (hn : l.length = n) (hm : n ≤ 9223372036854775807) : (Kd.int .u8).C W (some ⟨g, 0, none⟩) n l :=
  ⟨hn, hm, fun _ => ⟨_, rfl, fun j p hj => ⟨[.int .u8 p], rfl, rfl, fun k u hu => by
    have hk : k = 0 := by have := (List.getElem?_eq_some_iff.1 hu).1; simp at this; omega
    subst hk
    have hjl := (List.getElem?_eq_some_iff.1 hj)
    simp at hu
    subst hu
    have e := h.cell j hjl.1
    rw [List.getD_eq_getElem?_getD, hj] at e
    show W.cell? (Addr.add ⟨g, 0, none⟩ (j * 1 + 0)) = _
    rw [Addr.add_mid, show 0 + (j * 1 + 0) = j by omega]
    exact e⟩⟩⟩
def ff : List Int := List.replicate 16 255
def f255 (n : Nat) : Int := 255
theorem ff_is : fillL f255 zs 16 = ff := by decide
theorem ff_count : cntL ff 1 = zs := by decide
theorem ff_by : By ff := By.ofMem (by decide)
theorem zs_by : By zs := By.zeros 16
theorem z32_by : By (List.replicate 32 0) := By.zeros 32

attribute [local irreducible] cntL hideL fillL in
set_option maxHeartbeats 1000000 in
set_option maxRecDepth 20000 in
theorem wakes6_calls (w : World) : Calls Try.prog 17 #[] w fun e w' => e = .returned (.bool true) ∧ Below w.heap.size w w' := by
  have HZ16 := Aside0.mk zs_length
  go_enter Try.func17, Try.ntmps17
  go_wp2_with fail
  have N0 := Aside0.mk ((Hs.start w).new 24 zs)
  go_loopg [3] 16 (fun kq v3 w' => ∃ (n : Nat), v3 = .int .i64 (n : Int) ∧ Aside0 (n + kq = 16) ∧ Aside0 (Hs [(w.heap.size, 24, fillL f255 zs n)] w w'))
  case atStart => exact ⟨0, rfl, ⟨rfl⟩, ⟨by rw [fillL_zero]; exact N0.out⟩⟩
  case round =>
    clear N0
    obtain ⟨n, rfl, HQ, HN⟩ := hrel
    have hq := HQ.out
    cases gk with
    | succ k1 =>
      have hn : n < 16 := by omega
      have hn3 : (n : Int) < 16 := by omega
      have c0 := (HN.out.at w.heap.size 24 (fillL f255 zs n) (by simp)).cell n (by rw [fillL_length]; exact hn)
      have f0 := (HN.out.at w.heap.size 24 (fillL f255 zs n) (by simp)).frozen n
      clear hq
      go_wp2_with fail
      go_roundg k1
      case measure => omega
      case rel =>
        refine ⟨n + 1, by simp, ⟨by have := HQ.out; omega⟩, ⟨?_⟩⟩
        rw [fillL_succ]
        exact (HN.out.setAt w.heap.size n 255 (Nat.le_refl _)).of (by simp [f255])
    | zero =>
      obtain rfl : n = 16 := by omega
      clear hq HQ
      rw [ff_is] at HN
      obtain ⟨f, hf⟩ : ∃ f, f = ff := ⟨_, rfl⟩
      rw [← hf] at HN
      have HFL := Aside0.mk (show f.length = 16 by rw [hf]; rfl)
      have HFB := Aside0.mk (show By f by rw [hf]; exact ff_by)
      have HC := Aside0.mk (show cntL f 1 = zs by rw [hf]; exact ff_count)
      have HE : ∀ W, (Op.equalIn 10000 24 (.agg (u8s zs)) (.agg #[Value.int .u8 0, .int .u8 0, .int .u8 0, .int .u8 0, .int .u8 0, .int .u8 0, .int .u8 0, .int .u8 0, .int .u8 0, .int .u8 0, .int .u8 0, .int .u8 0, .int .u8 0, .int .u8 0, .int .u8 0, .int .u8 0])).run Try.prog W = .ok true W := fun W => (eq16 zs zs rfl rfl W).trans (by simp)
      clear hf
      go_wp2_with (first | ((with_reducible refine load_bk (o := { dst := some _, op := .load 24 (.tmp 1), type := _, pos := _, after := _, guard := _ }) 24 (.tmp 1) rfl rfl w.heap.size 24 f ?_ arr16 ?_ ?_ ?_); (rfl); (exact (HN.out.at w.heap.size 24 f (by simp))); (exact HFL.out)))
      refine (count_calls _ f 1 HFL.out HFB.out (by omega) (by omega)).mono ?_
      rintro e w1 ⟨rfl, hb1⟩
      rw [HC.out]
      have S1 := Aside0.mk (HN.out.call hb1)
      clear HN hb1
      have S2 := Aside0.mk ((S1.out.new 5 [1, 2, 3]))
      go_wp2_with (first | ((with_reducible refine load_bkg (o := { dst := some _, op := .load 24 (.tmp 1), type := _, pos := _, after := _, guard := some _ }) 24 (.tmp 1) rfl ?_ w.heap.size 24 f ?_ arr16 ?_ ?_ ?_); (rfl); (rfl); (exact (S1.out.at w.heap.size 24 f (by simp))); (exact HFL.out)))
      refine (hide_reads _ (List.replicate 32 0) f [1, 2, 3] (some ⟨w1.heap.size, 0, none⟩) 3 3 List.length_replicate z32_by HFL.out HFB.out rfl ?_ (Nat.le_refl _) (by omega)).mono ?_
      · exact C_bk (S2.out.at w1.heap.size 5 [1, 2, 3] (by simp)) 3 rfl (by omega)
      rintro e w2 ⟨A', c', rfl, hc', hC', hb2⟩
      have hfin := (S2.out.call hb2).below
      go_wp2_with fail
      go_ret
      exact ⟨rfl, hfin⟩

end Go.Proofs.Ytingegkipimakaa.Ae
