import Derived.Test.YtkabjbkefoipnaaDoorGMi
import Derived.Lib.SlBytesConst
namespace Go.Proofs.YtkabjbkefoipnaaDoor.Md
open Go.Lib Go.RowKit Go.Proofs.YtkabjbkefoipnaaDoorW.PrintWords Go.Proofs.YtkabjbkefoipnaaDoorW.PrintLast Go.Proofs.YtkabjbkefoipnaaDoorW.PrintMore Go.Proofs.YtkabjbkefoipnaaDoor.PM Go.Proofs.YtkabjbkefoipnaaDoor.Nm
set_option linter.unusedVariables false
set_option linter.unusedSimpArgs false
structure Rd (w : World) (A : Option Addr) (c : Nat) (l : List Sc) : Prop where
  C : kS.C w A l.length l
  le : l.length ≤ c
theorem Rd.below {w w' : World} {A : Option Addr} {c : Nat} {l : List Sc} (h : Rd w A c l) (hb : Below w.heap.size w w') : Rd w' A c l := ⟨Kd.C_below h.C hb, h.le⟩
theorem Cp.rd {w : World} {base : Nat} {v : Value} {ps : List (Sc × Hdr)} (h : Cp w base v ps) : ∃ A c, v = .slice A (ps.map Prod.fst).length c ∧ Rd w A c (ps.map Prod.fst) := by
  obtain ⟨A, c, h1, h2, h3⟩ := h.reads
  exact ⟨A, c, h1, h3, h2⟩
def WithR (l : List Sc) (name : ByteArray) (v : Kn) (w' : World) (e : Ending) : Prop := ∃ (r : List Sc) (z : Int) (A : Option Addr) (c : Nat), e = .returned (.tuple #[.slice A r.length c, .int .i64 z]) ∧ WithP l name v r z ∧ Rd w' A c r
theorem WithE.rd {l : List Sc} {name : ByteArray} {v : Kn} {w w' : World} {e : Ending} (h : WithE l name v w w' e) : WithR l name v w' e := by
  obtain ⟨r, z, u, ps, rfl, h1, rfl, h3⟩ := h
  obtain ⟨A, c, rfl, h4⟩ := h3.rd
  exact ⟨_, z, A, c, rfl, h1, h4⟩
theorem OkP.sized {l : List Sc} {name : ByteArray} {v : Kn} {i : Nat} {t : Bool} (h : OkP l name v i t) (hv : v.f1 = true → v.f2 = []) (hl : ∀ s, s ∈ l → s.f0.size ≤ 150) (hn : name.size ≤ 150) : ShortL (moreL l name v i t) := by
  have hR := h.right hv
  refine ⟨by have := hR.most; omega, fun j hj => ?_⟩
  have hs := hR.at j hj
  refine ⟨?_, by have := hs.most; omega, fun m hm => ?_⟩
  · rcases (mem_more h.R h.nm h.fnd _).1 (List.getElem_mem hj) with e | ⟨h1, _⟩
    · rw [e]; exact newS_size hl hn
    · exact hl _ h1
  · have := (VersP.pos hs.vers (Int.le_refl _) _ (List.getElem_mem hm)).2.2
    omega
def nA : ByteArray := ⟨#[97]⟩
def nB : ByteArray := ⟨#[65]⟩
theorem pf_AB : pf nA = pf nB ∧ rightN nA = true ∧ rightN nB = true := by decide +kernel
theorem wakes_plain {r : List Sc} {z : Int} (h : WithP [] nA ⟨1, false, [120]⟩ r z) : z = 0 ∧ ∃ i t, OkP [] nA ⟨1, false, [120]⟩ i t ∧ r = moreL [] nA ⟨1, false, [120]⟩ i t := by
  have hn := pf_AB.2.1
  have hl : ∀ i t, FndP [] nA i t → (lastV (wasV [] i t)) = gone0 := fun i t hf => by
    cases t with
    | false => rfl
    | true => obtain ⟨h, _⟩ := hf.yes rfl; simp at h
  cases h with
  | name h => rw [hn] at h; cases h
  | arg _ h => exact absurd ⟨RightP.nil, by decide, by decide⟩ h
  | old i t _ _ _ _ hf h => rw [hl i t hf] at h; simp [gone0] at h
  | long i t _ _ _ _ hf _ h => simp at h
  | none i t _ _ _ _ hf _ _ h => simp at h
  | full i _ _ _ _ hf _ _ _ h => simp at h
  | ok i t h1 h2 h3 h4 h5 h6 h7 h8 h9 => exact ⟨rfl, i, t, ⟨h1, h2, h3, h4, h5, h6, h7, h8, h9⟩, rfl⟩
theorem wakes_get {i : Nat} {t : Bool} (h : OkP [] nA ⟨1, false, [120]⟩ i t) {vs : List Kn} {z : Int} (k : VrsP (moreL [] nA ⟨1, false, [120]⟩ i t) nB vs z) : getV vs z = (⟨1, false, [120]⟩, 0) := by
  have hv : (⟨1, false, [120]⟩ : Kn).f1 = true → (⟨1, false, [120]⟩ : Kn).f2 = [] := fun h => by cases h
  have hmem := (mem_more (v := ⟨1, false, [120]⟩) h.R h.nm h.fnd (newS [] nA ⟨1, false, [120]⟩ i t)).2 (.inl rfl)
  have hpf := (newS_pf (v := ⟨1, false, [120]⟩) h.fnd).trans pf_AB.1
  rcases k.mem (h.right hv) with ⟨k1, _⟩ | ⟨k1, k2, k3, k4⟩ | ⟨k1, k3, u, k4, k5, k6⟩
  · rw [pf_AB.2.2] at k1; cases k1
  · exact absurd hpf (k4 _ hmem)
  · have := (h.right hv).one k4 hmem (k5.trans hpf.symm)
    subst this
    subst k3
    have hl := (h.cut hv).2.2.2
    rw [← k6, newS_vers, getV_there (by rw [hl]), hl]
set_option maxRecDepth 20000 in
set_option maxHeartbeats 4000000 in
theorem wakes_calls (w : World) (hT : Lib.Utf8Tabs 0 1 w) :
    Calls Tryd.prog 8 #[] w fun e w' => e = .returned (.bool true) ∧ Below w.heap.size w w' := by
  have HT := Aside0.mk hT
  have kc := fun (W : World) (C : Array Value) (n c : Nat) => Lib.run_convert_bytes_const (P := Tryd.prog) W 23 5 C n c Tryd.underlying23 Tryd.underlying5
  have B1 := Aside0.mk (below_alloc (Below.refl w.heap.size w) (.cells #[.int .u8 120] 5 (1, 2)))
  have HX := Aside0.mk (show Bs.C (w.alloc (.cells #[.int .u8 120] 5 (1, 2))) (some ⟨w.heap.size, 0, none⟩) [(120 : Int)].length [120] from Kd.C_of_reads (d := (0 : Int)) ⟨rfl, by decide, fun _ => ⟨_, rfl, fun j hj => by
    obtain rfl : j = 0 := by simp at hj; omega
    rw [add_plain]
    exact cell_of_row _ _ 0 _ _ (1, 2) (heap_alloc_new w _)⟩⟩)
  clear hT
  go_enter Tryd.func8, Tryd.ntmps8
  go_wp2_with fail
  generalize w.alloc (.cells #[.int .u8 120] 5 (1, 2)) = w1 at B1 HX ⊢
  refine (Put_calls [] nA 1 [120] none 0 (some ⟨w.heap.size, 0, none⟩) 1 w1 (Kd.C_nil _ _) (Nat.le_refl _) ⟨by decide, fun x h => by simp at h⟩ (by decide) HX.out (Nat.le_refl _) (by decide) (tabs_below HT.out B1.out)).mono ?_
  rintro e w2 ⟨he, hb2⟩
  obtain ⟨r, z, A, c, rfl, hP, hRd⟩ := he.rd
  obtain ⟨rfl, i, t, hok, rfl⟩ := wakes_plain hP
  have hsz := (hok.sized (fun h => by cases h) (fun s h => by simp at h) (by decide)).sized
  have hR := hok.right (fun h => by cases h)
  have B2 := Aside0.mk (B1.out.trans (hb2.mono B1.out.size))
  have HOK := Aside0.mk hok
  have HG := Aside0.mk (Get_calls (moreL [] nA ⟨1, false, [120]⟩ i t) nB A c w2 hRd.C hRd.le hsz (by decide) hR (tabs_below HT.out B2.out))
  clear hb2 he hP hRd hsz hR hok
  go_wp2_with fail
  refine HG.out.mono ?_
  rintro e w3 ⟨⟨vs, z, hv, A3, c3, rfl, hc3, hC3⟩, hb3⟩
  have hg := wakes_get HOK.out hv
  rw [hg] at hc3 hC3 ⊢
  have B3 := Aside0.mk (B2.out.trans (hb3.mono B2.out.size))
  have HC3 := Aside0.mk hC3
  clear hb3 hv hC3
  have O3 := Aside0.mk (blk_new w3 (.cells #[.int .i64 1, .bool false, .slice A3 1 c3] 25))
  have hst : strOfNums [(120 : Int)] = ⟨#[120]⟩ := by decide +kernel
  have ks : ∀ (W : World), W = w3.alloc (.cells #[.int .i64 1, .bool false, .slice A3 1 c3] 25) → (convert 23 9 (.slice A3 1 c3)).run Tryd.prog W = .ok (.string ⟨#[120]⟩) W := fun W hW => by
    subst hW
    rw [← hst]
    exact Kd.C_string (P := Tryd.prog) (c := c3) Tryd.underlying23 Tryd.underlying5 Tryd.underlying9 (Kd.C_alloc HC3.out (.cells #[.int .i64 1, .bool false, .slice A3 1 c3] 25))
  have ks := ks _ rfl
  have hse := str_eq (a := ⟨#[120]⟩) (b := ⟨#[120]⟩) rfl
  have BF := Aside0.mk (below_alloc B3.out (.cells #[.int .i64 1, .bool false, .slice A3 1 c3] 25))
  go_wp2_with fail
  go_ret
  exact ⟨rfl, BF.out⟩
end Go.Proofs.YtkabjbkefoipnaaDoor.Md
