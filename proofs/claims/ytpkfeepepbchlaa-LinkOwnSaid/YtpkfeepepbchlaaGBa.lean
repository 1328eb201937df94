import Derived.Test.YtpkfeepepbchlaaGPKa
import Derived.WalkSpells
import Derived.Maps.OwnSet
import Derived.Maps.RangeWalk
import Derived.Sort.KeysCollected
import Derived.Test.YtpkfeepepbchlaaGSb1
namespace Go.Proofs.Ytpkfeepepbchlaa.Bl
open Go.RowKit Go.Maps Go.Proofs.YtpkfeepepbchlaaW.PrintWords Go.Proofs.YtpkfeepepbchlaaW.PrintLast Go.Proofs.YtpkfeepepbchlaaW.PrintMore Go.Proofs.Ytpkfeepepbchlaa.PK
set_option linter.unusedVariables false
set_option linter.unusedSimpArgs false
abbrev Bs := Kd.int .u8
abbrev Ent := ByteArray × Value × List Int
def keyL (s : ByteArray) : Lit := .string s.data.toList
theorem keyL_inj {s t : ByteArray} (h : keyL s = keyL t) : s = t := by
  unfold keyL at h
  injection h with h
  cases s; cases t
  congr 1
  exact Array.toList_inj.1 h
theorem keyL_same (s t : ByteArray) : (keyL s).sameKey (keyL t) = decide (s = t) := by
  by_cases h : s = t
  · subst h; simp [keyL, Lit.sameKey]
  · have h1 : keyL s ≠ keyL t := fun e => h (keyL_inj e)
    rw [Maps.sameKey_ne h1]; simp [h]
def hdr : Value → Option (DataW Value × List MemPlace)
  | .slice A n c => some (.held (.slice A n c), [])
  | _ => none
def mkV (c : Option Addr × Nat × Nat) : Value := .slice c.1 c.2.1 c.2.2
theorem hdr_inv (v : Value) (y : DataW Value × List MemPlace) (h : hdr v = some y) : ∃ c, v = mkV c := by
  unfold hdr at h
  split at h
  · rename_i A n c
    exact ⟨(A, n, c), rfl⟩
  · cases h
theorem hdr_mk (A : Option Addr) (n c : Nat) : hdr (.slice A n c) = some (.held (.slice A n c), []) := rfl
def entL (x : Ent) : Lit × DataW Value := (keyL x.1, .held x.2.1)
def datB (L : List Ent) : DataW Value := .map (L.map entL)
def insE (x : Ent) : List Ent → List Ent
  | [] => [x]
  | y :: r => if (keyL x.1).before (keyL y.1) then x :: y :: r else y :: insE x r
def offE (k : ByteArray) (L : List Ent) : List Ent := L.filter fun x => !decide (x.1 = k)
def putE (k : ByteArray) (v : Value) (c : List Int) (L : List Ent) : List Ent := insE (k, v, c) (offE k L)
def findE (k : ByteArray) (L : List Ent) : Option Ent := L.find? fun x => decide (x.1 = k)
theorem insE_map (x : Ent) : ∀ L : List Ent, DataW.insert (entL x) (L.map entL) = (insE x L).map entL
  | [] => rfl
  | y :: r => by
    unfold insE
    simp only [List.map_cons, DataW.insert]
    show (if (keyL x.1).before (keyL y.1) then _ else _) = _
    split
    · rfl
    · simp [insE_map x r]
theorem off_map (k : ByteArray) (L : List Ent) : (L.map entL).filter (ChangeMaps.notKey (keyL k)) = (offE k L).map entL := by
  unfold offE
  rw [List.filter_map]
  congr 1
  apply List.filter_congr
  intro x _
  show (!(keyL x.1).sameKey (keyL k)) = _
  rw [keyL_same]
theorem datB_put (k : ByteArray) (v : Value) (c : List Int) (L : List Ent) : (datB L).put (keyL k) (.held v) = datB (putE k v c L) := by
  unfold datB
  rw [DataW.put_eq]
  unfold ChangeMaps.putKey putE
  rw [off_map, ← insE_map]; rfl
theorem datB_del (k : ByteArray) (L : List Ent) : (datB L).del (keyL k) = datB (offE k L) := by
  unfold datB
  rw [DataW.del_eq]
  unfold ChangeMaps.delKey
  rw [off_map]
theorem datB_has (k : ByteArray) (L : List Ent) : Maps.has (datB L) (keyL k) = (findE k L).isSome := by
  unfold datB findE
  rw [Maps.has_eq]
  induction L with
  | nil => rfl
  | cons y r ih =>
    rw [List.map_cons, List.any_cons, ih, List.find?_cons]
    show ((keyL y.1).sameKey (keyL k) || _) = _
    rw [keyL_same]
    cases decide (y.1 = k) <;> simp
theorem datB_at (k : ByteArray) (L : List Ent) (z : Value) : (datB L).atKey (keyL k) (.held z) = .held (((findE k L).map (·.2.1)).getD z) := by
  unfold datB findE DataW.atKey
  induction L with
  | nil => rfl
  | cons y r ih =>
    simp only [List.map_cons, List.find?_cons]
    have : (entL y).1.sameKey (keyL k) = decide (y.1 = k) := keyL_same _ _
    rw [this]
    cases decide (y.1 = k)
    · exact ih
    · rfl
theorem mem_ins (x y : Ent) : ∀ L : List Ent, y ∈ insE x L ↔ y = x ∨ y ∈ L
  | [] => by simp [insE]
  | z :: r => by
    unfold insE
    split
    · simp
    · simp only [List.mem_cons, mem_ins x y r]
      constructor
      · rintro (h | h | h)
        · exact .inr (.inl h)
        · exact .inl h
        · exact .inr (.inr h)
      · rintro (h | h | h)
        · exact .inr (.inl h)
        · exact .inl h
        · exact .inr (.inr h)
theorem mem_off (k : ByteArray) (y : Ent) (L : List Ent) : y ∈ offE k L ↔ y ∈ L ∧ y.1 ≠ k := by simp [offE]
theorem ins_perm (x : Ent) : ∀ L : List Ent, (insE x L).Perm (x :: L)
  | [] => List.Perm.refl _
  | y :: r => by
    unfold insE
    split
    · exact List.Perm.refl _
    · exact ((ins_perm x r).cons y).trans (List.Perm.swap x y r)
theorem apart_off (k : ByteArray) {L : List Ent} (h : L.Pairwise fun x y => x.1 ≠ y.1) : (offE k L).Pairwise fun x y => x.1 ≠ y.1 := h.sublist List.filter_sublist
theorem apart_put (k : ByteArray) (v : Value) (c : List Int) {L : List Ent} (h : L.Pairwise fun x y => x.1 ≠ y.1) : (putE k v c L).Pairwise fun x y => x.1 ≠ y.1 := by
  unfold putE
  refine ((ins_perm (k, v, c) (offE k L)).pairwise_iff (fun {_ _} hne => Ne.symm hne)).2 ?_
  exact List.pairwise_cons.2 ⟨fun y hy => fun e => ((mem_off k y L).1 hy).2 e.symm, apart_off k h⟩
def sumE (L : List Ent) : Nat := (L.map fun x => x.1.size + x.2.2.length).sum
theorem sumE_cons (x : Ent) (L : List Ent) : sumE (x :: L) = x.1.size + x.2.2.length + sumE L := by simp [sumE]
theorem sum_le (L : List Ent) (h : ∀ x ∈ L, x.1.size ≤ 64 ∧ x.2.2.length ≤ 65536) : sumE L ≤ 65600 * L.length := by
  induction L with
  | nil => simp [sumE]
  | cons y r ih =>
    rw [sumE_cons, List.length_cons]
    have := h y (by simp)
    have := ih fun x hx => h x (by simp [hx])
    omega
theorem sum_off (k : ByteArray) (L : List Ent) (h : L.Pairwise fun x y => x.1 ≠ y.1) : sumE (offE k L) + ((findE k L).map fun x => x.1.size + x.2.2.length).getD 0 = sumE L := by
  induction L with
  | nil => rfl
  | cons y r ih =>
    obtain ⟨h1, h2⟩ := List.pairwise_cons.1 h
    have ih := ih h2
    unfold offE findE at ih ⊢
    rw [List.filter_cons, List.find?_cons]
    by_cases hk : y.1 = k
    · have hr : r.filter (fun x => !decide (x.1 = k)) = r := List.filter_eq_self.2 fun x hx => by
        have := h1 x hx
        simp only [Bool.not_eq_true', decide_eq_false_iff_not]
        exact fun e => this (by rw [hk, e])
      simp [hk, hr, sumE_cons]
      omega
    · simp only [hk, decide_false, Bool.not_false, if_true, sumE_cons]
      omega
def metE (left : Lit → Bool) (L : List Ent) : List Ent := L.filter fun x => !left (keyL x.1)
theorem met_start (L : List Ent) : sumE (metE (Maps.has (datB L)) L) = 0 := by
  have : metE (Maps.has (datB L)) L = [] := List.filter_eq_nil_iff.2 fun x hx => by
    rw [datB_has]
    have : (findE x.1 L).isSome = true := List.find?_isSome.2 ⟨x, hx, by simp⟩
    simp [this]
  rw [this]; rfl
theorem met_all (L : List Ent) {left : Lit → Bool} (h : ∀ kl, left kl = false) : metE left L = L := List.filter_eq_self.2 fun x _ => by simp [h]
theorem met_cons (f : Lit → Bool) (y : Ent) (r : List Ent) : sumE (metE f (y :: r)) = (if f (keyL y.1) then 0 else y.1.size + y.2.2.length) + sumE (metE f r) := by
  unfold metE
  rw [List.filter_cons]
  cases h : f (keyL y.1)
  · simp [sumE_cons]
  · simp
theorem met_step {L : List Ent} (hp : L.Pairwise fun x y => x.1 ≠ y.1) {left : Lit → Bool} {x : Ent} (hx : x ∈ L) (hl : left (keyL x.1) = true) :
    sumE (metE (fun z => left z && !z.sameKey (keyL x.1)) L) = sumE (metE left L) + (x.1.size + x.2.2.length) := by
  induction L with
  | nil => cases hx
  | cons y r ih =>
    obtain ⟨h1, h2⟩ := List.pairwise_cons.1 hp
    rw [met_cons, met_cons]
    rcases List.mem_cons.1 hx with e | hm
    · subst e
      have hr : metE (fun z => left z && !z.sameKey (keyL x.1)) r = metE left r := List.filter_congr fun z hz => by
        have : decide (z.1 = x.1) = false := by simpa using fun e => h1 z hz e.symm
        simp only [keyL_same, this]; simp
      have hs : (keyL x.1).sameKey (keyL x.1) = true := by rw [keyL_same]; simp
      rw [hr]
      simp only [hs, hl]
      simp
      omega
    · have hn : (keyL y.1).sameKey (keyL x.1) = false := by rw [keyL_same]; simpa using h1 x hm
      simp only [hn, Bool.not_false, Bool.and_true]
      rw [ih h2 hm]
      omega
theorem met_le (left : Lit → Bool) (L : List Ent) : sumE (metE left L) ≤ sumE L := by
  induction L with
  | nil => exact Nat.le_refl _
  | cons y r ih =>
    unfold metE at ih ⊢
    rw [List.filter_cons]
    split
    · rw [sumE_cons, sumE_cons]; omega
    · rw [sumE_cons]; omega
theorem find_mem {k : ByteArray} {L : List Ent} {x : Ent} (h : findE k L = some x) : x ∈ L ∧ x.1 = k := ⟨List.mem_of_find?_eq_some h, by simpa using List.find?_some h⟩
theorem C_turn {k : IntKind} {w w' : World} {A : Option Addr} {n b : Nat} {xs : List Int} {es : Array MapEntry} {cl : Nat} (h : (Kd.int k).C w A n xs) (hb : w.heap[b]? = some (.map es cl)) (hg : w.grownBy w' (some b)) : (Kd.int k).C w' A n xs := by
  refine ⟨h.1, h.2.1, fun hn => ?_⟩
  obtain ⟨ad, e, hc⟩ := h.2.2 hn
  refine ⟨ad, e, fun j p hj => ?_⟩
  obtain ⟨c, h1, h2, h3⟩ := hc j p hj
  refine ⟨c, h1, h2, fun i u hu => ?_⟩
  have h4 := h3 i u hu
  refine (World.cell?_of_block (hg.block _ (World.block_lt_of_cell? w _ h4) (fun e1 => ?_))).trans h4
  injection e1 with e1
  simp [World.cell?, e1, hb] at h4
def Ty (w : World) (A : Option Addr) : Prop := ∀ ad, A = some ad → ∃ cells, w.heap[ad.block]? = some (.cells cells 5 (0, 0))
theorem Ty.keep {w w' : World} {A : Option Addr} (h : Ty w A) (hh : ∀ (b : Nat) (cells : Array Value), w.heap[b]? = some (.cells cells 5 (0, 0)) → w'.heap[b]? = w.heap[b]?) : Ty w' A := fun ad e => by
  obtain ⟨cells, hc⟩ := h ad e
  exact ⟨cells, (hh _ _ hc).trans hc⟩
theorem add_block (ad : Addr) (j : Nat) : (ad.add j).block = ad.block := by unfold Addr.add; split <;> rfl
theorem C_keep {k : IntKind} {w w' : World} {A : Option Addr} {n : Nat} {xs : List Int} (h : (Kd.int k).C w A n xs) (ht : Ty w A) (hh : ∀ (b : Nat) (cells : Array Value), w.heap[b]? = some (.cells cells 5 (0, 0)) → w'.heap[b]? = w.heap[b]?) : (Kd.int k).C w' A n xs := by
  refine ⟨h.1, h.2.1, fun hn => ?_⟩
  obtain ⟨ad, e, hc⟩ := h.2.2 hn
  obtain ⟨cells, hcells⟩ := ht ad e
  refine ⟨ad, e, fun j p hj => ?_⟩
  obtain ⟨c, h1, h2, h3⟩ := hc j p hj
  refine ⟨c, h1, h2, fun i u hu => ?_⟩
  refine (World.cell?_of_block ?_).trans (h3 i u hu)
  rw [add_block]
  exact hh _ _ hcells
structure Bl (w : World) (g b : Nat) (q : Int) (L : List Ent) : Prop where
  blk : w.heap[g]? = some (.cells #[.int .i64 q, .map (some b)] 68 (0, 0))
  map : w.ownsMap Try.prog 9 hdr b L.length (datB L)
  apart : L.Pairwise fun x y => x.1 ≠ y.1
  ent : ∀ x ∈ L, ∃ A c, x.2.1 = .slice A x.2.2.length c ∧ x.2.2.length ≤ c ∧ Bs.C w A x.2.2.length x.2.2 ∧ Ty w A
  small : ∀ x ∈ L, x.1.size ≤ 64 ∧ x.2.2.length ≤ 65536
theorem own_tight {w : World} {P : Program} {k : TypeId} {b n : Nat} {L : List Ent} (h : w.ownsMap P k hdr b n (datB L)) : w.ownsMap P k hdr b L.length (datB L) := by
  obtain ⟨es, cl, hb, F, hs, hD⟩ := h
  refine ⟨es, cl, hb, F, ?_, hD⟩
  have e1 : Maps.size (datB L) = Maps.size (DataW.map ((es.toList.map (WideElems.rg P k hdr)).foldr DataW.insert [])) := by rw [hD]
  simp [Maps.size, datB, length_sorted] at e1
  omega
theorem own_blk {w : World} {P : Program} {k : TypeId} {b n : Nat} {D : DataW Value} (h : w.ownsMap P k hdr b n D) : ∃ es cl, w.heap[b]? = some (.map es cl) := by
  obtain ⟨es, cl, hb, _⟩ := h
  exact ⟨es, cl, hb⟩
theorem Bl.ne {w : World} {g b : Nat} {q : Int} {L : List Ent} (h : Bl w g b q L) : g ≠ b := by
  obtain ⟨es, cl, hb⟩ := own_blk h.map
  rintro rfl
  rw [h.blk] at hb
  cases hb
theorem Bl.lt {w : World} {g b : Nat} {q : Int} {L : List Ent} (h : Bl w g b q L) : g < w.heap.size ∧ b < w.heap.size := ⟨blk_lt h.blk, h.map.lt⟩
theorem turn_keep {w w' : World} {b : Nat} {es : Array MapEntry} {cl : Nat} (hm : w.heap[b]? = some (.map es cl)) (hg : w.grownBy w' (some b)) : ∀ (i : Nat) (cells : Array Value), w.heap[i]? = some (.cells cells 5 (0, 0)) → w'.heap[i]? = w.heap[i]? := fun i cells h =>
  hg.block i (blk_lt h) (fun e => by injection e with e; rw [e, hm] at h; cases h)
theorem Bl.set {w : World} {g b r t : Nat} {q : Int} {L : List Ent} {cs : Array Value} (h : Bl w g b q L) (hr : w.heap[r]? = some (.cells cs t (0, 0))) (h5 : t ≠ 5) (h60 : t ≠ 68) (i : Nat) (u : Value) : Bl (w.setCell ⟨r, i, none⟩ u) g b q L := by
  have hgr : g ≠ r := by
    rintro rfl
    have := h.blk
    rw [hr] at this
    injection this with this
    injection this with _ this
    exact h60 this
  have hbr : b ≠ r := by
    obtain ⟨es, cl, hb⟩ := own_blk h.map
    rintro rfl
    rw [hr] at hb
    cases hb
  have hh : ∀ (j : Nat) (cells : Array Value), w.heap[j]? = some (.cells cells 5 (0, 0)) → (w.setCell ⟨r, i, none⟩ u).heap[j]? = w.heap[j]? := fun j cells hj =>
    Below.heap_setCell w ⟨r, i, none⟩ u j (fun e => by
      have e' : j = r := e
      rw [e', hr] at hj
      injection hj with hj
      injection hj with _ hj
      exact h5 hj)
  exact ⟨blk_far h.blk hgr u, h.map.setCell hbr u, h.apart, fun x hx => by
    obtain ⟨A, c, e, hc, hC, hT⟩ := h.ent x hx
    exact ⟨A, c, e, hc, C_keep hC hT hh, hT.keep hh⟩, h.small⟩
theorem Bl.kept {w w' : World} {g b : Nat} {q : Int} {L : List Ent} (h : Bl w g b q L) (hb : Below w.heap.size w w') : Bl w' g b q L where
  blk := (hb.block g h.lt.1).trans h.blk
  map := h.map.kept (row := none) ⟨hb.os, hb.tape, hb.output, hb.size, fun i hi _ => hb.block i hi⟩ (by simp)
  apart := h.apart
  ent := fun x hx => by
    obtain ⟨A, c, e, hc, hC, hT⟩ := h.ent x hx
    exact ⟨A, c, e, hc, Kd.C_below hC hb, hT.keep fun b _ h => hb.block b (blk_lt h)⟩
  small := h.small
theorem Bl.far {w w' : World} {g b b' : Nat} {q : Int} {L : List Ent} (h : Bl w g b q L) {es : Array MapEntry} {cl : Nat} (hm : w.heap[b']? = some (.map es cl)) (hg : w.grownBy w' (some b')) (hne : b ≠ b') : Bl w' g b q L where
  blk := (hg.block g h.lt.1 (fun e => by injection e with e; rw [← e, h.blk] at hm; cases hm)).trans h.blk
  map := h.map.kept hg (by simpa using hne)
  apart := h.apart
  ent := fun x hx => by
    obtain ⟨A, c, e, hc, hC, hT⟩ := h.ent x hx
    exact ⟨A, c, e, hc, C_turn hC hm hg, hT.keep (turn_keep hm hg)⟩
  small := h.small
theorem Bl.drop {w w' : World} {g b n : Nat} {q : Int} {L : List Ent} (k : ByteArray) (h : Bl w g b q L) (hg : w.grownBy w' (some b)) (hm : w'.ownsMap Try.prog 9 hdr b n ((datB L).del (keyL k))) : Bl w' g b q (offE k L) where
  blk := (hg.block g h.lt.1 (fun e => h.ne (by injection e))).trans h.blk
  map := by rw [datB_del] at hm; exact own_tight hm
  apart := apart_off k h.apart
  ent := fun x hx => by
    obtain ⟨es, cl, hb⟩ := own_blk h.map
    obtain ⟨A, c, e, hc, hC, hT⟩ := h.ent x ((mem_off k x L).1 hx).1
    exact ⟨A, c, e, hc, C_turn hC hb hg, hT.keep (turn_keep hb hg)⟩
  small := fun x hx => h.small x ((mem_off k x L).1 hx).1
theorem Bl.put {w w' : World} {g b n : Nat} {q : Int} {L : List Ent} (k : ByteArray) (A : Option Addr) (c : Nat) (t : List Int) (h : Bl w g b q L) (hg : w.grownBy w' (some b)) (hc : t.length ≤ c) (hr : Bs.C w A t.length t) (hty : Ty w A) (hk : k.size ≤ 64) (ht : t.length ≤ 65536)
    (hm : w'.ownsMap Try.prog 9 hdr b n ((datB L).put (keyL k) (.held (.slice A t.length c)))) : Bl w' g b q (putE k (.slice A t.length c) t L) where
  blk := (hg.block g h.lt.1 (fun e => h.ne (by injection e))).trans h.blk
  map := by rw [datB_put k _ t] at hm; exact own_tight hm
  apart := apart_put k _ t h.apart
  ent := fun x hx => by
    obtain ⟨es, cl, hb⟩ := own_blk h.map
    rcases (mem_ins _ x _).1 hx with rfl | hx
    · exact ⟨A, c, rfl, hc, C_turn hr hb hg, hty.keep (turn_keep hb hg)⟩
    · obtain ⟨A, c, e, hc, hC, hT⟩ := h.ent x ((mem_off k x L).1 hx).1
      exact ⟨A, c, e, hc, C_turn hC hb hg, hT.keep (turn_keep hb hg)⟩
  small := fun x hx => by
    rcases (mem_ins _ x _).1 hx with rfl | hx
    · exact ⟨hk, ht⟩
    · exact h.small x ((mem_off k x L).1 hx).1
end Go.Proofs.Ytpkfeepepbchlaa.Bl
namespace Go.Proofs.Ytpkfeepepbchlaa.Bl
open Go.RowKit Go.Maps Go.Proofs.YtpkfeepepbchlaaW.PrintWords Go.Proofs.YtpkfeepepbchlaaW.PrintLast Go.Proofs.YtpkfeepepbchlaaW.PrintMore Go.Proofs.Ytpkfeepepbchlaa.PK
set_option linter.unusedVariables false
set_option linter.unusedSimpArgs false
theorem law : Keyed Try.prog 9 := string_keyed Try.underlying9
theorem zeroE (w : World) : (zeroValue 28).run Try.prog w = .ok (.slice none 0 0) w := by kernel_rfl
theorem key_of (k : ByteArray) (hk : k.size ≤ 9223372036854775807) : keyOf Try.prog 9 (.string k) = some (keyL k) := Go.WideMaps.keyOf_string_mk Try.underlying9 hk
set_option maxRecDepth 20000 in
theorem Bl.look {w : World} {g b : Nat} {q : Int} {L : List Ent} (h : Bl w g b q L) (k : ByteArray) (hk : k.size ≤ 9223372036854775807) :
    (Instr.lookup 66 (.map (some b)) (.string k) true).run Try.prog w = .ok (.tuple #[((findE k L).map (·.2.1)).getD (.slice none 0 0), .bool (findE k L).isSome]) w := by
  obtain ⟨v, ps, hrun, hv⟩ := h.map.look_ok law Try.underlying66 (zeroE w) (hdr_mk none 0 0) (key_of k hk)
  rw [hrun, datB_has]
  rw [datB_at] at hv
  have hvv : v = ((findE k L).map (·.2.1)).getD (.slice none 0 0) := by
    unfold hdr at hv
    split at hv
    · injection hv with hv
      injection hv with hv
      injection hv
    · cases hv
  rw [hvv]
theorem Bl_made (w : World) (q : Int) : Bl ((w.alloc (.map #[] 0)).alloc (.cells #[.int .i64 q, .map (some w.heap.size)] 68)) (w.heap.size + 1) w.heap.size q [] where
  blk := by have := heap_alloc_new (w.alloc (.map #[] 0)) (.cells #[.int .i64 q, .map (some w.heap.size)] 68); simpa using this
  map := (World.ownsMap_made w Try.prog 9 hdr).alloc _
  apart := List.Pairwise.nil
  ent := fun x hx => by cases hx
  small := fun x hx => by cases hx
set_option maxHeartbeats 1000000 in
theorem New_calls (q : Int) (w : World) :
    Calls Try.prog 24 #[.int .i64 q] w fun e w' => ∃ g b, e = .returned (.pointer (some ⟨g, 0, none⟩)) ∧ Bl w' g b (if q < 0 then 0 else q) [] ∧ w.heap.size ≤ g ∧ w.heap.size ≤ b ∧ Below w.heap.size w w' := by
  have hmm := @run_makeMap Try.prog
  by_cases hq : q < 0
  · have hq' := (by simpa using hq : decide (q < 0) = true)
    rw [if_pos hq]
    go_enter Try.func24, Try.ntmps24
    go_wp2_with fail
    go_ret
    first | exact ⟨_, _, rfl, Bl_made w _, by omega, by omega, ((Below.refl _ _).alloc (Nat.le_refl _) _).alloc (by simp) _⟩ | exact ⟨_, rfl, _, Bl_made w _, by omega, by omega, ((Below.refl _ _).alloc (Nat.le_refl _) _).alloc (by simp) _⟩
  · rw [if_neg hq]
    go_enter Try.func24, Try.ntmps24
    go_wp2_with fail
    go_ret
    first | exact ⟨_, _, rfl, Bl_made w _, by omega, by omega, ((Below.refl _ _).alloc (Nat.le_refl _) _).alloc (by simp) _⟩ | exact ⟨_, rfl, _, Bl_made w _, by omega, by omega, ((Below.refl _ _).alloc (Nat.le_refl _) _).alloc (by simp) _⟩
theorem mem_of_at {L : List Ent} {k : ByteArray} {v : Value} (h : ∀ zd, (datB L).atKey (keyL k) zd = .held v) : ∃ x ∈ L, x.1 = k ∧ x.2.1 = v := by
  have h1 := h .nil
  unfold datB DataW.atKey at h1
  simp only at h1
  split at h1
  · rename_i p hp
    obtain ⟨x, hx, hxp⟩ := List.mem_map.1 (List.mem_of_find?_eq_some hp)
    have h2 := List.find?_some hp
    rw [← hxp] at h2 h1
    have h3 : (keyL x.1).sameKey (keyL k) = true := h2
    rw [keyL_same] at h3
    exact ⟨x, hx, by simpa using h3, by injection h1⟩
  · cases h1
theorem invK (key : Value) (kl : Lit) (h : keyOf Try.prog 9 key = some kl) : ∃ s, key = Value.string s := by
  obtain ⟨x, hx, _⟩ := Maps.keyOf_str Try.underlying9 h
  exact ⟨_, hx⟩
theorem keyOf_inv (s : ByteArray) (kl : Lit) (h : keyOf Try.prog 9 (.string s) = some kl) : kl = keyL s ∧ s.size ≤ maxLen := by
  obtain ⟨x, hx, hk, hl⟩ := Maps.keyOf_str Try.underlying9 h
  simp only [Go.Proofs.encStr] at hx
  injection hx with hx
  subst hx
  exact ⟨by rw [hk]; simp [keyL], by simpa [ByteArray.size] using hl⟩
set_option maxRecDepth 20000 in
set_option maxHeartbeats 1000000 in
theorem Size_calls (g b : Nat) (q : Int) (L : List Ent) (w : World) (h : Bl w g b q L) (hl : L.length ≤ 100000) :
    Calls Try.prog 19 #[.pointer (some ⟨g, 0, none⟩)] w fun e w' => e = .returned (.int .i64 (sumE L)) ∧ Below w.heap.size w w' := by
  have hsum := sum_le L h.small
  have hmap := h.map
  have hap := Aside0.mk h.apart
  have hent := Aside0.mk h.ent
  have c1 : w.cell? ⟨g, 1, none⟩ = some (.map (some b)) := (blk_cell h.blk 1).trans rfl
  go_enter Try.func19, Try.ntmps19
  go_wp2_with (first | (at_range; refine wpList_range_own _ rfl _ 66 rfl 9 28 law Try.underlying66 _ b L.length _ rfl hmap ?_; intro w0 hrg0 hg0 hs0) | go_in)
  go_frame
  go_loopw [3] (fun v wr => ∃ (left : Lit → Bool) (cnt : Nat), v = .int .i64 (sumE (metE left L)) ∧ wr.ranges Try.prog 9 hdr b w.heap.size L.length (datB L) left cnt ∧ Below w.heap.size w wr)
    (fun _ wr => wr.rangeLeft b w.heap.size)
  case atStart => exact ⟨_, _, by rw [met_start]; rfl, hrg0, ⟨hg0.os, hg0.tape, hg0.output, hg0.size, fun i hi => hg0.block i hi (by simp)⟩⟩
  case round =>
    obtain ⟨left, cnt, rfl, hrg, hb⟩ := hrel
    go_wp2_with (first
      | (at_next; refine wpList_next_ranges _ rfl _ rfl 9 law hdr Value.string mkV invK hdr_inv b w.heap.size L.length _ _ _ rfl hrg ?_ ?_)
      | go_in)
    · intro hc0 hl0
      rw [met_all L hl0]
      go_wp2_with fail
      go_ret
      exact ⟨rfl, hb⟩
    · intro x A n cc kl yd yp w2 cnt2 hkey hlk hv hat hrg2 hlt hg2 hs2 hen
      obtain ⟨rfl, _⟩ := keyOf_inv x kl hkey
      have hv' : yd = .held (.slice A n cc) := by
        simp only [mkV, hdr, Option.some.injEq, Prod.mk.injEq] at hv
        exact hv.1.symm
      obtain ⟨e, he, rfl, hev⟩ := mem_of_at (fun zd => (hat zd).trans hv')
      obtain ⟨A', c', hs, _, _, _⟩ := hent.out e he
      have hn : n = e.2.2.length := by
        rw [hs] at hev
        injection hev with _ hn
        exact hn.symm
      subst hn
      have hst := met_step hap.out he hlk
      have hle := met_le (fun z => left z && !z.sameKey (keyL e.1)) L
      have hb2 : Below w.heap.size w w2 := hb.grown hg2 hb.size (fun j hj => by cases hj; exact Nat.le_refl _)
      have H1 := Aside0.mk hrg2
      have H2 := Aside0.mk hrg
      have w1 := (IntWalk.i64_in (n := (e.1.size : Int) + e.2.2.length) (by omega) : _)
      have w3 := (IntWalk.i64_in (n := (sumE (metE left L) : Int) + (e.1.size + e.2.2.length)) (by omega) : _)
      clear hs2 hrg2 hrg hs hev hv hv' hat he
      simp only [mkV] at hen ⊢
      go_wp2_with fail
      go_roundw
      case rel => exact ⟨_, cnt2, by rw [hst]; push_cast; rfl, H1.out, hb2⟩
      case measure => rw [H1.out.left_eq, H2.out.left_eq]; exact hlt
end Go.Proofs.Ytpkfeepepbchlaa.Bl
namespace Go.Proofs.Ytpkfeepepbchlaa.Bl
open Go.RowKit Go.Maps Go.Proofs.YtpkfeepepbchlaaW.PrintWords Go.Proofs.YtpkfeepepbchlaaW.PrintLast Go.Proofs.YtpkfeepepbchlaaW.PrintMore Go.Proofs.Ytpkfeepepbchlaa.PK
set_option linter.unusedVariables false
set_option linter.unusedSimpArgs false
theorem ty_of_R {w : World} {base n c : Nat} {A : Option Addr} {ok : Nat → Prop} {xs : List Int} (h : Bs.R 5 w base ok (.slice A n c) xs) : Ty w A := fun ad e => by
  obtain ⟨inner, ho⟩ := Kd.R_own h
  exact own_typed ho ad.block (by rw [e]; rfl)
theorem grown_none {w w' : World} {row : Option Nat} (h : Below w.heap.size w w') : w.grownBy w' row := ⟨h.os, h.tape, h.output, h.size, fun i hi _ => h.block i hi⟩
theorem grown_after {w w1 w2 : World} {row : Option Nat} (h : Below w.heap.size w w1) (hg : w1.grownBy w2 row) : w.grownBy w2 row :=
  ⟨hg.os.trans h.os, hg.tape.trans h.tape, hg.output.trans h.output, Nat.le_trans h.size hg.size, fun i hi hne => (hg.block i (Nat.lt_of_lt_of_le hi h.size) hne).trans (h.block i hi)⟩
set_option maxRecDepth 20000 in
set_option maxHeartbeats 1000000 in
theorem Has_calls (g b : Nat) (q : Int) (L : List Ent) (k : ByteArray) (w : World) (h : Bl w g b q L) (hk : k.size ≤ 9223372036854775807) :
    Calls Try.prog 16 #[.pointer (some ⟨g, 0, none⟩), .string k] w fun e w' => ∃ v, e = .returned (.tuple #[v, .bool (findE k L).isSome]) ∧ Bs.R 5 w' w.heap.size (fun _ => True) v (((findE k L).map (·.2.2)).getD []) ∧ Below w.heap.size w w' := by
  have hlook := h.look k hk
  have c1 : w.cell? ⟨g, 1, none⟩ = some (.map (some b)) := (blk_cell h.blk 1).trans rfl
  cases hf : findE k L with
  | none =>
    rw [hf] at hlook
    simp only [Option.map_none, Option.getD_none, Option.isSome_none] at hlook ⊢
    go_enter Try.func16, Try.ntmps16
    go_wp2_with fail
    refine (Sb.clone_calls none 0 [] _ (Kd.C_nil _ _) (by simp) (by simp)).mono ?_
    rintro e w1 ⟨v, rfl, hR, hb⟩
    have H1 := Aside0.mk hR
    have H2 := Aside0.mk hb
    clear hR hb
    go_wp2_with fail
    go_ret2
    exact ⟨_, rfl, H1.out, H2.out⟩
  | some x =>
    obtain ⟨A, c, hs, hc, hC, _⟩ := h.ent x (find_mem hf).1
    have hsm := h.small x (find_mem hf).1
    rw [hf] at hlook
    simp only [Option.map_some, Option.getD_some, Option.isSome_some, hs] at hlook ⊢
    have HC := Aside0.mk hC
    clear hC hs
    go_enter Try.func16, Try.ntmps16
    go_wp2_with fail
    refine (Sb.clone_calls A c x.2.2 _ HC.out hc (by omega)).mono ?_
    rintro e w1 ⟨v, rfl, hR, hb⟩
    have H1 := Aside0.mk hR
    have H2 := Aside0.mk hb
    clear hR hb
    go_wp2_with fail
    go_ret2
    exact ⟨_, rfl, H1.out, H2.out⟩
set_option maxRecDepth 20000 in
set_option maxHeartbeats 2000000 in
theorem put_calls (g b : Nat) (q : Int) (L : List Ent) (k : ByteArray) (A : Option Addr) (c : Nat) (t : List Int) (w : World) (h : Bl w g b q L) (hl : L.length ≤ 100000) (hk : k.size ≤ 64) (ht : t.length ≤ 65536) (hc : t.length ≤ c) (hr : Bs.C w A t.length t) (hq : 0 ≤ q ∧ q ≤ 9223372036854775807) :
    Calls Try.prog 61 #[.pointer (some ⟨g, 0, none⟩), .string k, .slice A t.length c] w fun e w' => ∃ code L', e = .returned (.int .i64 code) ∧ Bl w' g b q L' ∧ w.grownBy w' (some b) ∧
      ((q < sumE (offE k L) + k.size + t.length ∧ code = 2 ∧ L' = L) ∨ (sumE (offE k L) + k.size + t.length ≤ q ∧ code = 0 ∧ ∃ A c, L' = putE k (.slice A t.length c) t L)) := by
  have hlook := h.look k (by omega)
  have c1 : w.cell? ⟨g, 1, none⟩ = some (.map (some b)) := (blk_cell h.blk 1).trans rfl
  have hsum := sum_le L h.small
  have hoff := sum_off k L h.apart
  have H1 := Aside0.mk h
  have HR := Aside0.mk hr
  clear hr
  cases hf : findE k L with
  | none =>
    rw [hf] at hlook hoff
    simp only [Option.map_none, Option.getD_none, Option.isSome_none] at hlook hoff
    clear h
    go_enter Try.func61, Try.ntmps61
    go_wp2_with fail
    refine wp_region_noPanic ?_
    refine wp_region_held_drew (S := fun W => ∃ L', Bl W g b q L') (by kernel_rfl) (⟨_, Bl.kept H1.out ((Below.refl _ _).drew)⟩) (fun hHeld => ?_)
    refine wpAnyH_take (i := 0) (oi := { dst := some 25, op := _, type := _, pos := _, after := _, guard := _ }) (v := ?_) rfl (by kernel_rfl) (by kernel_rfl) (by kernel_rfl) (fun _ _ _ h => h) (Or.inl ⟨by rfl, ?_⟩) hHeld ?_
    rotate_left
    · (intro w hSw; go_simp) <;> (with_reducible rfl)
    try simp only [Act.put, List.setIfInBounds_toArray, List.set_cons_zero, List.set_cons_succ]
    refine wpAnyH_take (i := 2) (oi := { dst := some 27, op := _, type := _, pos := _, after := _, guard := _ }) (v := ?_) rfl (by kernel_rfl) (by kernel_rfl) (by kernel_rfl) (fun _ _ _ h => h) (Or.inl ⟨by rfl, ?_⟩) hHeld ?_
    rotate_left
    · (intro w hSw; go_simp) <;> (with_reducible rfl)
    try simp only [Act.put, List.setIfInBounds_toArray, List.set_cons_zero, List.set_cons_succ]
    refine wpAnyH_take (i := 4) (oi := { dst := some 29, op := _, type := _, pos := _, after := _, guard := _ }) (v := ?_) rfl (by kernel_rfl) (by kernel_rfl) (by kernel_rfl) (fun _ _ _ h => h) (Or.inl ⟨by rfl, ?_⟩) hHeld ?_
    rotate_left
    · (intro w hSw; go_simp) <;> (with_reducible rfl)
    try simp only [Act.put, List.setIfInBounds_toArray, List.set_cons_zero, List.set_cons_succ]
    refine wpAnyH_take (i := 5) (oi := { dst := some 30, op := _, type := _, pos := _, after := _, guard := _ }) (v := ?_) rfl (by kernel_rfl) (by kernel_rfl) (by kernel_rfl) (fun _ _ _ h => h) (Or.inl ⟨by rfl, ?_⟩) hHeld ?_
    rotate_left
    · (intro w hSw; go_simp) <;> (with_reducible rfl)
    try simp only [Act.put, List.setIfInBounds_toArray, List.set_cons_zero, List.set_cons_succ]
    refine wpAnyH_take (i := 7) (oi := { dst := some 32, op := _, type := _, pos := _, after := _, guard := _ }) (v := ?_) rfl (by kernel_rfl) (by kernel_rfl) (by kernel_rfl) (fun _ _ _ h => h) (Or.inl ⟨by rfl, ?_⟩) hHeld ?_
    rotate_left
    · (intro w hSw; go_simp) <;> (with_reducible rfl)
    try simp only [Act.put, List.setIfInBounds_toArray, List.set_cons_zero, List.set_cons_succ]
    refine wpAnyH_take (i := 8) (oi := { dst := some 33, op := _, type := _, pos := _, after := _, guard := _ }) (v := ?_) rfl (by kernel_rfl) (by kernel_rfl) (by kernel_rfl) (fun _ _ _ h => h) (Or.inl ⟨by rfl, ?_⟩) hHeld ?_
    rotate_left
    · (intro w hSw; go_simp) <;> (with_reducible rfl)
    try simp only [Act.put, List.setIfInBounds_toArray, List.set_cons_zero, List.set_cons_succ]
    refine wpAnyH_take (i := 10) (oi := { dst := some 35, op := _, type := _, pos := _, after := _, guard := _ }) (v := ?_) rfl (by kernel_rfl) (by kernel_rfl) (by kernel_rfl) (fun _ _ _ h => h) (Or.inl ⟨by rfl, ?_⟩) hHeld ?_
    rotate_left
    · (intro w hSw; go_simp) <;> (with_reducible rfl)
    try simp only [Act.put, List.setIfInBounds_toArray, List.set_cons_zero, List.set_cons_succ]
    refine wpAnyH_take (i := 11) (oi := { dst := some 36, op := _, type := _, pos := _, after := _, guard := _ }) (v := ?_) rfl (by kernel_rfl) (by kernel_rfl) (by kernel_rfl) (fun _ _ _ h => h) (Or.inl ⟨by rfl, ?_⟩) hHeld ?_
    rotate_left
    · (intro w hSw; go_simp) <;> (with_reducible rfl)
    try simp only [Act.put, List.setIfInBounds_toArray, List.set_cons_zero, List.set_cons_succ]
    refine wpAnyH_take (i := 12) (oi := { dst := some 37, op := _, type := _, pos := _, after := _, guard := _ }) (v := ?_) rfl (by kernel_rfl) (by kernel_rfl) (by kernel_rfl) (fun _ _ _ h => h) (Or.inl ⟨by rfl, ?_⟩) hHeld ?_
    rotate_left
    · (intro w hSw; go_simp) <;> (with_reducible rfl)
    try simp only [Act.put, List.setIfInBounds_toArray, List.set_cons_zero, List.set_cons_succ]
    refine wpAnyH_take (i := 13) (oi := { dst := some 38, op := _, type := _, pos := _, after := _, guard := _ }) (v := ?_) rfl (by kernel_rfl) (by kernel_rfl) (by kernel_rfl) (fun _ _ _ h => h) (Or.inl ⟨by rfl, ?_⟩) hHeld ?_
    rotate_left
    · (intro w hSw; have c := (show w.cell? ⟨g, 0, none⟩ = some (.int .i64 q) from by obtain ⟨_, h⟩ := hSw; exact (blk_cell h.blk 0).trans rfl); go_simp) <;> (with_reducible rfl)
    try simp only [Act.put, List.setIfInBounds_toArray, List.set_cons_zero, List.set_cons_succ]
    refine wpAnyH_ready (rs := [1]) (by kernel_rfl) (by simp) (AllReadyH.cons (o := { dst := some 26, op := _, type := _, pos := _, after := _, guard := _ }) rfl (fun K hK => ?_) AllReadyH.nil)
    go_simp
    go_at_call 19
    refine (Size_calls g b q L _ (Bl.kept H1.out ((Below.refl _ _).drew)) hl).mono ?_
    rintro e w1 ⟨rfl, hb1⟩
    go_simp
    refine hK.out _ _ (⟨_, Bl.kept (Bl.kept H1.out ((Below.refl _ _).drew)) hb1⟩) (fun hHeld2 => ?_)
    clear hK K hHeld
    have hHeld := hHeld2
    clear hHeld2
    try simp only [Act.put, List.setIfInBounds_toArray, List.set_cons_zero, List.set_cons_succ]
    refine wpAnyH_take (i := 3) (oi := { dst := some 28, op := _, type := _, pos := _, after := _, guard := _ }) (v := ?_) rfl (by kernel_rfl) (by kernel_rfl) (by kernel_rfl) (fun _ _ _ h => h) (Or.inl ⟨by rfl, ?_⟩) hHeld ?_
    rotate_left
    · (intro w hSw; go_simp) <;> (with_reducible rfl)
    try simp only [Act.put, List.setIfInBounds_toArray, List.set_cons_zero, List.set_cons_succ]
    refine wpAnyH_take (i := 6) (oi := { dst := some 31, op := _, type := _, pos := _, after := _, guard := _ }) (v := ?_) rfl (by kernel_rfl) (by kernel_rfl) (by kernel_rfl) (fun _ _ _ h => h) (Or.inl ⟨by rfl, ?_⟩) hHeld ?_
    rotate_left
    · (intro w hSw; go_simp) <;> (with_reducible rfl)
    try simp only [Act.put, List.setIfInBounds_toArray, List.set_cons_zero, List.set_cons_succ]
    refine wpAnyH_take (i := 9) (oi := { dst := some 34, op := _, type := _, pos := _, after := _, guard := _ }) (v := ?_) rfl (by kernel_rfl) (by kernel_rfl) (by kernel_rfl) (fun _ _ _ h => h) (Or.inl ⟨by rfl, ?_⟩) hHeld ?_
    rotate_left
    · (intro w hSw; go_simp) <;> (with_reducible rfl)
    try simp only [Act.put, List.setIfInBounds_toArray, List.set_cons_zero, List.set_cons_succ]
    refine wpAnyH_take (i := 14) (oi := { dst := some 39, op := _, type := _, pos := _, after := _, guard := _ }) (v := ?_) rfl (by kernel_rfl) (by kernel_rfl) (by kernel_rfl) (fun _ _ _ h => h) (Or.inl ⟨by rfl, ?_⟩) hHeld ?_
    rotate_left
    · (intro w hSw; go_simp) <;> (with_reducible rfl)
    try simp only [Act.put, List.setIfInBounds_toArray, List.set_cons_zero, List.set_cons_succ]
    refine wpAnyH_done (by kernel_rfl) ?_ _
    refine NoPanic.normal ?_
    have HB1 := Aside0.mk (((Below.refl w.heap.size w).drew).trans hb1)
    clear hb1
    have z1 := IntWalk.i64_in (n := (sumE L : Int)) (by omega)
    have z2 := IntWalk.i64_in (n := (sumE (offE k L) : Int) + k.size) (by omega)
    have z3 := IntWalk.i64_in (n := (sumE (offE k L) : Int) + k.size + t.length) (by omega)
    have y1 : (sumE L : Int) = (sumE (offE k L) : Int) := by omega
    simp only [z1]
    rw [y1]
    simp only [z2, z3]
    clear z1 z2 z3 y1
    by_cases hgt : q < (sumE (offE k L) : Int) + k.size + t.length
    · simp only [hgt, decide_true]
      go_wp2_with fail
      go_ret
      exact ⟨2, L, rfl, Bl.kept H1.out HB1.out, grown_none HB1.out, .inl ⟨hgt, rfl, rfl⟩⟩
    · simp only [hgt, decide_false]
      go_wp2_with fail
      refine wp_region_noPanic ?_
      refine wp_region_held_drew (S := fun W => ∃ L', Bl W g b q L') (by kernel_rfl) (⟨_, Bl.kept H1.out HB1.out.drew⟩) (fun hHeld => ?_)
      refine wpAnyH_take (i := 0) (oi := { dst := some 40, op := _, type := _, pos := _, after := _, guard := _ }) (v := ?_) rfl (by kernel_rfl) (by kernel_rfl) (by kernel_rfl) (fun _ _ _ h => h) (Or.inl ⟨by rfl, ?_⟩) hHeld ?_
      rotate_left
      · (intro w hSw; go_simp) <;> (with_reducible rfl)
      try simp only [Act.put, List.setIfInBounds_toArray, List.set_cons_zero, List.set_cons_succ]
      refine wpAnyH_take (i := 1) (oi := { dst := some 41, op := _, type := _, pos := _, after := _, guard := _ }) (v := ?_) rfl (by kernel_rfl) (by kernel_rfl) (by kernel_rfl) (fun _ _ _ h => h) (Or.inl ⟨by rfl, ?_⟩) hHeld ?_
      rotate_left
      · (intro w hSw; go_simp) <;> (with_reducible rfl)
      try simp only [Act.put, List.setIfInBounds_toArray, List.set_cons_zero, List.set_cons_succ]
      refine wpAnyH_take (i := 2) (oi := { dst := some 42, op := _, type := _, pos := _, after := _, guard := _ }) (v := ?_) rfl (by kernel_rfl) (by kernel_rfl) (by kernel_rfl) (fun _ _ _ h => h) (Or.inl ⟨by rfl, ?_⟩) hHeld ?_
      rotate_left
      · (intro w hSw; go_simp) <;> (with_reducible rfl)
      try simp only [Act.put, List.setIfInBounds_toArray, List.set_cons_zero, List.set_cons_succ]
      refine wpAnyH_take (i := 3) (oi := { dst := some 43, op := _, type := _, pos := _, after := _, guard := _ }) (v := ?_) rfl (by kernel_rfl) (by kernel_rfl) (by kernel_rfl) (fun _ _ _ h => h) (Or.inl ⟨by rfl, ?_⟩) hHeld ?_
      rotate_left
      · (intro w hSw; have c := (show w.cell? ⟨g, 1, none⟩ = some (.map (some b)) from by obtain ⟨_, h⟩ := hSw; exact (blk_cell h.blk 1).trans rfl); go_simp) <;> (with_reducible rfl)
      try simp only [Act.put, List.setIfInBounds_toArray, List.set_cons_zero, List.set_cons_succ]
      refine wpAnyH_take (i := 4) (oi := { dst := some 44, op := _, type := _, pos := _, after := _, guard := _ }) (v := ?_) rfl (by kernel_rfl) (by kernel_rfl) (by kernel_rfl) (fun _ _ _ h => h) (Or.inl ⟨by rfl, ?_⟩) hHeld ?_
      rotate_left
      · (intro w hSw; go_simp) <;> (with_reducible rfl)
      try simp only [Act.put, List.setIfInBounds_toArray, List.set_cons_zero, List.set_cons_succ]
      refine wpAnyH_take (i := 5) (oi := { dst := some 45, op := _, type := _, pos := _, after := _, guard := _ }) (v := ?_) rfl (by kernel_rfl) (by kernel_rfl) (by kernel_rfl) (fun _ _ _ h => h) (Or.inl ⟨by rfl, ?_⟩) hHeld ?_
      rotate_left
      · (intro w hSw; go_simp) <;> (with_reducible rfl)
      try simp only [Act.put, List.setIfInBounds_toArray, List.set_cons_zero, List.set_cons_succ]
      refine wpAnyH_ready (rs := [6]) (by kernel_rfl) (by simp) (AllReadyH.cons (o := { dst := some 46, op := _, type := _, pos := _, after := _, guard := _ }) rfl (fun K hK => ?_) AllReadyH.nil)
      go_simp
      go_at_call 30
      refine (Sb.clone_calls A c t _ (Kd.C_below HR.out HB1.out.drew) hc (by omega)).mono ?_
      rintro e w2 ⟨v, rfl, hR2, hb2⟩
      obtain ⟨A2, c2, rfl, hc2, hC2⟩ := Kd.R_reads hR2
      have HB2 := Aside0.mk (HB1.out.drew.trans (hb2.mono HB1.out.drew.size))
      clear hb2
      obtain ⟨w3, hrun, hm3, hg3⟩ := (Bl.kept H1.out HB2.out).map.update law Try.underlying66 (by simp only [maxLen]; omega) (key_of k (by omega)) (hdr_mk A2 t.length c2)
      have HF := Aside0.mk (Bl.put k A2 c2 t (Bl.kept H1.out HB2.out) hg3 hc2 hC2 (ty_of_R hR2) hk ht hm3)
      have HG3 := Aside0.mk (grown_after HB2.out hg3)
      clear hm3 hg3 hR2 hC2
      go_simp
      refine hK.out _ _ (⟨_, Bl.kept H1.out HB2.out⟩) (fun hHeld2 => ?_)
      clear hK K hHeld
      have hHeld := hHeld2
      clear hHeld2
      try simp only [Act.put, List.setIfInBounds_toArray, List.set_cons_zero, List.set_cons_succ]
      refine wpAnyH_ready (rs := [7]) (by kernel_rfl) (by simp) (AllReadyH.cons (o := { dst := none, op := _, type := _, pos := _, after := _, guard := _ }) rfl (fun K hK => ?_) AllReadyH.nil)
      go_simp
      refine hK.out _ _ (⟨_, HF.out⟩) (fun hHeld2 => ?_)
      clear hK K hHeld
      have hHeld := hHeld2
      clear hHeld2
      try simp only [Act.put, List.setIfInBounds_toArray, List.set_cons_zero, List.set_cons_succ]
      refine wpAnyH_done (by kernel_rfl) ?_ _
      refine NoPanic.normal ?_
      go_wp2_with fail
      go_ret
      exact ⟨0, _, rfl, HF.out, HG3.out, .inr ⟨by omega, rfl, _, _, rfl⟩⟩
  | some x =>
    have hxs := h.small x (find_mem hf).1
    obtain ⟨A0, c0, hs0, _, _, _⟩ := h.ent x (find_mem hf).1
    have hxk := (find_mem hf).2
    rw [hf] at hlook hoff
    simp only [Option.map_some, Option.getD_some, Option.isSome_some, hs0, hxk] at hlook hoff
    have z0 := IntWalk.i64_in (n := (k.size : Int) + x.2.2.length) (by omega)
    clear h hs0 hxk
    go_enter Try.func61, Try.ntmps61
    go_wp2_with fail
    clear z0
    refine wp_region_noPanic ?_
    refine wp_region_held_drew (S := fun W => ∃ L', Bl W g b q L') (by kernel_rfl) (⟨_, Bl.kept H1.out ((Below.refl _ _).drew)⟩) (fun hHeld => ?_)
    refine wpAnyH_take (i := 0) (oi := { dst := some 25, op := _, type := _, pos := _, after := _, guard := _ }) (v := ?_) rfl (by kernel_rfl) (by kernel_rfl) (by kernel_rfl) (fun _ _ _ h => h) (Or.inl ⟨by rfl, ?_⟩) hHeld ?_
    rotate_left
    · (intro w hSw; go_simp) <;> (with_reducible rfl)
    try simp only [Act.put, List.setIfInBounds_toArray, List.set_cons_zero, List.set_cons_succ]
    refine wpAnyH_take (i := 2) (oi := { dst := some 27, op := _, type := _, pos := _, after := _, guard := _ }) (v := ?_) rfl (by kernel_rfl) (by kernel_rfl) (by kernel_rfl) (fun _ _ _ h => h) (Or.inl ⟨by rfl, ?_⟩) hHeld ?_
    rotate_left
    · (intro w hSw; go_simp) <;> (with_reducible rfl)
    try simp only [Act.put, List.setIfInBounds_toArray, List.set_cons_zero, List.set_cons_succ]
    refine wpAnyH_take (i := 4) (oi := { dst := some 29, op := _, type := _, pos := _, after := _, guard := _ }) (v := ?_) rfl (by kernel_rfl) (by kernel_rfl) (by kernel_rfl) (fun _ _ _ h => h) (Or.inl ⟨by rfl, ?_⟩) hHeld ?_
    rotate_left
    · (intro w hSw; go_simp) <;> (with_reducible rfl)
    try simp only [Act.put, List.setIfInBounds_toArray, List.set_cons_zero, List.set_cons_succ]
    refine wpAnyH_take (i := 5) (oi := { dst := some 30, op := _, type := _, pos := _, after := _, guard := _ }) (v := ?_) rfl (by kernel_rfl) (by kernel_rfl) (by kernel_rfl) (fun _ _ _ h => h) (Or.inl ⟨by rfl, ?_⟩) hHeld ?_
    rotate_left
    · (intro w hSw; go_simp) <;> (with_reducible rfl)
    try simp only [Act.put, List.setIfInBounds_toArray, List.set_cons_zero, List.set_cons_succ]
    refine wpAnyH_take (i := 7) (oi := { dst := some 32, op := _, type := _, pos := _, after := _, guard := _ }) (v := ?_) rfl (by kernel_rfl) (by kernel_rfl) (by kernel_rfl) (fun _ _ _ h => h) (Or.inl ⟨by rfl, ?_⟩) hHeld ?_
    rotate_left
    · (intro w hSw; go_simp) <;> (with_reducible rfl)
    try simp only [Act.put, List.setIfInBounds_toArray, List.set_cons_zero, List.set_cons_succ]
    refine wpAnyH_take (i := 8) (oi := { dst := some 33, op := _, type := _, pos := _, after := _, guard := _ }) (v := ?_) rfl (by kernel_rfl) (by kernel_rfl) (by kernel_rfl) (fun _ _ _ h => h) (Or.inl ⟨by rfl, ?_⟩) hHeld ?_
    rotate_left
    · (intro w hSw; go_simp) <;> (with_reducible rfl)
    try simp only [Act.put, List.setIfInBounds_toArray, List.set_cons_zero, List.set_cons_succ]
    refine wpAnyH_take (i := 10) (oi := { dst := some 35, op := _, type := _, pos := _, after := _, guard := _ }) (v := ?_) rfl (by kernel_rfl) (by kernel_rfl) (by kernel_rfl) (fun _ _ _ h => h) (Or.inl ⟨by rfl, ?_⟩) hHeld ?_
    rotate_left
    · (intro w hSw; go_simp) <;> (with_reducible rfl)
    try simp only [Act.put, List.setIfInBounds_toArray, List.set_cons_zero, List.set_cons_succ]
    refine wpAnyH_take (i := 11) (oi := { dst := some 36, op := _, type := _, pos := _, after := _, guard := _ }) (v := ?_) rfl (by kernel_rfl) (by kernel_rfl) (by kernel_rfl) (fun _ _ _ h => h) (Or.inl ⟨by rfl, ?_⟩) hHeld ?_
    rotate_left
    · (intro w hSw; go_simp) <;> (with_reducible rfl)
    try simp only [Act.put, List.setIfInBounds_toArray, List.set_cons_zero, List.set_cons_succ]
    refine wpAnyH_take (i := 12) (oi := { dst := some 37, op := _, type := _, pos := _, after := _, guard := _ }) (v := ?_) rfl (by kernel_rfl) (by kernel_rfl) (by kernel_rfl) (fun _ _ _ h => h) (Or.inl ⟨by rfl, ?_⟩) hHeld ?_
    rotate_left
    · (intro w hSw; go_simp) <;> (with_reducible rfl)
    try simp only [Act.put, List.setIfInBounds_toArray, List.set_cons_zero, List.set_cons_succ]
    refine wpAnyH_take (i := 13) (oi := { dst := some 38, op := _, type := _, pos := _, after := _, guard := _ }) (v := ?_) rfl (by kernel_rfl) (by kernel_rfl) (by kernel_rfl) (fun _ _ _ h => h) (Or.inl ⟨by rfl, ?_⟩) hHeld ?_
    rotate_left
    · (intro w hSw; have c := (show w.cell? ⟨g, 0, none⟩ = some (.int .i64 q) from by obtain ⟨_, h⟩ := hSw; exact (blk_cell h.blk 0).trans rfl); go_simp) <;> (with_reducible rfl)
    try simp only [Act.put, List.setIfInBounds_toArray, List.set_cons_zero, List.set_cons_succ]
    refine wpAnyH_ready (rs := [1]) (by kernel_rfl) (by simp) (AllReadyH.cons (o := { dst := some 26, op := _, type := _, pos := _, after := _, guard := _ }) rfl (fun K hK => ?_) AllReadyH.nil)
    go_simp
    go_at_call 19
    refine (Size_calls g b q L _ (Bl.kept H1.out ((Below.refl _ _).drew)) hl).mono ?_
    rintro e w1 ⟨rfl, hb1⟩
    go_simp
    refine hK.out _ _ (⟨_, Bl.kept (Bl.kept H1.out ((Below.refl _ _).drew)) hb1⟩) (fun hHeld2 => ?_)
    clear hK K hHeld
    have hHeld := hHeld2
    clear hHeld2
    try simp only [Act.put, List.setIfInBounds_toArray, List.set_cons_zero, List.set_cons_succ]
    refine wpAnyH_take (i := 3) (oi := { dst := some 28, op := _, type := _, pos := _, after := _, guard := _ }) (v := ?_) rfl (by kernel_rfl) (by kernel_rfl) (by kernel_rfl) (fun _ _ _ h => h) (Or.inl ⟨by rfl, ?_⟩) hHeld ?_
    rotate_left
    · (intro w hSw; go_simp) <;> (with_reducible rfl)
    try simp only [Act.put, List.setIfInBounds_toArray, List.set_cons_zero, List.set_cons_succ]
    refine wpAnyH_take (i := 6) (oi := { dst := some 31, op := _, type := _, pos := _, after := _, guard := _ }) (v := ?_) rfl (by kernel_rfl) (by kernel_rfl) (by kernel_rfl) (fun _ _ _ h => h) (Or.inl ⟨by rfl, ?_⟩) hHeld ?_
    rotate_left
    · (intro w hSw; go_simp) <;> (with_reducible rfl)
    try simp only [Act.put, List.setIfInBounds_toArray, List.set_cons_zero, List.set_cons_succ]
    refine wpAnyH_take (i := 9) (oi := { dst := some 34, op := _, type := _, pos := _, after := _, guard := _ }) (v := ?_) rfl (by kernel_rfl) (by kernel_rfl) (by kernel_rfl) (fun _ _ _ h => h) (Or.inl ⟨by rfl, ?_⟩) hHeld ?_
    rotate_left
    · (intro w hSw; go_simp) <;> (with_reducible rfl)
    try simp only [Act.put, List.setIfInBounds_toArray, List.set_cons_zero, List.set_cons_succ]
    refine wpAnyH_take (i := 14) (oi := { dst := some 39, op := _, type := _, pos := _, after := _, guard := _ }) (v := ?_) rfl (by kernel_rfl) (by kernel_rfl) (by kernel_rfl) (fun _ _ _ h => h) (Or.inl ⟨by rfl, ?_⟩) hHeld ?_
    rotate_left
    · (intro w hSw; go_simp) <;> (with_reducible rfl)
    try simp only [Act.put, List.setIfInBounds_toArray, List.set_cons_zero, List.set_cons_succ]
    refine wpAnyH_done (by kernel_rfl) ?_ _
    refine NoPanic.normal ?_
    have HB1 := Aside0.mk (((Below.refl w.heap.size w).drew).trans hb1)
    clear hb1
    have z1 := IntWalk.i64_in (n := (sumE L : Int) - (k.size + x.2.2.length)) (by omega)
    have z2 := IntWalk.i64_in (n := (sumE (offE k L) : Int) + k.size) (by omega)
    have z3 := IntWalk.i64_in (n := (sumE (offE k L) : Int) + k.size + t.length) (by omega)
    have y1 : (sumE L : Int) - (k.size + x.2.2.length) = (sumE (offE k L) : Int) := by omega
    simp only [z1]
    rw [y1]
    simp only [z2, z3]
    clear z1 z2 z3 y1
    by_cases hgt : q < (sumE (offE k L) : Int) + k.size + t.length
    · simp only [hgt, decide_true]
      go_wp2_with fail
      go_ret
      exact ⟨2, L, rfl, Bl.kept H1.out HB1.out, grown_none HB1.out, .inl ⟨hgt, rfl, rfl⟩⟩
    · simp only [hgt, decide_false]
      go_wp2_with fail
      refine wp_region_noPanic ?_
      refine wp_region_held_drew (S := fun W => ∃ L', Bl W g b q L') (by kernel_rfl) (⟨_, Bl.kept H1.out HB1.out.drew⟩) (fun hHeld => ?_)
      refine wpAnyH_take (i := 0) (oi := { dst := some 40, op := _, type := _, pos := _, after := _, guard := _ }) (v := ?_) rfl (by kernel_rfl) (by kernel_rfl) (by kernel_rfl) (fun _ _ _ h => h) (Or.inl ⟨by rfl, ?_⟩) hHeld ?_
      rotate_left
      · (intro w hSw; go_simp) <;> (with_reducible rfl)
      try simp only [Act.put, List.setIfInBounds_toArray, List.set_cons_zero, List.set_cons_succ]
      refine wpAnyH_take (i := 1) (oi := { dst := some 41, op := _, type := _, pos := _, after := _, guard := _ }) (v := ?_) rfl (by kernel_rfl) (by kernel_rfl) (by kernel_rfl) (fun _ _ _ h => h) (Or.inl ⟨by rfl, ?_⟩) hHeld ?_
      rotate_left
      · (intro w hSw; go_simp) <;> (with_reducible rfl)
      try simp only [Act.put, List.setIfInBounds_toArray, List.set_cons_zero, List.set_cons_succ]
      refine wpAnyH_take (i := 2) (oi := { dst := some 42, op := _, type := _, pos := _, after := _, guard := _ }) (v := ?_) rfl (by kernel_rfl) (by kernel_rfl) (by kernel_rfl) (fun _ _ _ h => h) (Or.inl ⟨by rfl, ?_⟩) hHeld ?_
      rotate_left
      · (intro w hSw; go_simp) <;> (with_reducible rfl)
      try simp only [Act.put, List.setIfInBounds_toArray, List.set_cons_zero, List.set_cons_succ]
      refine wpAnyH_take (i := 3) (oi := { dst := some 43, op := _, type := _, pos := _, after := _, guard := _ }) (v := ?_) rfl (by kernel_rfl) (by kernel_rfl) (by kernel_rfl) (fun _ _ _ h => h) (Or.inl ⟨by rfl, ?_⟩) hHeld ?_
      rotate_left
      · (intro w hSw; have c := (show w.cell? ⟨g, 1, none⟩ = some (.map (some b)) from by obtain ⟨_, h⟩ := hSw; exact (blk_cell h.blk 1).trans rfl); go_simp) <;> (with_reducible rfl)
      try simp only [Act.put, List.setIfInBounds_toArray, List.set_cons_zero, List.set_cons_succ]
      refine wpAnyH_take (i := 4) (oi := { dst := some 44, op := _, type := _, pos := _, after := _, guard := _ }) (v := ?_) rfl (by kernel_rfl) (by kernel_rfl) (by kernel_rfl) (fun _ _ _ h => h) (Or.inl ⟨by rfl, ?_⟩) hHeld ?_
      rotate_left
      · (intro w hSw; go_simp) <;> (with_reducible rfl)
      try simp only [Act.put, List.setIfInBounds_toArray, List.set_cons_zero, List.set_cons_succ]
      refine wpAnyH_take (i := 5) (oi := { dst := some 45, op := _, type := _, pos := _, after := _, guard := _ }) (v := ?_) rfl (by kernel_rfl) (by kernel_rfl) (by kernel_rfl) (fun _ _ _ h => h) (Or.inl ⟨by rfl, ?_⟩) hHeld ?_
      rotate_left
      · (intro w hSw; go_simp) <;> (with_reducible rfl)
      try simp only [Act.put, List.setIfInBounds_toArray, List.set_cons_zero, List.set_cons_succ]
      refine wpAnyH_ready (rs := [6]) (by kernel_rfl) (by simp) (AllReadyH.cons (o := { dst := some 46, op := _, type := _, pos := _, after := _, guard := _ }) rfl (fun K hK => ?_) AllReadyH.nil)
      go_simp
      go_at_call 30
      refine (Sb.clone_calls A c t _ (Kd.C_below HR.out HB1.out.drew) hc (by omega)).mono ?_
      rintro e w2 ⟨v, rfl, hR2, hb2⟩
      obtain ⟨A2, c2, rfl, hc2, hC2⟩ := Kd.R_reads hR2
      have HB2 := Aside0.mk (HB1.out.drew.trans (hb2.mono HB1.out.drew.size))
      clear hb2
      obtain ⟨w3, hrun, hm3, hg3⟩ := (Bl.kept H1.out HB2.out).map.update law Try.underlying66 (by simp only [maxLen]; omega) (key_of k (by omega)) (hdr_mk A2 t.length c2)
      have HF := Aside0.mk (Bl.put k A2 c2 t (Bl.kept H1.out HB2.out) hg3 hc2 hC2 (ty_of_R hR2) hk ht hm3)
      have HG3 := Aside0.mk (grown_after HB2.out hg3)
      clear hm3 hg3 hR2 hC2
      go_simp
      refine hK.out _ _ (⟨_, Bl.kept H1.out HB2.out⟩) (fun hHeld2 => ?_)
      clear hK K hHeld
      have hHeld := hHeld2
      clear hHeld2
      try simp only [Act.put, List.setIfInBounds_toArray, List.set_cons_zero, List.set_cons_succ]
      refine wpAnyH_ready (rs := [7]) (by kernel_rfl) (by simp) (AllReadyH.cons (o := { dst := none, op := _, type := _, pos := _, after := _, guard := _ }) rfl (fun K hK => ?_) AllReadyH.nil)
      go_simp
      refine hK.out _ _ (⟨_, HF.out⟩) (fun hHeld2 => ?_)
      clear hK K hHeld
      have hHeld := hHeld2
      clear hHeld2
      try simp only [Act.put, List.setIfInBounds_toArray, List.set_cons_zero, List.set_cons_succ]
      refine wpAnyH_done (by kernel_rfl) ?_ _
      refine NoPanic.normal ?_
      go_wp2_with fail
      go_ret
      exact ⟨0, _, rfl, HF.out, HG3.out, .inr ⟨by omega, rfl, _, _, rfl⟩⟩
end Go.Proofs.Ytpkfeepepbchlaa.Bl
