/- The shelf's contracts that the names lean on, laid at this dump (by the shelf's own tools, in plain words). -/
import Derived.Shelf.Small.Strs
import Derived.Shelf.Small.Utf8
import Derived.Shelf.Strings.Builder1
import Derived.Shelf.Strings.Builder2
import Derived.Shelf.Strings.Builder2Cap
import Derived.Shelf.Strings.BuilderCap
import Derived.Shelf.Strings.BuilderF
import Derived.Shelf.Strings.BuilderK
import Derived.Shelf.Strings.BuilderRune
import Derived.Shelf.Strings.MapAny
import Derived.Shelf.Strings.MapGrows
import Derived.Shelf.Strings.Search1
import Derived.Shelf.Unicode.DecodeAny
import Derived.Shelf.Unicode.DecodeSlow
import Derived.Shelf.Utf8.AppendRunePlain
import Derived.Test.YtmgookmfejenjaaDoorProg
namespace Go.Proofs
open Go.Shelf Go.RowKit Go.Lib
def Tryd.lays230_ren : Go.Shelf.Ren := ⟨fun | 230 => 21 | 197 => 29 | 118 => 34 | 165 => 35 | 166 => 27 | 168 => 36 | 270 => 37 | 167 => 26 | 169 => 28 | 260 => 40 | 240 => 39 | 241 => 42 | 242 => 43 | 276 => 44 | 277 => 46 | 278 => 47 | n => n, fun | 107 => 36 | 9 => 9 | 72 => 44 | 0 => 0 | 4 => 4 | 3 => 3 | 21 => 21 | 105 => 53 | 76 => 49 | 5 => 5 | 75 => 47 | 70 => 42 | 20 => 20 | 37 => 37 | 127 => 63 | 119 => 67 | 46 => 51 | 139 => 70 | 138 => 69 | 164 => 65 | 51 => 72 | 80 => 52 | n => n, fun | 3 => 0 | 4 => 1 | n => n⟩
theorem Tryd.lays230 : Go.Proofs.Lays.n230 Tryd.prog Tryd.lays230_ren := {
  mixed := by kernel_rfl
  f118 := Tryd.func34.trans (congrArg some (by kernel_rfl))
  f165 := Tryd.func35.trans (congrArg some (by kernel_rfl))
  f166 := Tryd.func27.trans (congrArg some (by kernel_rfl))
  f167 := Tryd.func26.trans (congrArg some (by kernel_rfl))
  f168 := Tryd.func36.trans (congrArg some (by kernel_rfl))
  f169 := Tryd.func28.trans (congrArg some (by kernel_rfl))
  f197 := Tryd.func29.trans (congrArg some (by kernel_rfl))
  f230 := Tryd.func21.trans (congrArg some (by kernel_rfl))
  f240 := Tryd.func39.trans (congrArg some (by kernel_rfl))
  f241 := Tryd.func42.trans (congrArg some (by kernel_rfl))
  f242 := Tryd.func43.trans (congrArg some (by kernel_rfl))
  f260 := Tryd.func40.trans (congrArg some (by kernel_rfl))
  f270 := Tryd.func37.trans (congrArg some (by kernel_rfl))
  f276 := Tryd.func44.trans (congrArg some (by kernel_rfl))
  f277 := Tryd.func46.trans (congrArg some (by kernel_rfl))
  f278 := Tryd.func47.trans (congrArg some (by kernel_rfl))
  t0 := Tryd.underlying0
  a0 := Tryd.isAgg0
  z0 := Tryd.sizeOf0
  v0 := Tryd.zeroValue0
  t3 := Tryd.underlying3
  a3 := Tryd.isAgg3
  z3 := Tryd.sizeOf3
  v3 := Tryd.zeroValue3
  t4 := Tryd.underlying4
  a4 := Tryd.isAgg4
  z4 := Tryd.sizeOf4
  v4 := Tryd.zeroValue4
  t5 := Tryd.underlying5
  a5 := Tryd.isAgg5
  z5 := Tryd.sizeOf5
  v5 := Tryd.zeroValue5
  t9 := Tryd.underlying9
  a9 := Tryd.isAgg9
  z9 := Tryd.sizeOf9
  v9 := Tryd.zeroValue9
  t20 := Tryd.underlying20
  a20 := Tryd.isAgg20
  z20 := Tryd.sizeOf20
  v20 := Tryd.zeroValue20
  t21 := Tryd.underlying21
  a21 := Tryd.isAgg21
  z21 := Tryd.sizeOf21
  v21 := Tryd.zeroValue21
  t37 := Tryd.underlying37
  a37 := Tryd.isAgg37
  z37 := Tryd.sizeOf37
  v37 := Tryd.zeroValue37
  t46 := Tryd.underlying51
  a46 := Tryd.isAgg51
  z46 := Tryd.sizeOf51
  v46 := Tryd.zeroValue51
  t51 := Tryd.underlying72
  a51 := Tryd.isAgg72
  z51 := Tryd.sizeOf72
  v51 := Tryd.zeroValue72
  t70 := Tryd.underlying42
  a70 := Tryd.isAgg42
  z70 := Tryd.sizeOf42
  v70 := Tryd.zeroValue42
  t72 := Tryd.underlying44
  a72 := Tryd.isAgg44
  z72 := Tryd.sizeOf44
  v72 := Tryd.zeroValue44
  t75 := Tryd.underlying47
  a75 := Tryd.isAgg47
  z75 := Tryd.sizeOf47
  v75 := Tryd.zeroValue47
  t76 := Tryd.underlying49
  a76 := Tryd.isAgg49
  z76 := Tryd.sizeOf49
  v76 := Tryd.zeroValue49
  t105 := Tryd.underlying53
  a105 := Tryd.isAgg53
  z105 := Tryd.sizeOf53
  v105 := Tryd.zeroValue53
  t107 := Tryd.underlying36
  a107 := Tryd.isAgg36
  z107 := Tryd.sizeOf36
  v107 := Tryd.zeroValue36
  t119 := Tryd.underlying67
  a119 := Tryd.isAgg67
  z119 := Tryd.sizeOf67
  t127 := Tryd.underlying63
  a127 := Tryd.isAgg63
  z127 := Tryd.sizeOf63
  v127 := Tryd.zeroValue63
  t138 := Tryd.underlying69
  a138 := Tryd.isAgg69
  z138 := Tryd.sizeOf69
  v138 := Tryd.zeroValue69
  t139 := Tryd.underlying70
  a139 := Tryd.isAgg70
  z139 := Tryd.sizeOf70
  v139 := Tryd.zeroValue70
  t164 := Tryd.underlying65
  a164 := Tryd.isAgg65
  z164 := Tryd.sizeOf65
  v164 := Tryd.zeroValue65
  g3 := by kernel_rfl
  g4 := by kernel_rfl }
theorem Tryd.Builder_Extra_230 : Builder.Extra Tryd.prog Tryd.lays230_ren := {
  sizeBuilder := by kernel_rfl
  liesBuilder := by kernel_rfl
  t5 := Tryd.underlying5
  a5 := Tryd.isAgg5
  z5 := Tryd.sizeOf5
  v5 := Tryd.zeroValue5
  infoByte := by kernel_rfl
  cellsByte := by kernel_rfl
  sizeByte := by kernel_rfl
  neB5 := by decide }
theorem Tryd.lays166 : Go.Proofs.Lays.n166 Tryd.prog Tryd.lays230_ren := { mixed := Tryd.lays230.mixed, f166 := Tryd.lays230.f166, f240 := Tryd.lays230.f240, f276 := Tryd.lays230.f276, t0 := Tryd.lays230.t0, a0 := Tryd.lays230.a0, z0 := Tryd.lays230.z0, v0 := Tryd.lays230.v0, t3 := Tryd.lays230.t3, a3 := Tryd.lays230.a3, z3 := Tryd.lays230.z3, v3 := Tryd.lays230.v3, t4 := Tryd.lays230.t4, a4 := Tryd.lays230.a4, z4 := Tryd.lays230.z4, v4 := Tryd.lays230.v4, t9 := Tryd.lays230.t9, a9 := Tryd.lays230.a9, z9 := Tryd.lays230.z9, v9 := Tryd.lays230.v9, t20 := Tryd.lays230.t20, a20 := Tryd.lays230.a20, z20 := Tryd.lays230.z20, v20 := Tryd.lays230.v20, t37 := Tryd.lays230.t37, a37 := Tryd.lays230.a37, z37 := Tryd.lays230.z37, v37 := Tryd.lays230.v37, t70 := Tryd.lays230.t70, a70 := Tryd.lays230.a70, z70 := Tryd.lays230.z70, v70 := Tryd.lays230.v70, t72 := Tryd.lays230.t72, a72 := Tryd.lays230.a72, z72 := Tryd.lays230.z72, v72 := Tryd.lays230.v72, t75 := Tryd.lays230.t75, a75 := Tryd.lays230.a75, z75 := Tryd.lays230.z75, v75 := Tryd.lays230.v75, t164 := Tryd.lays230.t164, a164 := Tryd.lays230.a164, z164 := Tryd.lays230.z164, v164 := Tryd.lays230.v164 }
theorem Tryd.lays167 : Go.Proofs.Lays.n167 Tryd.prog Tryd.lays230_ren := { mixed := Tryd.lays230.mixed, f167 := Tryd.lays230.f167, f240 := Tryd.lays230.f240, f276 := Tryd.lays230.f276, t0 := Tryd.lays230.t0, a0 := Tryd.lays230.a0, z0 := Tryd.lays230.z0, v0 := Tryd.lays230.v0, t4 := Tryd.lays230.t4, a4 := Tryd.lays230.a4, z4 := Tryd.lays230.z4, v4 := Tryd.lays230.v4, t5 := Tryd.lays230.t5, a5 := Tryd.lays230.a5, z5 := Tryd.lays230.z5, v5 := Tryd.lays230.v5, t9 := Tryd.lays230.t9, a9 := Tryd.lays230.a9, z9 := Tryd.lays230.z9, v9 := Tryd.lays230.v9, t20 := Tryd.lays230.t20, a20 := Tryd.lays230.a20, z20 := Tryd.lays230.z20, v20 := Tryd.lays230.v20, t37 := Tryd.lays230.t37, a37 := Tryd.lays230.a37, z37 := Tryd.lays230.z37, v37 := Tryd.lays230.v37, t70 := Tryd.lays230.t70, a70 := Tryd.lays230.a70, z70 := Tryd.lays230.z70, v70 := Tryd.lays230.v70, t72 := Tryd.lays230.t72, a72 := Tryd.lays230.a72, z72 := Tryd.lays230.z72, v72 := Tryd.lays230.v72, t75 := Tryd.lays230.t75, a75 := Tryd.lays230.a75, z75 := Tryd.lays230.z75, v75 := Tryd.lays230.v75, t164 := Tryd.lays230.t164, a164 := Tryd.lays230.a164, z164 := Tryd.lays230.z164, v164 := Tryd.lays230.v164 }
theorem Tryd.lays169 : Go.Proofs.Lays.n169 Tryd.prog Tryd.lays230_ren := { mixed := Tryd.lays230.mixed, f169 := Tryd.lays230.f169, t0 := Tryd.lays230.t0, a0 := Tryd.lays230.a0, z0 := Tryd.lays230.z0, v0 := Tryd.lays230.v0, t3 := Tryd.lays230.t3, a3 := Tryd.lays230.a3, z3 := Tryd.lays230.z3, v3 := Tryd.lays230.v3, t9 := Tryd.lays230.t9, a9 := Tryd.lays230.a9, z9 := Tryd.lays230.z9, v9 := Tryd.lays230.v9, t37 := Tryd.lays230.t37, a37 := Tryd.lays230.a37, z37 := Tryd.lays230.z37, v37 := Tryd.lays230.v37, t70 := Tryd.lays230.t70, a70 := Tryd.lays230.a70, z70 := Tryd.lays230.z70, v70 := Tryd.lays230.v70, t72 := Tryd.lays230.t72, a72 := Tryd.lays230.a72, z72 := Tryd.lays230.z72, v72 := Tryd.lays230.v72, t127 := Tryd.lays230.t127, a127 := Tryd.lays230.a127, z127 := Tryd.lays230.z127, v127 := Tryd.lays230.v127 }
theorem Tryd.Builder_WriteByte_k (B b : Nat) (bs : List Value) (c : Int) (w : World) (h : Lib.IsBuilderF 44 5 B b bs w) (hlen : bs.length + 1 ≤ 140737488355328) (hBw : B ≤ w.heap.size) :
    Calls Tryd.prog 26 #[.pointer (some ⟨b, 0, none⟩), .int .u8 c] w fun e w' => e = .returned .nilIface ∧ (Lib.BuilderAtF 44 5 B b (.pointer (some ⟨b, 0, none⟩)) (bs ++ [.int .u8 c]) w' ∧ Below B w w' ∧ Lib.OthersKept 5 (some b) w w') := Any.Builder_WriteByte_k Tryd.lays167 Tryd.Builder_Extra_230 B b bs c w h hlen hBw
theorem Tryd.Builder_WriteString_k (B b : Nat) (bs : List Value) (s : ByteArray) (w : World) (h : Lib.IsBuilderF 44 5 B b bs w) (hlen : bs.length + s.size ≤ 140737488355328) (hBw : B ≤ w.heap.size) :
    Calls Tryd.prog 27 #[.pointer (some ⟨b, 0, none⟩), .string s] w fun e w' => e = .returned (.tuple #[.int .i64 s.size, .nilIface]) ∧ (Lib.BuilderAtF 44 5 B b (.pointer (some ⟨b, 0, none⟩)) (bs ++ Lib.strCells s) w' ∧ Below B w w' ∧ Lib.OthersKept 5 (some b) w w') := Any.Builder_WriteString_k Tryd.lays166 Tryd.Builder_Extra_230 B b bs s w h hlen hBw
theorem Tryd.Builder_String_any_k (B b : Nat) (l : List UInt8) (w : World) (h : Lib.IsBuilderF 44 5 B b (Lib.byteCells l) w) (hBw : B ≤ w.heap.size) :
    Calls Tryd.prog 28 #[.pointer (some ⟨b, 0, none⟩)] w fun e w' => e = .returned (.string ⟨l.toArray⟩) ∧ (Lib.IsBuilderF 44 5 B b (Lib.byteCells l) w' ∧ Below B w w' ∧ Lib.OthersKept 5 (some b) w w') := Any.Builder_String_any_k Tryd.lays169 Tryd.Builder_Extra_230 B b l w h hBw
def Tryd.lays197_ren : Go.Shelf.Ren := ⟨fun | 197 => 29 | 260 => 40 | n => n, fun | 9 => 9 | 21 => 21 | 3 => 3 | 4 => 4 | 5 => 5 | 105 => 53 | 119 => 67 | 0 => 0 | 46 => 51 | 139 => 70 | 138 => 69 | n => n, fun | 3 => 0 | 4 => 1 | n => n⟩
theorem Tryd.lays197 : Go.Proofs.Lays.n197 Tryd.prog Tryd.lays197_ren := {
  mixed := by kernel_rfl
  f197 := Tryd.func29.trans (congrArg some (by kernel_rfl))
  f260 := Tryd.func40.trans (congrArg some (by kernel_rfl))
  t0 := Tryd.underlying0
  a0 := Tryd.isAgg0
  z0 := Tryd.sizeOf0
  v0 := Tryd.zeroValue0
  t3 := Tryd.underlying3
  a3 := Tryd.isAgg3
  z3 := Tryd.sizeOf3
  v3 := Tryd.zeroValue3
  t4 := Tryd.underlying4
  a4 := Tryd.isAgg4
  z4 := Tryd.sizeOf4
  v4 := Tryd.zeroValue4
  t5 := Tryd.underlying5
  a5 := Tryd.isAgg5
  z5 := Tryd.sizeOf5
  v5 := Tryd.zeroValue5
  t9 := Tryd.underlying9
  a9 := Tryd.isAgg9
  z9 := Tryd.sizeOf9
  v9 := Tryd.zeroValue9
  t21 := Tryd.underlying21
  a21 := Tryd.isAgg21
  z21 := Tryd.sizeOf21
  v21 := Tryd.zeroValue21
  t46 := Tryd.underlying51
  a46 := Tryd.isAgg51
  z46 := Tryd.sizeOf51
  v46 := Tryd.zeroValue51
  t105 := Tryd.underlying53
  a105 := Tryd.isAgg53
  z105 := Tryd.sizeOf53
  v105 := Tryd.zeroValue53
  t119 := Tryd.underlying67
  a119 := Tryd.isAgg67
  z119 := Tryd.sizeOf67
  t138 := Tryd.underlying69
  a138 := Tryd.isAgg69
  z138 := Tryd.sizeOf69
  v138 := Tryd.zeroValue69
  t139 := Tryd.underlying70
  a139 := Tryd.isAgg70
  z139 := Tryd.sizeOf70
  v139 := Tryd.zeroValue70
  g3 := by kernel_rfl
  g4 := by kernel_rfl }
theorem Tryd.utf8_DecodeRuneInString (s : ByteArray) (w : World) (hT : Lib.Utf8Tabs 0 1 w) :
    Calls Tryd.prog 29 #[.string s] w fun e w' => e = .returned (.tuple #[.int .i32 (Lib.decodeGo s).1, .int .i64 (Lib.decodeGo s).2]) ∧ Below w.heap.size w w' := Any.utf8_DecodeRuneInString Tryd.lays197 s w hT
theorem Tryd.strings_Map_runes (g : Nat) (lb : Array Value) (eg : ∀ args w, (callFunc g args).run Tryd.prog w = .ok (.enter g args) w) (f : Int → Int) (s : ByteArray) (w : World) (hs : s.size < 35184372088832) (hf : MapAtRunes Tryd.prog g lb f w) (hnn : ∀ x : Nat, x ≤ 1114111 → 0 ≤ f x ∧ f x ≤ 2147483647) (hT : Lib.Utf8Tabs 0 1 w) :
    Calls Tryd.prog 21 #[.func (.func g) #[] lb, .string s] w fun e w' => e = .returned (.string ⟨(Lib.mapD f s.data.toList).toArray⟩) ∧ Below w.heap.size w w' := Any.strings_Map_runes Tryd.lays230 Tryd.Builder_Extra_230 g lb eg f s w hs hf hnn hT
def Tryd.lays137_ren : Go.Shelf.Ren := ⟨fun | 137 => 30 | 217 => 41 | 266 => 45 | n => n, fun | 9 => 9 | 5 => 5 | 3 => 3 | n => n, fun | n => n⟩
theorem Tryd.lays137 : Go.Proofs.Lays.n137 Tryd.prog Tryd.lays137_ren := {
  mixed := by kernel_rfl
  f137 := Tryd.func30.trans (congrArg some (by kernel_rfl))
  f217 := Tryd.func41.trans (congrArg some (by kernel_rfl))
  f266 := Tryd.func45.trans (congrArg some (by kernel_rfl))
  t3 := Tryd.underlying3
  a3 := Tryd.isAgg3
  z3 := Tryd.sizeOf3
  v3 := Tryd.zeroValue3
  t5 := Tryd.underlying5
  a5 := Tryd.isAgg5
  z5 := Tryd.sizeOf5
  v5 := Tryd.zeroValue5
  t9 := Tryd.underlying9
  a9 := Tryd.isAgg9
  z9 := Tryd.sizeOf9
  v9 := Tryd.zeroValue9 }
theorem Tryd.strings_IndexByte (s : ByteArray) (c : Int) (w : World) :
    Calls Tryd.prog 30 #[.string s, .int .u8 c] w fun e w' => e = .returned (.int .i64 (Lib.indexByte s.data.toList c.toNat.toUInt8)) ∧ w' = w := Any.strings_IndexByte Tryd.lays137 s c w
end Go.Proofs
