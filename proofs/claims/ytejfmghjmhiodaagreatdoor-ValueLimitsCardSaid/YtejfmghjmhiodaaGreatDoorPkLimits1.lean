/- Lemmas of the proof, part 1 of 3. -/
import Derived.Shelf.Strings.Builder1
import Derived.Shelf.Strings.Builder2
import Derived.Shelf.Strings.OnBuilder
import Derived.Shelf.Small.Utf8
import Derived.Shelf.Small.Strs
import Derived.Shelf.Small.Wraps
import Derived.Shelf.Strings.BuilderF
import Derived.Shelf.Strings.BuilderK
import Derived.Shelf.Utf8.AppendRune
import Derived.Shelf.Strconv.Bsearch
import Derived.Shelf.Strconv.IsPrint
import Derived.Shelf.Strconv.IsPrint16
import Derived.Shelf.Strconv.IsPrint32
import Derived.Shelf.Strconv.Escaped
import Derived.Shelf.Strconv.Quoted
import Derived.Shelf.Strconv.Quote
import Derived.Shelf.Strconv.Itoa0
import Derived.Shelf.Strconv.Itoa1
import Derived.Shelf.LaysM
import Derived.Shelf.Strconv.Itoa2
import Derived.Shelf.Strconv.Itoa3
import Derived.Shelf.Strconv.Itoa4
import Derived.Shelf.Strings.Search1
import Derived.Shelf.Strings.Search2
import Derived.Shelf.Strings.Search3
import Derived.Shelf.Strings.Shaped
import Derived.Shelf.Unicode.Decode
import Derived.Shelf.Bits.Mul64
import Derived.Shelf.Unicode.DecodeSlow
import Derived.Shelf.Unicode.DecodeAny
import Derived.Ground.Names2Prog
import Derived.Shelf.Slices.SearchI
import Derived.Test.YtejfmghjmhiodaaGreatDoorProg
import Derived.Test.YtejfmghjmhiodaaGreatDoorWMore
import Derived.Laws.Cover2
import Derived.LoopTactic
import Derived.StillTailTactics
import Derived.BigQuiet
import Derived.Deep.QuietTactic
/-
  DERIVED: THE SHELF's CONTRACTS AT THIS DUMP, IN PLAIN WORDS (tools/lay-plain.mjs out of 'TryzShelf.lean', which tools/lay-shelf.mjs wrote): THE SAME DECLARATIONS UNDER THE SAME NAMES: 'import', 'namespace', 'open', 'def', 'theorem' AND NOTHING ELSE: no command of the shelf's: FOR A HAND-IN. Each laying: the table of numbers ('.._ren') and one theorem, a field a fact of the dump's own or the kernel's comparison; each contract: ONE APPLICATION.
-/
namespace Go.Proofs
open Go.Shelf
def Tryz.lays169_ren : Go.Shelf.Ren := ⟨fun | 169 => 66 | n => n, fun | 70 => 73 | 9 => 9 | 0 => 0 | 72 => 75 | 37 => 36 | 127 => 90 | 3 => 3 | 5 => 5 | n => n, fun | n => n⟩
theorem Tryz.lays169 : Go.Proofs.Lays.n169 Tryz.prog Tryz.lays169_ren := {
  mixed := by kernel_rfl
  f169 := Tryz.func66.trans (congrArg some (by kernel_rfl))
  t0 := Tryz.underlying0
  a0 := Tryz.isAgg0
  z0 := Tryz.sizeOf0
  v0 := Tryz.zeroValue0
  t3 := Tryz.underlying3
  a3 := Tryz.isAgg3
  z3 := Tryz.sizeOf3
  v3 := Tryz.zeroValue3
  t9 := Tryz.underlying9
  a9 := Tryz.isAgg9
  z9 := Tryz.sizeOf9
  v9 := Tryz.zeroValue9
  t37 := Tryz.underlying36
  a37 := Tryz.isAgg36
  z37 := Tryz.sizeOf36
  v37 := Tryz.zeroValue36
  t70 := Tryz.underlying73
  a70 := Tryz.isAgg73
  z70 := Tryz.sizeOf73
  v70 := Tryz.zeroValue73
  t72 := Tryz.underlying75
  a72 := Tryz.isAgg75
  z72 := Tryz.sizeOf75
  v72 := Tryz.zeroValue75
  t127 := Tryz.underlying90
  a127 := Tryz.isAgg90
  z127 := Tryz.sizeOf90
  v127 := Tryz.zeroValue90 }
theorem Tryz.Builder_Extra_169 : Builder.Extra Tryz.prog Tryz.lays169_ren := {
  sizeBuilder := by kernel_rfl
  liesBuilder := by kernel_rfl
  t5 := Tryz.underlying5
  a5 := Tryz.isAgg5
  z5 := Tryz.sizeOf5
  v5 := Tryz.zeroValue5
  infoByte := by kernel_rfl
  cellsByte := by kernel_rfl
  sizeByte := by kernel_rfl
  neB5 := by decide }
open Go.RowKit in
/-- (*strings.Builder).String: "String returns the accumulated string.": OF A BUILDER THAT HOLDS AT LEAST ONE BYTE. ✋ THE MODEL FREEZES THOSE BYTES IN THE BUFFER (unsafe.String): a later write INTO them ends the model's run without an answer; a later append BEHIND them goes on. The statement's order of evaluation is drawn: one draw. (LAID: no walk: one application.) -/
theorem Tryz.Builder_String (B b : Nat) (l : List UInt8) (w : World) (h : Lib.IsBuilder 75 5 B b (Lib.byteCells l) w) (h0 : l ≠ []) :
    Calls Tryz.prog 66 #[.pointer (some ⟨b, 0, none⟩)] w fun e w' => e = .returned (.string ⟨l.toArray⟩) ∧ Below B w w' := Any.Builder_String Tryz.lays169 Tryz.Builder_Extra_169 B b l w h h0
open Go.RowKit in
/-- (*strings.Builder).String OF A BUILDER THAT HOLDS NO BYTE: the empty string. (Its buffer is nil, or a row of which it has taken nothing yet; where that row has NO capacity the model lays one new block for unsafe.SliceData's 'some address'.) One draw. (LAID: no walk: one application.) -/
theorem Tryz.Builder_String_empty (B b : Nat) (w : World) (h : Lib.IsBuilder 75 5 B b [] w) (hBw : B ≤ w.heap.size) :
    Calls Tryz.prog 66 #[.pointer (some ⟨b, 0, none⟩)] w fun e w' => e = .returned (.string ⟨#[]⟩) ∧ Below B w w' := Any.Builder_String_empty Tryz.lays169 Tryz.Builder_Extra_169 B b w h hBw
open Go.RowKit in
/-- (*strings.Builder).String: "String returns the accumulated string.": WHATEVER THE BUILDER HOLDS. (LAID: no walk: one application.) -/
theorem Tryz.Builder_String_any (B b : Nat) (l : List UInt8) (w : World) (h : Lib.IsBuilder 75 5 B b (Lib.byteCells l) w) (hBw : B ≤ w.heap.size) :
    Calls Tryz.prog 66 #[.pointer (some ⟨b, 0, none⟩)] w fun e w' => e = .returned (.string ⟨l.toArray⟩) ∧ Below B w w' := Any.Builder_String_any Tryz.lays169 Tryz.Builder_Extra_169 B b l w h hBw
def Tryz.lays241_ren : Go.Shelf.Ren := ⟨fun | 241 => 80 | 277 => 92 | n => n, fun | 70 => 73 | 3 => 3 | 0 => 0 | 72 => 75 | 37 => 36 | 5 => 5 | n => n, fun | n => n⟩
theorem Tryz.lays241 : Go.Proofs.Lays.n241 Tryz.prog Tryz.lays241_ren := {
  mixed := by kernel_rfl
  f241 := Tryz.func80.trans (congrArg some (by kernel_rfl))
  f277 := Tryz.func92.trans (congrArg some (by kernel_rfl))
  t0 := Tryz.underlying0
  a0 := Tryz.isAgg0
  z0 := Tryz.sizeOf0
  v0 := Tryz.zeroValue0
  t3 := Tryz.underlying3
  a3 := Tryz.isAgg3
  z3 := Tryz.sizeOf3
  v3 := Tryz.zeroValue3
  t37 := Tryz.underlying36
  a37 := Tryz.isAgg36
  z37 := Tryz.sizeOf36
  v37 := Tryz.zeroValue36
  t70 := Tryz.underlying73
  a70 := Tryz.isAgg73
  z70 := Tryz.sizeOf73
  v70 := Tryz.zeroValue73
  t72 := Tryz.underlying75
  a72 := Tryz.isAgg75
  z72 := Tryz.sizeOf75
  v72 := Tryz.zeroValue75 }
theorem Tryz.Builder_Extra_241 : Builder.Extra Tryz.prog Tryz.lays241_ren := {
  sizeBuilder := by kernel_rfl
  liesBuilder := by kernel_rfl
  t5 := Tryz.underlying5
  a5 := Tryz.isAgg5
  z5 := Tryz.sizeOf5
  v5 := Tryz.zeroValue5
  infoByte := by kernel_rfl
  cellsByte := by kernel_rfl
  sizeByte := by kernel_rfl
  neB5 := by decide }
open Go.RowKit in
/-- (*strings.Builder).grow (no doc but "grow copies the buffer to a new, larger buffer so that there are at least n bytes of capacity beyond len(b.buf)."): AT A BUILDER WITHOUT A BUFFER: a new row of whatever bytes for its buffer, none of them its own yet. Three draws. (LAID: no walk: one application.) -/
theorem Tryz.Builder_grow_fresh (B b n : Nat) (w : World) (hB : B ≤ b) (hbk : w.heap[b]? = some (.cells #[.pointer (some ⟨b, 0, none⟩), .slice none 0 0] 75 (0, 0))) (hBw : B ≤ w.heap.size) (hn : n ≤ 281474976710656) :
    Calls Tryz.prog 80 #[.pointer (some ⟨b, 0, none⟩), .int .i64 n] w fun e w' => e = .returned (.tuple #[]) ∧ (Lib.BuilderAt 75 5 B b (.pointer (some ⟨b, 0, none⟩)) [] w' ∧ Below B w w') := Any.Builder_grow_fresh Tryz.lays241 Tryz.Builder_Extra_241 B b n w hB hbk hBw hn
def Tryz.lays165_ren : Go.Shelf.Ren := ⟨fun | 165 => 64 | 240 => 79 | 241 => 80 | 276 => 91 | 277 => 92 | n => n, fun | 70 => 73 | 3 => 3 | 0 => 0 | 4 => 4 | 9 => 9 | 20 => 20 | 72 => 75 | 37 => 36 | 164 => 104 | 5 => 5 | n => n, fun | n => n⟩
theorem Tryz.lays165 : Go.Proofs.Lays.n165 Tryz.prog Tryz.lays165_ren := {
  mixed := by kernel_rfl
  f165 := Tryz.func64.trans (congrArg some (by kernel_rfl))
  f240 := Tryz.func79.trans (congrArg some (by kernel_rfl))
  f241 := Tryz.func80.trans (congrArg some (by kernel_rfl))
  f276 := Tryz.func91.trans (congrArg some (by kernel_rfl))
  f277 := Tryz.func92.trans (congrArg some (by kernel_rfl))
  t0 := Tryz.underlying0
  a0 := Tryz.isAgg0
  z0 := Tryz.sizeOf0
  v0 := Tryz.zeroValue0
  t3 := Tryz.underlying3
  a3 := Tryz.isAgg3
  z3 := Tryz.sizeOf3
  v3 := Tryz.zeroValue3
  t4 := Tryz.underlying4
  a4 := Tryz.isAgg4
  z4 := Tryz.sizeOf4
  v4 := Tryz.zeroValue4
  t9 := Tryz.underlying9
  a9 := Tryz.isAgg9
  z9 := Tryz.sizeOf9
  v9 := Tryz.zeroValue9
  t20 := Tryz.underlying20
  a20 := Tryz.isAgg20
  z20 := Tryz.sizeOf20
  v20 := Tryz.zeroValue20
  t37 := Tryz.underlying36
  a37 := Tryz.isAgg36
  z37 := Tryz.sizeOf36
  v37 := Tryz.zeroValue36
  t70 := Tryz.underlying73
  a70 := Tryz.isAgg73
  z70 := Tryz.sizeOf73
  v70 := Tryz.zeroValue73
  t72 := Tryz.underlying75
  a72 := Tryz.isAgg75
  z72 := Tryz.sizeOf75
  v72 := Tryz.zeroValue75
  t164 := Tryz.underlying104
  a164 := Tryz.isAgg104
  z164 := Tryz.sizeOf104
  v164 := Tryz.zeroValue104 }
theorem Tryz.Builder_Extra_165 : Builder.Extra Tryz.prog Tryz.lays165_ren := {
  sizeBuilder := by kernel_rfl
  liesBuilder := by kernel_rfl
  t5 := Tryz.underlying5
  a5 := Tryz.isAgg5
  z5 := Tryz.sizeOf5
  v5 := Tryz.zeroValue5
  infoByte := by kernel_rfl
  cellsByte := by kernel_rfl
  sizeByte := by kernel_rfl
  neB5 := by decide }
open Go.RowKit in
/-- (*strings.Builder).Grow AT A BUILDER THAT HAS NOT BEEN WRITTEN ('var b strings.Builder; b.Grow(n)'): "Grow grows b's capacity, if necessary, to guarantee space for another n bytes.": it holds no byte behind it as before it. (LAID: no walk: one application.) -/
theorem Tryz.Builder_Grow_fresh (B b n : Nat) (w : World) (hB : B ≤ b) (hbk : w.heap[b]? = some (.cells #[.pointer none, .slice none 0 0] 75 (0, 0))) (hBw : B ≤ w.heap.size) (hn : n ≤ 281474976710656) :
    Calls Tryz.prog 64 #[.pointer (some ⟨b, 0, none⟩), .int .i64 n] w fun e w' => e = .returned (.tuple #[]) ∧ (Lib.BuilderAt 75 5 B b (.pointer (some ⟨b, 0, none⟩)) [] w' ∧ Below B w w') := Any.Builder_Grow_fresh Tryz.lays165 Tryz.Builder_Extra_165 B b n w hB hbk hBw hn
def Tryz.lays156_ren : Go.Shelf.Ren := ⟨fun | 156 => 47 | 165 => 64 | 166 => 65 | 169 => 66 | 240 => 79 | 241 => 80 | 276 => 91 | 277 => 92 | n => n, fun | 31 => 61 | 9 => 9 | 3 => 3 | 4 => 4 | 0 => 0 | 20 => 20 | 72 => 75 | 76 => 79 | 70 => 73 | 37 => 36 | 75 => 78 | 127 => 90 | 164 => 104 | 5 => 5 | 80 => 81 | n => n, fun | n => n⟩
theorem Tryz.lays156 : Go.Proofs.Lays.n156 Tryz.prog Tryz.lays156_ren := {
  mixed := by kernel_rfl
  f156 := Tryz.func47.trans (congrArg some (by kernel_rfl))
  f165 := Tryz.func64.trans (congrArg some (by kernel_rfl))
  f166 := Tryz.func65.trans (congrArg some (by kernel_rfl))
  f169 := Tryz.func66.trans (congrArg some (by kernel_rfl))
  f240 := Tryz.func79.trans (congrArg some (by kernel_rfl))
  f241 := Tryz.func80.trans (congrArg some (by kernel_rfl))
  f276 := Tryz.func91.trans (congrArg some (by kernel_rfl))
  f277 := Tryz.func92.trans (congrArg some (by kernel_rfl))
  t0 := Tryz.underlying0
  a0 := Tryz.isAgg0
  z0 := Tryz.sizeOf0
  v0 := Tryz.zeroValue0
  t3 := Tryz.underlying3
  a3 := Tryz.isAgg3
  z3 := Tryz.sizeOf3
  v3 := Tryz.zeroValue3
  t4 := Tryz.underlying4
  a4 := Tryz.isAgg4
  z4 := Tryz.sizeOf4
  v4 := Tryz.zeroValue4
  t9 := Tryz.underlying9
  a9 := Tryz.isAgg9
  z9 := Tryz.sizeOf9
  v9 := Tryz.zeroValue9
  t20 := Tryz.underlying20
  a20 := Tryz.isAgg20
  z20 := Tryz.sizeOf20
  v20 := Tryz.zeroValue20
  t31 := Tryz.underlying61
  a31 := Tryz.isAgg61
  z31 := Tryz.sizeOf61
  v31 := Tryz.zeroValue61
  t37 := Tryz.underlying36
  a37 := Tryz.isAgg36
  z37 := Tryz.sizeOf36
  v37 := Tryz.zeroValue36
  t70 := Tryz.underlying73
  a70 := Tryz.isAgg73
  z70 := Tryz.sizeOf73
  v70 := Tryz.zeroValue73
  t72 := Tryz.underlying75
  a72 := Tryz.isAgg75
  z72 := Tryz.sizeOf75
  v72 := Tryz.zeroValue75
  t75 := Tryz.underlying78
  a75 := Tryz.isAgg78
  z75 := Tryz.sizeOf78
  v75 := Tryz.zeroValue78
  t76 := Tryz.underlying79
  a76 := Tryz.isAgg79
  z76 := Tryz.sizeOf79
  v76 := Tryz.zeroValue79
  t127 := Tryz.underlying90
  a127 := Tryz.isAgg90
  z127 := Tryz.sizeOf90
  v127 := Tryz.zeroValue90
  t164 := Tryz.underlying104
  a164 := Tryz.isAgg104
  z164 := Tryz.sizeOf104
  v164 := Tryz.zeroValue104 }
theorem Tryz.Builder_Extra_156 : Builder.Extra Tryz.prog Tryz.lays156_ren := {
  sizeBuilder := by kernel_rfl
  liesBuilder := by kernel_rfl
  t5 := Tryz.underlying5
  a5 := Tryz.isAgg5
  z5 := Tryz.sizeOf5
  v5 := Tryz.zeroValue5
  infoByte := by kernel_rfl
  cellsByte := by kernel_rfl
  sizeByte := by kernel_rfl
  neB5 := by decide }
open Go.RowKit in
/-- No element: the empty string; the world is as it was. (Whatever the slice's address and capacity: a nil slice too.) (LAID: no walk: one application.) -/
theorem Tryz.strings_Join_none (a : Option Addr) (c : Nat) (sep : ByteArray) (w : World) :
    Calls Tryz.prog 47 #[.slice a 0 c, .string sep] w fun e w' => e = .returned (.string ⟨#[]⟩) ∧ w' = w := Any.strings_Join_none Tryz.lays156 Tryz.Builder_Extra_156 a c sep w
open Go.RowKit in
/-- strings.Join: "Join concatenates the elements of its first argument to create a single string. The separator string sep is placed between elements in the resulting string.": HOWEVER MANY ELEMENTS. Below the heap's end the world is as it was. (LAID: no walk: one application.) -/
theorem Tryz.strings_Join (bk o c : Nat) (xs : List ByteArray) (sep : ByteArray) (w : World) (hcells : ∀ (j : Nat) x, xs[j]? = some x → w.cell? ⟨bk, o + j, none⟩ = some (.string x)) (hbk : bk < w.heap.size) (hN : xs.length ≤ 140737488355328) (hcap : xs.length ≤ c) (hlen : (Lib.join (xs.map (·.data.toList)) sep.data.toList).length ≤ 140737488355328) :
    Calls Tryz.prog 47 #[.slice (some ⟨bk, o, none⟩) xs.length c, .string sep] w fun e w' => e = .returned (.string ⟨(Lib.join (xs.map (·.data.toList)) sep.data.toList).toArray⟩) ∧ Below w.heap.size w w' := Any.strings_Join Tryz.lays156 Tryz.Builder_Extra_156 bk o c xs sep w hcells hbk hN hcap hlen
def Tryz.lays119_ren : Go.Shelf.Ren := ⟨fun | 119 => 115 | n => n, fun | 21 => 21 | 4 => 4 | n => n, fun | n => n⟩
theorem Tryz.lays119 : Go.Proofs.Lays.n119 Tryz.prog Tryz.lays119_ren := {
  mixed := by kernel_rfl
  f119 := Tryz.func115.trans (congrArg some (by kernel_rfl))
  t4 := Tryz.underlying4
  a4 := Tryz.isAgg4
  z4 := Tryz.sizeOf4
  v4 := Tryz.zeroValue4
  t21 := Tryz.underlying21
  a21 := Tryz.isAgg21
  z21 := Tryz.sizeOf21
  v21 := Tryz.zeroValue21 }
/-- utf8.ValidRune: "ValidRune reports whether r can be legally encoded as UTF-8. Code points that are out of range or a surrogate half are illegal.": IT RETURNS 'Lib.validRune r'; the world is as it was. (LAID: no walk: one application.) -/
theorem Tryz.utf8_ValidRune (r : Int) (w : World) :
    Calls Tryz.prog 115 #[.int .i32 r] w fun e w' => e = .returned (.bool (Lib.validRune r)) ∧ w' = w := Any.utf8_ValidRune Tryz.lays119 r w
def Tryz.lays213_ren : Go.Shelf.Ren := ⟨fun | 213 => 56 | 265 => 70 | n => n, fun | 9 => 9 | 3 => 3 | n => n, fun | n => n⟩
theorem Tryz.lays213 : Go.Proofs.Lays.n213 Tryz.prog Tryz.lays213_ren := {
  mixed := by kernel_rfl
  f213 := Tryz.func56.trans (congrArg some (by kernel_rfl))
  f265 := Tryz.func70.trans (congrArg some (by kernel_rfl))
  t3 := Tryz.underlying3
  a3 := Tryz.isAgg3
  z3 := Tryz.sizeOf3
  v3 := Tryz.zeroValue3
  t9 := Tryz.underlying9
  a9 := Tryz.isAgg9
  z9 := Tryz.sizeOf9
  v9 := Tryz.zeroValue9 }
open Go.RowKit in
/-- internal/bytealg.CompareString (what strings.Compare calls): IT RETURNS 'Lib.compareBytes a b'; the world is as it was. (LAID: no walk: one application.) -/
theorem Tryz.bytealg_CompareString (a b : ByteArray) (w : World) :
    Calls Tryz.prog 56 #[.string a, .string b] w fun e w' => e = .returned (.int .i64 (Lib.compareBytes a.data.toList b.data.toList)) ∧ w' = w := Any.bytealg_CompareString Tryz.lays213 a b w
def Tryz.lays106_ren : Go.Shelf.Ren := ⟨fun | 106 => 34 | 213 => 56 | 265 => 70 | n => n, fun | 9 => 9 | 3 => 3 | n => n, fun | n => n⟩
theorem Tryz.lays106 : Go.Proofs.Lays.n106 Tryz.prog Tryz.lays106_ren := {
  mixed := by kernel_rfl
  f106 := Tryz.func34.trans (congrArg some (by kernel_rfl))
  f213 := Tryz.func56.trans (congrArg some (by kernel_rfl))
  f265 := Tryz.func70.trans (congrArg some (by kernel_rfl))
  t3 := Tryz.underlying3
  a3 := Tryz.isAgg3
  z3 := Tryz.sizeOf3
  v3 := Tryz.zeroValue3
  t9 := Tryz.underlying9
  a9 := Tryz.isAgg9
  z9 := Tryz.sizeOf9
  v9 := Tryz.zeroValue9 }
open Go.RowKit in
/-- strings.Compare: "Compare returns an integer comparing two strings lexicographically. The result will be 0 if a == b, -1 if a < b, and +1 if a > b.": IT RETURNS 'Lib.compareBytes a b'; the world is as it was. (LAID: no walk: one application.) -/
theorem Tryz.strings_Compare (a b : ByteArray) (w : World) :
    Calls Tryz.prog 34 #[.string a, .string b] w fun e w' => e = .returned (.int .i64 (Lib.compareBytes a.data.toList b.data.toList)) ∧ w' = w := Any.strings_Compare Tryz.lays106 a b w
def Tryz.lays215_ren : Go.Shelf.Ren := ⟨fun | 215 => 52 | n => n, fun | 3 => 3 | 4 => 4 | n => n, fun | n => n⟩
theorem Tryz.lays215 : Go.Proofs.Lays.n215 Tryz.prog Tryz.lays215_ren := {
  mixed := by kernel_rfl
  f215 := Tryz.func52.trans (congrArg some (by kernel_rfl))
  t3 := Tryz.underlying3
  a3 := Tryz.isAgg3
  z3 := Tryz.sizeOf3
  v3 := Tryz.zeroValue3
  t4 := Tryz.underlying4
  a4 := Tryz.isAgg4
  z4 := Tryz.sizeOf4
  v4 := Tryz.zeroValue4 }
open Go.RowKit in
/-- cmp.isNaN at int: 'x != x': false. (LAID: no walk: one application.) -/
theorem Tryz.cmp_isNaN_int (x : Int) (w : World) :
    Calls Tryz.prog 52 #[.int .i64 x] w fun e w' => e = .returned (.bool false) ∧ w' = w := Any.cmp_isNaN_int Tryz.lays215 x w
def Tryz.lays122_ren : Go.Shelf.Ren := ⟨fun | 122 => 30 | 215 => 52 | n => n, fun | 3 => 3 | 4 => 4 | n => n, fun | n => n⟩
theorem Tryz.lays122 : Go.Proofs.Lays.n122 Tryz.prog Tryz.lays122_ren := {
  mixed := by kernel_rfl
  f122 := Tryz.func30.trans (congrArg some (by kernel_rfl))
  f215 := Tryz.func52.trans (congrArg some (by kernel_rfl))
  t3 := Tryz.underlying3
  a3 := Tryz.isAgg3
  z3 := Tryz.sizeOf3
  v3 := Tryz.zeroValue3
  t4 := Tryz.underlying4
  a4 := Tryz.isAgg4
  z4 := Tryz.sizeOf4
  v4 := Tryz.zeroValue4 }
open Go.RowKit in
/-- cmp.Compare at int: "Compare returns -1 if x is less than y, 0 if x equals y, +1 if x is greater than y.": IT RETURNS 'Lib.compareInt x y'; the world is as it was. (LAID: no walk: one application.) -/
theorem Tryz.cmp_Compare_int (x y : Int) (w : World) :
    Calls Tryz.prog 30 #[.int .i64 x, .int .i64 y] w fun e w' => e = .returned (.int .i64 (Lib.compareInt x y)) ∧ w' = w := Any.cmp_Compare_int Tryz.lays122 x y w
open Go.RowKit in
/-- (*strings.Builder).String: "String returns the accumulated string.": OF A BUILDER THAT HOLDS AT LEAST ONE BYTE. ✋ THE MODEL FREEZES THOSE BYTES IN THE BUFFER (unsafe.String): a later write INTO them ends the model's run without an answer; a later append BEHIND them goes on. The statement's order of evaluation is drawn: one draw. THE FORM '_f': IT SAYS BESIDES THAT THE BUILDER IS A BUILDER STILL ('Lib.IsBuilderF', the same bytes): SO IT CAN BE WRITTEN ON: 'b.WriteString(b.String()[:k])'. (LAID: no walk: one application.) -/
theorem Tryz.Builder_String_f (B b : Nat) (l : List UInt8) (w : World) (h : Lib.IsBuilderF 75 5 B b (Lib.byteCells l) w) (h0 : l ≠ []) :
    Calls Tryz.prog 66 #[.pointer (some ⟨b, 0, none⟩)] w fun e w' => e = .returned (.string ⟨l.toArray⟩) ∧ (Lib.IsBuilderF 75 5 B b (Lib.byteCells l) w' ∧ Below B w w') := Any.Builder_String_f Tryz.lays169 Tryz.Builder_Extra_169 B b l w h h0
open Go.RowKit in
/-- (*strings.Builder).String OF A BUILDER THAT HOLDS NO BYTE: the empty string; THE FORM '_f': a builder still. (LAID: no walk: one application.) -/
theorem Tryz.Builder_String_empty_f (B b : Nat) (w : World) (h : Lib.IsBuilderF 75 5 B b [] w) (hBw : B ≤ w.heap.size) :
    Calls Tryz.prog 66 #[.pointer (some ⟨b, 0, none⟩)] w fun e w' => e = .returned (.string ⟨#[]⟩) ∧ (Lib.IsBuilderF 75 5 B b [] w' ∧ Below B w w') := Any.Builder_String_empty_f Tryz.lays169 Tryz.Builder_Extra_169 B b w h hBw
open Go.RowKit in
/-- (*strings.Builder).String: "String returns the accumulated string.": WHATEVER THE BUILDER HOLDS; THE FORM '_f': OF A BUILDER THAT MAY HAVE BEEN READ BEFORE; AND IT IS A BUILDER STILL, holding the same bytes: it can be written on. (LAID: no walk: one application.) -/
theorem Tryz.Builder_String_any_f (B b : Nat) (l : List UInt8) (w : World) (h : Lib.IsBuilderF 75 5 B b (Lib.byteCells l) w) (hBw : B ≤ w.heap.size) :
    Calls Tryz.prog 66 #[.pointer (some ⟨b, 0, none⟩)] w fun e w' => e = .returned (.string ⟨l.toArray⟩) ∧ (Lib.IsBuilderF 75 5 B b (Lib.byteCells l) w' ∧ Below B w w') := Any.Builder_String_any_f Tryz.lays169 Tryz.Builder_Extra_169 B b l w h hBw
open Go.RowKit in
/-- (*strings.Builder).String: "String returns the accumulated string.": OF A BUILDER THAT HOLDS AT LEAST ONE BYTE. ✋ THE MODEL FREEZES THOSE BYTES IN THE BUFFER (unsafe.String): a later write INTO them ends the model's run without an answer; a later append BEHIND them goes on. The statement's order of evaluation is drawn: one draw. THE FORM '_k': OVER 'Lib.IsBuilderF' (a builder that 'String()' may have read), AND WITH THE FRAME THAT REACHES ABOVE THE BUILDER: 'Lib.OthersKept': every block that is not b and is no row of uint8's stands as it stood: the iterator of a range among them. (LAID: no walk: one application.) -/
theorem Tryz.Builder_String_k (B b : Nat) (l : List UInt8) (w : World) (h : Lib.IsBuilderF 75 5 B b (Lib.byteCells l) w) (h0 : l ≠ []) :
    Calls Tryz.prog 66 #[.pointer (some ⟨b, 0, none⟩)] w fun e w' => e = .returned (.string ⟨l.toArray⟩) ∧ (Lib.IsBuilderF 75 5 B b (Lib.byteCells l) w' ∧ Below B w w' ∧ Lib.OthersKept 5 (some b) w w') := Any.Builder_String_k Tryz.lays169 Tryz.Builder_Extra_169 B b l w h h0
open Go.RowKit in
/-- (*strings.Builder).String OF A BUILDER THAT HOLDS NO BYTE: the empty string; THE FORM '_k': OVER 'Lib.IsBuilderF' (a builder that 'String()' may have read), AND WITH THE FRAME THAT REACHES ABOVE THE BUILDER: 'Lib.OthersKept': every block that is not b and is no row of uint8's stands as it stood: the iterator of a range among them. (LAID: no walk: one application.) -/
theorem Tryz.Builder_String_empty_k (B b : Nat) (w : World) (h : Lib.IsBuilderF 75 5 B b [] w) (hBw : B ≤ w.heap.size) :
    Calls Tryz.prog 66 #[.pointer (some ⟨b, 0, none⟩)] w fun e w' => e = .returned (.string ⟨#[]⟩) ∧ (Lib.IsBuilderF 75 5 B b [] w' ∧ Below B w w' ∧ Lib.OthersKept 5 (some b) w w') := Any.Builder_String_empty_k Tryz.lays169 Tryz.Builder_Extra_169 B b w h hBw
open Go.RowKit in
/-- (*strings.Builder).String: "String returns the accumulated string.": WHATEVER THE BUILDER HOLDS; THE FORM '_k': OVER 'Lib.IsBuilderF' (a builder that 'String()' may have read), AND WITH THE FRAME THAT REACHES ABOVE THE BUILDER: 'Lib.OthersKept': every block that is not b and is no row of uint8's stands as it stood: the iterator of a range among them. (LAID: no walk: one application.) -/
theorem Tryz.Builder_String_any_k (B b : Nat) (l : List UInt8) (w : World) (h : Lib.IsBuilderF 75 5 B b (Lib.byteCells l) w) (hBw : B ≤ w.heap.size) :
    Calls Tryz.prog 66 #[.pointer (some ⟨b, 0, none⟩)] w fun e w' => e = .returned (.string ⟨l.toArray⟩) ∧ (Lib.IsBuilderF 75 5 B b (Lib.byteCells l) w' ∧ Below B w w' ∧ Lib.OthersKept 5 (some b) w w') := Any.Builder_String_any_k Tryz.lays169 Tryz.Builder_Extra_169 B b l w h hBw
def Tryz.lays278_ren : Go.Shelf.Ren := ⟨fun | 278 => 139 | n => n, fun | 37 => 36 | 21 => 21 | 51 => 97 | 4 => 4 | 46 => 99 | 5 => 5 | n => n, fun | n => n⟩
theorem Tryz.lays278 : Go.Proofs.Lays.n278 Tryz.prog Tryz.lays278_ren := {
  mixed := by kernel_rfl
  f278 := Tryz.func139.trans (congrArg some (by kernel_rfl))
  t4 := Tryz.underlying4
  a4 := Tryz.isAgg4
  z4 := Tryz.sizeOf4
  v4 := Tryz.zeroValue4
  t5 := Tryz.underlying5
  a5 := Tryz.isAgg5
  z5 := Tryz.sizeOf5
  v5 := Tryz.zeroValue5
  t21 := Tryz.underlying21
  a21 := Tryz.isAgg21
  z21 := Tryz.sizeOf21
  v21 := Tryz.zeroValue21
  t37 := Tryz.underlying36
  a37 := Tryz.isAgg36
  z37 := Tryz.sizeOf36
  v37 := Tryz.zeroValue36
  t46 := Tryz.underlying99
  a46 := Tryz.isAgg99
  z46 := Tryz.sizeOf99
  v46 := Tryz.zeroValue99
  t51 := Tryz.underlying97
  a51 := Tryz.isAgg97
  z51 := Tryz.sizeOf97
  v51 := Tryz.zeroValue97 }
open Go.RowKit in
/-- unicode/utf8.appendRuneNonASCII (what AppendRune calls for all but ASCII), ONTO A ROW OF BYTES THAT THE CALL OWNS: every int32 that is no ASCII rune: 'Lib.runeCells r' goes in behind what the row holds. (LAID: no walk: one application.) -/
theorem Tryz.utf8_appendRuneNonASCII_row (B : Nat) (v : Value) (n : Nat) (xs : List Value) (r : Int) (hr0 : -2147483648 ≤ r) (hr1 : r ≤ 2147483647) (hna : r < 0 ∨ 128 ≤ r) (w : World) (hown : w.ownsRowF B 5 1 v n xs) (hlen : n + 4 ≤ 140737488355328) (hBw : B ≤ w.heap.size) :
    Calls Tryz.prog 139 #[v, .int .i32 r] w fun e w' => ∃ v', e = .returned v' ∧ w'.ownsRowF B 5 1 v' (n + (Lib.runeCells r).length) (xs ++ Lib.runeCells r) ∧ ∃ o, (w.alloc o).grownBy w' v.ownBlock := Any.utf8_appendRuneNonASCII_row Tryz.lays278 (by kernel_rfl) B v n xs r hr0 hr1 hna w hown hlen hBw
def Tryz.lays242_ren : Go.Shelf.Ren := ⟨fun | 242 => 114 | 278 => 139 | n => n, fun | 37 => 36 | 21 => 21 | 51 => 97 | 4 => 4 | 5 => 5 | 46 => 99 | n => n, fun | n => n⟩
theorem Tryz.lays242 : Go.Proofs.Lays.n242 Tryz.prog Tryz.lays242_ren := {
  mixed := by kernel_rfl
  f242 := Tryz.func114.trans (congrArg some (by kernel_rfl))
  f278 := Tryz.func139.trans (congrArg some (by kernel_rfl))
  t4 := Tryz.underlying4
  a4 := Tryz.isAgg4
  z4 := Tryz.sizeOf4
  v4 := Tryz.zeroValue4
  t5 := Tryz.underlying5
  a5 := Tryz.isAgg5
  z5 := Tryz.sizeOf5
  v5 := Tryz.zeroValue5
  t21 := Tryz.underlying21
  a21 := Tryz.isAgg21
  z21 := Tryz.sizeOf21
  v21 := Tryz.zeroValue21
  t37 := Tryz.underlying36
  a37 := Tryz.isAgg36
  z37 := Tryz.sizeOf36
  v37 := Tryz.zeroValue36
  t46 := Tryz.underlying99
  a46 := Tryz.isAgg99
  z46 := Tryz.sizeOf99
  v46 := Tryz.zeroValue99
  t51 := Tryz.underlying97
  a51 := Tryz.isAgg97
  z51 := Tryz.sizeOf97
  v51 := Tryz.zeroValue97 }
open Go.RowKit in
/-- unicode/utf8.AppendRune: "AppendRune appends the UTF-8 encoding of r to the end of p and returns the extended buffer. If the rune is out of range, it appends the encoding of RuneError.": ONTO A ROW OF BYTES THAT THE CALL OWNS (its head frozen or not): EVERY int32: 'Lib.runeCells r' goes in behind what the row holds; the world: one new block (the bytes as the call's variadic argument), then what 'append' does to the row. (LAID: no walk: one application.) -/
theorem Tryz.utf8_AppendRune_row (B : Nat) (v : Value) (n : Nat) (xs : List Value) (r : Int) (hr0 : -2147483648 ≤ r) (hr1 : r ≤ 2147483647) (w : World) (hown : w.ownsRowF B 5 1 v n xs) (hlen : n + 4 ≤ 140737488355328) (hBw : B ≤ w.heap.size) :
    Calls Tryz.prog 114 #[v, .int .i32 r] w fun e w' => ∃ v', e = .returned v' ∧ w'.ownsRowF B 5 1 v' (n + (Lib.runeCells r).length) (xs ++ Lib.runeCells r) ∧ ∃ o, (w.alloc o).grownBy w' v.ownBlock := Any.utf8_AppendRune_row Tryz.lays242 (by kernel_rfl) B v n xs r hr0 hr1 w hown hlen hBw
def Tryz.lays345_ren : Go.Shelf.Ren := ⟨fun | 345 => 137 | n => n, fun | 234 => 149 | 49 => 148 | 3 => 3 | 4 => 4 | 46 => 99 | 0 => 0 | n => n, fun | n => n⟩
theorem Tryz.lays345 : Go.Proofs.Lays.n345 Tryz.prog Tryz.lays345_ren := {
  mixed := by kernel_rfl
  f345 := Tryz.func137.trans (congrArg some (by kernel_rfl))
  t0 := Tryz.underlying0
  a0 := Tryz.isAgg0
  z0 := Tryz.sizeOf0
  v0 := Tryz.zeroValue0
  t3 := Tryz.underlying3
  a3 := Tryz.isAgg3
  z3 := Tryz.sizeOf3
  v3 := Tryz.zeroValue3
  t4 := Tryz.underlying4
  a4 := Tryz.isAgg4
  z4 := Tryz.sizeOf4
  v4 := Tryz.zeroValue4
  t46 := Tryz.underlying99
  a46 := Tryz.isAgg99
  z46 := Tryz.sizeOf99
  v46 := Tryz.zeroValue99
  t49 := Tryz.underlying148
  a49 := Tryz.isAgg148
  z49 := Tryz.sizeOf148
  v49 := Tryz.zeroValue148
  t234 := Tryz.underlying149
  a234 := Tryz.isAgg149
  z234 := Tryz.sizeOf149
  v234 := Tryz.zeroValue149 }
open Go.RowKit in
/-- strconv.bsearch[[]uint16,uint16]: a table of whatever numbers (sorted or not: WHAT IS SAID IS WHAT THE LOOP COMPUTES: 'Lib.bsearchI', 'Lib.bsearchFound'), at least one of them; draws alone (the last statement's order); nothing else turns. (LAID: no walk: one application.) -/
theorem Tryz.strconv_bsearch16 (R o c : Nat) (t : List Nat) (v : Nat) (w : World) (h0 : 0 < t.length) (hn : t.length ≤ 4611686018427387904) (hc : ∀ j, j < t.length → w.cell? ⟨R, o + j, none⟩ = some (.int .u16 (t.getD j 0))) :
    Calls Tryz.prog 137 #[.slice (some ⟨R, o, none⟩) t.length c, .int .u16 v] w fun e w' => e = .returned (.tuple #[.int .i64 (Lib.bsearchI t v), .bool (Lib.bsearchFound t v)]) ∧ ∃ q, w' = w.drewN q := Any.strconv_bsearch16 Tryz.lays345 R o c t v w h0 hn hc
def Tryz.lays346_ren : Go.Shelf.Ren := ⟨fun | 346 => 138 | n => n, fun | 236 => 152 | 51 => 97 | 3 => 3 | 4 => 4 | 46 => 99 | 0 => 0 | n => n, fun | n => n⟩
theorem Tryz.lays346 : Go.Proofs.Lays.n346 Tryz.prog Tryz.lays346_ren := {
  mixed := by kernel_rfl
  f346 := Tryz.func138.trans (congrArg some (by kernel_rfl))
  t0 := Tryz.underlying0
  a0 := Tryz.isAgg0
  z0 := Tryz.sizeOf0
  v0 := Tryz.zeroValue0
  t3 := Tryz.underlying3
  a3 := Tryz.isAgg3
  z3 := Tryz.sizeOf3
  v3 := Tryz.zeroValue3
  t4 := Tryz.underlying4
  a4 := Tryz.isAgg4
  z4 := Tryz.sizeOf4
  v4 := Tryz.zeroValue4
  t46 := Tryz.underlying99
  a46 := Tryz.isAgg99
  z46 := Tryz.sizeOf99
  v46 := Tryz.zeroValue99
  t51 := Tryz.underlying97
  a51 := Tryz.isAgg97
  z51 := Tryz.sizeOf97
  v51 := Tryz.zeroValue97
  t236 := Tryz.underlying152
  a236 := Tryz.isAgg152
  z236 := Tryz.sizeOf152
  v236 := Tryz.zeroValue152 }
open Go.RowKit in
/-- strconv.bsearch[[]uint32,uint32]: a table of whatever numbers (sorted or not: WHAT IS SAID IS WHAT THE LOOP COMPUTES: 'Lib.bsearchI', 'Lib.bsearchFound'), at least one of them; draws alone (the last statement's order); nothing else turns. (LAID: no walk: one application.) -/
theorem Tryz.strconv_bsearch32 (R o c : Nat) (t : List Nat) (v : Nat) (w : World) (h0 : 0 < t.length) (hn : t.length ≤ 4611686018427387904) (hc : ∀ j, j < t.length → w.cell? ⟨R, o + j, none⟩ = some (.int .u32 (t.getD j 0))) :
    Calls Tryz.prog 138 #[.slice (some ⟨R, o, none⟩) t.length c, .int .u32 v] w fun e w' => e = .returned (.tuple #[.int .i64 (Lib.bsearchI t v), .bool (Lib.bsearchFound t v)]) ∧ ∃ q, w' = w.drewN q := Any.strconv_bsearch32 Tryz.lays346 R o c t v w h0 hn hc
def Tryz.lays339_ren : Go.Shelf.Ren := ⟨fun | 339 => 112 | 345 => 137 | 346 => 138 | n => n, fun | 21 => 21 | 4 => 4 | 49 => 148 | 234 => 149 | 131 => 150 | 3 => 3 | 0 => 0 | 51 => 97 | 236 => 152 | 46 => 99 | n => n, fun | 20 => 8 | 21 => 9 | 22 => 10 | 23 => 11 | n => n⟩
theorem Tryz.lays339 : Go.Proofs.Lays.n339 Tryz.prog Tryz.lays339_ren := {
  mixed := by kernel_rfl
  f339 := Tryz.func112.trans (congrArg some (by kernel_rfl))
  f345 := Tryz.func137.trans (congrArg some (by kernel_rfl))
  f346 := Tryz.func138.trans (congrArg some (by kernel_rfl))
  t0 := Tryz.underlying0
  a0 := Tryz.isAgg0
  z0 := Tryz.sizeOf0
  v0 := Tryz.zeroValue0
  t3 := Tryz.underlying3
  a3 := Tryz.isAgg3
  z3 := Tryz.sizeOf3
  v3 := Tryz.zeroValue3
  t4 := Tryz.underlying4
  a4 := Tryz.isAgg4
  z4 := Tryz.sizeOf4
  v4 := Tryz.zeroValue4
  t21 := Tryz.underlying21
  a21 := Tryz.isAgg21
  z21 := Tryz.sizeOf21
  v21 := Tryz.zeroValue21
  t46 := Tryz.underlying99
  a46 := Tryz.isAgg99
  z46 := Tryz.sizeOf99
  v46 := Tryz.zeroValue99
  t49 := Tryz.underlying148
  a49 := Tryz.isAgg148
  z49 := Tryz.sizeOf148
  v49 := Tryz.zeroValue148
  t51 := Tryz.underlying97
  a51 := Tryz.isAgg97
  z51 := Tryz.sizeOf97
  v51 := Tryz.zeroValue97
  t131 := Tryz.underlying150
  a131 := Tryz.isAgg150
  z131 := Tryz.sizeOf150
  v131 := Tryz.zeroValue150
  t234 := Tryz.underlying149
  a234 := Tryz.isAgg149
  z234 := Tryz.sizeOf149
  v234 := Tryz.zeroValue149
  t236 := Tryz.underlying152
  a236 := Tryz.isAgg152
  z236 := Tryz.sizeOf152
  v236 := Tryz.zeroValue152
  g20 := by kernel_rfl
  g21 := by kernel_rfl
  g22 := by kernel_rfl
  g23 := by kernel_rfl }
open Go.RowKit in
/-- strconv.IsPrint AT r ≤ 0xFF, negative ones too ('Fast check for Latin-1'): no table is read; nothing turns. (LAID: no walk: one application.) -/
theorem Tryz.strconv_IsPrint_latin (r : Int) (w : World) (hr : r ≤ 255) :
    Calls Tryz.prog 112 #[.int .i32 r] w fun e w' => e = .returned (.bool (Lib.isPrintLatin r)) ∧ w' = w := Any.strconv_IsPrint_latin Tryz.lays339 r w hr
open Go.RowKit in
/-- strconv.IsPrint AT 0xFF < r < 0x10000: two of the four tables are read. (LAID: no walk: one application.) -/
theorem Tryz.strconv_IsPrint_16 (T : Lib.PrintTabs) (r : Nat) (w : World) (h1 : 255 < r) (h2 : r < 65536) (hT : Lib.PrintTabsAt 8 9 10 11 T w) :
    Calls Tryz.prog 112 #[.int .i32 r] w fun e w' => e = .returned (.bool (Lib.isPrintR T r)) ∧ ∃ q, w' = w.drewN q := Any.strconv_IsPrint_16 Tryz.lays339 T r w h1 h2 hT
open Go.RowKit in
/-- strconv.IsPrint AT 0xFFFF < r (an int32): the two other tables are read. (LAID: no walk: one application.) -/
theorem Tryz.strconv_IsPrint_32 (T : Lib.PrintTabs) (r : Nat) (w : World) (h1 : 65535 < r) (h2 : r < 2147483648) (hT : Lib.PrintTabsAt 8 9 10 11 T w) :
    Calls Tryz.prog 112 #[.int .i32 r] w fun e w' => e = .returned (.bool (Lib.isPrintR T r)) ∧ ∃ q, w' = w.drewN q := Any.strconv_IsPrint_32 Tryz.lays339 T r w h1 h2 hT
open Go.RowKit in
/-- strconv.IsPrint AT EVERY int32: 'Lib.isPrintR T r', the four tables as 'Lib.PrintTabsAt' says; draws alone. (LAID: no walk: one application.) -/
theorem Tryz.strconv_IsPrint (T : Lib.PrintTabs) (r : Int) (w : World) (hlo : -2147483648 ≤ r) (hhi : r ≤ 2147483647) (hT : Lib.PrintTabsAt 8 9 10 11 T w) :
    Calls Tryz.prog 112 #[.int .i32 r] w fun e w' => e = .returned (.bool (Lib.isPrintR T r)) ∧ ∃ q, w' = w.drewN q := Any.strconv_IsPrint Tryz.lays339 T r w hlo hhi hT
def Tryz.lays323_ren : Go.Shelf.Ren := ⟨fun | 323 => 90 | 339 => 112 | 340 => 113 | 242 => 114 | 119 => 115 | 345 => 137 | 346 => 138 | 278 => 139 | n => n, fun | 37 => 36 | 21 => 21 | 5 => 5 | 4 => 4 | 9 => 9 | 46 => 99 | 3 => 3 | 49 => 148 | 234 => 149 | 131 => 150 | 0 => 0 | 51 => 97 | 236 => 152 | n => n, fun | 20 => 8 | 21 => 9 | 22 => 10 | 23 => 11 | 24 => 12 | n => n⟩
theorem Tryz.lays323 : Go.Proofs.Lays.n323 Tryz.prog Tryz.lays323_ren := {
  mixed := by kernel_rfl
  f119 := Tryz.func115.trans (congrArg some (by kernel_rfl))
  f242 := Tryz.func114.trans (congrArg some (by kernel_rfl))
  f278 := Tryz.func139.trans (congrArg some (by kernel_rfl))
  f323 := Tryz.func90.trans (congrArg some (by kernel_rfl))
  f339 := Tryz.func112.trans (congrArg some (by kernel_rfl))
  f340 := Tryz.func113.trans (congrArg some (by kernel_rfl))
  f345 := Tryz.func137.trans (congrArg some (by kernel_rfl))
  f346 := Tryz.func138.trans (congrArg some (by kernel_rfl))
  t0 := Tryz.underlying0
  a0 := Tryz.isAgg0
  z0 := Tryz.sizeOf0
  v0 := Tryz.zeroValue0
  t3 := Tryz.underlying3
  a3 := Tryz.isAgg3
  z3 := Tryz.sizeOf3
  v3 := Tryz.zeroValue3
  t4 := Tryz.underlying4
  a4 := Tryz.isAgg4
  z4 := Tryz.sizeOf4
  v4 := Tryz.zeroValue4
  t5 := Tryz.underlying5
  a5 := Tryz.isAgg5
  z5 := Tryz.sizeOf5
  v5 := Tryz.zeroValue5
  t9 := Tryz.underlying9
  a9 := Tryz.isAgg9
  z9 := Tryz.sizeOf9
  v9 := Tryz.zeroValue9
  t21 := Tryz.underlying21
  a21 := Tryz.isAgg21
  z21 := Tryz.sizeOf21
  v21 := Tryz.zeroValue21
  t37 := Tryz.underlying36
  a37 := Tryz.isAgg36
  z37 := Tryz.sizeOf36
  v37 := Tryz.zeroValue36
  t46 := Tryz.underlying99
  a46 := Tryz.isAgg99
  z46 := Tryz.sizeOf99
  v46 := Tryz.zeroValue99
  t49 := Tryz.underlying148
  a49 := Tryz.isAgg148
  z49 := Tryz.sizeOf148
  v49 := Tryz.zeroValue148
  t51 := Tryz.underlying97
  a51 := Tryz.isAgg97
  z51 := Tryz.sizeOf97
  v51 := Tryz.zeroValue97
  t131 := Tryz.underlying150
  a131 := Tryz.isAgg150
  z131 := Tryz.sizeOf150
  v131 := Tryz.zeroValue150
  t234 := Tryz.underlying149
  a234 := Tryz.isAgg149
  z234 := Tryz.sizeOf149
  v234 := Tryz.zeroValue149
  t236 := Tryz.underlying152
  a236 := Tryz.isAgg152
  z236 := Tryz.sizeOf152
  v236 := Tryz.zeroValue152
  g20 := by kernel_rfl
  g21 := by kernel_rfl
  g22 := by kernel_rfl
  g23 := by kernel_rfl
  g24 := by kernel_rfl }
open Go.RowKit in
/-- THE QUOTE ITSELF OR A BACKSLASH: 'always backslashed'. (LAID: no walk: one application.) -/
theorem Tryz.strconv_appendEscapedRune_quoted (T : Lib.PrintTabs) (B : Nat) (v : Value) (n : Nat) (xs : List Value) (r : Int) (W0 w : World) (hb : Lib.OwnBuf B 5 v n xs W0 w) (hlen : n + 10 ≤ 140737488355328) (hT : Lib.PrintTabsAt 8 9 10 11 T w) (hr0 : 0 ≤ r) (hr1 : r ≤ 2147483647) (hq : r = 34 ∨ r = 92) :
    Calls Tryz.prog 90 #[v, .int .i32 r, .int .u8 34, .bool false, .bool false] w fun e w' => ∃ v', e = .returned v' ∧ Lib.OwnBuf B 5 v' (n + (Lib.escRune T r).length) (xs ++ Lib.intCells (Lib.escRune T r)) W0 w' := Any.strconv_appendEscapedRune_quoted Tryz.lays323 (by kernel_rfl) T B v n xs r W0 w hb hlen hT hr0 hr1 hq
open Go.RowKit in
/-- A RUNE THAT strconv.IsPrint LETS BY (and is neither the quote nor a backslash): its UTF-8 encoding, by utf8.AppendRune. (LAID: no walk: one application.) -/
theorem Tryz.strconv_appendEscapedRune_printable (T : Lib.PrintTabs) (B : Nat) (v : Value) (n : Nat) (xs : List Value) (r : Int) (W0 w : World) (hb : Lib.OwnBuf B 5 v n xs W0 w) (hlen : n + 10 ≤ 140737488355328) (hT : Lib.PrintTabsAt 8 9 10 11 T w) (hr0 : 0 ≤ r) (hr1 : r ≤ 2147483647) (hq1 : r ≠ 34) (hq2 : r ≠ 92) (hp : Lib.isPrintR T r = true) :
    Calls Tryz.prog 90 #[v, .int .i32 r, .int .u8 34, .bool false, .bool false] w fun e w' => ∃ v', e = .returned v' ∧ Lib.OwnBuf B 5 v' (n + (Lib.escRune T r).length) (xs ++ Lib.intCells (Lib.escRune T r)) W0 w' := Any.strconv_appendEscapedRune_printable Tryz.lays323 (by kernel_rfl) T B v n xs r W0 w hb hlen hT hr0 hr1 hq1 hq2 hp
open Go.RowKit in
/-- THE SEVEN THAT HAVE A LETTER: \\a \\b \\f \\n \\r \\t \\v. (LAID: no walk: one application.) -/
theorem Tryz.strconv_appendEscapedRune_named (T : Lib.PrintTabs) (B : Nat) (v : Value) (n : Nat) (xs : List Value) (r : Int) (W0 w : World) (hb : Lib.OwnBuf B 5 v n xs W0 w) (hlen : n + 10 ≤ 140737488355328) (hT : Lib.PrintTabsAt 8 9 10 11 T w) (hr0 : 0 ≤ r) (hr1 : r ≤ 2147483647) (hn : r = 7 ∨ r = 8 ∨ r = 12 ∨ r = 10 ∨ r = 13 ∨ r = 9 ∨ r = 11) :
    Calls Tryz.prog 90 #[v, .int .i32 r, .int .u8 34, .bool false, .bool false] w fun e w' => ∃ v', e = .returned v' ∧ Lib.OwnBuf B 5 v' (n + (Lib.escRune T r).length) (xs ++ Lib.intCells (Lib.escRune T r)) W0 w' := Any.strconv_appendEscapedRune_named Tryz.lays323 (by kernel_rfl) T B v n xs r W0 w hb hlen hT hr0 hr1 hn
open Go.RowKit in
/-- A CONTROL CHARACTER WITHOUT A LETTER, AND 0x7f: '\\x' AND TWO DIGITS. (LAID: no walk: one application.) -/
theorem Tryz.strconv_appendEscapedRune_hex2 (T : Lib.PrintTabs) (B : Nat) (v : Value) (n : Nat) (xs : List Value) (r : Int) (W0 w : World) (hb : Lib.OwnBuf B 5 v n xs W0 w) (hlen : n + 10 ≤ 140737488355328) (hT : Lib.PrintTabsAt 8 9 10 11 T w) (hr0 : 0 ≤ r) (hr1 : r ≤ 2147483647) (hx : r < 32 ∨ r = 127) (hn : ¬ (r = 7 ∨ r = 8 ∨ r = 12 ∨ r = 10 ∨ r = 13 ∨ r = 9 ∨ r = 11)) :
    Calls Tryz.prog 90 #[v, .int .i32 r, .int .u8 34, .bool false, .bool false] w fun e w' => ∃ v', e = .returned v' ∧ Lib.OwnBuf B 5 v' (n + (Lib.escRune T r).length) (xs ++ Lib.intCells (Lib.escRune T r)) W0 w' := Any.strconv_appendEscapedRune_hex2 Tryz.lays323 (by kernel_rfl) T B v n xs r W0 w hb hlen hT hr0 hr1 hx hn
open Go.RowKit in
/-- NOT PRINTABLE, FROM 0x80 ON, BELOW 0x10000, NO SURROGATE: '\\u' AND FOUR DIGITS. (LAID: no walk: one application.) -/
theorem Tryz.strconv_appendEscapedRune_u4 (T : Lib.PrintTabs) (B : Nat) (v : Value) (n : Nat) (xs : List Value) (r : Int) (W0 w : World) (hb : Lib.OwnBuf B 5 v n xs W0 w) (hlen : n + 10 ≤ 140737488355328) (hT : Lib.PrintTabsAt 8 9 10 11 T w) (hr0 : 0 ≤ r) (hr1 : r ≤ 2147483647) (h80 : 128 ≤ r) (hlt : r < 65536) (hv : Lib.validRune r = true) (hp : Lib.isPrintR T r = false) :
    Calls Tryz.prog 90 #[v, .int .i32 r, .int .u8 34, .bool false, .bool false] w fun e w' => ∃ v', e = .returned v' ∧ Lib.OwnBuf B 5 v' (n + (Lib.escRune T r).length) (xs ++ Lib.intCells (Lib.escRune T r)) W0 w' := Any.strconv_appendEscapedRune_u4 Tryz.lays323 (by kernel_rfl) T B v n xs r W0 w hb hlen hT hr0 hr1 h80 hlt hv hp
open Go.RowKit in
/-- NOT PRINTABLE, FROM 0x10000 ON, AT MOST 0x10FFFF: '\\U' AND EIGHT DIGITS. (LAID: no walk: one application.) -/
theorem Tryz.strconv_appendEscapedRune_u8 (T : Lib.PrintTabs) (B : Nat) (v : Value) (n : Nat) (xs : List Value) (r : Int) (W0 w : World) (hb : Lib.OwnBuf B 5 v n xs W0 w) (hlen : n + 10 ≤ 140737488355328) (hT : Lib.PrintTabsAt 8 9 10 11 T w) (hr0 : 0 ≤ r) (hr1 : r ≤ 2147483647) (h80 : 65536 ≤ r) (hv : Lib.validRune r = true) (hp : Lib.isPrintR T r = false) :
    Calls Tryz.prog 90 #[v, .int .i32 r, .int .u8 34, .bool false, .bool false] w fun e w' => ∃ v', e = .returned v' ∧ Lib.OwnBuf B 5 v' (n + (Lib.escRune T r).length) (xs ++ Lib.intCells (Lib.escRune T r)) W0 w' := Any.strconv_appendEscapedRune_u8 Tryz.lays323 (by kernel_rfl) T B v n xs r W0 w hb hlen hT hr0 hr1 h80 hv hp
open Go.RowKit in
/-- strconv.appendEscapedRune(buf, r, '"', false, false) AT EVERY VALID RUNE (what utf8.DecodeRuneInString hands back is one): IT APPENDS 'Lib.escRune T r'. ✋ a surrogate, a number beyond 0x10FFFF, a negative one: not walked: strconv.Quote never hands one in. (LAID: no walk: one application.) -/
theorem Tryz.strconv_appendEscapedRune (T : Lib.PrintTabs) (B : Nat) (v : Value) (n : Nat) (xs : List Value) (r : Int) (W0 w : World) (hb : Lib.OwnBuf B 5 v n xs W0 w) (hlen : n + 10 ≤ 140737488355328) (hT : Lib.PrintTabsAt 8 9 10 11 T w) (hv : Lib.validRune r = true) :
    Calls Tryz.prog 90 #[v, .int .i32 r, .int .u8 34, .bool false, .bool false] w fun e w' => ∃ v', e = .returned v' ∧ Lib.OwnBuf B 5 v' (n + (Lib.escRune T r).length) (xs ++ Lib.intCells (Lib.escRune T r)) W0 w' := Any.strconv_appendEscapedRune Tryz.lays323 (by kernel_rfl) T B v n xs r W0 w hb hlen hT hv
def Tryz.lays289_ren : Go.Shelf.Ren := ⟨fun | 289 => 78 | 197 => 89 | 323 => 90 | 260 => 111 | 339 => 112 | 340 => 113 | 242 => 114 | 119 => 115 | 345 => 137 | 346 => 138 | 278 => 139 | n => n, fun | 37 => 36 | 9 => 9 | 5 => 5 | 4 => 4 | 3 => 3 | 21 => 21 | 105 => 101 | 46 => 99 | 119 => 144 | 0 => 0 | 139 => 147 | 138 => 146 | 49 => 148 | 234 => 149 | 131 => 150 | 51 => 97 | 236 => 152 | n => n, fun | 3 => 6 | 4 => 7 | 20 => 8 | 21 => 9 | 22 => 10 | 23 => 11 | 24 => 12 | n => n⟩
theorem Tryz.lays289 : Go.Proofs.Lays.n289 Tryz.prog Tryz.lays289_ren := {
  mixed := by kernel_rfl
  f119 := Tryz.func115.trans (congrArg some (by kernel_rfl))
  f197 := Tryz.func89.trans (congrArg some (by kernel_rfl))
  f242 := Tryz.func114.trans (congrArg some (by kernel_rfl))
  f260 := Tryz.func111.trans (congrArg some (by kernel_rfl))
  f278 := Tryz.func139.trans (congrArg some (by kernel_rfl))
  f289 := Tryz.func78.trans (congrArg some (by kernel_rfl))
  f323 := Tryz.func90.trans (congrArg some (by kernel_rfl))
  f339 := Tryz.func112.trans (congrArg some (by kernel_rfl))
  f340 := Tryz.func113.trans (congrArg some (by kernel_rfl))
  f345 := Tryz.func137.trans (congrArg some (by kernel_rfl))
  f346 := Tryz.func138.trans (congrArg some (by kernel_rfl))
  t0 := Tryz.underlying0
  a0 := Tryz.isAgg0
  z0 := Tryz.sizeOf0
  v0 := Tryz.zeroValue0
  t3 := Tryz.underlying3
  a3 := Tryz.isAgg3
  z3 := Tryz.sizeOf3
  v3 := Tryz.zeroValue3
  t4 := Tryz.underlying4
  a4 := Tryz.isAgg4
  z4 := Tryz.sizeOf4
  v4 := Tryz.zeroValue4
  t5 := Tryz.underlying5
  a5 := Tryz.isAgg5
  z5 := Tryz.sizeOf5
  v5 := Tryz.zeroValue5
  t9 := Tryz.underlying9
  a9 := Tryz.isAgg9
  z9 := Tryz.sizeOf9
  v9 := Tryz.zeroValue9
  t21 := Tryz.underlying21
  a21 := Tryz.isAgg21
  z21 := Tryz.sizeOf21
  v21 := Tryz.zeroValue21
  t37 := Tryz.underlying36
  a37 := Tryz.isAgg36
  z37 := Tryz.sizeOf36
  v37 := Tryz.zeroValue36
  t46 := Tryz.underlying99
  a46 := Tryz.isAgg99
  z46 := Tryz.sizeOf99
  v46 := Tryz.zeroValue99
  t49 := Tryz.underlying148
  a49 := Tryz.isAgg148
  z49 := Tryz.sizeOf148
  v49 := Tryz.zeroValue148
  t51 := Tryz.underlying97
  a51 := Tryz.isAgg97
  z51 := Tryz.sizeOf97
  v51 := Tryz.zeroValue97
  t105 := Tryz.underlying101
  a105 := Tryz.isAgg101
  z105 := Tryz.sizeOf101
  v105 := Tryz.zeroValue101
  t119 := Tryz.underlying144
  a119 := Tryz.isAgg144
  z119 := Tryz.sizeOf144
  t131 := Tryz.underlying150
  a131 := Tryz.isAgg150
  z131 := Tryz.sizeOf150
  v131 := Tryz.zeroValue150
  t138 := Tryz.underlying146
  a138 := Tryz.isAgg146
  z138 := Tryz.sizeOf146
  v138 := Tryz.zeroValue146
  t139 := Tryz.underlying147
  a139 := Tryz.isAgg147
  z139 := Tryz.sizeOf147
  v139 := Tryz.zeroValue147
  t234 := Tryz.underlying149
  a234 := Tryz.isAgg149
  z234 := Tryz.sizeOf149
  v234 := Tryz.zeroValue149
  t236 := Tryz.underlying152
  a236 := Tryz.isAgg152
  z236 := Tryz.sizeOf152
  v236 := Tryz.zeroValue152
  g3 := by kernel_rfl
  g4 := by kernel_rfl
  g20 := by kernel_rfl
  g21 := by kernel_rfl
  g22 := by kernel_rfl
  g23 := by kernel_rfl
  g24 := by kernel_rfl }
open Go.RowKit in
/-- strconv.appendQuotedWith(buf, s, '"', false, false), buf with room for s ('cap(buf)-len(buf) >= len(s)': as quoteWith makes it). (LAID: no walk: one application.) -/
theorem Tryz.strconv_appendQuotedWith (T : Lib.PrintTabs) (a : Option Addr) (n c : Nat) (xs : List Value) (s : ByteArray) (W0 w : World) (hb : Lib.OwnBuf W0.heap.size 5 (.slice a n c) n xs W0 w) (hroom : n + s.size ≤ c) (hc : c ≤ 9223372036854775807) (hlen : n + 10 * s.size + 12 ≤ 140737488355328) (hT : Lib.PrintTabsAt 8 9 10 11 T W0) (hU : Lib.Utf8Tabs 6 7 W0) :
    Calls Tryz.prog 78 #[.slice a n c, .string s, .int .u8 34, .bool false, .bool false] w fun e w' => ∃ v', e = .returned v' ∧ Lib.OwnBuf W0.heap.size 5 v' (n + (Lib.quoteZ T s).length) (xs ++ Lib.intCells (Lib.quoteZ T s)) W0 w' := Any.strconv_appendQuotedWith Tryz.lays289 (by kernel_rfl) T a n c xs s W0 w hb hroom hc hlen hT hU
def Tryz.lays250_ren : Go.Shelf.Ren := ⟨fun | 250 => 63 | 289 => 78 | 197 => 89 | 323 => 90 | 260 => 111 | 339 => 112 | 340 => 113 | 242 => 114 | 119 => 115 | 345 => 137 | 346 => 138 | 278 => 139 | n => n, fun | 9 => 9 | 5 => 5 | 4 => 4 | 3 => 3 | 37 => 36 | 21 => 21 | 105 => 101 | 46 => 99 | 119 => 144 | 0 => 0 | 139 => 147 | 138 => 146 | 49 => 148 | 234 => 149 | 131 => 150 | 51 => 97 | 236 => 152 | n => n, fun | 3 => 6 | 4 => 7 | 20 => 8 | 21 => 9 | 22 => 10 | 23 => 11 | 24 => 12 | n => n⟩
theorem Tryz.lays250 : Go.Proofs.Lays.n250 Tryz.prog Tryz.lays250_ren := {
  mixed := by kernel_rfl
  f119 := Tryz.func115.trans (congrArg some (by kernel_rfl))
  f197 := Tryz.func89.trans (congrArg some (by kernel_rfl))
  f242 := Tryz.func114.trans (congrArg some (by kernel_rfl))
  f250 := Tryz.func63.trans (congrArg some (by kernel_rfl))
  f260 := Tryz.func111.trans (congrArg some (by kernel_rfl))
  f278 := Tryz.func139.trans (congrArg some (by kernel_rfl))
  f289 := Tryz.func78.trans (congrArg some (by kernel_rfl))
  f323 := Tryz.func90.trans (congrArg some (by kernel_rfl))
  f339 := Tryz.func112.trans (congrArg some (by kernel_rfl))
  f340 := Tryz.func113.trans (congrArg some (by kernel_rfl))
  f345 := Tryz.func137.trans (congrArg some (by kernel_rfl))
  f346 := Tryz.func138.trans (congrArg some (by kernel_rfl))
  t0 := Tryz.underlying0
  a0 := Tryz.isAgg0
  z0 := Tryz.sizeOf0
  v0 := Tryz.zeroValue0
  t3 := Tryz.underlying3
  a3 := Tryz.isAgg3
  z3 := Tryz.sizeOf3
  v3 := Tryz.zeroValue3
  t4 := Tryz.underlying4
  a4 := Tryz.isAgg4
  z4 := Tryz.sizeOf4
  v4 := Tryz.zeroValue4
  t5 := Tryz.underlying5
  a5 := Tryz.isAgg5
  z5 := Tryz.sizeOf5
  v5 := Tryz.zeroValue5
  t9 := Tryz.underlying9
  a9 := Tryz.isAgg9
  z9 := Tryz.sizeOf9
  v9 := Tryz.zeroValue9
  t21 := Tryz.underlying21
  a21 := Tryz.isAgg21
  z21 := Tryz.sizeOf21
  v21 := Tryz.zeroValue21
  t37 := Tryz.underlying36
  a37 := Tryz.isAgg36
  z37 := Tryz.sizeOf36
  v37 := Tryz.zeroValue36
  t46 := Tryz.underlying99
  a46 := Tryz.isAgg99
  z46 := Tryz.sizeOf99
  v46 := Tryz.zeroValue99
  t49 := Tryz.underlying148
  a49 := Tryz.isAgg148
  z49 := Tryz.sizeOf148
  v49 := Tryz.zeroValue148
  t51 := Tryz.underlying97
  a51 := Tryz.isAgg97
  z51 := Tryz.sizeOf97
  v51 := Tryz.zeroValue97
  t105 := Tryz.underlying101
  a105 := Tryz.isAgg101
  z105 := Tryz.sizeOf101
  v105 := Tryz.zeroValue101
  t119 := Tryz.underlying144
  a119 := Tryz.isAgg144
  z119 := Tryz.sizeOf144
  t131 := Tryz.underlying150
  a131 := Tryz.isAgg150
  z131 := Tryz.sizeOf150
  v131 := Tryz.zeroValue150
  t138 := Tryz.underlying146
  a138 := Tryz.isAgg146
  z138 := Tryz.sizeOf146
  v138 := Tryz.zeroValue146
  t139 := Tryz.underlying147
  a139 := Tryz.isAgg147
  z139 := Tryz.sizeOf147
  v139 := Tryz.zeroValue147
  t234 := Tryz.underlying149
  a234 := Tryz.isAgg149
  z234 := Tryz.sizeOf149
  v234 := Tryz.zeroValue149
  t236 := Tryz.underlying152
  a236 := Tryz.isAgg152
  z236 := Tryz.sizeOf152
  v236 := Tryz.zeroValue152
  g3 := by kernel_rfl
  g4 := by kernel_rfl
  g20 := by kernel_rfl
  g21 := by kernel_rfl
  g22 := by kernel_rfl
  g23 := by kernel_rfl
  g24 := by kernel_rfl }
open Go.RowKit in
/-- strconv.quoteWith(s, '"', false, false). (LAID: no walk: one application.) -/
theorem Tryz.strconv_quoteWith (T : Lib.PrintTabs) (s : ByteArray) (w : World) (hlen : 10 * s.size + 12 ≤ 140737488355328) (hT : Lib.PrintTabsAt 8 9 10 11 T w) (hU : Lib.Utf8Tabs 6 7 w) :
    Calls Tryz.prog 63 #[.string s, .int .u8 34, .bool false, .bool false] w fun e w' => e = .returned (.string (strOfNums (Lib.quoteZ T s))) ∧ Below w.heap.size w w' := Any.strconv_quoteWith Tryz.lays250 (by kernel_rfl) T s w hlen hT hU
def Tryz.lays177_ren : Go.Shelf.Ren := ⟨fun | 177 => 46 | 250 => 63 | 289 => 78 | 197 => 89 | 323 => 90 | 260 => 111 | 339 => 112 | 340 => 113 | 242 => 114 | 119 => 115 | 345 => 137 | 346 => 138 | 278 => 139 | n => n, fun | 9 => 9 | 5 => 5 | 4 => 4 | 3 => 3 | 37 => 36 | 21 => 21 | 105 => 101 | 46 => 99 | 119 => 144 | 0 => 0 | 139 => 147 | 138 => 146 | 49 => 148 | 234 => 149 | 131 => 150 | 51 => 97 | 236 => 152 | n => n, fun | 3 => 6 | 4 => 7 | 20 => 8 | 21 => 9 | 22 => 10 | 23 => 11 | 24 => 12 | n => n⟩
theorem Tryz.lays177 : Go.Proofs.Lays.n177 Tryz.prog Tryz.lays177_ren := {
  mixed := by kernel_rfl
  f119 := Tryz.func115.trans (congrArg some (by kernel_rfl))
  f177 := Tryz.func46.trans (congrArg some (by kernel_rfl))
  f197 := Tryz.func89.trans (congrArg some (by kernel_rfl))
  f242 := Tryz.func114.trans (congrArg some (by kernel_rfl))
  f250 := Tryz.func63.trans (congrArg some (by kernel_rfl))
  f260 := Tryz.func111.trans (congrArg some (by kernel_rfl))
  f278 := Tryz.func139.trans (congrArg some (by kernel_rfl))
  f289 := Tryz.func78.trans (congrArg some (by kernel_rfl))
  f323 := Tryz.func90.trans (congrArg some (by kernel_rfl))
  f339 := Tryz.func112.trans (congrArg some (by kernel_rfl))
  f340 := Tryz.func113.trans (congrArg some (by kernel_rfl))
  f345 := Tryz.func137.trans (congrArg some (by kernel_rfl))
  f346 := Tryz.func138.trans (congrArg some (by kernel_rfl))
  t0 := Tryz.underlying0
  a0 := Tryz.isAgg0
  z0 := Tryz.sizeOf0
  v0 := Tryz.zeroValue0
  t3 := Tryz.underlying3
  a3 := Tryz.isAgg3
  z3 := Tryz.sizeOf3
  v3 := Tryz.zeroValue3
  t4 := Tryz.underlying4
  a4 := Tryz.isAgg4
  z4 := Tryz.sizeOf4
  v4 := Tryz.zeroValue4
  t5 := Tryz.underlying5
  a5 := Tryz.isAgg5
  z5 := Tryz.sizeOf5
  v5 := Tryz.zeroValue5
  t9 := Tryz.underlying9
  a9 := Tryz.isAgg9
  z9 := Tryz.sizeOf9
  v9 := Tryz.zeroValue9
  t21 := Tryz.underlying21
  a21 := Tryz.isAgg21
  z21 := Tryz.sizeOf21
  v21 := Tryz.zeroValue21
  t37 := Tryz.underlying36
  a37 := Tryz.isAgg36
  z37 := Tryz.sizeOf36
  v37 := Tryz.zeroValue36
  t46 := Tryz.underlying99
  a46 := Tryz.isAgg99
  z46 := Tryz.sizeOf99
  v46 := Tryz.zeroValue99
  t49 := Tryz.underlying148
  a49 := Tryz.isAgg148
  z49 := Tryz.sizeOf148
  v49 := Tryz.zeroValue148
  t51 := Tryz.underlying97
  a51 := Tryz.isAgg97
  z51 := Tryz.sizeOf97
  v51 := Tryz.zeroValue97
  t105 := Tryz.underlying101
  a105 := Tryz.isAgg101
  z105 := Tryz.sizeOf101
  v105 := Tryz.zeroValue101
  t119 := Tryz.underlying144
  a119 := Tryz.isAgg144
  z119 := Tryz.sizeOf144
  t131 := Tryz.underlying150
  a131 := Tryz.isAgg150
  z131 := Tryz.sizeOf150
  v131 := Tryz.zeroValue150
  t138 := Tryz.underlying146
  a138 := Tryz.isAgg146
  z138 := Tryz.sizeOf146
  v138 := Tryz.zeroValue146
  t139 := Tryz.underlying147
  a139 := Tryz.isAgg147
  z139 := Tryz.sizeOf147
  v139 := Tryz.zeroValue147
  t234 := Tryz.underlying149
  a234 := Tryz.isAgg149
  z234 := Tryz.sizeOf149
  v234 := Tryz.zeroValue149
  t236 := Tryz.underlying152
  a236 := Tryz.isAgg152
  z236 := Tryz.sizeOf152
  v236 := Tryz.zeroValue152
  g3 := by kernel_rfl
  g4 := by kernel_rfl
  g20 := by kernel_rfl
  g21 := by kernel_rfl
  g22 := by kernel_rfl
  g23 := by kernel_rfl
  g24 := by kernel_rfl }
open Go.RowKit in
/-- **strconv.Quote AT EVERY STRING, VALID UTF-8 OR NOT** (of at most some 2^43 bytes: ten bytes may come of one): 'strOfNums (Lib.quoteZ T s)': Derived/Lib/QuoteLoop.lean: a row of Lean a statement of Go. Of what was there nothing has turned. (LAID: no walk: one application.) -/
theorem Tryz.strconv_Quote (T : Lib.PrintTabs) (s : ByteArray) (w : World) (hlen : 10 * s.size + 12 ≤ 140737488355328) (hT : Lib.PrintTabsAt 8 9 10 11 T w) (hU : Lib.Utf8Tabs 6 7 w) :
    Calls Tryz.prog 46 #[.string s] w fun e w' => e = .returned (.string (strOfNums (Lib.quoteZ T s))) ∧ Below w.heap.size w w' := Any.strconv_Quote Tryz.lays177 (by kernel_rfl) T s w hlen hT hU
def Tryz.lays129_ren : Go.Shelf.Ren := ⟨fun | 129 => 84 | n => n, fun | 53 => 32 | 3 => 3 | 4 => 4 | 46 => 99 | 5 => 5 | 9 => 9 | n => n, fun | n => n⟩
theorem Tryz.lays129 : Go.Proofs.Lays.n129 Tryz.prog Tryz.lays129_ren := {
  mixed := by kernel_rfl
  f129 := Tryz.func84.trans (congrArg some (by kernel_rfl))
  t3 := Tryz.underlying3
  a3 := Tryz.isAgg3
  z3 := Tryz.sizeOf3
  v3 := Tryz.zeroValue3
  t4 := Tryz.underlying4
  a4 := Tryz.isAgg4
  z4 := Tryz.sizeOf4
  v4 := Tryz.zeroValue4
  t5 := Tryz.underlying5
  a5 := Tryz.isAgg5
  z5 := Tryz.sizeOf5
  v5 := Tryz.zeroValue5
  t9 := Tryz.underlying9
  a9 := Tryz.isAgg9
  z9 := Tryz.sizeOf9
  v9 := Tryz.zeroValue9
  t46 := Tryz.underlying99
  a46 := Tryz.isAgg99
  z46 := Tryz.sizeOf99
  v46 := Tryz.zeroValue99
  t53 := Tryz.underlying32
  a53 := Tryz.isAgg32
  z53 := Tryz.sizeOf32
  v53 := Tryz.zeroValue32 }
/-- bits.Len64: "Len64 returns the minimum number of bits required to represent x; the result is 0 for x == 0.": IT RETURNS 'Lib.bitLen x'; the world is as it was. ('h0', 'h1': x is a uint64.) (LAID: no walk: one application.) -/
theorem Tryz.bits_Len64 (x : Int) (w : World) (h0 : 0 ≤ x) (h1 : x ≤ 18446744073709551615) :
    Calls Tryz.prog 84 #[.int .u64 x] w fun e w' => e = .returned (.int .i64 (Lib.bitLen x.toNat)) ∧ w' = w := Any.bits_Len64 Tryz.lays129 x w h0 h1
def Tryz.lays317_ren : Go.Shelf.Ren := ⟨fun | 317 => 83 | n => n, fun | 3 => 3 | 46 => 99 | n => n, fun | n => n⟩
theorem Tryz.lays317 : Go.Proofs.Lays.n317 Tryz.prog Tryz.lays317_ren := {
  mixed := by kernel_rfl
  f317 := Tryz.func83.trans (congrArg some (by kernel_rfl))
  t3 := Tryz.underlying3
  a3 := Tryz.isAgg3
  z3 := Tryz.sizeOf3
  v3 := Tryz.zeroValue3
  t46 := Tryz.underlying99
  a46 := Tryz.isAgg99
  z46 := Tryz.sizeOf99
  v46 := Tryz.zeroValue99 }
open Go.Lib in
/-- internal/strconv.log10Pow2: "log10Pow2(x) returns ⌊log₁₀ 2**x⌋ = ⌊x * log₁₀ 2⌋.": '(x * 78913) >> 18', at an x up to 64 (a length in bits). The world is as it was. (LAID: no walk: one application.) -/
theorem Tryz.internal_strconv_log10Pow2 (x : Nat) (h : x ≤ 64) (w : World) :
    Calls Tryz.prog 83 #[.int .i64 x] w fun e w' => e = .returned (.int .i64 (Lib.l10 x)) ∧ w' = w := Any.internal_strconv_log10Pow2 Tryz.lays317 x h w
def Tryz.lays318_ren : Go.Shelf.Ren := ⟨fun | 318 => 85 | n => n, fun | 3 => 3 | 4 => 4 | n => n, fun | n => n⟩
theorem Tryz.lays318 : Go.Proofs.Lays.n318 Tryz.prog Tryz.lays318_ren := {
  mixed := by kernel_rfl
  f318 := Tryz.func85.trans (congrArg some (by kernel_rfl))
  t3 := Tryz.underlying3
  a3 := Tryz.isAgg3
  z3 := Tryz.sizeOf3
  v3 := Tryz.zeroValue3
  t4 := Tryz.underlying4
  a4 := Tryz.isAgg4
  z4 := Tryz.sizeOf4
  v4 := Tryz.zeroValue4 }
open Go.Lib in
/-- internal/strconv.bool2: "bool2 converts b to an integer: 1 for true, 0 for false." The world is as it was. (LAID: no walk: one application.) -/
theorem Tryz.internal_strconv_bool2_int (b : Bool) (w : World) :
    Calls Tryz.prog 85 #[.bool b] w fun e w' => e = .returned (.int .i64 (if b then 1 else 0)) ∧ w' = w := Any.internal_strconv_bool2_int Tryz.lays318 b w
def Tryz.lays283_ren : Go.Shelf.Ren := ⟨fun | 283 => 72 | n => n, fun | 3 => 3 | 9 => 9 | 4 => 4 | n => n, fun | n => n⟩
theorem Tryz.lays283 : Go.Proofs.Lays.n283 Tryz.prog Tryz.lays283_ren := {
  mixed := by kernel_rfl
  f283 := Tryz.func72.trans (congrArg some (by kernel_rfl))
  t3 := Tryz.underlying3
  a3 := Tryz.isAgg3
  z3 := Tryz.sizeOf3
  v3 := Tryz.zeroValue3
  t4 := Tryz.underlying4
  a4 := Tryz.isAgg4
  z4 := Tryz.sizeOf4
  v4 := Tryz.zeroValue4
  t9 := Tryz.underlying9
  a9 := Tryz.isAgg9
  z9 := Tryz.sizeOf9
  v9 := Tryz.zeroValue9 }
open Go.Lib in
/-- internal/strconv.small: "small returns the string for an i with 0 <= i < nSmalls.": i's decimal numeral. The world is as it was. (LAID: no walk: one application.) -/
theorem Tryz.internal_strconv_small (i : Nat) (h : i < 100) (w : World) :
    Calls Tryz.prog 72 #[.int .i64 i] w fun e w' => e = .returned (.string ⟨(Lib.decDigits i).toArray⟩) ∧ w' = w := Any.internal_strconv_small Tryz.lays283 i h w
def Tryz.laysM284_ren : Go.Shelf.Ren := ⟨fun | 284 => 73 | 129 => 84 | 317 => 83 | 318 => 85 | n => n, fun | 53 => 32 | 3 => 3 | 212 => 96 | 0 => 0 | 4 => 4 | 46 => 99 | 5 => 5 | 9 => 9 | n => n, fun | 17 => 2 | n => n⟩
theorem Tryz.laysM284 : Go.Proofs.LaysM.n284 Tryz.prog Tryz.laysM284_ren := {
  mixed := by kernel_rfl
  f129 := Tryz.func84.trans (congrArg some (by kernel_rfl))
  f284 := Tryz.func73.trans (congrArg some (by kernel_rfl))
  f317 := Tryz.func83.trans (congrArg some (by kernel_rfl))
  f318 := Tryz.func85.trans (congrArg some (by kernel_rfl))
  t0 := Tryz.underlying0
  a0 := Tryz.isAgg0
  z0 := Tryz.sizeOf0
  v0 := Tryz.zeroValue0
  t3 := Tryz.underlying3
  a3 := Tryz.isAgg3
  z3 := Tryz.sizeOf3
  v3 := Tryz.zeroValue3
  t4 := Tryz.underlying4
  a4 := Tryz.isAgg4
  z4 := Tryz.sizeOf4
  v4 := Tryz.zeroValue4
  t5 := Tryz.underlying5
  a5 := Tryz.isAgg5
  z5 := Tryz.sizeOf5
  v5 := Tryz.zeroValue5
  t9 := Tryz.underlying9
  a9 := Tryz.isAgg9
  z9 := Tryz.sizeOf9
  v9 := Tryz.zeroValue9
  t46 := Tryz.underlying99
  a46 := Tryz.isAgg99
  z46 := Tryz.sizeOf99
  v46 := Tryz.zeroValue99
  t53 := Tryz.underlying32
  a53 := Tryz.isAgg32
  z53 := Tryz.sizeOf32
  v53 := Tryz.zeroValue32
  t212 := Tryz.underlying96
  a212 := Tryz.isAgg96
  z212 := Tryz.sizeOf96
  v212 := Tryz.zeroValue96
  g17 := by kernel_rfl
  i0 := by kernel_rfl
  i3 := by kernel_rfl
  i4 := by kernel_rfl
  i5 := by kernel_rfl
  i9 := by kernel_rfl
  i46 := by kernel_rfl
  i53 := by kernel_rfl
  i212 := by kernel_rfl
  m17 := by kernel_rfl }
open Go.Lib in
/-- internal/strconv.numDigits, at a d that is not 0: THE NUMBER OF d's DECIMAL DIGITS. The world is as it was. (LAID: no walk: one application.) -/
theorem Tryz.internal_strconv_numDigits (u : Nat) (h1 : 1 ≤ u) (h2 : u < 18446744073709551616) (w : World) (htab : Lib.TabIs Tryz.prog w "internal/strconv.uint64pow10" .u64 Lib.pow10Tab) :
    Calls Tryz.prog 73 #[.int .u64 u] w fun e w' => e = .returned (.int .i64 (Lib.nDigits u)) ∧ w' = w := Any.internal_strconv_numDigits Tryz.laysM284 u h1 h2 w htab
def Tryz.lays285_ren : Go.Shelf.Ren := ⟨fun | 285 => 74 | n => n, fun | 37 => 36 | 53 => 32 | 3 => 3 | 4 => 4 | 51 => 97 | 9 => 9 | 5 => 5 | 0 => 0 | n => n, fun | n => n⟩
theorem Tryz.lays285 : Go.Proofs.Lays.n285 Tryz.prog Tryz.lays285_ren := {
  mixed := by kernel_rfl
  f285 := Tryz.func74.trans (congrArg some (by kernel_rfl))
  t0 := Tryz.underlying0
  a0 := Tryz.isAgg0
  z0 := Tryz.sizeOf0
  v0 := Tryz.zeroValue0
  t3 := Tryz.underlying3
  a3 := Tryz.isAgg3
  z3 := Tryz.sizeOf3
  v3 := Tryz.zeroValue3
  t4 := Tryz.underlying4
  a4 := Tryz.isAgg4
  z4 := Tryz.sizeOf4
  v4 := Tryz.zeroValue4
  t5 := Tryz.underlying5
  a5 := Tryz.isAgg5
  z5 := Tryz.sizeOf5
  v5 := Tryz.zeroValue5
  t9 := Tryz.underlying9
  a9 := Tryz.isAgg9
  z9 := Tryz.sizeOf9
  v9 := Tryz.zeroValue9
  t37 := Tryz.underlying36
  a37 := Tryz.isAgg36
  z37 := Tryz.sizeOf36
  v37 := Tryz.zeroValue36
  t51 := Tryz.underlying97
  a51 := Tryz.isAgg97
  z51 := Tryz.sizeOf97
  v51 := Tryz.zeroValue97
  t53 := Tryz.underlying32
  a53 := Tryz.isAgg32
  z53 := Tryz.sizeOf32
  v53 := Tryz.zeroValue32 }
open Go.RowKit Go.Sort Go.Lib in
/-- internal/strconv.formatBase10: "formatBase10 formats the decimal representation of u into a. The caller is responsible for ensuring that a is big enough to hold u. If a is too big, leading zeros will be filled in as needed.": THE ROW HOLDS u's DIGITS ('FmtInv .. 0 ..': every place t holds 'dg u (len - 1 - t)'); all else is as it was but for the count of draws. (LAID: no walk: one application.) -/
theorem Tryz.internal_strconv_formatBase10 (blk off cap : Nat) (u : Nat) (d : Array UInt8) (w : World) (hH : Holds (fun (b : UInt8) => Value.int .u8 (b.toNat : Int)) w blk off d) (hu : u < 10 ^ d.size) (hu64 : u < 18446744073709551616) (hsz : d.size < 4611686018427387904) :
    Calls Tryz.prog 74 #[.slice (some ⟨blk, off, none⟩) d.size cap, .int .u64 u] w fun e w' =>
      e = .returned (.tuple #[]) ∧ ∃ (n v' : Nat) (dk : Array UInt8), w' = (putRow (fun (b : UInt8) => Value.int .u8 (b.toNat : Int)) w blk off dk).drewN n ∧ FmtInv d.size u 0 v' dk := Any.internal_strconv_formatBase10 Tryz.lays285 blk off cap u d w hH hu hu64 hsz
def Tryz.laysM246_ren : Go.Shelf.Ren := ⟨fun | 246 => 60 | 283 => 72 | 284 => 73 | 285 => 74 | 286 => 75 | 129 => 84 | 317 => 83 | 318 => 85 | 319 => 86 | 320 => 87 | 337 => 105 | 338 => 106 | n => n, fun | 2 => 2 | 3 => 3 | 9 => 9 | 4 => 4 | 171 => 84 | 0 => 0 | 53 => 32 | 37 => 36 | 5 => 5 | 173 => 87 | 212 => 96 | 51 => 97 | 20 => 20 | 213 => 98 | 46 => 99 | 232 => 111 | 233 => 141 | n => n, fun | 17 => 2 | 18 => 4 | 19 => 5 | n => n⟩
theorem Tryz.laysM246 : Go.Proofs.LaysM.n246 Tryz.prog Tryz.laysM246_ren := {
  mixed := by kernel_rfl
  f129 := Tryz.func84.trans (congrArg some (by kernel_rfl))
  f246 := Tryz.func60.trans (congrArg some (by kernel_rfl))
  f283 := Tryz.func72.trans (congrArg some (by kernel_rfl))
  f284 := Tryz.func73.trans (congrArg some (by kernel_rfl))
  f285 := Tryz.func74.trans (congrArg some (by kernel_rfl))
  f286 := Tryz.func75.trans (congrArg some (by kernel_rfl))
  f317 := Tryz.func83.trans (congrArg some (by kernel_rfl))
  f318 := Tryz.func85.trans (congrArg some (by kernel_rfl))
  f319 := Tryz.func86.trans (congrArg some (by kernel_rfl))
  f320 := Tryz.func87.trans (congrArg some (by kernel_rfl))
  f337 := Tryz.func105.trans (congrArg some (by kernel_rfl))
  f338 := Tryz.func106.trans (congrArg some (by kernel_rfl))
  t0 := Tryz.underlying0
  a0 := Tryz.isAgg0
  z0 := Tryz.sizeOf0
  v0 := Tryz.zeroValue0
  t2 := Tryz.underlying2
  a2 := Tryz.isAgg2
  z2 := Tryz.sizeOf2
  v2 := Tryz.zeroValue2
  t3 := Tryz.underlying3
  a3 := Tryz.isAgg3
  z3 := Tryz.sizeOf3
  v3 := Tryz.zeroValue3
  t4 := Tryz.underlying4
  a4 := Tryz.isAgg4
  z4 := Tryz.sizeOf4
  v4 := Tryz.zeroValue4
  t5 := Tryz.underlying5
  a5 := Tryz.isAgg5
  z5 := Tryz.sizeOf5
  v5 := Tryz.zeroValue5
  t9 := Tryz.underlying9
  a9 := Tryz.isAgg9
  z9 := Tryz.sizeOf9
  v9 := Tryz.zeroValue9
  t20 := Tryz.underlying20
  a20 := Tryz.isAgg20
  z20 := Tryz.sizeOf20
  v20 := Tryz.zeroValue20
  t37 := Tryz.underlying36
  a37 := Tryz.isAgg36
  z37 := Tryz.sizeOf36
  v37 := Tryz.zeroValue36
  t46 := Tryz.underlying99
  a46 := Tryz.isAgg99
  z46 := Tryz.sizeOf99
  v46 := Tryz.zeroValue99
  t51 := Tryz.underlying97
  a51 := Tryz.isAgg97
  z51 := Tryz.sizeOf97
  v51 := Tryz.zeroValue97
  t53 := Tryz.underlying32
  a53 := Tryz.isAgg32
  z53 := Tryz.sizeOf32
  v53 := Tryz.zeroValue32
  t171 := Tryz.underlying84
  a171 := Tryz.isAgg84
  z171 := Tryz.sizeOf84
  v171 := Tryz.zeroValue84
  t173 := Tryz.underlying87
  a173 := Tryz.isAgg87
  z173 := Tryz.sizeOf87
  v173 := Tryz.zeroValue87
  t212 := Tryz.underlying96
  a212 := Tryz.isAgg96
  z212 := Tryz.sizeOf96
  v212 := Tryz.zeroValue96
  t213 := Tryz.underlying98
  a213 := Tryz.isAgg98
  z213 := Tryz.sizeOf98
  t232 := Tryz.underlying111
  a232 := Tryz.isAgg111
  z232 := Tryz.sizeOf111
  v232 := Tryz.zeroValue111
  t233 := Tryz.underlying141
  a233 := Tryz.isAgg141
  z233 := Tryz.sizeOf141
  v233 := Tryz.zeroValue141
  g17 := by kernel_rfl
  g18 := by kernel_rfl
  g19 := by kernel_rfl
  i0 := by kernel_rfl
  i2 := by kernel_rfl
  i3 := by kernel_rfl
  i4 := by kernel_rfl
  i5 := by kernel_rfl
  i9 := by kernel_rfl
  i20 := by kernel_rfl
  i37 := by kernel_rfl
  i46 := by kernel_rfl
  i51 := by kernel_rfl
  i53 := by kernel_rfl
  i171 := by kernel_rfl
  i173 := by kernel_rfl
  i212 := by kernel_rfl
  i232 := by kernel_rfl
  i233 := by kernel_rfl
  m17 := by kernel_rfl
  m18 := by kernel_rfl
  m19 := by kernel_rfl }
open Go.RowKit Go.Sort Go.Lib in
/-- internal/strconv.FormatInt: "FormatInt returns the string representation of i in the given base": AT BASE 10: i's decimal numeral, for every int64. The world behind the call: the world before it, new blocks behind the heap, draws. (LAID: no walk: one application.) -/
theorem Tryz.internal_strconv_FormatInt_10 (n : Int) (h0 : -9223372036854775808 ≤ n) (h1 : n ≤ 9223372036854775807) (w : World) (htab : Lib.TabIs Tryz.prog w "internal/strconv.uint64pow10" .u64 Lib.pow10Tab) :
    Calls Tryz.prog 60 #[.int .i64 n, .int .i64 10] w fun e w' => e = .returned (.string ⟨(Lib.itoa n).toArray⟩) ∧ ∃ k os, w' = grow (w.drewN k) os := Any.internal_strconv_FormatInt_10 Tryz.laysM246 n h0 h1 w htab
def Tryz.lays246_ren : Go.Shelf.Ren := ⟨fun | 246 => 60 | 283 => 72 | 284 => 73 | 285 => 74 | 286 => 75 | 129 => 84 | 317 => 83 | 318 => 85 | 319 => 86 | 320 => 87 | 337 => 105 | 338 => 106 | n => n, fun | 2 => 2 | 3 => 3 | 9 => 9 | 4 => 4 | 171 => 84 | 0 => 0 | 53 => 32 | 37 => 36 | 5 => 5 | 173 => 87 | 212 => 96 | 51 => 97 | 20 => 20 | 213 => 98 | 46 => 99 | 232 => 111 | 233 => 141 | n => n, fun | 17 => 2 | 18 => 4 | 19 => 5 | n => n⟩
theorem Tryz.lays246 : Go.Proofs.Lays.n246 Tryz.prog Tryz.lays246_ren := {
  mixed := by kernel_rfl
  f129 := Tryz.func84.trans (congrArg some (by kernel_rfl))
  f246 := Tryz.func60.trans (congrArg some (by kernel_rfl))
  f283 := Tryz.func72.trans (congrArg some (by kernel_rfl))
  f284 := Tryz.func73.trans (congrArg some (by kernel_rfl))
  f285 := Tryz.func74.trans (congrArg some (by kernel_rfl))
  f286 := Tryz.func75.trans (congrArg some (by kernel_rfl))
  f317 := Tryz.func83.trans (congrArg some (by kernel_rfl))
  f318 := Tryz.func85.trans (congrArg some (by kernel_rfl))
  f319 := Tryz.func86.trans (congrArg some (by kernel_rfl))
  f320 := Tryz.func87.trans (congrArg some (by kernel_rfl))
  f337 := Tryz.func105.trans (congrArg some (by kernel_rfl))
  f338 := Tryz.func106.trans (congrArg some (by kernel_rfl))
  t0 := Tryz.underlying0
  a0 := Tryz.isAgg0
  z0 := Tryz.sizeOf0
  v0 := Tryz.zeroValue0
  t2 := Tryz.underlying2
  a2 := Tryz.isAgg2
  z2 := Tryz.sizeOf2
  v2 := Tryz.zeroValue2
  t3 := Tryz.underlying3
  a3 := Tryz.isAgg3
  z3 := Tryz.sizeOf3
  v3 := Tryz.zeroValue3
  t4 := Tryz.underlying4
  a4 := Tryz.isAgg4
  z4 := Tryz.sizeOf4
  v4 := Tryz.zeroValue4
  t5 := Tryz.underlying5
  a5 := Tryz.isAgg5
  z5 := Tryz.sizeOf5
  v5 := Tryz.zeroValue5
  t9 := Tryz.underlying9
  a9 := Tryz.isAgg9
  z9 := Tryz.sizeOf9
  v9 := Tryz.zeroValue9
  t20 := Tryz.underlying20
  a20 := Tryz.isAgg20
  z20 := Tryz.sizeOf20
  v20 := Tryz.zeroValue20
  t37 := Tryz.underlying36
  a37 := Tryz.isAgg36
  z37 := Tryz.sizeOf36
  v37 := Tryz.zeroValue36
  t46 := Tryz.underlying99
  a46 := Tryz.isAgg99
  z46 := Tryz.sizeOf99
  v46 := Tryz.zeroValue99
  t51 := Tryz.underlying97
  a51 := Tryz.isAgg97
  z51 := Tryz.sizeOf97
  v51 := Tryz.zeroValue97
  t53 := Tryz.underlying32
  a53 := Tryz.isAgg32
  z53 := Tryz.sizeOf32
  v53 := Tryz.zeroValue32
  t171 := Tryz.underlying84
  a171 := Tryz.isAgg84
  z171 := Tryz.sizeOf84
  v171 := Tryz.zeroValue84
  t173 := Tryz.underlying87
  a173 := Tryz.isAgg87
  z173 := Tryz.sizeOf87
  v173 := Tryz.zeroValue87
  t212 := Tryz.underlying96
  a212 := Tryz.isAgg96
  z212 := Tryz.sizeOf96
  v212 := Tryz.zeroValue96
  t213 := Tryz.underlying98
  a213 := Tryz.isAgg98
  z213 := Tryz.sizeOf98
  t232 := Tryz.underlying111
  a232 := Tryz.isAgg111
  z232 := Tryz.sizeOf111
  v232 := Tryz.zeroValue111
  t233 := Tryz.underlying141
  a233 := Tryz.isAgg141
  z233 := Tryz.sizeOf141
  v233 := Tryz.zeroValue141
  g17 := by kernel_rfl
  g18 := by kernel_rfl
  g19 := by kernel_rfl }
open Go.RowKit Go.Sort Go.Lib in
/-- THE ROAD WITHOUT THE TABLE: 0 <= i < 100: two constants are read, nothing is laid: no premise on the world, and the world is as it was. (LAID: no walk: one application.) -/
theorem Tryz.internal_strconv_FormatInt_10_small (i : Nat) (hi : i < 100) (w : World) :
    Calls Tryz.prog 60 #[.int .i64 i, .int .i64 10] w fun e w' => e = .returned (.string ⟨(Lib.decDigits i).toArray⟩) ∧ w' = w := Any.internal_strconv_FormatInt_10_small Tryz.lays246 i hi w
def Tryz.laysM173_ren : Go.Shelf.Ren := ⟨fun | 173 => 44 | 246 => 60 | 283 => 72 | 284 => 73 | 285 => 74 | 286 => 75 | 129 => 84 | 317 => 83 | 318 => 85 | 319 => 86 | 320 => 87 | 337 => 105 | 338 => 106 | n => n, fun | 2 => 2 | 3 => 3 | 9 => 9 | 4 => 4 | 171 => 84 | 0 => 0 | 53 => 32 | 37 => 36 | 5 => 5 | 173 => 87 | 212 => 96 | 51 => 97 | 20 => 20 | 213 => 98 | 46 => 99 | 232 => 111 | 233 => 141 | n => n, fun | 17 => 2 | 18 => 4 | 19 => 5 | n => n⟩
theorem Tryz.laysM173 : Go.Proofs.LaysM.n173 Tryz.prog Tryz.laysM173_ren := {
  mixed := by kernel_rfl
  f129 := Tryz.func84.trans (congrArg some (by kernel_rfl))
  f173 := Tryz.func44.trans (congrArg some (by kernel_rfl))
  f246 := Tryz.func60.trans (congrArg some (by kernel_rfl))
  f283 := Tryz.func72.trans (congrArg some (by kernel_rfl))
  f284 := Tryz.func73.trans (congrArg some (by kernel_rfl))
  f285 := Tryz.func74.trans (congrArg some (by kernel_rfl))
  f286 := Tryz.func75.trans (congrArg some (by kernel_rfl))
  f317 := Tryz.func83.trans (congrArg some (by kernel_rfl))
  f318 := Tryz.func85.trans (congrArg some (by kernel_rfl))
  f319 := Tryz.func86.trans (congrArg some (by kernel_rfl))
  f320 := Tryz.func87.trans (congrArg some (by kernel_rfl))
  f337 := Tryz.func105.trans (congrArg some (by kernel_rfl))
  f338 := Tryz.func106.trans (congrArg some (by kernel_rfl))
  t0 := Tryz.underlying0
  a0 := Tryz.isAgg0
  z0 := Tryz.sizeOf0
  v0 := Tryz.zeroValue0
  t2 := Tryz.underlying2
  a2 := Tryz.isAgg2
  z2 := Tryz.sizeOf2
  v2 := Tryz.zeroValue2
  t3 := Tryz.underlying3
  a3 := Tryz.isAgg3
  z3 := Tryz.sizeOf3
  v3 := Tryz.zeroValue3
  t4 := Tryz.underlying4
  a4 := Tryz.isAgg4
  z4 := Tryz.sizeOf4
  v4 := Tryz.zeroValue4
  t5 := Tryz.underlying5
  a5 := Tryz.isAgg5
  z5 := Tryz.sizeOf5
  v5 := Tryz.zeroValue5
  t9 := Tryz.underlying9
  a9 := Tryz.isAgg9
  z9 := Tryz.sizeOf9
  v9 := Tryz.zeroValue9
  t20 := Tryz.underlying20
  a20 := Tryz.isAgg20
  z20 := Tryz.sizeOf20
  v20 := Tryz.zeroValue20
  t37 := Tryz.underlying36
  a37 := Tryz.isAgg36
  z37 := Tryz.sizeOf36
  v37 := Tryz.zeroValue36
  t46 := Tryz.underlying99
  a46 := Tryz.isAgg99
  z46 := Tryz.sizeOf99
  v46 := Tryz.zeroValue99
  t51 := Tryz.underlying97
  a51 := Tryz.isAgg97
  z51 := Tryz.sizeOf97
  v51 := Tryz.zeroValue97
  t53 := Tryz.underlying32
  a53 := Tryz.isAgg32
  z53 := Tryz.sizeOf32
  v53 := Tryz.zeroValue32
  t171 := Tryz.underlying84
  a171 := Tryz.isAgg84
  z171 := Tryz.sizeOf84
  v171 := Tryz.zeroValue84
  t173 := Tryz.underlying87
  a173 := Tryz.isAgg87
  z173 := Tryz.sizeOf87
  v173 := Tryz.zeroValue87
  t212 := Tryz.underlying96
  a212 := Tryz.isAgg96
  z212 := Tryz.sizeOf96
  v212 := Tryz.zeroValue96
  t213 := Tryz.underlying98
  a213 := Tryz.isAgg98
  z213 := Tryz.sizeOf98
  t232 := Tryz.underlying111
  a232 := Tryz.isAgg111
  z232 := Tryz.sizeOf111
  v232 := Tryz.zeroValue111
  t233 := Tryz.underlying141
  a233 := Tryz.isAgg141
  z233 := Tryz.sizeOf141
  v233 := Tryz.zeroValue141
  g17 := by kernel_rfl
  g18 := by kernel_rfl
  g19 := by kernel_rfl
  i0 := by kernel_rfl
  i2 := by kernel_rfl
  i3 := by kernel_rfl
  i4 := by kernel_rfl
  i5 := by kernel_rfl
  i9 := by kernel_rfl
  i20 := by kernel_rfl
  i37 := by kernel_rfl
  i46 := by kernel_rfl
  i51 := by kernel_rfl
  i53 := by kernel_rfl
  i171 := by kernel_rfl
  i173 := by kernel_rfl
  i212 := by kernel_rfl
  i232 := by kernel_rfl
  i233 := by kernel_rfl
  m17 := by kernel_rfl
  m18 := by kernel_rfl
  m19 := by kernel_rfl }
open Go.RowKit Go.Sort Go.Lib in
/-- strconv.FormatInt: "FormatInt returns the string representation of i in the given base": AT BASE 10: i's decimal numeral, for every int64. (LAID: no walk: one application.) -/
theorem Tryz.strconv_FormatInt_10 (n : Int) (h0 : -9223372036854775808 ≤ n) (h1 : n ≤ 9223372036854775807) (w : World) (htab : Lib.TabIs Tryz.prog w "internal/strconv.uint64pow10" .u64 Lib.pow10Tab) :
    Calls Tryz.prog 44 #[.int .i64 n, .int .i64 10] w fun e w' => e = .returned (.string ⟨(Lib.itoa n).toArray⟩) ∧ ∃ k os, w' = grow (w.drewN k) os := Any.strconv_FormatInt_10 Tryz.laysM173 n h0 h1 w htab
def Tryz.lays173_ren : Go.Shelf.Ren := ⟨fun | 173 => 44 | 246 => 60 | 283 => 72 | 284 => 73 | 285 => 74 | 286 => 75 | 129 => 84 | 317 => 83 | 318 => 85 | 319 => 86 | 320 => 87 | 337 => 105 | 338 => 106 | n => n, fun | 2 => 2 | 3 => 3 | 9 => 9 | 4 => 4 | 171 => 84 | 0 => 0 | 53 => 32 | 37 => 36 | 5 => 5 | 173 => 87 | 212 => 96 | 51 => 97 | 20 => 20 | 213 => 98 | 46 => 99 | 232 => 111 | 233 => 141 | n => n, fun | 17 => 2 | 18 => 4 | 19 => 5 | n => n⟩
theorem Tryz.lays173 : Go.Proofs.Lays.n173 Tryz.prog Tryz.lays173_ren := {
  mixed := by kernel_rfl
  f129 := Tryz.func84.trans (congrArg some (by kernel_rfl))
  f173 := Tryz.func44.trans (congrArg some (by kernel_rfl))
  f246 := Tryz.func60.trans (congrArg some (by kernel_rfl))
  f283 := Tryz.func72.trans (congrArg some (by kernel_rfl))
  f284 := Tryz.func73.trans (congrArg some (by kernel_rfl))
  f285 := Tryz.func74.trans (congrArg some (by kernel_rfl))
  f286 := Tryz.func75.trans (congrArg some (by kernel_rfl))
  f317 := Tryz.func83.trans (congrArg some (by kernel_rfl))
  f318 := Tryz.func85.trans (congrArg some (by kernel_rfl))
  f319 := Tryz.func86.trans (congrArg some (by kernel_rfl))
  f320 := Tryz.func87.trans (congrArg some (by kernel_rfl))
  f337 := Tryz.func105.trans (congrArg some (by kernel_rfl))
  f338 := Tryz.func106.trans (congrArg some (by kernel_rfl))
  t0 := Tryz.underlying0
  a0 := Tryz.isAgg0
  z0 := Tryz.sizeOf0
  v0 := Tryz.zeroValue0
  t2 := Tryz.underlying2
  a2 := Tryz.isAgg2
  z2 := Tryz.sizeOf2
  v2 := Tryz.zeroValue2
  t3 := Tryz.underlying3
  a3 := Tryz.isAgg3
  z3 := Tryz.sizeOf3
  v3 := Tryz.zeroValue3
  t4 := Tryz.underlying4
  a4 := Tryz.isAgg4
  z4 := Tryz.sizeOf4
  v4 := Tryz.zeroValue4
  t5 := Tryz.underlying5
  a5 := Tryz.isAgg5
  z5 := Tryz.sizeOf5
  v5 := Tryz.zeroValue5
  t9 := Tryz.underlying9
  a9 := Tryz.isAgg9
  z9 := Tryz.sizeOf9
  v9 := Tryz.zeroValue9
  t20 := Tryz.underlying20
  a20 := Tryz.isAgg20
  z20 := Tryz.sizeOf20
  v20 := Tryz.zeroValue20
  t37 := Tryz.underlying36
  a37 := Tryz.isAgg36
  z37 := Tryz.sizeOf36
  v37 := Tryz.zeroValue36
  t46 := Tryz.underlying99
  a46 := Tryz.isAgg99
  z46 := Tryz.sizeOf99
  v46 := Tryz.zeroValue99
  t51 := Tryz.underlying97
  a51 := Tryz.isAgg97
  z51 := Tryz.sizeOf97
  v51 := Tryz.zeroValue97
  t53 := Tryz.underlying32
  a53 := Tryz.isAgg32
  z53 := Tryz.sizeOf32
  v53 := Tryz.zeroValue32
  t171 := Tryz.underlying84
  a171 := Tryz.isAgg84
  z171 := Tryz.sizeOf84
  v171 := Tryz.zeroValue84
  t173 := Tryz.underlying87
  a173 := Tryz.isAgg87
  z173 := Tryz.sizeOf87
  v173 := Tryz.zeroValue87
  t212 := Tryz.underlying96
  a212 := Tryz.isAgg96
  z212 := Tryz.sizeOf96
  v212 := Tryz.zeroValue96
  t213 := Tryz.underlying98
  a213 := Tryz.isAgg98
  z213 := Tryz.sizeOf98
  t232 := Tryz.underlying111
  a232 := Tryz.isAgg111
  z232 := Tryz.sizeOf111
  v232 := Tryz.zeroValue111
  t233 := Tryz.underlying141
  a233 := Tryz.isAgg141
  z233 := Tryz.sizeOf141
  v233 := Tryz.zeroValue141
  g17 := by kernel_rfl
  g18 := by kernel_rfl
  g19 := by kernel_rfl }
open Go.RowKit Go.Sort Go.Lib in
/-- THE ROAD WITHOUT THE TABLE: 0 <= i < 100. (LAID: no walk: one application.) -/
theorem Tryz.strconv_FormatInt_10_small (i : Nat) (hi : i < 100) (w : World) :
    Calls Tryz.prog 44 #[.int .i64 i, .int .i64 10] w fun e w' => e = .returned (.string ⟨(Lib.decDigits i).toArray⟩) ∧ w' = w := Any.strconv_FormatInt_10_small Tryz.lays173 i hi w
def Tryz.lays217_ren : Go.Shelf.Ren := ⟨fun | 217 => 107 | 266 => 135 | n => n, fun | 9 => 9 | 5 => 5 | 3 => 3 | n => n, fun | n => n⟩
theorem Tryz.lays217 : Go.Proofs.Lays.n217 Tryz.prog Tryz.lays217_ren := {
  mixed := by kernel_rfl
  f217 := Tryz.func107.trans (congrArg some (by kernel_rfl))
  f266 := Tryz.func135.trans (congrArg some (by kernel_rfl))
  t3 := Tryz.underlying3
  a3 := Tryz.isAgg3
  z3 := Tryz.sizeOf3
  v3 := Tryz.zeroValue3
  t5 := Tryz.underlying5
  a5 := Tryz.isAgg5
  z5 := Tryz.sizeOf5
  v5 := Tryz.zeroValue5
  t9 := Tryz.underlying9
  a9 := Tryz.isAgg9
  z9 := Tryz.sizeOf9
  v9 := Tryz.zeroValue9 }
open Go.RowKit Go.Lib in
/-- internal/stringslite.IndexByte (what strings.IndexByte calls): IT RETURNS 'Lib.indexByte s c'; the world is as it was. (LAID: no walk: one application.) -/
theorem Tryz.stringslite_IndexByte (s : ByteArray) (c : Int) (w : World) :
    Calls Tryz.prog 107 #[.string s, .int .u8 c] w fun e w' => e = .returned (.int .i64 (Lib.indexByte s.data.toList c.toNat.toUInt8)) ∧ w' = w := Any.stringslite_IndexByte Tryz.lays217 s c w
def Tryz.lays224_ren : Go.Shelf.Ren := ⟨fun | 224 => 109 | n => n, fun | 3 => 3 | n => n, fun | n => n⟩
theorem Tryz.lays224 : Go.Proofs.Lays.n224 Tryz.prog Tryz.lays224_ren := {
  mixed := by kernel_rfl
  f224 := Tryz.func109.trans (congrArg some (by kernel_rfl))
  t3 := Tryz.underlying3
  a3 := Tryz.isAgg3
  z3 := Tryz.sizeOf3
  v3 := Tryz.zeroValue3 }
open Go.RowKit Go.Lib in
/-- internal/bytealg.Cutover: "Cutover reports the number of failures of IndexByte we should tolerate before switching over to Index. n is the number of bytes processed so far.": on amd64: (n + 16) / 8. (LAID: no walk: one application.) -/
theorem Tryz.bytealg_Cutover (n : Int) (h0 : 0 ≤ n) (h1 : n < 4611686018427387904) (w : World) :
    Calls Tryz.prog 109 #[.int .i64 n] w fun e w' => e = .returned (.int .i64 ((n + 16) / 8)) ∧ w' = w := Any.bytealg_Cutover Tryz.lays224 n h0 h1 w
def Tryz.lays314_ren : Go.Shelf.Ren := ⟨fun | 314 => 136 | n => n, fun | 9 => 9 | 51 => 97 | 3 => 3 | 4 => 4 | 5 => 5 | 46 => 99 | n => n, fun | n => n⟩
theorem Tryz.lays314 : Go.Proofs.Lays.n314 Tryz.prog Tryz.lays314_ren := {
  mixed := by kernel_rfl
  f314 := Tryz.func136.trans (congrArg some (by kernel_rfl))
  t3 := Tryz.underlying3
  a3 := Tryz.isAgg3
  z3 := Tryz.sizeOf3
  v3 := Tryz.zeroValue3
  t4 := Tryz.underlying4
  a4 := Tryz.isAgg4
  z4 := Tryz.sizeOf4
  v4 := Tryz.zeroValue4
  t5 := Tryz.underlying5
  a5 := Tryz.isAgg5
  z5 := Tryz.sizeOf5
  v5 := Tryz.zeroValue5
  t9 := Tryz.underlying9
  a9 := Tryz.isAgg9
  z9 := Tryz.sizeOf9
  v9 := Tryz.zeroValue9
  t46 := Tryz.underlying99
  a46 := Tryz.isAgg99
  z46 := Tryz.sizeOf99
  v46 := Tryz.zeroValue99
  t51 := Tryz.underlying97
  a51 := Tryz.isAgg97
  z51 := Tryz.sizeOf97
  v51 := Tryz.zeroValue97 }
open Go.RowKit Go.Lib in
/-- hashStr: "returns the hash and the appropriate multiplicative factor for use in Rabin-Karp algorithm": THE HASH OF ALL OF sep, AND 16777619 ^ len(sep), both in uint32. (LAID: no walk: one application.) -/
theorem Tryz.bytealg_hashStr (sep : ByteArray) (hs : sep.size < 4294967281) (w : World) :
    Calls Tryz.prog 136 #[.string sep] w fun e w' => e = .returned (.tuple #[.int .u32 (RK.H sep.data.toList % 4294967296), .int .u32 (16777619 ^ sep.size % 4294967296)]) ∧ w' = w := Any.bytealg_hashStr Tryz.lays314 sep hs w
def Tryz.lays267_ren : Go.Shelf.Ren := ⟨fun | 267 => 110 | 314 => 136 | n => n, fun | 9 => 9 | 3 => 3 | 146 => 142 | 51 => 97 | 4 => 4 | 5 => 5 | 46 => 99 | n => n, fun | n => n⟩
theorem Tryz.lays267 : Go.Proofs.Lays.n267 Tryz.prog Tryz.lays267_ren := {
  mixed := by kernel_rfl
  f267 := Tryz.func110.trans (congrArg some (by kernel_rfl))
  f314 := Tryz.func136.trans (congrArg some (by kernel_rfl))
  t3 := Tryz.underlying3
  a3 := Tryz.isAgg3
  z3 := Tryz.sizeOf3
  v3 := Tryz.zeroValue3
  t4 := Tryz.underlying4
  a4 := Tryz.isAgg4
  z4 := Tryz.sizeOf4
  v4 := Tryz.zeroValue4
  t5 := Tryz.underlying5
  a5 := Tryz.isAgg5
  z5 := Tryz.sizeOf5
  v5 := Tryz.zeroValue5
  t9 := Tryz.underlying9
  a9 := Tryz.isAgg9
  z9 := Tryz.sizeOf9
  v9 := Tryz.zeroValue9
  t46 := Tryz.underlying99
  a46 := Tryz.isAgg99
  z46 := Tryz.sizeOf99
  v46 := Tryz.zeroValue99
  t51 := Tryz.underlying97
  a51 := Tryz.isAgg97
  z51 := Tryz.sizeOf97
  v51 := Tryz.zeroValue97
  t146 := Tryz.underlying142
  a146 := Tryz.isAgg142
  z146 := Tryz.sizeOf142
  v146 := Tryz.zeroValue142 }
open Go.RowKit Go.Lib in
theorem Tryz.bytealg_IndexRabinKarp (s sep : ByteArray) (h1 : 1 ≤ sep.size) (h2 : sep.size ≤ s.size) (hs : s.size < 4294967281) (w : World) :
    Calls Tryz.prog 110 #[.string s, .string sep] w fun e w' => e = .returned (.int .i64 (Lib.index s.data.toList sep.data.toList)) ∧ w' = w := Any.bytealg_IndexRabinKarp Tryz.lays267 s sep h1 h2 hs w
def Tryz.lays219_ren : Go.Shelf.Ren := ⟨fun | 219 => 88 | 217 => 107 | 225 => 108 | 224 => 109 | 267 => 110 | 266 => 135 | 314 => 136 | n => n, fun | 9 => 9 | 3 => 3 | 4 => 4 | 5 => 5 | 46 => 99 | 146 => 142 | 51 => 97 | n => n, fun | 1 => 1 | n => n⟩
theorem Tryz.lays219 : Go.Proofs.Lays.n219 Tryz.prog Tryz.lays219_ren := {
  mixed := by kernel_rfl
  f217 := Tryz.func107.trans (congrArg some (by kernel_rfl))
  f219 := Tryz.func88.trans (congrArg some (by kernel_rfl))
  f224 := Tryz.func109.trans (congrArg some (by kernel_rfl))
  f225 := Tryz.func108.trans (congrArg some (by kernel_rfl))
  f266 := Tryz.func135.trans (congrArg some (by kernel_rfl))
  f267 := Tryz.func110.trans (congrArg some (by kernel_rfl))
  f314 := Tryz.func136.trans (congrArg some (by kernel_rfl))
  t3 := Tryz.underlying3
  a3 := Tryz.isAgg3
  z3 := Tryz.sizeOf3
  v3 := Tryz.zeroValue3
  t4 := Tryz.underlying4
  a4 := Tryz.isAgg4
  z4 := Tryz.sizeOf4
  v4 := Tryz.zeroValue4
  t5 := Tryz.underlying5
  a5 := Tryz.isAgg5
  z5 := Tryz.sizeOf5
  v5 := Tryz.zeroValue5
  t9 := Tryz.underlying9
  a9 := Tryz.isAgg9
  z9 := Tryz.sizeOf9
  v9 := Tryz.zeroValue9
  t46 := Tryz.underlying99
  a46 := Tryz.isAgg99
  z46 := Tryz.sizeOf99
  v46 := Tryz.zeroValue99
  t51 := Tryz.underlying97
  a51 := Tryz.isAgg97
  z51 := Tryz.sizeOf97
  v51 := Tryz.zeroValue97
  t146 := Tryz.underlying142
  a146 := Tryz.isAgg142
  z146 := Tryz.sizeOf142
  v146 := Tryz.zeroValue142
  g1 := by kernel_rfl }
open Go.RowKit Go.Lib in
/-- internal/stringslite.Index (what strings.Index calls) AT A substr OF ONE BYTE c: IT RETURNS 'Lib.indexByte s c'; the world is as it was. (LAID: no walk: one application.) -/
theorem Tryz.stringslite_Index_one (s : ByteArray) (c : UInt8) (w : World) :
    Calls Tryz.prog 88 #[.string s, .string ⟨#[c]⟩] w fun e w' => e = .returned (.int .i64 (Lib.indexByte s.data.toList c)) ∧ w' = w := Any.stringslite_Index_one Tryz.lays219 s c w
open Go.RowKit Go.Lib in
/-- internal/stringslite.Index (what strings.Index calls) AT A substr OF WHATEVER LENGTH: IT RETURNS 'Lib.index s substr'; the world is as it was. 'm': what internal/bytealg.MaxLen holds: whatever. (LAID: no walk: one application.) -/
theorem Tryz.stringslite_Index (s sub : ByteArray) (m : Int) (w : World) (hs : s.size < 4294967281) (hm : w.cell? ⟨1, 0, none⟩ = some (.int .i64 m)) :
    Calls Tryz.prog 88 #[.string s, .string sub] w fun e w' => e = .returned (.int .i64 (Lib.index s.data.toList sub.data.toList)) ∧ w' = w := Any.stringslite_Index Tryz.lays219 s sub m w hs hm
def Tryz.lays143_ren : Go.Shelf.Ren := ⟨fun | 143 => 77 | 219 => 88 | 217 => 107 | 225 => 108 | 224 => 109 | 267 => 110 | 266 => 135 | 314 => 136 | n => n, fun | 9 => 9 | 3 => 3 | 4 => 4 | 5 => 5 | 46 => 99 | 146 => 142 | 51 => 97 | n => n, fun | 1 => 1 | n => n⟩
theorem Tryz.lays143 : Go.Proofs.Lays.n143 Tryz.prog Tryz.lays143_ren := {
  mixed := by kernel_rfl
  f143 := Tryz.func77.trans (congrArg some (by kernel_rfl))
  f217 := Tryz.func107.trans (congrArg some (by kernel_rfl))
  f219 := Tryz.func88.trans (congrArg some (by kernel_rfl))
  f224 := Tryz.func109.trans (congrArg some (by kernel_rfl))
  f225 := Tryz.func108.trans (congrArg some (by kernel_rfl))
  f266 := Tryz.func135.trans (congrArg some (by kernel_rfl))
  f267 := Tryz.func110.trans (congrArg some (by kernel_rfl))
  f314 := Tryz.func136.trans (congrArg some (by kernel_rfl))
  t3 := Tryz.underlying3
  a3 := Tryz.isAgg3
  z3 := Tryz.sizeOf3
  v3 := Tryz.zeroValue3
  t4 := Tryz.underlying4
  a4 := Tryz.isAgg4
  z4 := Tryz.sizeOf4
  v4 := Tryz.zeroValue4
  t5 := Tryz.underlying5
  a5 := Tryz.isAgg5
  z5 := Tryz.sizeOf5
  v5 := Tryz.zeroValue5
  t9 := Tryz.underlying9
  a9 := Tryz.isAgg9
  z9 := Tryz.sizeOf9
  v9 := Tryz.zeroValue9
  t46 := Tryz.underlying99
  a46 := Tryz.isAgg99
  z46 := Tryz.sizeOf99
  v46 := Tryz.zeroValue99
  t51 := Tryz.underlying97
  a51 := Tryz.isAgg97
  z51 := Tryz.sizeOf97
  v51 := Tryz.zeroValue97
  t146 := Tryz.underlying142
  a146 := Tryz.isAgg142
  z146 := Tryz.sizeOf142
  v146 := Tryz.zeroValue142
  g1 := by kernel_rfl }
open Go.RowKit Go.Lib in
/-- strings.Index: "Index returns the index of the first instance of substr in s, or -1 if substr is not present in s.": AT A substr OF ONE BYTE c: IT RETURNS 'Lib.indexByte s c'; the world is as it was. (LAID: no walk: one application.) -/
theorem Tryz.strings_Index_one (s : ByteArray) (c : UInt8) (w : World) :
    Calls Tryz.prog 77 #[.string s, .string ⟨#[c]⟩] w fun e w' => e = .returned (.int .i64 (Lib.indexByte s.data.toList c)) ∧ w' = w := Any.strings_Index_one Tryz.lays143 s c w
open Go.RowKit Go.Lib in
/-- strings.Index: "Index returns the index of the first instance of substr in s, or -1 if substr is not present in s.": IT RETURNS 'Lib.index s substr'; the world is as it was. (LAID: no walk: one application.) -/
theorem Tryz.strings_Index (s sub : ByteArray) (m : Int) (w : World) (hs : s.size < 4294967281) (hm : w.cell? ⟨1, 0, none⟩ = some (.int .i64 m)) :
    Calls Tryz.prog 77 #[.string s, .string sub] w fun e w' => e = .returned (.int .i64 (Lib.index s.data.toList sub.data.toList)) ∧ w' = w := Any.strings_Index Tryz.lays143 s sub m w hs hm
def Tryz.lays144_ren : Go.Shelf.Ren := ⟨fun | 144 => 62 | 143 => 77 | 219 => 88 | 217 => 107 | 225 => 108 | 224 => 109 | 267 => 110 | 266 => 135 | 314 => 136 | n => n, fun | 9 => 9 | 4 => 4 | 3 => 3 | 5 => 5 | 46 => 99 | 146 => 142 | 51 => 97 | n => n, fun | 1 => 1 | n => n⟩
theorem Tryz.lays144 : Go.Proofs.Lays.n144 Tryz.prog Tryz.lays144_ren := {
  mixed := by kernel_rfl
  f143 := Tryz.func77.trans (congrArg some (by kernel_rfl))
  f144 := Tryz.func62.trans (congrArg some (by kernel_rfl))
  f217 := Tryz.func107.trans (congrArg some (by kernel_rfl))
  f219 := Tryz.func88.trans (congrArg some (by kernel_rfl))
  f224 := Tryz.func109.trans (congrArg some (by kernel_rfl))
  f225 := Tryz.func108.trans (congrArg some (by kernel_rfl))
  f266 := Tryz.func135.trans (congrArg some (by kernel_rfl))
  f267 := Tryz.func110.trans (congrArg some (by kernel_rfl))
  f314 := Tryz.func136.trans (congrArg some (by kernel_rfl))
  t3 := Tryz.underlying3
  a3 := Tryz.isAgg3
  z3 := Tryz.sizeOf3
  v3 := Tryz.zeroValue3
  t4 := Tryz.underlying4
  a4 := Tryz.isAgg4
  z4 := Tryz.sizeOf4
  v4 := Tryz.zeroValue4
  t5 := Tryz.underlying5
  a5 := Tryz.isAgg5
  z5 := Tryz.sizeOf5
  v5 := Tryz.zeroValue5
  t9 := Tryz.underlying9
  a9 := Tryz.isAgg9
  z9 := Tryz.sizeOf9
  v9 := Tryz.zeroValue9
  t46 := Tryz.underlying99
  a46 := Tryz.isAgg99
  z46 := Tryz.sizeOf99
  v46 := Tryz.zeroValue99
  t51 := Tryz.underlying97
  a51 := Tryz.isAgg97
  z51 := Tryz.sizeOf97
  v51 := Tryz.zeroValue97
  t146 := Tryz.underlying142
  a146 := Tryz.isAgg142
  z146 := Tryz.sizeOf142
  v146 := Tryz.zeroValue142
  g1 := by kernel_rfl }
open Go.RowKit Go.Lib in
/-- strings.Contains: "Contains reports whether substr is within s.": AT A substr OF ONE BYTE c: IT RETURNS 'decide (0 ≤ Lib.indexByte s c)'; the world is as it was. (LAID: no walk: one application.) -/
theorem Tryz.strings_Contains_one (s : ByteArray) (c : UInt8) (w : World) :
    Calls Tryz.prog 62 #[.string s, .string ⟨#[c]⟩] w fun e w' => e = .returned (.bool (decide (0 ≤ Lib.indexByte s.data.toList c))) ∧ w' = w := Any.strings_Contains_one Tryz.lays144 s c w
open Go.RowKit Go.Lib in
/-- strings.Contains: "Contains reports whether substr is within s.": IT RETURNS 'Lib.contains s substr'; the world is as it was. (LAID: no walk: one application.) -/
theorem Tryz.strings_Contains (s sub : ByteArray) (m : Int) (w : World) (hs : s.size < 4294967281) (hm : w.cell? ⟨1, 0, none⟩ = some (.int .i64 m)) :
    Calls Tryz.prog 62 #[.string s, .string sub] w fun e w' => e = .returned (.bool (Lib.contains s.data.toList sub.data.toList)) ∧ w' = w := Any.strings_Contains Tryz.lays144 s sub m w hs hm
def Tryz.laysM219_ren : Go.Shelf.Ren := ⟨fun | 219 => 88 | 217 => 107 | 225 => 108 | 224 => 109 | 267 => 110 | 266 => 135 | 314 => 136 | n => n, fun | 9 => 9 | 3 => 3 | 4 => 4 | 5 => 5 | 46 => 99 | 146 => 142 | 51 => 97 | n => n, fun | 1 => 1 | n => n⟩
theorem Tryz.laysM219 : Go.Proofs.LaysM.n219 Tryz.prog Tryz.laysM219_ren := {
  mixed := by kernel_rfl
  f217 := Tryz.func107.trans (congrArg some (by kernel_rfl))
  f219 := Tryz.func88.trans (congrArg some (by kernel_rfl))
  f224 := Tryz.func109.trans (congrArg some (by kernel_rfl))
  f225 := Tryz.func108.trans (congrArg some (by kernel_rfl))
  f266 := Tryz.func135.trans (congrArg some (by kernel_rfl))
  f267 := Tryz.func110.trans (congrArg some (by kernel_rfl))
  f314 := Tryz.func136.trans (congrArg some (by kernel_rfl))
  t3 := Tryz.underlying3
  a3 := Tryz.isAgg3
  z3 := Tryz.sizeOf3
  v3 := Tryz.zeroValue3
  t4 := Tryz.underlying4
  a4 := Tryz.isAgg4
  z4 := Tryz.sizeOf4
  v4 := Tryz.zeroValue4
  t5 := Tryz.underlying5
  a5 := Tryz.isAgg5
  z5 := Tryz.sizeOf5
  v5 := Tryz.zeroValue5
  t9 := Tryz.underlying9
  a9 := Tryz.isAgg9
  z9 := Tryz.sizeOf9
  v9 := Tryz.zeroValue9
  t46 := Tryz.underlying99
  a46 := Tryz.isAgg99
  z46 := Tryz.sizeOf99
  v46 := Tryz.zeroValue99
  t51 := Tryz.underlying97
  a51 := Tryz.isAgg97
  z51 := Tryz.sizeOf97
  v51 := Tryz.zeroValue97
  t146 := Tryz.underlying142
  a146 := Tryz.isAgg142
  z146 := Tryz.sizeOf142
  v146 := Tryz.zeroValue142
  g1 := by kernel_rfl
  i3 := by kernel_rfl
  i4 := by kernel_rfl
  i5 := by kernel_rfl
  i9 := by kernel_rfl
  i46 := by kernel_rfl
  i51 := by kernel_rfl
  i146 := by kernel_rfl
  m1 := by kernel_rfl
  s1_3 := fun w h => Go.Proofs.cell_of_shapedOpen_int (zero := #[.int .i64 0]) (t := 3) h (of_decide_eq_true (by kernel_rfl)) (by kernel_rfl) rfl (by kernel_rfl) (by kernel_rfl) Tryz.underlying3 }
open Go.RowKit Go.Lib in
theorem Tryz.stringslite_Index_shaped (s sub : ByteArray) (w : World) (h : w.ShapedOpen Tryz.prog) (hs : s.size < 4294967281) :
    Calls Tryz.prog 88 #[.string s, .string sub] w fun e w' => e = .returned (.int .i64 (Lib.index s.data.toList sub.data.toList)) ∧ w' = w := Any.stringslite_Index_shaped Tryz.laysM219 s sub w h hs
def Tryz.laysM143_ren : Go.Shelf.Ren := ⟨fun | 143 => 77 | 219 => 88 | 217 => 107 | 225 => 108 | 224 => 109 | 267 => 110 | 266 => 135 | 314 => 136 | n => n, fun | 9 => 9 | 3 => 3 | 4 => 4 | 5 => 5 | 46 => 99 | 146 => 142 | 51 => 97 | n => n, fun | 1 => 1 | n => n⟩
theorem Tryz.laysM143 : Go.Proofs.LaysM.n143 Tryz.prog Tryz.laysM143_ren := {
  mixed := by kernel_rfl
  f143 := Tryz.func77.trans (congrArg some (by kernel_rfl))
  f217 := Tryz.func107.trans (congrArg some (by kernel_rfl))
  f219 := Tryz.func88.trans (congrArg some (by kernel_rfl))
  f224 := Tryz.func109.trans (congrArg some (by kernel_rfl))
  f225 := Tryz.func108.trans (congrArg some (by kernel_rfl))
  f266 := Tryz.func135.trans (congrArg some (by kernel_rfl))
  f267 := Tryz.func110.trans (congrArg some (by kernel_rfl))
  f314 := Tryz.func136.trans (congrArg some (by kernel_rfl))
  t3 := Tryz.underlying3
  a3 := Tryz.isAgg3
  z3 := Tryz.sizeOf3
  v3 := Tryz.zeroValue3
  t4 := Tryz.underlying4
  a4 := Tryz.isAgg4
  z4 := Tryz.sizeOf4
  v4 := Tryz.zeroValue4
  t5 := Tryz.underlying5
  a5 := Tryz.isAgg5
  z5 := Tryz.sizeOf5
  v5 := Tryz.zeroValue5
  t9 := Tryz.underlying9
  a9 := Tryz.isAgg9
  z9 := Tryz.sizeOf9
  v9 := Tryz.zeroValue9
  t46 := Tryz.underlying99
  a46 := Tryz.isAgg99
  z46 := Tryz.sizeOf99
  v46 := Tryz.zeroValue99
  t51 := Tryz.underlying97
  a51 := Tryz.isAgg97
  z51 := Tryz.sizeOf97
  v51 := Tryz.zeroValue97
  t146 := Tryz.underlying142
  a146 := Tryz.isAgg142
  z146 := Tryz.sizeOf142
  v146 := Tryz.zeroValue142
  g1 := by kernel_rfl
  i3 := by kernel_rfl
  i4 := by kernel_rfl
  i5 := by kernel_rfl
  i9 := by kernel_rfl
  i46 := by kernel_rfl
  i51 := by kernel_rfl
  i146 := by kernel_rfl
  m1 := by kernel_rfl
  s1_3 := fun w h => Go.Proofs.cell_of_shapedOpen_int (zero := #[.int .i64 0]) (t := 3) h (of_decide_eq_true (by kernel_rfl)) (by kernel_rfl) rfl (by kernel_rfl) (by kernel_rfl) Tryz.underlying3 }
open Go.RowKit Go.Lib in
theorem Tryz.strings_Index_shaped (s sub : ByteArray) (w : World) (h : w.ShapedOpen Tryz.prog) (hs : s.size < 4294967281) :
    Calls Tryz.prog 77 #[.string s, .string sub] w fun e w' => e = .returned (.int .i64 (Lib.index s.data.toList sub.data.toList)) ∧ w' = w := Any.strings_Index_shaped Tryz.laysM143 s sub w h hs
def Tryz.laysM144_ren : Go.Shelf.Ren := ⟨fun | 144 => 62 | 143 => 77 | 219 => 88 | 217 => 107 | 225 => 108 | 224 => 109 | 267 => 110 | 266 => 135 | 314 => 136 | n => n, fun | 9 => 9 | 4 => 4 | 3 => 3 | 5 => 5 | 46 => 99 | 146 => 142 | 51 => 97 | n => n, fun | 1 => 1 | n => n⟩
theorem Tryz.laysM144 : Go.Proofs.LaysM.n144 Tryz.prog Tryz.laysM144_ren := {
  mixed := by kernel_rfl
  f143 := Tryz.func77.trans (congrArg some (by kernel_rfl))
  f144 := Tryz.func62.trans (congrArg some (by kernel_rfl))
  f217 := Tryz.func107.trans (congrArg some (by kernel_rfl))
  f219 := Tryz.func88.trans (congrArg some (by kernel_rfl))
  f224 := Tryz.func109.trans (congrArg some (by kernel_rfl))
  f225 := Tryz.func108.trans (congrArg some (by kernel_rfl))
  f266 := Tryz.func135.trans (congrArg some (by kernel_rfl))
  f267 := Tryz.func110.trans (congrArg some (by kernel_rfl))
  f314 := Tryz.func136.trans (congrArg some (by kernel_rfl))
  t3 := Tryz.underlying3
  a3 := Tryz.isAgg3
  z3 := Tryz.sizeOf3
  v3 := Tryz.zeroValue3
  t4 := Tryz.underlying4
  a4 := Tryz.isAgg4
  z4 := Tryz.sizeOf4
  v4 := Tryz.zeroValue4
  t5 := Tryz.underlying5
  a5 := Tryz.isAgg5
  z5 := Tryz.sizeOf5
  v5 := Tryz.zeroValue5
  t9 := Tryz.underlying9
  a9 := Tryz.isAgg9
  z9 := Tryz.sizeOf9
  v9 := Tryz.zeroValue9
  t46 := Tryz.underlying99
  a46 := Tryz.isAgg99
  z46 := Tryz.sizeOf99
  v46 := Tryz.zeroValue99
  t51 := Tryz.underlying97
  a51 := Tryz.isAgg97
  z51 := Tryz.sizeOf97
  v51 := Tryz.zeroValue97
  t146 := Tryz.underlying142
  a146 := Tryz.isAgg142
  z146 := Tryz.sizeOf142
  v146 := Tryz.zeroValue142
  g1 := by kernel_rfl
  i3 := by kernel_rfl
  i4 := by kernel_rfl
  i5 := by kernel_rfl
  i9 := by kernel_rfl
  i46 := by kernel_rfl
  i51 := by kernel_rfl
  i146 := by kernel_rfl
  m1 := by kernel_rfl
  s1_3 := fun w h => Go.Proofs.cell_of_shapedOpen_int (zero := #[.int .i64 0]) (t := 3) h (of_decide_eq_true (by kernel_rfl)) (by kernel_rfl) rfl (by kernel_rfl) (by kernel_rfl) Tryz.underlying3 }
open Go.RowKit Go.Lib in
theorem Tryz.strings_Contains_shaped (s sub : ByteArray) (w : World) (h : w.ShapedOpen Tryz.prog) (hs : s.size < 4294967281) :
    Calls Tryz.prog 62 #[.string s, .string sub] w fun e w' => e = .returned (.bool (Lib.contains s.data.toList sub.data.toList)) ∧ w' = w := Any.strings_Contains_shaped Tryz.laysM144 s sub w h hs
def Tryz.lays197_ren : Go.Shelf.Ren := ⟨fun | 197 => 89 | 260 => 111 | n => n, fun | 9 => 9 | 21 => 21 | 3 => 3 | 4 => 4 | 5 => 5 | 105 => 101 | 119 => 144 | 0 => 0 | 46 => 99 | 139 => 147 | 138 => 146 | n => n, fun | 3 => 6 | 4 => 7 | n => n⟩
theorem Tryz.lays197 : Go.Proofs.Lays.n197 Tryz.prog Tryz.lays197_ren := {
  mixed := by kernel_rfl
  f197 := Tryz.func89.trans (congrArg some (by kernel_rfl))
  f260 := Tryz.func111.trans (congrArg some (by kernel_rfl))
  t0 := Tryz.underlying0
  a0 := Tryz.isAgg0
  z0 := Tryz.sizeOf0
  v0 := Tryz.zeroValue0
  t3 := Tryz.underlying3
  a3 := Tryz.isAgg3
  z3 := Tryz.sizeOf3
  v3 := Tryz.zeroValue3
  t4 := Tryz.underlying4
  a4 := Tryz.isAgg4
  z4 := Tryz.sizeOf4
  v4 := Tryz.zeroValue4
  t5 := Tryz.underlying5
  a5 := Tryz.isAgg5
  z5 := Tryz.sizeOf5
  v5 := Tryz.zeroValue5
  t9 := Tryz.underlying9
  a9 := Tryz.isAgg9
  z9 := Tryz.sizeOf9
  v9 := Tryz.zeroValue9
  t21 := Tryz.underlying21
  a21 := Tryz.isAgg21
  z21 := Tryz.sizeOf21
  v21 := Tryz.zeroValue21
  t46 := Tryz.underlying99
  a46 := Tryz.isAgg99
  z46 := Tryz.sizeOf99
  v46 := Tryz.zeroValue99
  t105 := Tryz.underlying101
  a105 := Tryz.isAgg101
  z105 := Tryz.sizeOf101
  v105 := Tryz.zeroValue101
  t119 := Tryz.underlying144
  a119 := Tryz.isAgg144
  z119 := Tryz.sizeOf144
  t138 := Tryz.underlying146
  a138 := Tryz.isAgg146
  z138 := Tryz.sizeOf146
  v138 := Tryz.zeroValue146
  t139 := Tryz.underlying147
  a139 := Tryz.isAgg147
  z139 := Tryz.sizeOf147
  v139 := Tryz.zeroValue147
  g3 := by kernel_rfl
  g4 := by kernel_rfl }
open Go.RowKit Go.Lib in
/-- unicode/utf8.DecodeRuneInString: "DecodeRuneInString is like DecodeRune but its input is a string.": ("DecodeRune unpacks the first UTF-8 encoding in p and returns the rune and its width in bytes."): WHERE s BEGINS WITH AN ASCII BYTE x: (x, 1). (LAID: no walk: one application.) -/
theorem Tryz.utf8_DecodeRuneInString_ascii (s : ByteArray) (x : UInt8) (w : World) (h0 : s.data.toList[0]? = some x) (hx : x.toNat < 128) :
    Calls Tryz.prog 89 #[.string s] w fun e w' => e = .returned (.tuple #[.int .i32 x.toNat, .int .i64 1]) ∧ w' = w := Any.utf8_DecodeRuneInString_ascii Tryz.lays197 s x w h0 hx
def Tryz.lays264_ren : Go.Shelf.Ren := ⟨fun | 264 => 140 | n => n, fun | 53 => 32 | 46 => 99 | n => n, fun | n => n⟩
theorem Tryz.lays264 : Go.Proofs.Lays.n264 Tryz.prog Tryz.lays264_ren := {
  mixed := by kernel_rfl
  f264 := Tryz.func140.trans (congrArg some (by kernel_rfl))
  t46 := Tryz.underlying99
  a46 := Tryz.isAgg99
  z46 := Tryz.sizeOf99
  v46 := Tryz.zeroValue99
  t53 := Tryz.underlying32
  a53 := Tryz.isAgg32
  z53 := Tryz.sizeOf32
  v53 := Tryz.zeroValue32 }
open Go.RowKit Go.Lib in
theorem Tryz.bits_Mul64 (x y : Nat) (hx : x < 18446744073709551616) (hy : y < 18446744073709551616) (w : World) :
    Calls Tryz.prog 140 #[.int .u64 x, .int .u64 y] w fun e w' => e = .returned (.tuple #[.int .u64 ((x * y / 18446744073709551616 : Nat) : Int), .int .u64 ((x * y % 18446744073709551616 : Nat) : Int)]) ∧ w' = w := Any.bits_Mul64 Tryz.lays264 x y hx hy w
def Tryz.lays260_ren : Go.Shelf.Ren := ⟨fun | 260 => 111 | n => n, fun | 9 => 9 | 21 => 21 | 3 => 3 | 4 => 4 | 5 => 5 | 119 => 144 | 0 => 0 | 46 => 99 | 139 => 147 | 138 => 146 | n => n, fun | 3 => 6 | 4 => 7 | n => n⟩
theorem Tryz.lays260 : Go.Proofs.Lays.n260 Tryz.prog Tryz.lays260_ren := {
  mixed := by kernel_rfl
  f260 := Tryz.func111.trans (congrArg some (by kernel_rfl))
  t0 := Tryz.underlying0
  a0 := Tryz.isAgg0
  z0 := Tryz.sizeOf0
  v0 := Tryz.zeroValue0
  t3 := Tryz.underlying3
  a3 := Tryz.isAgg3
  z3 := Tryz.sizeOf3
  v3 := Tryz.zeroValue3
  t4 := Tryz.underlying4
  a4 := Tryz.isAgg4
  z4 := Tryz.sizeOf4
  v4 := Tryz.zeroValue4
  t5 := Tryz.underlying5
  a5 := Tryz.isAgg5
  z5 := Tryz.sizeOf5
  v5 := Tryz.zeroValue5
  t9 := Tryz.underlying9
  a9 := Tryz.isAgg9
  z9 := Tryz.sizeOf9
  v9 := Tryz.zeroValue9
  t21 := Tryz.underlying21
  a21 := Tryz.isAgg21
  z21 := Tryz.sizeOf21
  v21 := Tryz.zeroValue21
  t46 := Tryz.underlying99
  a46 := Tryz.isAgg99
  z46 := Tryz.sizeOf99
  v46 := Tryz.zeroValue99
  t119 := Tryz.underlying144
  a119 := Tryz.isAgg144
  z119 := Tryz.sizeOf144
  t138 := Tryz.underlying146
  a138 := Tryz.isAgg146
  z138 := Tryz.sizeOf146
  v138 := Tryz.zeroValue146
  t139 := Tryz.underlying147
  a139 := Tryz.isAgg147
  z139 := Tryz.sizeOf147
  v139 := Tryz.zeroValue147
  g3 := by kernel_rfl
  g4 := by kernel_rfl }
open Go.RowKit Go.Lib in
theorem Tryz.utf8_decodeRuneInStringSlow (s : ByteArray) (w : World) (hT : Lib.Utf8Tabs 6 7 w) :
    Calls Tryz.prog 111 #[.string s] w fun e w' => e = .returned (.tuple #[.int .i32 (Lib.decodeGo s).1, .int .i64 (Lib.decodeGo s).2]) ∧ Below w.heap.size w w' := Any.utf8_decodeRuneInStringSlow Tryz.lays260 s w hT
open Go.RowKit Go.Lib in
/-- **unicode/utf8.DecodeRuneInString AT EVERY STRING.** (LAID: no walk: one application.) -/
theorem Tryz.utf8_DecodeRuneInString (s : ByteArray) (w : World) (hT : Lib.Utf8Tabs 6 7 w) :
    Calls Tryz.prog 89 #[.string s] w fun e w' => e = .returned (.tuple #[.int .i32 (Lib.decodeGo s).1, .int .i64 (Lib.decodeGo s).2]) ∧ Below w.heap.size w w' := Any.utf8_DecodeRuneInString Tryz.lays197 s w hT
def Tryz.laysNm237_ren : Go.Shelf.Ren := ⟨fun | 37 => 52 | n => n, fun | 3 => 3 | 4 => 4 | n => n, fun | n => n⟩
theorem Tryz.laysNm237 : Go.Proofs.Lays2.n37 Tryz.prog Tryz.laysNm237_ren := {
  mixed := by kernel_rfl
  f37 := Tryz.func52.trans (congrArg some (by kernel_rfl))
  t3 := Tryz.underlying3
  a3 := Tryz.isAgg3
  z3 := Tryz.sizeOf3
  v3 := Tryz.zeroValue3
  t4 := Tryz.underlying4
  a4 := Tryz.isAgg4
  z4 := Tryz.sizeOf4
  v4 := Tryz.zeroValue4 }
open Go.RowKit Go.Lib in
/-- cmp.isNaN[int]: 'x != x': false. (LAID: no walk: one application.) -/
theorem Tryz.cmp_isNaN_int2 (x : Int) (w : World) :
    Calls Tryz.prog 52 #[.int .i64 x] w fun e w' => e = .returned (.bool false) ∧ w' = w := Any.cmp_isNaN_int2 Tryz.laysNm237 x w
end Go.Proofs
namespace Go.Proofs.YtejfmghjmhiodaaGreatDoor.Vz
open Go.RowKit Go.Proofs.YtejfmghjmhiodaaGreatDoorW.PrintWords
set_option linter.unusedVariables false
set_option linter.unusedSimpArgs false
theorem store_float {P : Program} {w : World} {a : Addr} {m : Mode} (k : FloatKind) (x : Nat) : (store a (.float k x) m).run P w = stored P w a (.float k x) m := run_store P w a _ m rfl

/-- All blocks but those of S are as they were. -/
structure Save (S : Nat → Prop) (w w' : World) : Prop where
  os : w'.os = w.os
  tape : w'.tape = w.tape
  output : w'.output = w.output
  size : w.heap.size ≤ w'.heap.size
  block : ∀ k, k < w.heap.size → ¬ S k → w'.heap[k]? = w.heap[k]?
theorem Save.of {S : Nat → Prop} {w w' : World} (h : Below w.heap.size w w') : Save S w w' := ⟨h.os, h.tape, h.output, h.size, fun k hk _ => h.block k hk⟩
theorem Save.below {w w' : World} (h : Save (fun _ => False) w w') : Below w.heap.size w w' := ⟨h.os, h.tape, h.output, h.size, fun k hk => h.block k hk (fun x => x)⟩
theorem Save.then {S : Nat → Prop} {w a b : World} (h : Save S w a) (k : Save S a b) : Save S w b :=
  ⟨k.os.trans h.os, k.tape.trans h.tape, k.output.trans h.output, Nat.le_trans h.size k.size, fun i hi hs => (k.block i (Nat.lt_of_lt_of_le hi h.size) hs).trans (h.block i hi hs)⟩
theorem Save.setNew {S : Nat → Prop} {w a : World} (h : Save S w a) {p : Addr} (hp : w.heap.size ≤ p.block) (u : Value) : Save S w (a.setCell p u) :=
  ⟨h.os, h.tape, h.output, by simpa [World.setCell] using h.size, fun i hi hs => (Below.heap_setCell _ _ _ _ (by omega)).trans (h.block i hi hs)⟩
theorem Save.setIn {S : Nat → Prop} {w a : World} (h : Save S w a) {p : Addr} (hp : S p.block) (u : Value) : Save S w (a.setCell p u) :=
  ⟨h.os, h.tape, h.output, by simpa [World.setCell] using h.size, fun i hi hs => (Below.heap_setCell _ _ _ _ (fun e => hs (by rw [e]; exact hp))).trans (h.block i hi hs)⟩
theorem Save.blk {S : Nat → Prop} {w a : World} (h : Save S w a) {g : Nat} {o : Obj} (k : w.heap[g]? = some o) (hs : ¬ S g) : a.heap[g]? = some o := (h.block g (blk_lt k) hs).trans k

attribute [local go_sem] store_float
/-- One new block. -/
structure One (w : World) (g : Nat) (t : TypeId) (cs : Array Value) (W : World) : Prop where
  b : Below w.heap.size w W
  hg : w.heap.size ≤ g
  k : W.heap[g]? = some (.cells cs t (0, 0))
theorem One.put {w : World} {g : Nat} {t : TypeId} {cs : Array Value} {W : World} (h : One w g t cs W) (i : Nat) (u : Value) : One w g t (cs.setIfInBounds i u) (W.setCell ⟨g, i, none⟩ u) := ⟨h.b.setCell h.hg _, h.hg, blk_set h.k i u⟩
theorem One.drew {w : World} {g : Nat} {t : TypeId} {cs : Array Value} {W : World} (h : One w g t cs W) : One w g t cs W.drew := ⟨h.b.drew, h.hg, h.k⟩

theorem cells_put {W : World} {g : Nat} {cur cs : Array Value} {e : TypeId} (hb : W.heap[g]? = some (.cells cur e (0, 0))) (hs : cur.size = cs.size) :
    (W.setCells g 0 cs.toList).heap[g]? = some (.cells cs e (0, 0)) ∧ Save (fun k => k = g) W (W.setCells g 0 cs.toList) := by
  obtain ⟨cur', h1, h2, h3⟩ := setCells_row cs.toList 0 W cur hb (by simp [hs])
  obtain ⟨s1, s2, s3, s4⟩ := setCells_same g cs.toList 0 W
  have e : cur' = cs := by
    apply Array.toList_inj.1
    rw [h3]; simp [hs.symm]
  rw [e] at h1
  exact ⟨h1, s1, s2, s3, by rw [s4]; exact Nat.le_refl _, fun k _ hk => setCells_far _ _ k hk⟩

section
variable {P : Program} {ops : Array Oper} {rest : List Oper} {o : Oper} {a : Act} {Q : Exit → Act → World → Prop}
theorem put_event {W : World} (hgd : o.guard = none) {t : TypeId} {p : Tmp} {v : Operand} (ho : o.op = .store t (.tmp p) v) (hN : o.dst = none) {g : Nat} {cur cs : Array Value} {e : TypeId}
    (hp : a.eval (.tmp p) = .pointer (some ⟨g, 0, none⟩)) (hv : a.eval v = .agg cs) (hb : W.heap[g]? = some (.cells cur e (0, 0))) (hs : cur.size = cs.size) (hi : (P.info? t).map (·.size) = some cs.size) (h1 : ∀ q ∈ cs.toList, q.oneCell' = true) (hc : (Value.agg cs).cells = cs)
    (h : ∀ w1, w1.heap[g]? = some (.cells cs e (0, 0)) → Save (fun k => k = g) W w1 → wpList P ops Q rest a w1) : wpList P ops Q (o :: rest) a W := by
  have hr := run_store_run (P := P) (o := 0) t (.agg cs) cs.toList hb (by rw [hc]) (by rw [hi]; simp) (by simp [hs]) h1
  refine wpList_plain hgd fun K hK => ?_
  have hx : (execOp a.eval o).run P W = .ok .skip (W.setCells g 0 cs.toList) := by
    simp [execOp, ho, hp, hv, hr]
  unfold Oper.wp
  rw [hx]
  show K (a.put o.dst undef) _
  rw [hN]
  obtain ⟨k1, k2⟩ := cells_put hb hs
  exact hK _ _ (h _ k1 k2)
end
theorem below_keep {w W W' : World} {g : Nat} (h : Below w.heap.size w W) (hg : w.heap.size ≤ g) (k : Save (fun k => k = g) W W') : Below w.heap.size w W' :=
  ⟨k.os.trans h.os, k.tape.trans h.tape, k.output.trans h.output, Nat.le_trans h.size k.size, fun i hi => (k.block i (Nat.lt_of_lt_of_le hi h.size) (by omega)).trans (h.block i hi)⟩

section
variable {P : Program} {ops : Array Oper} {rest : List Oper} {o : Oper} {a : Act} {Q : Exit → Act → World → Prop}
theorem put_eventU {W : World} (hgd : o.guard = none) {t : TypeId} {p : Tmp} {v : Operand} (ho : o.op = .store t (.tmp p) v) (hN : o.dst = none) {g : Nat} {u : Value} {cur cs : Array Value} {e : TypeId}
    (hp : a.eval (.tmp p) = .pointer (some ⟨g, 0, none⟩)) (hv : a.eval v = u) (hb : W.heap[g]? = some (.cells cur e (0, 0))) (hs : cur.size = cs.size) (hi : (P.info? t).map (·.size) = some cs.size) (h1 : ∀ q ∈ cs.toList, q.oneCell' = true) (hc : u.cells = cs)
    (h : ∀ w1, w1.heap[g]? = some (.cells cs e (0, 0)) → Save (fun k => k = g) W w1 → wpList P ops Q rest a w1) : wpList P ops Q (o :: rest) a W := by
  have hr := run_store_run (P := P) (o := 0) t u cs.toList hb (by rw [hc]) (by rw [hi]; simp) (by simp [hs]) h1
  refine wpList_plain hgd fun K hK => ?_
  have hx : (execOp a.eval o).run P W = .ok .skip (W.setCells g 0 cs.toList) := by
    simp [execOp, ho, hp, hv, hr]
  unfold Oper.wp
  rw [hx]
  show K (a.put o.dst undef) _
  rw [hN]
  obtain ⟨k1, k2⟩ := cells_put hb hs
  exact hK _ _ (h _ k1 k2)
end
theorem Save.mono {S T : Nat → Prop} {w w' : World} (h : Save S w w') (hST : ∀ k, S k → T k) : Save T w w' := ⟨h.os, h.tape, h.output, h.size, fun k hk hs => h.block k hk (fun x => hs (hST k x))⟩
theorem Save.newer {S : Nat → Prop} {w a b : World} {g : Nat} (h : Save S w a) (k : Save (fun k => k = g) a b) (hg : w.heap.size ≤ g) : Save S w b :=
  ⟨k.os.trans h.os, k.tape.trans h.tape, k.output.trans h.output, Nat.le_trans h.size k.size, fun i hi hs => (k.block i (Nat.lt_of_lt_of_le hi h.size) (by omega)).trans (h.block i hi hs)⟩
theorem Save.belowed {S : Nat → Prop} {w a b : World} (h : Save S w a) (k : Below a.heap.size a b) : Save S w b := h.then (Save.of k)
theorem Save.grown {S : Nat → Prop} {w a b : World} {row : Option Nat} (h : Save S w a) (hg : a.grownBy b row) (hr : ∀ k, row = some k → w.heap.size ≤ k) : Save S w b :=
  ⟨hg.os.trans h.os, hg.tape.trans h.tape, hg.output.trans h.output, Nat.le_trans h.size hg.size, fun k hk hs => (hg.block k (Nat.lt_of_lt_of_le hk h.size) (fun e => by have := hr k e.symm; omega)).trans (h.block k hk hs)⟩
theorem own_save {w w' : World} {base e size : Nat} {v : Value} {n : Nat} {xs : List Value} {S : Nat → Prop} (h : w.ownsRow base e size v n xs) (hs : Save S w w') (hS : ∀ k, v.ownBlock = some k → ¬ S k) : w'.ownsRow base e size v n xs := by
  obtain ⟨h1, h2⟩ := h
  refine ⟨h1, ?_⟩
  rcases h2 with h2 | ⟨g, cap, cur, hv, hg, hh, r⟩
  · exact .inl h2
  · exact .inr ⟨g, cap, cur, hv, hg, hs.blk hh (hS g (by rw [hv]; rfl)), r⟩
theorem own_under {w : World} {base e size : Nat} {v : Value} {n : Nat} {xs : List Value} (h : w.ownsRow base e size v n xs) : ∀ k, v.ownBlock = some k → base ≤ k ∧ k < w.heap.size := by
  intro k hk
  rcases h.2 with ⟨hv, _⟩ | ⟨g, cap, cur, hv, hg, hh, _⟩
  · rw [hv] at hk; cases hk
  · rw [hv] at hk
    obtain rfl : g = k := by simpa [Value.ownBlock] using hk
    exact ⟨hg, blk_lt hh⟩
theorem info25 : (Tryz.prog.info? 25).map (fun i => (i.zero, i.size, i.bytes)) = some (some (.agg #[.int .i64 0, .int .i64 0, .float .f64 0, .string ⟨#[]⟩, .slice none 0 0]), 5, 64) := by kernel_rfl


set_option maxHeartbeats 8000000 in
set_option maxRecDepth 100000 in
/-- choirref1.Int. -/
theorem int14 (n : Int) (w : World) : Calls Tryz.prog 23 #[.int .i64 n] w fun e w' => e = .returned (.agg #[.int .i64 1, .int .i64 n, .float .f64 0, .string ⟨#[]⟩, .slice none 0 0]) ∧ Below w.heap.size w w' := by
  have hB := Aside0.mk ((Below.refl w.heap.size w).alloc (Nat.le_refl _) (.cells #[.int .i64 1, .int .i64 n, .float .f64 0, .string ⟨#[]⟩, .slice none 0 0] 25))
  go_enter Tryz.func23, Tryz.ntmps23
  go_wp2
  refine bodyPost_ret (v := .agg #[.int .i64 1, .int .i64 n, .float .f64 0, .string ⟨#[]⟩, .slice none 0 0]) (by simp [results, Tryz.results23, go_sem]) rfl ⟨rfl, ?_⟩
  exact hB.out

/-- A value of api.Value: kind, I, F's bits, S, L. -/
inductive Val where
  | mk (k i : Int) (f : Nat) (s : ByteArray) (l : List Val)

theorem cell_in {w : World} {b o : Nat} {v : Value} (h : w.cell? ⟨b, o, none⟩ = some v) : b < w.heap.size := by
  rcases Nat.lt_or_ge b w.heap.size with h1 | h1
  · exact h1
  · have : w.heap[b]? = none := Array.getElem?_eq_none h1
    simp [World.cell?, this] at h
/-- A value as it lies in memory; the blocks of its lists are 'ok'. -/
inductive RV (W : World) (ok : Nat → Prop) : Val → Array Value → Prop
  | mk (k i : Int) (f : Nat) (s : ByteArray) (l : List Val) (A : Option Addr) (c g off : Nat) (cs : Nat → Array Value)
      (hk : (Lit.int .i64 k).wf = true) (hi : (Lit.int .i64 i).wf = true) (hf : (Lit.float .f64 f).wf = true) (hs : s.size ≤ 140737488351232)
      (hc : l.length ≤ c) (hb : l.length * 64 ≤ 140737488351232) (hA : 0 < l.length → A = some ⟨g, off, none⟩ ∧ ok g)
      (hcell : ∀ j, j < l.length → ∀ q, q < 5 → W.cell? ⟨g, off + j * 5 + q, none⟩ = (cs j)[q]?)
      (hsub : ∀ (j : Nat) (h : j < l.length), RV W ok l[j] (cs j)) :
      RV W ok (.mk k i f s l) #[.int .i64 k, .int .i64 i, .float .f64 f, .string s, .slice A l.length c]
theorem RV.form {W : World} {ok : Nat → Prop} {v : Val} {cs : Array Value} (h : RV W ok v cs) : ∃ (k i : Int) (f : Nat) (s : ByteArray) (A : Option Addr) (n c : Nat), cs = #[.int .i64 k, .int .i64 i, .float .f64 f, .string s, .slice A n c] := by
  cases h with
  | mk k i f s l A c g off cs => exact ⟨k, i, f, s, A, _, c, rfl⟩
theorem RV.step {W W' : World} {ok ok' : Nat → Prop} {v : Val} {cs : Array Value} (h : RV W ok v cs) (hm : ∀ g, ok g → g < W.heap.size → W'.heap[g]? = W.heap[g]?) (hok : ∀ g, ok g → g < W.heap.size → ok' g) : RV W' ok' v cs := by
  induction h with
  | mk k i f s l A c g off cs hk hi hf hs hc hb hA hcell hsub ih =>
    have hg : 0 < l.length → g < W.heap.size := fun hp => by
      have h1 := hcell 0 hp 0 (by decide)
      obtain ⟨_, _, _, _, _, _, _, e⟩ := (hsub 0 hp).form
      rw [e] at h1
      exact cell_in h1
    refine .mk k i f s l A c g off cs hk hi hf hs hc hb (fun hp => ⟨(hA hp).1, hok g (hA hp).2 (hg hp)⟩) (fun j hj q hq => ?_) ih
    have hp : 0 < l.length := Nat.lt_of_le_of_lt (Nat.zero_le _) hj
    rw [← hcell j hj q hq]
    exact World.cell?_of_block (hm g (hA hp).2 (hg hp))
theorem RV.kept {W W' : World} {ok : Nat → Prop} {v : Val} {cs : Array Value} (h : RV W ok v cs) (hb : Below W.heap.size W W') : RV W' ok v cs := h.step (fun g _ hg => hb.block g hg) (fun _ h _ => h)
theorem RV.mono {W : World} {ok ok' : Nat → Prop} {v : Val} {cs : Array Value} (h : RV W ok v cs) (hok : ∀ g, ok g → g < W.heap.size → ok' g) : RV W ok' v cs := h.step (fun _ _ _ => rfl) hok
/-- Its elements' cells. -/
theorem cells5 {W : World} {g o : Nat} {cs : Array Value} {x0 x1 x2 x3 x4 : Value} (h : ∀ q, q < 5 → W.cell? ⟨g, o + q, none⟩ = cs[q]?) (e : cs = #[x0, x1, x2, x3, x4]) :
    W.cell? ⟨g, o, none⟩ = some x0 ∧ W.cell? ⟨g, o + 1, none⟩ = some x1 ∧ W.cell? ⟨g, o + 2, none⟩ = some x2 ∧ W.cell? ⟨g, o + 3, none⟩ = some x3 ∧ W.cell? ⟨g, o + 4, none⟩ = some x4 := by
  subst e
  exact ⟨h 0 (by decide), h 1 (by decide), h 2 (by decide), h 3 (by decide), h 4 (by decide)⟩
theorem Val.ind {P : Val → Prop} (h : ∀ k i f s l, (∀ (j : Nat) (hj : j < l.length), P l[j]) → P (.mk k i f s l)) (v : Val) : P v :=
  match v with
  | .mk k i f s l => h k i f s l fun j hj => Val.ind h l[j]
termination_by SizeOf.sizeOf v
decreasing_by
  have := List.sizeOf_lt_of_mem (List.getElem_mem hj)
  simp
  omega
theorem RV.len {W : World} {ok : Nat → Prop} {k i : Int} {f : Nat} {s : ByteArray} {l : List Val} {cs : Array Value} (h : RV W ok (.mk k i f s l) cs) : ∃ (A : Option Addr) (c : Nat), cs = #[.int .i64 k, .int .i64 i, .float .f64 f, .string s, .slice A l.length c] ∧ (Lit.int .i64 k).wf = true ∧ (Lit.int .i64 i).wf = true ∧ (Lit.float .f64 f).wf = true ∧ s.size ≤ 140737488351232 ∧ l.length ≤ c ∧ l.length * 64 ≤ 140737488351232 := by
  cases h with
  | mk k i f s l A c g off cs hk hi hf hs hc hb => exact ⟨A, c, rfl, hk, hi, hf, hs, hc, hb⟩
theorem RV.elem {W : World} {ok : Nat → Prop} {k i : Int} {f : Nat} {s : ByteArray} {l : List Val} {x0 x1 x2 x3 : Value} {A : Option Addr} {n c : Nat} (h : RV W ok (.mk k i f s l) #[x0, x1, x2, x3, .slice A n c]) (j : Nat) (hj : j < l.length) :
    ∃ (g off : Nat) (k' i' : Int) (f' : Nat) (s' : ByteArray) (A' : Option Addr) (n' c' : Nat), A = some ⟨g, off, none⟩ ∧ ok g ∧ g < W.heap.size ∧ RV W ok l[j] #[.int .i64 k', .int .i64 i', .float .f64 f', .string s', .slice A' n' c'] ∧
      W.cell? ⟨g, off + j * 5, none⟩ = some (.int .i64 k') ∧ W.cell? ⟨g, off + j * 5 + 1, none⟩ = some (.int .i64 i') ∧ W.cell? ⟨g, off + j * 5 + 2, none⟩ = some (.float .f64 f') ∧ W.cell? ⟨g, off + j * 5 + 3, none⟩ = some (.string s') ∧ W.cell? ⟨g, off + j * 5 + 4, none⟩ = some (.slice A' n' c') := by
  cases h with
  | mk k i f s l A c g off cs hk hi hf hs hc hb hA hcell hsub =>
    have hp : 0 < l.length := Nat.lt_of_le_of_lt (Nat.zero_le _) hj
    obtain ⟨k', i', f', s', A', n', c', e⟩ := (hsub j hj).form
    obtain ⟨p0, p1, p2, p3, p4⟩ := cells5 (hcell j hj) e
    exact ⟨g, off, k', i', f', s', A', n', c', (hA hp).1, (hA hp).2, cell_in p0, by rw [← e]; exact hsub j hj, p0, p1, p2, p3, p4⟩

set_option maxHeartbeats 8000000 in
set_option maxRecDepth 100000 in
/-- Deep. -/
theorem deep27 : ∀ (v : Val) (W : World) (ok : Nat → Prop) (cs : Array Value), RV W ok v cs → ∀ most : Int, Calls Tryz.prog 29 #[.agg cs, .int .i64 most] W fun e w' => (∃ b, e = .returned (.bool b)) ∧ Below W.heap.size W w' := by
  intro v
  induction v using Val.ind with
  | h k i f s l ih =>
    intro W ok cs hR most
    obtain ⟨A, c, rfl, wk, wi, wf, ws, wc, wb⟩ := hR.len
    have HI := Aside0.mk ih
    have HR := Aside0.mk hR
    have HWB := Aside0.mk (show (l.length : Int) * 64 ≤ 140737488351232 ∧ l.length ≤ c by omega)
    have hnn : (0 : Int) ≤ (l.length : Int) := by omega
    have hss : (s.size : Int) ≤ 140737488351232 := by omega
    have hs0 : (0 : Int) ≤ (s.size : Int) := by omega
    clear ih hR wk wi wf ws wc wb
    obtain ⟨n, hn⟩ : ∃ n, l.length = n := ⟨_, rfl⟩
    have HNL := Aside0.mk hn
    rw [hn] at HR HWB hnn ⊢
    clear hn
    by_cases hk4 : k = 4
    · subst hk4
      by_cases hm : most = 0
      · subst hm
        go_enter Tryz.func29, Tryz.ntmps29
        go_wp2_with (first
          | ((with_reducible refine gate_dst (N := 2) rfl ?_); refine box_event ?hg (N := 2) ?hd (cs := #[.int .i64 4, .int .i64 i, .float .f64 f, .string s, .slice A n c]) (t := 25) ?hr ?_; (case hd => rfl); (case hg => rfl); (case hr => first | (go_simp; done) | (go_simp; rfl)); intro gb hg w1 hbox hb; have HB := Aside0.mk hb; have KB := Aside0.mk hbox; have b0 : w1.cell? ⟨gb, 0, none⟩ = some (.int .i64 4) := blk_cell hbox 0; clear hg hbox hb))
        go_ret
        exact ⟨⟨_, rfl⟩, HB.out⟩
      · have hm1 : (most == 0) = false := by rw [beq_eq_false_iff_ne]; exact hm
        clear hm
        go_enter Tryz.func29, Tryz.ntmps29
        go_upto_region 5 with (first
          | ((with_reducible refine gate_dst (N := 2) rfl ?_); refine box_event ?hg (N := 2) ?hd (cs := #[.int .i64 4, .int .i64 i, .float .f64 f, .string s, .slice A n c]) (t := 25) ?hr ?_; (case hd => rfl); (case hg => rfl); (case hr => first | (go_simp; done) | (go_simp; rfl)); intro gb hg w1 hbox hb; have HB := Aside0.mk hb; have KB := Aside0.mk hbox; have b0 : w1.cell? ⟨gb, 0, none⟩ = some (.int .i64 4) := blk_cell hbox 0; clear hg hbox hb))
        clear b0
        go_wp2
        go_loopw [5] (fun ix wr => ∃ j : Nat, j ≤ n ∧ ix = .int .i64 (j : Int) ∧ Aside0 (Below W.heap.size W wr) ∧ Aside0 (wr.heap[gb]? = some (.cells #[.int .i64 4, .int .i64 i, .float .f64 f, .string s, .slice A n c] 25 (0, 0)))) (fun ix _ => n - (intOf ix).toNat)
        case atStart => exact ⟨0, by omega, rfl, HB, KB⟩
        case round =>
          obtain ⟨j, hj, rfl, HB', KB'⟩ := hrel
          have b4 : wr.cell? ⟨gb, 4, none⟩ = some (.slice A n c) := blk_cell KB'.out 4
          by_cases hlt : j < n
          · have hji : (j : Int) < (n : Int) := by omega
            have hj0 : (0 : Int) ≤ (j : Int) := by omega
            have hjl : j < l.length := by rw [HNL.out]; exact hlt
            obtain ⟨g, off, k', i', f', s', A', n', c', rfl, hg1, hg2, hsub, p0, p1, p2, p3, p4⟩ := (HR.out.kept HB'.out).elem j hjl
            have hih := HI.out j hjl
            generalize l[j] = x at hsub hih
            have HSub := Aside0.mk hsub
            have HIx := Aside0.mk hih
            have hwk : IntKind.i64.wrap ((j : Int) + 1) = ((j + 1 : Nat) : Int) := by have := HWB.out; rw [IntKind.wrap_i64]; omega
            clear hsub hih hjl hg1 hg2
            go_wp2_with (go_at_call 29; refine (HIx.out _ _ _ HSub.out _).mono ?_; rintro e w2 ⟨⟨b, rfl⟩, hb⟩; have HB2 := Aside0.mk (below_step HB'.out hb); have KB2 := Aside0.mk (blk_below KB'.out hb); clear hb)
            · go_ret
              exact ⟨⟨_, rfl⟩, HB2.out⟩
            · go_roundw
              case rel => exact ⟨j + 1, by omega, by go_num, HB2, KB2⟩
              case measure => simp [intOf]; omega
          · obtain rfl : j = n := by omega
            go_wp2
            go_ret
            exact ⟨⟨_, rfl⟩, HB'.out⟩
    · have hk5 : (k != 4) = true := by rw [bne_iff_ne]; exact hk4
      clear hk4
      go_enter Tryz.func29, Tryz.ntmps29
      go_wp2_with (first
          | ((with_reducible refine gate_dst (N := 2) rfl ?_); refine box_event ?hg (N := 2) ?hd (cs := #[.int .i64 k, .int .i64 i, .float .f64 f, .string s, .slice A n c]) (t := 25) ?hr ?_; (case hd => rfl); (case hg => rfl); (case hr => first | (go_simp; done) | (go_simp; rfl)); intro gb hg w1 hbox hb; have HB := Aside0.mk hb; have KB := Aside0.mk hbox; have b0 : w1.cell? ⟨gb, 0, none⟩ = some (.int .i64 k) := blk_cell hbox 0; clear hg hbox hb))
      go_ret
      exact ⟨⟨_, rfl⟩, HB.out⟩

set_option maxHeartbeats 8000000 in
set_option maxRecDepth 100000 in
/-- Size. -/
theorem size28 : ∀ (v : Val) (W : World) (ok : Nat → Prop) (cs : Array Value), RV W ok v cs → Calls Tryz.prog 19 #[.agg cs] W fun e w' => (∃ b, e = .returned (.int .i64 b)) ∧ Below W.heap.size W w' := by
  intro v
  induction v using Val.ind with
  | h k i f s l ih =>
    intro W ok cs hR 
    obtain ⟨A, c, rfl, wk, wi, wf, ws, wc, wb⟩ := hR.len
    have HI := Aside0.mk ih
    have HR := Aside0.mk hR
    have HWB := Aside0.mk (show (l.length : Int) * 64 ≤ 140737488351232 ∧ l.length ≤ c by omega)
    have hnn : (0 : Int) ≤ (l.length : Int) := by omega
    have hss : (s.size : Int) ≤ 140737488351232 := by omega
    have hs0 : (0 : Int) ≤ (s.size : Int) := by omega
    clear ih hR wk wi wf ws wc wb
    obtain ⟨n, hn⟩ : ∃ n, l.length = n := ⟨_, rfl⟩
    have HNL := Aside0.mk hn
    rw [hn] at HR HWB hnn ⊢
    clear hn
    by_cases hk4 : k = 4
    · subst hk4
      go_enter Tryz.func19, Tryz.ntmps19
      go_upto_region 8 with (first
        | ((with_reducible refine gate_dst (N := 1) rfl ?_); refine box_event ?hg (N := 1) ?hd (cs := #[.int .i64 4, .int .i64 i, .float .f64 f, .string s, .slice A n c]) (t := 25) ?hr ?_; (case hd => rfl); (case hg => rfl); (case hr => first | (go_simp; done) | (go_simp; rfl)); intro gb hg w1 hbox hb; have HB := Aside0.mk hb; have KB := Aside0.mk hbox; have b0 : w1.cell? ⟨gb, 0, none⟩ = some (.int .i64 4) := blk_cell hbox 0; clear hg hbox hb))
      clear b0
      go_wp2
      go_loopw [3, 4] (fun sx ix wr => ∃ (j : Nat) (z : Int), j ≤ n ∧ sx = .int .i64 z ∧ ix = .int .i64 (j : Int) ∧ Aside0 (Below W.heap.size W wr) ∧ Aside0 (wr.heap[gb]? = some (.cells #[.int .i64 4, .int .i64 i, .float .f64 f, .string s, .slice A n c] 25 (0, 0)))) (fun _ ix _ => n - (intOf ix).toNat)
      case atStart => exact ⟨0, _, by omega, rfl, rfl, HB, KB⟩
      case round =>
          obtain ⟨j, z, hj, rfl, rfl, HB', KB'⟩ := hrel
          have b4 : wr.cell? ⟨gb, 4, none⟩ = some (.slice A n c) := blk_cell KB'.out 4
          by_cases hlt : j < n
          · have hji : (j : Int) < (n : Int) := by omega
            have hj0 : (0 : Int) ≤ (j : Int) := by omega
            have hjl : j < l.length := by rw [HNL.out]; exact hlt
            obtain ⟨g, off, k', i', f', s', A', n', c', rfl, hg1, hg2, hsub, p0, p1, p2, p3, p4⟩ := (HR.out.kept HB'.out).elem j hjl
            have hih := HI.out j hjl
            generalize l[j] = x at hsub hih
            have HSub := Aside0.mk hsub
            have HIx := Aside0.mk hih
            have hwk : IntKind.i64.wrap ((j : Int) + 1) = ((j + 1 : Nat) : Int) := by have := HWB.out; rw [IntKind.wrap_i64]; omega
            clear hsub hih hjl hg1 hg2
            go_wp2_with (go_at_call 19; refine (HIx.out _ _ _ HSub.out).mono ?_; rintro e w2 ⟨⟨b, rfl⟩, hb⟩; have HB2 := Aside0.mk (below_step HB'.out hb); have KB2 := Aside0.mk (blk_below KB'.out hb); clear hb)
            go_roundw
            case rel => exact ⟨j + 1, _, by omega, rfl, by go_num, HB2, KB2⟩
            case measure => simp [intOf]; omega
          · obtain rfl : j = n := by omega
            go_wp2
            go_ret
            exact ⟨⟨_, rfl⟩, HB'.out⟩
    · have hk5 : (k == 4) = false := by rw [beq_eq_false_iff_ne]; exact hk4
      clear hk4
      by_cases h3 : k = 3
      · subst h3
        go_enter Tryz.func19, Tryz.ntmps19
        go_wp2_with (first
          | ((with_reducible refine gate_dst (N := 1) rfl ?_); refine box_event ?hg (N := 1) ?hd (cs := #[.int .i64 3, .int .i64 i, .float .f64 f, .string s, .slice A n c]) (t := 25) ?hr ?_; (case hd => rfl); (case hg => rfl); (case hr => first | (go_simp; done) | (go_simp; rfl)); intro gb hg w1 hbox hb; have HB := Aside0.mk hb; have b0 : w1.cell? ⟨gb, 0, none⟩ = some (.int .i64 3) := blk_cell hbox 0; have b3 : w1.cell? ⟨gb, 3, none⟩ = some (.string s) := blk_cell hbox 3; clear hg hbox hb))
        go_ret
        exact ⟨⟨_, rfl⟩, HB.out⟩
      · have hk3 : (k == 3) = false := by rw [beq_eq_false_iff_ne]; exact h3
        clear h3
        by_cases h1 : k = 1 ∨ k = 2
        · rcases h1 with rfl | rfl
          · go_enter Tryz.func19, Tryz.ntmps19
            go_wp2_with (first
              | ((with_reducible refine gate_dst (N := 1) rfl ?_); refine box_event ?hg (N := 1) ?hd (cs := #[.int .i64 1, .int .i64 i, .float .f64 f, .string s, .slice A n c]) (t := 25) ?hr ?_; (case hd => rfl); (case hg => rfl); (case hr => first | (go_simp; done) | (go_simp; rfl)); intro gb hg w1 hbox hb; have HB := Aside0.mk hb; have KB := Aside0.mk hbox; have b0 : w1.cell? ⟨gb, 0, none⟩ = some (.int .i64 1) := blk_cell hbox 0; clear hg hbox hb))
            go_ret
            exact ⟨⟨_, rfl⟩, HB.out⟩
          · go_enter Tryz.func19, Tryz.ntmps19
            go_wp2_with (first
              | ((with_reducible refine gate_dst (N := 1) rfl ?_); refine box_event ?hg (N := 1) ?hd (cs := #[.int .i64 2, .int .i64 i, .float .f64 f, .string s, .slice A n c]) (t := 25) ?hr ?_; (case hd => rfl); (case hg => rfl); (case hr => first | (go_simp; done) | (go_simp; rfl)); intro gb hg w1 hbox hb; have HB := Aside0.mk hb; have KB := Aside0.mk hbox; have b0 : w1.cell? ⟨gb, 0, none⟩ = some (.int .i64 2) := blk_cell hbox 0; clear hg hbox hb))
            go_ret
            exact ⟨⟨_, rfl⟩, HB.out⟩
        · have hk1 : (k == 1) = false := by rw [beq_eq_false_iff_ne]; omega
          have hk2 : (k == 2) = false := by rw [beq_eq_false_iff_ne]; omega
          clear h1
          go_enter Tryz.func19, Tryz.ntmps19
          go_wp2_with (first
              | ((with_reducible refine gate_dst (N := 1) rfl ?_); refine box_event ?hg (N := 1) ?hd (cs := #[.int .i64 k, .int .i64 i, .float .f64 f, .string s, .slice A n c]) (t := 25) ?hr ?_; (case hd => rfl); (case hg => rfl); (case hr => first | (go_simp; done) | (go_simp; rfl)); intro gb hg w1 hbox hb; have HB := Aside0.mk hb; have KB := Aside0.mk hbox; have b0 : w1.cell? ⟨gb, 0, none⟩ = some (.int .i64 k) := blk_cell hbox 0; clear hg hbox hb))
          go_ret
          exact ⟨⟨_, rfl⟩, HB.out⟩

set_option maxHeartbeats 8000000 in
set_option maxRecDepth 100000 in
/-- Light. -/
theorem light15 (v : Val) (W : World) (ok : Nat → Prop) (cs : Array Value) (hR : RV W ok v cs) : Calls Tryz.prog 10 #[.agg cs] W fun e w' => (∃ b, e = .returned (.bool b)) ∧ Below W.heap.size W w' := by
  obtain ⟨k, i, f, s, A, n, c, rfl⟩ := hR.form
  have HR := Aside0.mk hR
  clear hR
  go_enter Tryz.func10, Tryz.ntmps10
  go_wp2_with (first
    | ((with_reducible refine gate_dst (N := 1) rfl ?_); refine box_event ?hg (N := 1) ?hd (cs := #[.int .i64 k, .int .i64 i, .float .f64 f, .string s, .slice A n c]) (t := 25) ?hr ?_; (case hd => rfl); (case hg => rfl); (case hr => first | (go_simp; done) | (go_simp; rfl)); intro gb hg w1 hbox hb; have HB := Aside0.mk hb; have HR := Aside0.mk (HR.out.kept hb); have KB := Aside0.mk hbox; have b0 : w1.cell? ⟨gb, 0, none⟩ = some (.int .i64 k) := blk_cell hbox 0; have b1 : w1.cell? ⟨gb, 1, none⟩ = some (.int .i64 i) := blk_cell hbox 1; have b2 : w1.cell? ⟨gb, 2, none⟩ = some (.float .f64 f) := blk_cell hbox 2; have b3 : w1.cell? ⟨gb, 3, none⟩ = some (.string s) := blk_cell hbox 3; have b4 : w1.cell? ⟨gb, 4, none⟩ = some (.slice A n c) := blk_cell hbox 4; clear hg hbox hb)
    | (go_at_call 29; refine (deep27 _ _ _ _ HR.out _).mono ?_; rintro e w2 ⟨⟨b, rfl⟩, hb⟩; have HR := Aside0.mk (HR.out.kept hb); have HB := Aside0.mk (below_step HB.out hb); have KB := Aside0.mk (blk_below KB.out hb); clear b0 b1 b2 b3 b4; have b0 : w2.cell? ⟨gb, 0, none⟩ = some (.int .i64 k) := blk_cell KB.out 0; have b1 : w2.cell? ⟨gb, 1, none⟩ = some (.int .i64 i) := blk_cell KB.out 1; have b2 : w2.cell? ⟨gb, 2, none⟩ = some (.float .f64 f) := blk_cell KB.out 2; have b3 : w2.cell? ⟨gb, 3, none⟩ = some (.string s) := blk_cell KB.out 3; have b4 : w2.cell? ⟨gb, 4, none⟩ = some (.slice A n c) := blk_cell KB.out 4; clear hb)
    | (go_at_call 19; refine (size28 _ _ _ _ HR.out).mono ?_; rintro e w3 ⟨⟨z, rfl⟩, hb⟩; have HB := Aside0.mk (below_step HB.out hb); clear hb))
  all_goals
    go_ret
    exact ⟨⟨_, rfl⟩, HB.out⟩

end Go.Proofs.YtejfmghjmhiodaaGreatDoor.Vz
namespace Go.Proofs.YtejfmghjmhiodaaGreatDoor.Vz
open Go.RowKit Go.Proofs.YtejfmghjmhiodaaGreatDoorW.PrintWords
set_option linter.unusedVariables false
set_option linter.unusedSimpArgs false
attribute [local go_sem] store_float

def lmul_ren : Go.Shelf.Ren := ⟨fun | 264 => 140 | n => n, fun | 53 => 32 | 46 => 99 | n => n, fun | n => n⟩
theorem lmul : Go.Proofs.Lays.n264 Tryz.prog lmul_ren := {
  mixed := by kernel_rfl
  f264 := Tryz.func140.trans (congrArg some (by kernel_rfl))
  t46 := Tryz.underlying99
  a46 := Tryz.isAgg99
  z46 := Tryz.sizeOf99
  v46 := Tryz.zeroValue99
  t53 := Tryz.underlying32
  a53 := Tryz.isAgg32
  z53 := Tryz.sizeOf32
  v53 := Tryz.zeroValue32 }
theorem mul140 (x y : Nat) (hx : x < 18446744073709551616) (hy : y < 18446744073709551616) (w : World) :
    Calls Tryz.prog 140 #[.int .u64 x, .int .u64 y] w fun e w' => e = .returned (.tuple #[.int .u64 ((x * y / 18446744073709551616 : Nat) : Int), .int .u64 ((x * y % 18446744073709551616 : Nat) : Int)]) ∧ w' = w := Any.bits_Mul64 lmul x y hx hy w

set_option maxHeartbeats 8000000 in
set_option maxRecDepth 100000 in
theorem bool141 (b : Bool) (W : World) : Calls Tryz.prog 141 #[.bool b] W fun e w' => e = .returned (.int .u64 (if b then 1 else 0)) ∧ w' = W := by
  cases b
  · go_enter Tryz.func141, Tryz.ntmps141
    go_wp2
    go_ret
    exact ⟨rfl, rfl⟩
  · go_enter Tryz.func141, Tryz.ntmps141
    go_wp2
    go_ret
    exact ⟨rfl, rfl⟩

set_option maxHeartbeats 8000000 in
set_option maxRecDepth 100000 in
theorem nudge123 (u d : Int) (W : World) : Calls Tryz.prog 123 #[.int .u64 u, .int .i64 d] W fun e w' => e = .returned (.int .u64 (IntKind.u64.wrap (u + IntKind.u64.wrap d))) ∧ w' = W := by
  go_enter Tryz.func123, Tryz.ntmps123
  go_wp2
  go_ret
  exact ⟨rfl, rfl⟩

set_option maxHeartbeats 8000000 in
set_option maxRecDepth 100000 in
theorem ceil124 (u : Int) (W : World) : Calls Tryz.prog 124 #[.int .u64 u] W fun e w' => e = .returned (.int .u64 (IntKind.u64.wrap (u + 3) / 4)) ∧ w' = W := by
  go_enter Tryz.func124, Tryz.ntmps124
  go_wp2
  go_ret
  exact ⟨rfl, rfl⟩

set_option maxHeartbeats 8000000 in
set_option maxRecDepth 100000 in
theorem floor125 (u : Int) (W : World) : Calls Tryz.prog 125 #[.int .u64 u] W fun e w' => e = .returned (.int .u64 (IntKind.u64.wrap u / 4)) ∧ w' = W := by
  go_enter Tryz.func125, Tryz.ntmps125
  go_wp2
  go_ret
  exact ⟨rfl, rfl⟩

set_option maxHeartbeats 8000000 in
set_option maxRecDepth 100000 in
theorem skewed119 (x : Int) (W : World) : Calls Tryz.prog 119 #[.int .i64 x] W fun e w' => e = .returned (.int .i64 (wrap64 (wrap64 (x * 631305) - 261663) / 2097152)) ∧ w' = W := by
  go_enter Tryz.func119, Tryz.ntmps119
  go_wp2
  go_ret
  exact ⟨rfl, rfl⟩

set_option maxHeartbeats 8000000 in
set_option maxRecDepth 100000 in
theorem lp121 (x : Int) (W : World) : Calls Tryz.prog 121 #[.int .i64 x] W fun e w' => e = .returned (.int .i64 (wrap64 (x * 108853) / 32768)) ∧ w' = W := by
  go_enter Tryz.func121, Tryz.ntmps121
  go_wp2
  go_ret
  exact ⟨rfl, rfl⟩
end Go.Proofs.YtejfmghjmhiodaaGreatDoor.Vz
namespace Go.Proofs.YtejfmghjmhiodaaGreatDoor.Vz
open Go.RowKit Go.Proofs.YtejfmghjmhiodaaGreatDoorW.PrintWords
set_option linter.unusedVariables false
set_option linter.unusedSimpArgs false
attribute [local go_sem] store_float

def mhi (x y : Nat) : Nat := x * y / 18446744073709551616
def mlo (x y : Nat) : Nat := x * y % 18446744073709551616
theorem mul140' (x y : Nat) (hx : x < 18446744073709551616) (hy : y < 18446744073709551616) (w : World) :
    Calls Tryz.prog 140 #[.int .u64 x, .int .u64 y] w fun e w' => e = .returned (.tuple #[.int .u64 (mhi x y : Int), .int .u64 (mlo x y : Int)]) ∧ w' = w := mul140 x y hx hy w
/-- uscale, in the model's words. -/
def us (x hi lo s : Nat) : Int :=
  if (mhi x hi / 2 ^ s * 2 ^ s) = mhi x hi then
    bits .or .u64 (IntKind.u64.wrap ((mhi x hi : Int) - (if mlo x hi < mhi x lo then 1 else 0)) / 2 ^ s) (if 1 < IntKind.u64.wrap ((mlo x hi : Int) - (mhi x lo : Int)) then 1 else 0)
  else bits .or .u64 ((mhi x hi / 2 ^ s : Nat) : Int) 1

theorem and63 (s : Nat) (hs : s < 64) : bits .and .i64 (s : Int) 63 = s := by
  have : ∀ t : Fin 64, bits .and .i64 ((t : Nat) : Int) 63 = (t : Nat) := by decide +kernel
  exact this ⟨s, hs⟩
theorem back_shift (h s : Nat) (hh : h < 18446744073709551616) : IntKind.u64.wrap ((h : Int) / 2 ^ s * 2 ^ s) = ((h / 2 ^ s * 2 ^ s : Nat) : Int) := by
  have h1 : h / 2 ^ s * 2 ^ s ≤ h := Nat.div_mul_le_self h (2 ^ s)
  rw [IntKind.wrap_u64]
  have e : ((h : Int) / 2 ^ s * 2 ^ s) = ((h / 2 ^ s * 2 ^ s : Nat) : Int) := by push_cast; rfl
  rw [e]
  omega

set_option maxHeartbeats 8000000 in
set_option maxRecDepth 100000 in
theorem us122 (x hi lo s b : Nat) (hx : x < 18446744073709551616) (hhi : hi < 18446744073709551616) (hlo : lo < 18446744073709551616) (hs : s < 64) (W : World)
    (hk : W.heap[b]? = some (.cells #[.int .u64 (hi : Int), .int .u64 (lo : Int), .int .i64 (s : Int)] 130 (0, 0))) :
    Calls Tryz.prog 122 #[.int .u64 (x : Int), .pointer (some ⟨b, 0, none⟩)] W fun e w' => e = .returned (.int .u64 (us x hi lo s)) ∧ Below W.heap.size W w' := by
  have q0 : W.cell? ⟨b, 0, none⟩ = some (.int .u64 hi) := blk_cell hk 0
  have q1 : W.cell? ⟨b, 1, none⟩ = some (.int .u64 lo) := blk_cell hk 1
  have q2 : W.cell? ⟨b, 2, none⟩ = some (.int .i64 s) := blk_cell hk 2
  have hh : mhi x hi < 18446744073709551616 := by
    unfold mhi
    have := Nat.mul_lt_mul'' hx hhi
    omega
  have hb := back_shift (mhi x hi) s hh
  have ha := and63 s hs
  have h0 : (0:Int) ≤ s := by omega
  have h1 : (s:Int) ≤ 64 := by omega
  have c1 := mul140' x hi hx hhi
  have c2 := mul140' x lo hx hlo
  unfold us
  generalize mhi x hi = H at *
  generalize mlo x hi = L at *
  generalize mhi x lo = M at *
  generalize mlo x lo = L2 at *
  by_cases e : H / 2 ^ s * 2 ^ s = H
  · have e' : ((H / 2 ^ s * 2 ^ s : Nat) : Int) = (H : Int) := by rw [e]
    rw [if_pos e]
    clear e hh
    rw [e'] at hb
    clear e'
    go_enter Tryz.func122, Tryz.ntmps122
    go_upto_region 7 with (first
      | (go_at_call 140; with_reducible refine (c1 _).mono ?_; rintro e w1 ⟨rfl, rfl⟩)
      | (go_at_call 140; with_reducible refine (c2 _).mono ?_; rintro e w1 ⟨rfl, rfl⟩)
      | (go_at_call 141; refine (bool141 _ _).mono ?_; rintro e w1 ⟨rfl, rfl⟩))
    go_quiet ((go_at_call 141; exact Calls.quiet_of_same (bool141 _ _)))
    go_wp2
    all_goals go_ret
    all_goals exact ⟨rfl, pw_below_drewN (Below.refl _ _) _⟩
  · have e' : ((H / 2 ^ s * 2 ^ s : Nat) : Int) ≠ (H : Int) := by omega
    rw [if_neg e]
    rw [← hb] at e'
    clear e hh hb
    go_enter Tryz.func122, Tryz.ntmps122
    go_wp2_with (first
      | (go_at_call 140; with_reducible refine (c1 _).mono ?_; rintro e w1 ⟨rfl, rfl⟩)
      | (go_at_call 140; with_reducible refine (c2 _).mono ?_; rintro e w1 ⟨rfl, rfl⟩)
      | (go_at_call 141; refine (bool141 _ _).mono ?_; rintro e w1 ⟨rfl, rfl⟩))
    go_ret
    exact ⟨by simp, Below.refl _ _⟩
end Go.Proofs.YtejfmghjmhiodaaGreatDoor.Vz
namespace Go.Proofs.YtejfmghjmhiodaaGreatDoor.Vz
open Go.RowKit Go.Proofs.YtejfmghjmhiodaaGreatDoorW.PrintWords
set_option linter.unusedVariables false
set_option linter.unusedSimpArgs false
attribute [local go_sem] store_float

theorem Save.refl (S : Nat → Prop) (w : World) : Save S w w := Save.of (Below.refl _ _)
theorem Save.cell {S : Nat → Prop} {w a : World} (h : Save S w a) {g o : Nat} {v : Value} (k : w.cell? ⟨g, o, none⟩ = some v) (hs : ¬ S g) : a.cell? ⟨g, o, none⟩ = some v := by
  have e := h.block g (cell_in k) hs
  simp only [World.cell?, e] at k ⊢
  exact k

set_option maxHeartbeats 8000000 in
set_option maxRecDepth 100000 in
theorem pre120 (b i : Nat) (e p lp s : Int) (hi lo : Nat) (hi1 : i < 696) (hp : p = (i : Int) - 348) (hs : wrap64 (-wrap64 (wrap64 (e + lp) + 3)) = s) (W : World) (x0 x1 x2 : Value)
    (h0 : W.cell? ⟨13, i * 2, none⟩ = some (.int .u64 (hi : Int))) (h1 : W.cell? ⟨13, i * 2 + 1, none⟩ = some (.int .u64 (lo : Int))) (hb : b ≠ 13)
    (hk : W.heap[b]? = some (.cells #[x0, x1, x2] 130 (0, 0))) :
    Calls Tryz.prog 120 #[.pointer (some ⟨b, 0, none⟩), .int .i64 e, .int .i64 p, .int .i64 lp] W fun e w' => e = .returned (.tuple #[]) ∧ w'.heap[b]? = some (.cells #[.int .u64 (hi : Int), .int .u64 (lo : Int), .int .i64 s] 130 (0, 0)) ∧ Save (fun k => k = b) W w' := by
  have e1 : wrap64 (p + 348) = i := by unfold wrap64; omega
  have q0 : W.cell? ⟨b, 0, none⟩ = some x0 := blk_cell hk 0
  have f0 : W.frozen? ⟨b, 0, none⟩ = false := blk_frozen hk 0
  have hi0 : (0:Int) ≤ (i:Int) := by omega
  have hi2 : (i:Int) < 696 := by omega
  have HK := Aside0.mk hk
  have H1 := Aside0.mk h1
  have HS := Aside0.mk (Save.refl (fun k => k = b) W)
  have HSS := Aside0.mk hs
  clear hk h1 hp hs hi1
  go_enter Tryz.func120, Tryz.ntmps120
  go_upto_region 1 with (fail)
  have HK := Aside0.mk (blk_set HK.out 0 (.int .u64 (hi : Int)))
  have HS := Aside0.mk (HS.out.setIn (p := ⟨b, 0, none⟩) rfl (.int .u64 (hi : Int)))
  generalize W.setCell _ _ = W1 at HK HS ⊢
  have h1 : W1.cell? ⟨13, i * 2 + 1, none⟩ = _ := HS.out.cell H1.out (fun x => hb x.symm)
  have q1 : W1.cell? ⟨b, 1, none⟩ = some x1 := blk_cell HK.out 1
  have f1 : W1.frozen? ⟨b, 1, none⟩ = false := blk_frozen HK.out 1
  clear q0 f0 h0
  go_upto_region 2 with (fail)
  have HK := Aside0.mk (blk_set HK.out 1 (.int .u64 (lo : Int)))
  have HS := Aside0.mk (HS.out.setIn (p := ⟨b, 1, none⟩) rfl (.int .u64 (lo : Int)))
  generalize W1.setCell _ _ = W2 at HK HS ⊢
  have q2 : W2.cell? ⟨b, 2, none⟩ = some x2 := blk_cell HK.out 2
  have f2 : W2.frozen? ⟨b, 2, none⟩ = false := blk_frozen HK.out 2
  clear q1 f1
  have hs := HSS.out
  go_wp2
  have HK := Aside0.mk (blk_set HK.out 2 (.int .i64 s))
  have HS := Aside0.mk (HS.out.setIn (p := ⟨b, 2, none⟩) rfl (.int .i64 s))
  exact bodyPost_end (v := .tuple #[]) (results_none (by rfl) _ _ _) rfl ⟨rfl, HK.out, HS.out⟩
end Go.Proofs.YtejfmghjmhiodaaGreatDoor.Vz
namespace Go.Proofs.YtejfmghjmhiodaaGreatDoor.Vz
open Go.RowKit Go.Proofs.YtejfmghjmhiodaaGreatDoorW.PrintWords
set_option linter.unusedVariables false
set_option linter.unusedSimpArgs false
attribute [local go_sem] store_float


theorem us_half1 : us 9223372036854775296 12800000000000000000 0 5 = 199999999999999989 := by decide +kernel
theorem us_half2 : us 9223372036854776832 12800000000000000000 0 5 = 200000000000000023 := by decide +kernel
set_option maxHeartbeats 8000000 in
set_option maxRecDepth 100000 in
theorem short_half (W : World) (h0 : W.cell? ⟨13, 730, none⟩ = some (.int .u64 12800000000000000000)) (h1 : W.cell? ⟨13, 731, none⟩ = some (.int .u64 0)) :
    Calls Tryz.prog 104 #[.int .u64 9223372036854775808, .int .i64 (-64)] W fun e w' => e = .returned (.tuple #[.int .u64 5000000000000000, .int .i64 (-16)]) ∧ Below W.heap.size W w' := by
  have c1 : ∀ W, Calls Tryz.prog 119 #[.int .i64 (-53)] W (fun e w' => e = .returned (.int .i64 (-17)) ∧ w' = W) := fun W => by
    have h := skewed119 (-53) W
    rwa [show wrap64 (wrap64 ((-53) * 631305) - 261663) / 2097152 = -17 by decide +kernel] at h
  have c2 : ∀ W, Calls Tryz.prog 121 #[.int .i64 17] W (fun e w' => e = .returned (.int .i64 56) ∧ w' = W) := fun W => by
    have h := lp121 17 W
    rwa [show wrap64 (17 * 108853) / 32768 = 56 by decide +kernel] at h
  have c3 : ∀ b W, b ≠ 13 → W.cell? ⟨13, 730, none⟩ = some (.int .u64 12800000000000000000) → W.cell? ⟨13, 731, none⟩ = some (.int .u64 0) → W.heap[b]? = some (.cells #[.int .u64 0, .int .u64 0, .int .i64 0] 130 (0, 0)) →
      Calls Tryz.prog 120 #[.pointer (some ⟨b, 0, none⟩), .int .i64 (-64), .int .i64 17, .int .i64 56] W (fun e w' => e = .returned (.tuple #[]) ∧ w'.heap[b]? = some (.cells #[.int .u64 12800000000000000000, .int .u64 0, .int .i64 5] 130 (0, 0)) ∧ Save (fun k => k = b) W w') :=
    fun b W hb k0 k1 hk => pre120 b 365 (-64) 17 56 5 12800000000000000000 0 (by decide) (by decide +kernel) (by decide +kernel) W _ _ _ k0 k1 hb hk
  have c4 : ∀ b W, W.heap[b]? = some (.cells #[.int .u64 12800000000000000000, .int .u64 0, .int .i64 5] 130 (0, 0)) → Calls Tryz.prog 122 #[.int .u64 9223372036854775296, .pointer (some ⟨b, 0, none⟩)] W (fun e w' => e = .returned (.int .u64 199999999999999989) ∧ Below W.heap.size W w') :=
    fun b W hk => by
      have h := us122 9223372036854775296 12800000000000000000 0 5 b (by decide) (by decide) (by decide) (by decide) W hk
      rwa [us_half1] at h
  have c5 : ∀ b W, W.heap[b]? = some (.cells #[.int .u64 12800000000000000000, .int .u64 0, .int .i64 5] 130 (0, 0)) → Calls Tryz.prog 122 #[.int .u64 9223372036854776832, .pointer (some ⟨b, 0, none⟩)] W (fun e w' => e = .returned (.int .u64 200000000000000023) ∧ Below W.heap.size W w') :=
    fun b W hk => by
      have h := us122 9223372036854776832 12800000000000000000 0 5 b (by decide) (by decide) (by decide) (by decide) W hk
      rwa [us_half2] at h
  have c6 : ∀ W, Calls Tryz.prog 123 #[.int .u64 199999999999999989, .int .i64 0] W (fun e w' => e = .returned (.int .u64 199999999999999989) ∧ w' = W) := fun W => by
    have h := nudge123 199999999999999989 0 W
    rwa [show IntKind.u64.wrap (199999999999999989 + IntKind.u64.wrap 0) = 199999999999999989 by decide +kernel] at h
  have c7 : ∀ W, Calls Tryz.prog 123 #[.int .u64 200000000000000023, .int .i64 0] W (fun e w' => e = .returned (.int .u64 200000000000000023) ∧ w' = W) := fun W => by
    have h := nudge123 200000000000000023 0 W
    rwa [show IntKind.u64.wrap (200000000000000023 + IntKind.u64.wrap 0) = 200000000000000023 by decide +kernel] at h
  have c8 : ∀ W, Calls Tryz.prog 124 #[.int .u64 199999999999999989] W (fun e w' => e = .returned (.int .u64 49999999999999998) ∧ w' = W) := fun W => by
    have h := ceil124 199999999999999989 W
    rwa [show IntKind.u64.wrap (199999999999999989 + 3) / 4 = 49999999999999998 by decide +kernel] at h
  have c9 : ∀ W, Calls Tryz.prog 125 #[.int .u64 200000000000000023] W (fun e w' => e = .returned (.int .u64 50000000000000005) ∧ w' = W) := fun W => by
    have h := floor125 200000000000000023 W
    rwa [show IntKind.u64.wrap 200000000000000023 / 4 = 50000000000000005 by decide +kernel] at h
  have hand : bits .and .i64 4503599627370496 1 = 0 := by decide +kernel
  have H0 := Aside0.mk h0
  have H1 := Aside0.mk h1
  have C := Aside0.mk (And.intro c3 (And.intro c4 c5))
  clear h0 h1 c3 c4 c5
  go_enter Tryz.func104, Tryz.ntmps104
  go_wp2_with (first
    | (go_at_call 119; with_reducible refine (c1 _).mono ?_; rintro e w1 ⟨rfl, hw⟩; rw [hw]; clear hw w1)
    | (go_at_call 121; with_reducible refine (c2 _).mono ?_; rintro e w1 ⟨rfl, hw⟩; rw [hw]; clear hw w1)
    | ((with_reducible refine gate_dst (N := 12) rfl ?_); refine box_event ?hg (N := 12) ?hd (cs := #[.int .u64 0, .int .u64 0, .int .i64 0]) (t := 130) ?hr ?_; (case hd => rfl); (case hg => rfl); (case hr => first | (go_simp; done) | (go_simp; rfl)); intro g hg w1 hbox hb; have HB := Aside0.mk hb; have HG := Aside0.mk (show W.heap.size ≤ g by omega); have HN := Aside0.mk (show g ≠ 13 from fun x => by subst x; have := cell_in H0.out; omega); have K := Aside0.mk hbox; clear hg hbox hb)
    | (go_at_call 120; with_reducible refine (C.out.1 _ _ HN.out ((HB.out.cell (cell_in H0.out)).trans H0.out) ((HB.out.cell (cell_in H1.out)).trans H1.out) K.out).mono ?_; rintro e w2 ⟨rfl, hk, hs⟩; have K := Aside0.mk hk; have HB := Aside0.mk (below_keep HB.out HG.out hs); clear hk hs)
    | (go_at_call 122; with_reducible refine (C.out.2.1 _ _ K.out).mono ?_; rintro e w3 ⟨rfl, hb⟩; have K := Aside0.mk (blk_below K.out hb); have HB := Aside0.mk (below_step HB.out hb); clear hb)
    | (go_at_call 122; with_reducible refine (C.out.2.2 _ _ K.out).mono ?_; rintro e w4 ⟨rfl, hb⟩; have K := Aside0.mk (blk_below K.out hb); have HB := Aside0.mk (below_step HB.out hb); clear hb)
    | (go_at_call 123; with_reducible refine (c6 _).mono ?_; rintro e w1 ⟨rfl, hw⟩; rw [hw]; clear hw w1)
    | (go_at_call 123; with_reducible refine (c7 _).mono ?_; rintro e w1 ⟨rfl, hw⟩; rw [hw]; clear hw w1)
    | (go_at_call 124; with_reducible refine (c8 _).mono ?_; rintro e w1 ⟨rfl, hw⟩; rw [hw]; clear hw w1)
    | (go_at_call 125; with_reducible refine (c9 _).mono ?_; rintro e w1 ⟨rfl, hw⟩; rw [hw]; clear hw w1))
  go_ret2
  exact ⟨rfl, HB.out⟩

theorem us_two1 : us 9223372036854775296 10240000000000000000 0 6 = 79999999999999995 := by decide +kernel
theorem us_two2 : us 9223372036854776832 10240000000000000000 0 6 = 80000000000000009 := by decide +kernel
set_option maxHeartbeats 8000000 in
set_option maxRecDepth 100000 in
theorem short_two (W : World) (h0 : W.cell? ⟨13, 728, none⟩ = some (.int .u64 10240000000000000000)) (h1 : W.cell? ⟨13, 729, none⟩ = some (.int .u64 0)) :
    Calls Tryz.prog 104 #[.int .u64 9223372036854775808, .int .i64 (-62)] W fun e w' => e = .returned (.tuple #[.int .u64 2000000000000000, .int .i64 (-15)]) ∧ Below W.heap.size W w' := by
  have c1 : ∀ W, Calls Tryz.prog 119 #[.int .i64 (-51)] W (fun e w' => e = .returned (.int .i64 (-16)) ∧ w' = W) := fun W => by
    have h := skewed119 (-51) W
    rwa [show wrap64 (wrap64 ((-51) * 631305) - 261663) / 2097152 = -16 by decide +kernel] at h
  have c2 : ∀ W, Calls Tryz.prog 121 #[.int .i64 16] W (fun e w' => e = .returned (.int .i64 53) ∧ w' = W) := fun W => by
    have h := lp121 16 W
    rwa [show wrap64 (16 * 108853) / 32768 = 53 by decide +kernel] at h
  have c3 : ∀ b W, b ≠ 13 → W.cell? ⟨13, 728, none⟩ = some (.int .u64 10240000000000000000) → W.cell? ⟨13, 729, none⟩ = some (.int .u64 0) → W.heap[b]? = some (.cells #[.int .u64 0, .int .u64 0, .int .i64 0] 130 (0, 0)) →
      Calls Tryz.prog 120 #[.pointer (some ⟨b, 0, none⟩), .int .i64 (-62), .int .i64 16, .int .i64 53] W (fun e w' => e = .returned (.tuple #[]) ∧ w'.heap[b]? = some (.cells #[.int .u64 10240000000000000000, .int .u64 0, .int .i64 6] 130 (0, 0)) ∧ Save (fun k => k = b) W w') :=
    fun b W hb k0 k1 hk => pre120 b 364 (-62) 16 53 6 10240000000000000000 0 (by decide) (by decide +kernel) (by decide +kernel) W _ _ _ k0 k1 hb hk
  have c4 : ∀ b W, W.heap[b]? = some (.cells #[.int .u64 10240000000000000000, .int .u64 0, .int .i64 6] 130 (0, 0)) → Calls Tryz.prog 122 #[.int .u64 9223372036854775296, .pointer (some ⟨b, 0, none⟩)] W (fun e w' => e = .returned (.int .u64 79999999999999995) ∧ Below W.heap.size W w') :=
    fun b W hk => by
      have h := us122 9223372036854775296 10240000000000000000 0 6 b (by decide) (by decide) (by decide) (by decide) W hk
      rwa [us_two1] at h
  have c5 : ∀ b W, W.heap[b]? = some (.cells #[.int .u64 10240000000000000000, .int .u64 0, .int .i64 6] 130 (0, 0)) → Calls Tryz.prog 122 #[.int .u64 9223372036854776832, .pointer (some ⟨b, 0, none⟩)] W (fun e w' => e = .returned (.int .u64 80000000000000009) ∧ Below W.heap.size W w') :=
    fun b W hk => by
      have h := us122 9223372036854776832 10240000000000000000 0 6 b (by decide) (by decide) (by decide) (by decide) W hk
      rwa [us_two2] at h
  have c6 : ∀ W, Calls Tryz.prog 123 #[.int .u64 79999999999999995, .int .i64 0] W (fun e w' => e = .returned (.int .u64 79999999999999995) ∧ w' = W) := fun W => by
    have h := nudge123 79999999999999995 0 W
    rwa [show IntKind.u64.wrap (79999999999999995 + IntKind.u64.wrap 0) = 79999999999999995 by decide +kernel] at h
  have c7 : ∀ W, Calls Tryz.prog 123 #[.int .u64 80000000000000009, .int .i64 0] W (fun e w' => e = .returned (.int .u64 80000000000000009) ∧ w' = W) := fun W => by
    have h := nudge123 80000000000000009 0 W
    rwa [show IntKind.u64.wrap (80000000000000009 + IntKind.u64.wrap 0) = 80000000000000009 by decide +kernel] at h
  have c8 : ∀ W, Calls Tryz.prog 124 #[.int .u64 79999999999999995] W (fun e w' => e = .returned (.int .u64 19999999999999999) ∧ w' = W) := fun W => by
    have h := ceil124 79999999999999995 W
    rwa [show IntKind.u64.wrap (79999999999999995 + 3) / 4 = 19999999999999999 by decide +kernel] at h
  have c9 : ∀ W, Calls Tryz.prog 125 #[.int .u64 80000000000000009] W (fun e w' => e = .returned (.int .u64 20000000000000002) ∧ w' = W) := fun W => by
    have h := floor125 80000000000000009 W
    rwa [show IntKind.u64.wrap 80000000000000009 / 4 = 20000000000000002 by decide +kernel] at h
  have hand : bits .and .i64 4503599627370496 1 = 0 := by decide +kernel
  have H0 := Aside0.mk h0
  have H1 := Aside0.mk h1
  have C := Aside0.mk (And.intro c3 (And.intro c4 c5))
  clear h0 h1 c3 c4 c5
  go_enter Tryz.func104, Tryz.ntmps104
  go_wp2_with (first
    | (go_at_call 119; with_reducible refine (c1 _).mono ?_; rintro e w1 ⟨rfl, hw⟩; rw [hw]; clear hw w1)
    | (go_at_call 121; with_reducible refine (c2 _).mono ?_; rintro e w1 ⟨rfl, hw⟩; rw [hw]; clear hw w1)
    | ((with_reducible refine gate_dst (N := 12) rfl ?_); refine box_event ?hg (N := 12) ?hd (cs := #[.int .u64 0, .int .u64 0, .int .i64 0]) (t := 130) ?hr ?_; (case hd => rfl); (case hg => rfl); (case hr => first | (go_simp; done) | (go_simp; rfl)); intro g hg w1 hbox hb; have HB := Aside0.mk hb; have HG := Aside0.mk (show W.heap.size ≤ g by omega); have HN := Aside0.mk (show g ≠ 13 from fun x => by subst x; have := cell_in H0.out; omega); have K := Aside0.mk hbox; clear hg hbox hb)
    | (go_at_call 120; with_reducible refine (C.out.1 _ _ HN.out ((HB.out.cell (cell_in H0.out)).trans H0.out) ((HB.out.cell (cell_in H1.out)).trans H1.out) K.out).mono ?_; rintro e w2 ⟨rfl, hk, hs⟩; have K := Aside0.mk hk; have HB := Aside0.mk (below_keep HB.out HG.out hs); clear hk hs)
    | (go_at_call 122; with_reducible refine (C.out.2.1 _ _ K.out).mono ?_; rintro e w3 ⟨rfl, hb⟩; have K := Aside0.mk (blk_below K.out hb); have HB := Aside0.mk (below_step HB.out hb); clear hb)
    | (go_at_call 122; with_reducible refine (C.out.2.2 _ _ K.out).mono ?_; rintro e w4 ⟨rfl, hb⟩; have K := Aside0.mk (blk_below K.out hb); have HB := Aside0.mk (below_step HB.out hb); clear hb)
    | (go_at_call 123; with_reducible refine (c6 _).mono ?_; rintro e w1 ⟨rfl, hw⟩; rw [hw]; clear hw w1)
    | (go_at_call 123; with_reducible refine (c7 _).mono ?_; rintro e w1 ⟨rfl, hw⟩; rw [hw]; clear hw w1)
    | (go_at_call 124; with_reducible refine (c8 _).mono ?_; rintro e w1 ⟨rfl, hw⟩; rw [hw]; clear hw w1)
    | (go_at_call 125; with_reducible refine (c9 _).mono ?_; rintro e w1 ⟨rfl, hw⟩; rw [hw]; clear hw w1))
  go_ret2
  exact ⟨rfl, HB.out⟩
end Go.Proofs.YtejfmghjmhiodaaGreatDoor.Vz
namespace Go.Proofs.YtejfmghjmhiodaaGreatDoor.Vz
open Go.RowKit Go.Sort Go.Lib Go.Proofs.YtejfmghjmhiodaaGreatDoorW.PrintWords
set_option linter.unusedVariables false
set_option linter.unusedSimpArgs false
attribute [local go_sem] store_float

theorem save_putRow {α : Type} [Inhabited α] (enc : α → Value) (w : World) (g off : Nat) (d : Array α) (m : Nat) : Save (fun k => k = g) w ((putRow enc w g off d).drewN m) := by
  refine ⟨rfl, rfl, rfl, ?_, ?_⟩
  · show w.heap.size ≤ (w.heap.modify g _).size
    simp
  · intro k hk hs
    show (w.heap.modify g _)[k]? = w.heap[k]?
    rw [Array.getElem?_modify]
    have : ¬ g = k := fun x => hs x.symm
    simp [this]

def e8 (b : UInt8) : Value := .int .u8 (b.toNat : Int)
set_option maxHeartbeats 8000000 in
set_option maxRecDepth 100000 in
theorem digits99 (g cap nd u : Nat) (p : Int) (W : World) (hcap : nd ≤ 32) (hc : 32 ≤ cap) (hcm : cap ≤ 1000) (hu : u < 10 ^ nd) (hu64 : u < 18446744073709551616) (hp : -1000 ≤ p ∧ p ≤ 1000)
    (hz : ∀ j, j < nd → W.cell? ⟨g, j, none⟩ = some (.int .u8 0) ∧ W.frozen? ⟨g, j, none⟩ = false) (hg : g < W.heap.size) :
    Calls Tryz.prog 99 #[.slice (some ⟨g, 0, none⟩) 32 cap, .int .u64 (u : Int), .int .i64 p, .int .i64 (nd : Int)] W fun e w' => ∃ k : Nat, k ≤ nd ∧ e = .returned (.tuple #[.int .i64 (nd + p), .int .i64 (k : Int)]) ∧
      (∀ j, j < nd → w'.cell? ⟨g, j, none⟩ = some (.int .u8 ((dg u (nd - 1 - j)).toNat : Int))) ∧ (∀ j, k ≤ j → j < nd → dg u (nd - 1 - j) = 48) ∧ (0 < k → dg u (nd - k) ≠ 48) ∧ Save (fun k => k = g) W w' := by
  have hH : Holds e8 W g 0 (Array.replicate nd (0 : UInt8)) := by
    intro j hj
    have hj' : j < nd := by simpa using hj
    have e : (Array.replicate nd (0 : UInt8))[j]! = 0 := by
      rw [getElem!_pos _ j hj]; simp
    rw [e, Nat.zero_add]
    exact hz j hj'
  have hF := Tryz.internal_strconv_formatBase10 g 0 cap u (Array.replicate nd (0 : UInt8)) W hH (by simpa using hu) hu64 (by simp; omega)
  have hF2 : Calls Tryz.prog 74 #[.slice (some ⟨g, 0, none⟩) nd cap, .int .u64 u] W fun e w' => e = .returned (.tuple #[]) ∧ Save (fun k => k = g) W w' ∧ ∀ j, j < nd → w'.cell? ⟨g, j, none⟩ = some (.int .u8 ((dg u (nd - 1 - j)).toNat : Int)) := by
    rw [show (Array.replicate nd (0 : UInt8)).size = nd by simp] at hF
    refine hF.mono ?_
    rintro e w' ⟨he, n, v', dk, hw, hI⟩
    subst hw
    refine ⟨he, save_putRow _ _ _ _ _ _, ?_⟩
    intro j hj
    have h := (holds_putRow e8 W g 0 (Array.replicate nd (0 : UInt8)) dk hH (by rw [hI.size]; simp)) j (by rw [hI.size]; exact hj)
    rw [hI.done j (Nat.zero_le _) hj, Nat.zero_add] at h
    exact h.1
  have h1 : (nd : Int) ≤ 32 := by omega
  have h2 : (0 : Int) ≤ nd := by omega
  have h3 : (nd : Int) ≤ cap := by omega
  have h4 : wrap64 (nd + p) = nd + p := by unfold wrap64; omega
  have HF := Aside0.mk hF2
  clear hF hF2 hH hz hu hu64 hcm hp
  go_enter Tryz.func99, Tryz.ntmps99
  go_wp2_with (go_at_call 74; refine HF.out.mono ?_; rintro e w1 ⟨rfl, hs, hcell⟩; have HS := Aside0.mk hs; have HC := Aside0.mk hcell; clear hs hcell)
  go_loop [3] (fun n => ∃ k : Nat, k ≤ nd ∧ n = .int .i64 (k : Int) ∧ Aside0 (∀ j, k ≤ j → j < nd → dg u (nd - 1 - j) = 48)) (fun n => (RowKit.intOf n).toNat)
  case atStart => exact ⟨nd, Nat.le_refl _, rfl, Aside0.mk (fun j a b => absurd a (by omega))⟩
  case round =>
    obtain ⟨k, hk, rfl, HZ⟩ := hrel
    by_cases h0 : 0 < k
    · have c := HC.out (k - 1) (by omega)
      rw [show nd - 1 - (k - 1) = nd - k by omega] at c
      obtain ⟨d, hd⟩ : ∃ d, dg u (nd - k) = d := ⟨_, rfl⟩
      rw [hd] at c
      have HD := Aside0.mk hd
      clear hd
      have c0 : (0 : Int) < k := by omega
      have c1 : (0 : Int) ≤ (k : Int) - 1 := by omega
      have c2 : (k : Int) - 1 < 32 := by omega
      have c3 : wrap64 ((k : Int) - 1) = ((k - 1 : Nat) : Int) := by unfold wrap64; omega
      have c4 : ((k - 1 : Nat) : Int) < 32 := by omega
      have c5 : (0 : Int) ≤ ((k - 1 : Nat) : Int) := by omega
      by_cases e48 : d = 48
      · have e48' : (d.toNat : Int) = 48 := by rw [e48]; rfl
        have HE := Aside0.mk e48
        clear e48
        go_wp2
        refine ⟨⟨k - 1, by omega, by rw [show ((k - 1 : Nat) : Int) = (k : Int) - 1 by omega], Aside0.mk ?_⟩, by simp [RowKit.intOf]; omega⟩
        intro j a b
        by_cases hj : j = k - 1
        · subst hj
          rw [show nd - 1 - (k - 1) = nd - k by omega, HD.out, HE.out]
        · exact HZ.out j (by omega) b
      · have e48' : (d.toNat : Int) ≠ 48 := by
          intro h; apply e48; apply UInt8.toNat_inj.mp; have : d.toNat = 48 := by omega
          rw [this]; rfl
        have HE := Aside0.mk e48
        clear e48
        go_wp2
        go_ret2
        exact ⟨k, hk, rfl, HC.out, HZ.out, fun _ => by rw [HD.out]; exact HE.out, HS.out⟩
    · have h0' : k = 0 := by omega
      subst h0'
      go_wp2
      go_ret2
      exact ⟨0, Nat.zero_le _, rfl, HC.out, HZ.out, fun h => absurd h (Nat.lt_irrefl 0), HS.out⟩
end Go.Proofs.YtejfmghjmhiodaaGreatDoor.Vz
namespace Go.Proofs.YtejfmghjmhiodaaGreatDoor.Vz
open Go.RowKit Go.Proofs.YtejfmghjmhiodaaGreatDoorW.PrintWords
set_option linter.unusedVariables false
set_option linter.unusedSimpArgs false
attribute [local go_sem] store_float

theorem info5 : (Tryz.prog.info? 5).map (fun i => (i.zero, i.size, i.bytes)) = some (some (.int .u8 0), 1, 1) := by kernel_rfl
/-- A row of bytes of this call's own, apart from the block g, which is as it was. -/
structure Out (W0 W : World) (base g : Nat) (v : Value) (xs : List Int) : Prop where
  own : W.ownsRow base 5 1 v xs.length (nums .u8 xs)
  ne : ∀ k, v.ownBlock = some k → k ≠ g
  below : Below base W0 W
  blk : W.heap[g]? = W0.heap[g]?
  lt : g < W.heap.size
  le : base ≤ W.heap.size
theorem Out.app {W0 W w1 : World} {base g : Nat} {v v1 : Value} {xs : List Int} {y : Int} (H : Out W0 W base g v xs) (ho : w1.ownsRow base 5 1 v1 (xs ++ [y]).length (nums .u8 (xs ++ [y]))) (hb : Below base W0 w1)
    (hg : W.grownBy w1 v.ownBlock) (hat : v1.ownBlock = v.ownBlock ∨ ∃ b, v1.ownBlock = some b ∧ W.heap.size ≤ b) : Out W0 w1 base g v1 (xs ++ [y]) := by
  refine ⟨ho, ?_, hb, (hg.block g H.lt fun e => H.ne g e.symm rfl).trans H.blk, Nat.lt_of_lt_of_le H.lt hg.size, Nat.le_trans H.le hg.size⟩
  intro k hk e
  rcases hat with hat | ⟨b, hb', hle⟩
  · exact H.ne k (hat ▸ hk) e
  · rw [hb'] at hk; cases hk
    have := H.lt
    omega
theorem Out.cell {W0 W : World} {base g : Nat} {v : Value} {xs : List Int} (H : Out W0 W base g v xs) {o : Nat} {u : Value} (h : W0.cell? ⟨g, o, none⟩ = some u) : W.cell? ⟨g, o, none⟩ = some u := (World.cell?_of_block (a := ⟨g, o, none⟩) H.blk).trans h

set_option maxHeartbeats 8000000 in
set_option maxRecDepth 100000 in
theorem efg_half (base g : Nat) (v : Value) (W : World) (H : Out W W base g v []) (hc : W.cell? ⟨g, 0, none⟩ = some (.int .u8 53)) :
    Calls Tryz.prog 97 #[v, .bool false, .slice (some ⟨g, 0, none⟩) 32 32, .int .i64 0, .int .i64 1, .int .i64 1, .int .u8 103, .bool true] W fun e w' => ∃ v', e = .returned v' ∧ Out W w' base g v' [48, 46, 53] := by
  have HO := Aside0.mk H
  have HC := Aside0.mk hc
  clear H hc
  have m1 : max (1 : Int) 0 = 1 := by decide
  have m2 : min (1 : Int) 0 = 0 := by decide
  have m3 : max (0 : Int) 1 = 1 := by decide
  go_enter Tryz.func97, Tryz.ntmps97
  go_wp2_with (first
    | ((with_reducible refine gate_builtin (b := .append) (xs := #[.tmp 209, .tmp 210]) rfl ?_); at_builtin; refine print_append_num (w0 := W) base rfl (.tmp 209) (.tmp 210) 36 5 .u8 1 rfl Tryz.underlying36 info5 (by decide) v [] 48 rfl rfl ?HO ?HB ?hbase (by decide) ?_; (case HO => exact HO.out.own); (case HB => exact HO.out.below); (case hbase => exact HO.out.le); intro v1 w1 ho hb hg hat; have HO := Aside0.mk (HO.out.app ho hb hg hat); clear ho hb hg hat)
    | ((with_reducible refine gate_builtin (b := .append) (xs := #[.tmp 214, .tmp 215]) rfl ?_); at_builtin; refine print_append_num (w0 := W) base rfl (.tmp 214) (.tmp 215) 36 5 .u8 1 rfl Tryz.underlying36 info5 (by decide) v1 [48] 46 rfl rfl ?HO ?HB ?hbase (by decide) ?_; (case HO => exact HO.out.own); (case HB => exact HO.out.below); (case hbase => exact HO.out.le); intro v2 w2 ho hb hg hat; have HO := Aside0.mk (HO.out.app ho hb hg hat); clear ho hb hg hat))
  go_loopw [0, 240] (fun d i wr => i = .int .i64 0 ∧ Aside0 (Out W wr base g d [48, 46])) (fun _ _ _ => 0)
  case atStart => exact ⟨rfl, HO⟩
  case round =>
    obtain ⟨rfl, HO⟩ := hrel
    go_wp2
    go_loopw [0, 247] (fun d i wr => (i = .int .i64 0 ∧ Aside0 (Out W wr base g d [48, 46])) ∨ (i = .int .i64 1 ∧ Aside0 (Out W wr base g d [48, 46, 53]))) (fun _ i _ => 1 - (intOf i).toNat)
    case atStart => exact .inl ⟨rfl, HO⟩
    case round =>
      rcases hrel with ⟨rfl, HO⟩ | ⟨rfl, HO⟩
      · have c0 : wr.cell? ⟨g, 0, none⟩ = _ := HO.out.cell HC.out
        go_wp2_with (first
          | ((with_reducible refine gate_builtin (b := .append) (xs := #[.tmp 250, .tmp 257]) rfl ?_); at_builtin; refine print_append_num (w0 := W) base rfl (.tmp 250) (.tmp 257) 36 5 .u8 1 rfl Tryz.underlying36 info5 (by decide) _ [48, 46] 53 rfl rfl ?HO ?HB ?hbase (by decide) ?_; (case HO => exact HO.out.own); (case HB => exact HO.out.below); (case hbase => exact HO.out.le); intro v3 w3 ho hb hg hat; have HO := Aside0.mk (HO.out.app ho hb hg hat); clear ho hb hg hat))
        exact ⟨.inr ⟨rfl, HO⟩, by simp [intOf]⟩
      · go_wp2
        go_loopw [0, 261] (fun d i wr => i = .int .i64 0 ∧ Aside0 (Out W wr base g d [48, 46, 53])) (fun _ _ _ => 0)
        case atStart => exact ⟨rfl, HO⟩
        case round =>
          obtain ⟨rfl, HO⟩ := hrel
          go_wp2
          go_ret
          exact ⟨_, rfl, HO.out⟩

set_option maxHeartbeats 8000000 in
set_option maxRecDepth 100000 in
theorem efg_two (base g : Nat) (v : Value) (W : World) (H : Out W W base g v []) (hc : W.cell? ⟨g, 0, none⟩ = some (.int .u8 50)) :
    Calls Tryz.prog 97 #[v, .bool false, .slice (some ⟨g, 0, none⟩) 32 32, .int .i64 1, .int .i64 1, .int .i64 1, .int .u8 103, .bool true] W fun e w' => ∃ v', e = .returned v' ∧ Out W w' base g v' [50] := by
  have HO := Aside0.mk H
  have HC := Aside0.mk hc
  clear H hc
  have m1 : max (1 : Int) 0 = 1 := by decide
  have m2 : min (1 : Int) 0 = 0 := by decide
  have m3 : max (0 : Int) 1 = 1 := by decide
  go_enter Tryz.func97, Tryz.ntmps97
  go_wp2
  go_loopw [0, 191] (fun d i wr => (i = .int .i64 0 ∧ Aside0 (Out W wr base g d [])) ∨ (i = .int .i64 1 ∧ Aside0 (Out W wr base g d [50]))) (fun _ i _ => 1 - (intOf i).toNat)
  case atStart => exact .inl ⟨rfl, HO⟩
  case round =>
    rcases hrel with ⟨rfl, HO⟩ | ⟨rfl, HO⟩
    · have c0 : wr.cell? ⟨g, 0, none⟩ = _ := HO.out.cell HC.out
      go_wp2_with (first
        | ((with_reducible refine gate_builtin (b := .append) (xs := #[.tmp 195, .tmp 197]) rfl ?_); at_builtin; refine print_append_num (w0 := W) base rfl (.tmp 195) (.tmp 197) 36 5 .u8 1 rfl Tryz.underlying36 info5 (by decide) _ [] 50 rfl rfl ?HO ?HB ?hbase (by decide) ?_; (case HO => exact HO.out.own); (case HB => exact HO.out.below); (case hbase => exact HO.out.le); intro v3 w3 ho hb hg hat; have HO := Aside0.mk (HO.out.app ho hb hg hat); clear ho hb hg hat))
      exact ⟨.inr ⟨rfl, HO⟩, by simp [intOf]⟩
    · go_wp2
      go_loopw [0, 203] (fun d i wr => i = .int .i64 0 ∧ Aside0 (Out W wr base g d [50])) (fun _ _ _ => 0)
      case atStart => exact ⟨rfl, HO⟩
      case round =>
        obtain ⟨rfl, HO⟩ := hrel
        go_wp2
        go_ret
        exact ⟨_, rfl, HO.out⟩
end Go.Proofs.YtejfmghjmhiodaaGreatDoor.Vz
namespace Go.Proofs.YtejfmghjmhiodaaGreatDoor.Vz
open Go.RowKit Go.Proofs.YtejfmghjmhiodaaGreatDoorW.PrintWords
set_option linter.unusedVariables false
set_option linter.unusedSimpArgs false
attribute [local go_sem] store_float

theorem var_below {n : String} {g : Nat} {cs : Array Value} {w w' : World} (hg : Tryz.prog.globalNamed n = some g) (h : w.var? Tryz.prog n = some cs) (hb : Below w.heap.size w w') : w'.var? Tryz.prog n = some cs := by
  unfold World.var? at h ⊢
  rw [hg] at h ⊢
  simp only [Option.bind_some] at h ⊢
  have hlt : g < w.heap.size := by
    rcases Nat.lt_or_ge g w.heap.size with h' | h'
    · exact h'
    · rw [Array.getElem?_eq_none h'] at h; cases h
  rw [hb.block g hlt]
  exact h

/-- What the writing of 0.5 and of 2 reads of the library's tables. -/
structure Tabs (W : World) : Prop where
  a0 : W.cell? ⟨13, 728, none⟩ = some (.int .u64 10240000000000000000)
  a1 : W.cell? ⟨13, 729, none⟩ = some (.int .u64 0)
  b0 : W.cell? ⟨13, 730, none⟩ = some (.int .u64 12800000000000000000)
  b1 : W.cell? ⟨13, 731, none⟩ = some (.int .u64 0)
  tab : Lib.TabIs Tryz.prog W "internal/strconv.uint64pow10" .u64 Lib.pow10Tab
theorem Tabs.below {W W' : World} (h : Tabs W) (hb : Below W.heap.size W W') : Tabs W' :=
  ⟨(hb.cell (cell_in h.a0)).trans h.a0, (hb.cell (cell_in h.a1)).trans h.a1, (hb.cell (cell_in h.b0)).trans h.b0, (hb.cell (cell_in h.b1)).trans h.b1,
    var_below (g := 2) (by kernel_rfl) h.tab hb⟩

theorem buf_zero {W : World} {g : Nat} {t : TypeId} (h : W.heap[g]? = some (.cells (Array.replicate 32 (.int .u8 0)) t (0, 0))) (j : Nat) (hj : j < 16) : W.cell? ⟨g, j, none⟩ = some (.int .u8 0) ∧ W.frozen? ⟨g, j, none⟩ = false := by
  refine ⟨?_, blk_frozen h j⟩
  rw [blk_cell h j]
  have : j < (Array.replicate 32 (Value.int .u8 0)).size := by simp; omega
  rw [Array.getElem?_eq_getElem this]
  simp
theorem below_two {B : Nat} {w a b : World} (h : Below B w a) (k : Below B a b) : Below B w b :=
  ⟨k.os.trans h.os, k.tape.trans h.tape, k.output.trans h.output, Nat.le_trans h.size k.size, fun i hi => (k.block i hi).trans (h.block i hi)⟩
theorem out_start {base g : Nat} {v : Value} {W w : World} (ho : W.ownsRow base 5 1 v 0 []) (hb : Below W.heap.size W w) (hg : W.heap.size ≤ g) (hl : g < w.heap.size) (hbase : base ≤ W.heap.size) : Out w w base g v [] :=
  ⟨own_save ho (Save.of (S := fun _ => False) hb) (fun _ _ x => x), fun k hk e => by have := (own_under ho k hk).2; omega, Below.refl _ _, rfl, hl, Nat.le_trans hbase hb.size⟩
theorem cal94 (f : Nat) (W : World) : (callFunc 94 #[.float .f64 f]).run Tryz.prog W = .ok (.value (.int .u64 f)) W := by kernel_rfl


theorem nd_half : Lib.nDigits 5000000000000000 = 16 := by decide +kernel
theorem set_half (g : Nat) (W : World) (hz : ∀ j, j < 16 → W.cell? ⟨g, j, none⟩ = some (.int .u8 0) ∧ W.frozen? ⟨g, j, none⟩ = false) (hg : g < W.heap.size) :
    Calls Tryz.prog 99 #[.slice (some ⟨g, 0, none⟩) 32 32, .int .u64 5000000000000000, .int .i64 (-16), .int .i64 16] W fun e w' => e = .returned (.tuple #[.int .i64 0, .int .i64 1]) ∧ w'.cell? ⟨g, 0, none⟩ = some (.int .u8 53) ∧ Save (fun k => k = g) W w' := by
  have h := digits99 g 32 16 5000000000000000 (-16) W (by decide) (by decide) (by decide) (by decide) (by decide) (by decide) hz hg
  refine h.mono ?_
  rintro e w' ⟨k, hk, he, hc, hz, hn, hs⟩
  have k1 : k = 1 := by
    have a : ∀ j : Fin 17, 2 ≤ j.val → Lib.dg 5000000000000000 (16 - j.val) = 48 := by decide +kernel
    have b : Lib.dg 5000000000000000 15 ≠ 48 := by decide +kernel
    rcases Nat.lt_or_ge k 2 with h2 | h2
    · rcases Nat.lt_or_ge 0 k with h0 | h0
      · omega
      · exact absurd (hz 0 (by omega) (by omega)) b
    · exact absurd (a ⟨k, by omega⟩ h2) (hn (by omega))
  subst k1
  exact ⟨he, hc 0 (by decide), hs⟩

set_option maxHeartbeats 8000000 in
set_option maxRecDepth 100000 in
theorem ftoa_half (base : Nat) (v : Value) (W : World) (T : Tabs W) (ho : W.ownsRow base 5 1 v 0 []) (hbase : base ≤ W.heap.size) :
    Calls Tryz.prog 82 #[v, .float .f64 4602678819172646912, .int .u8 103, .int .i64 (-1)] W fun e w' => ∃ v', e = .returned v' ∧ w'.ownsRow base 5 1 v' 3 (nums .u8 [48, 46, 53]) ∧ Below base W w' := by
  have c1 := cal94 4602678819172646912
  have c2 : ∀ W, Calls Tryz.prog 84 #[.int .u64 4503599627370496] W (fun e w' => e = .returned (.int .i64 53) ∧ w' = W) := fun W => by
    have h := Tryz.bits_Len64 4503599627370496 W (by decide) (by decide)
    rwa [show Lib.bitLen (Int.toNat 4503599627370496) = 53 by decide +kernel] at h
  have c3 : ∀ W, Tabs W → Calls Tryz.prog 104 #[.int .u64 9223372036854775808, .int .i64 (-64)] W (fun e w' => e = .returned (.tuple #[.int .u64 5000000000000000, .int .i64 (-16)]) ∧ Below W.heap.size W w') := fun W T => short_half W T.b0 T.b1
  have c4 : ∀ W, Tabs W → Calls Tryz.prog 73 #[.int .u64 5000000000000000] W (fun e w' => e = .returned (.int .i64 16) ∧ w' = W) := fun W T => by
    have h := Tryz.internal_strconv_numDigits 5000000000000000 (by decide) (by decide) W T.tab
    rwa [nd_half] at h
  have f1 : bits .and .i64 1022 2047 = 1022 := by decide +kernel
  have f2 : bits .and .u64 4602678819172646912 4503599627370495 = 0 := by decide +kernel
  have f3 : bits .or .u64 0 4503599627370496 = 4503599627370496 := by decide +kernel
  have HT := Aside0.mk T
  have HO := Aside0.mk ho
  have HC := Aside0.mk c3
  have HC4 := Aside0.mk c4
  have HBs := Aside0.mk hbase
  clear T ho c3 c4 hbase
  go_enter Tryz.func82, Tryz.ntmps82
  go_upto_region 14 with (fail)
  go_quiet (fail)
  obtain ⟨w0, hw0⟩ : ∃ w0, w0 = W.drewN nq := ⟨_, rfl⟩
  rw [← hw0]
  have HB := Aside0.mk (show Below W.heap.size W w0 by rw [hw0]; exact pw_below_drewN (Below.refl _ _) _)
  clear hw0
  go_upto_region 38 with (first
    | ((with_reducible refine gate_dst (N := 16) rfl ?_); refine box_event ?hg (N := 16) ?hd (cs := Array.replicate 32 (.int .u8 0)) (t := 111) ?hr ?_; (case hd => rfl); (case hg => rfl); (case hr => first | (go_simp; done) | (go_simp; rfl)); intro g hg w1 hbox hb; have HG := Aside0.mk (show W.heap.size ≤ g by have := HB.out.size; omega); have K := Aside0.mk hbox; have HB := Aside0.mk (below_step HB.out hb); clear hg hbox hb)
    | (go_at_call 84; with_reducible refine (c2 _).mono ?_; rintro e w1 ⟨rfl, hw⟩; rw [hw]; clear hw w1)
    | (go_at_call 104; with_reducible refine (HC.out _ (HT.out.below HB.out)).mono ?_; rintro e w2 ⟨rfl, hb⟩; have K := Aside0.mk (blk_below K.out hb); have HB := Aside0.mk (below_step HB.out hb); clear hb))
  have KZ := Aside0.mk (show ∀ w' : World, w'.heap[g]? = w2.heap[g]? → (∀ j, j < 16 → w'.cell? ⟨g, j, none⟩ = some (.int .u8 0) ∧ w'.frozen? ⟨g, j, none⟩ = false) from fun w' hw => buf_zero (hw.trans K.out))
  have HL := Aside0.mk (blk_lt K.out)
  go_region_held3 (fun _ => True) (exact trivial) (first
    | (go_at_call 73; refine (HC4.out _ (HT.out.below HB.out)).mono ?_; rintro e w3 ⟨rfl, hw⟩; rw [hw]; clear hw w3)
    | (go_at_call 73; refine (HC4.out _ (HT.out.below HB.out.drew)).mono ?_; rintro e w3 ⟨rfl, hw⟩; rw [hw]; clear hw w3)
    | (go_at_call 99; refine (set_half g w2.drew (KZ.out w2.drew rfl) HL.out).mono ?_; rintro e w4 ⟨rfl, hc, hs⟩; have HQ := Aside0.mk hc; have HB := Aside0.mk (below_keep (HB.out.drew) HG.out hs); clear hc hs))
  go_wp2_with (go_at_call 97; refine (efg_half base g v _ (out_start HO.out HB.out HG.out (cell_in HQ.out) HBs.out) HQ.out).mono ?_; rintro e w5 ⟨v5, rfl, ho⟩; have HF := Aside0.mk ho; clear ho)
  go_ret
  exact ⟨_, rfl, HF.out.own, below_two (HB.out.mono HBs.out) HF.out.below⟩

theorem nd_two : Lib.nDigits 2000000000000000 = 16 := by decide +kernel
theorem set_two (g : Nat) (W : World) (hz : ∀ j, j < 16 → W.cell? ⟨g, j, none⟩ = some (.int .u8 0) ∧ W.frozen? ⟨g, j, none⟩ = false) (hg : g < W.heap.size) :
    Calls Tryz.prog 99 #[.slice (some ⟨g, 0, none⟩) 32 32, .int .u64 2000000000000000, .int .i64 (-15), .int .i64 16] W fun e w' => e = .returned (.tuple #[.int .i64 1, .int .i64 1]) ∧ w'.cell? ⟨g, 0, none⟩ = some (.int .u8 50) ∧ Save (fun k => k = g) W w' := by
  have h := digits99 g 32 16 2000000000000000 (-15) W (by decide) (by decide) (by decide) (by decide) (by decide) (by decide) hz hg
  refine h.mono ?_
  rintro e w' ⟨k, hk, he, hc, hz, hn, hs⟩
  have k1 : k = 1 := by
    have a : ∀ j : Fin 17, 2 ≤ j.val → Lib.dg 2000000000000000 (16 - j.val) = 48 := by decide +kernel
    have b : Lib.dg 2000000000000000 15 ≠ 48 := by decide +kernel
    rcases Nat.lt_or_ge k 2 with h2 | h2
    · rcases Nat.lt_or_ge 0 k with h0 | h0
      · omega
      · exact absurd (hz 0 (by omega) (by omega)) b
    · exact absurd (a ⟨k, by omega⟩ h2) (hn (by omega))
  subst k1
  exact ⟨he, hc 0 (by decide), hs⟩

set_option maxHeartbeats 8000000 in
set_option maxRecDepth 100000 in
theorem ftoa_two (base : Nat) (v : Value) (W : World) (T : Tabs W) (ho : W.ownsRow base 5 1 v 0 []) (hbase : base ≤ W.heap.size) :
    Calls Tryz.prog 82 #[v, .float .f64 4611686018427387904, .int .u8 103, .int .i64 (-1)] W fun e w' => ∃ v', e = .returned v' ∧ w'.ownsRow base 5 1 v' 1 (nums .u8 [50]) ∧ Below base W w' := by
  have c1 := cal94 4611686018427387904
  have c2 : ∀ W, Calls Tryz.prog 84 #[.int .u64 4503599627370496] W (fun e w' => e = .returned (.int .i64 53) ∧ w' = W) := fun W => by
    have h := Tryz.bits_Len64 4503599627370496 W (by decide) (by decide)
    rwa [show Lib.bitLen (Int.toNat 4503599627370496) = 53 by decide +kernel] at h
  have c3 : ∀ W, Tabs W → Calls Tryz.prog 104 #[.int .u64 9223372036854775808, .int .i64 (-62)] W (fun e w' => e = .returned (.tuple #[.int .u64 2000000000000000, .int .i64 (-15)]) ∧ Below W.heap.size W w') := fun W T => short_two W T.a0 T.a1
  have c4 : ∀ W, Tabs W → Calls Tryz.prog 73 #[.int .u64 2000000000000000] W (fun e w' => e = .returned (.int .i64 16) ∧ w' = W) := fun W T => by
    have h := Tryz.internal_strconv_numDigits 2000000000000000 (by decide) (by decide) W T.tab
    rwa [nd_two] at h
  have f1 : bits .and .i64 1024 2047 = 1024 := by decide +kernel
  have f2 : bits .and .u64 4611686018427387904 4503599627370495 = 0 := by decide +kernel
  have f3 : bits .or .u64 0 4503599627370496 = 4503599627370496 := by decide +kernel
  have HT := Aside0.mk T
  have HO := Aside0.mk ho
  have HC := Aside0.mk c3
  have HC4 := Aside0.mk c4
  have HBs := Aside0.mk hbase
  clear T ho c3 c4 hbase
  go_enter Tryz.func82, Tryz.ntmps82
  go_upto_region 14 with (fail)
  go_quiet (fail)
  obtain ⟨w0, hw0⟩ : ∃ w0, w0 = W.drewN nq := ⟨_, rfl⟩
  rw [← hw0]
  have HB := Aside0.mk (show Below W.heap.size W w0 by rw [hw0]; exact pw_below_drewN (Below.refl _ _) _)
  clear hw0
  go_upto_region 38 with (first
    | ((with_reducible refine gate_dst (N := 16) rfl ?_); refine box_event ?hg (N := 16) ?hd (cs := Array.replicate 32 (.int .u8 0)) (t := 111) ?hr ?_; (case hd => rfl); (case hg => rfl); (case hr => first | (go_simp; done) | (go_simp; rfl)); intro g hg w1 hbox hb; have HG := Aside0.mk (show W.heap.size ≤ g by have := HB.out.size; omega); have K := Aside0.mk hbox; have HB := Aside0.mk (below_step HB.out hb); clear hg hbox hb)
    | (go_at_call 84; with_reducible refine (c2 _).mono ?_; rintro e w1 ⟨rfl, hw⟩; rw [hw]; clear hw w1)
    | (go_at_call 104; with_reducible refine (HC.out _ (HT.out.below HB.out)).mono ?_; rintro e w2 ⟨rfl, hb⟩; have K := Aside0.mk (blk_below K.out hb); have HB := Aside0.mk (below_step HB.out hb); clear hb))
  have KZ := Aside0.mk (show ∀ w' : World, w'.heap[g]? = w2.heap[g]? → (∀ j, j < 16 → w'.cell? ⟨g, j, none⟩ = some (.int .u8 0) ∧ w'.frozen? ⟨g, j, none⟩ = false) from fun w' hw => buf_zero (hw.trans K.out))
  have HL := Aside0.mk (blk_lt K.out)
  go_region_held3 (fun _ => True) (exact trivial) (first
    | (go_at_call 73; refine (HC4.out _ (HT.out.below HB.out)).mono ?_; rintro e w3 ⟨rfl, hw⟩; rw [hw]; clear hw w3)
    | (go_at_call 73; refine (HC4.out _ (HT.out.below HB.out.drew)).mono ?_; rintro e w3 ⟨rfl, hw⟩; rw [hw]; clear hw w3)
    | (go_at_call 99; refine (set_two g w2.drew (KZ.out w2.drew rfl) HL.out).mono ?_; rintro e w4 ⟨rfl, hc, hs⟩; have HQ := Aside0.mk hc; have HB := Aside0.mk (below_keep (HB.out.drew) HG.out hs); clear hc hs))
  go_wp2_with (go_at_call 97; refine (efg_two base g v _ (out_start HO.out HB.out HG.out (cell_in HQ.out) HBs.out) HQ.out).mono ?_; rintro e w5 ⟨v5, rfl, ho⟩; have HF := Aside0.mk ho; clear ho)
  go_ret
  exact ⟨_, rfl, HF.out.own, below_two (HB.out.mono HBs.out) HF.out.below⟩
end Go.Proofs.YtejfmghjmhiodaaGreatDoor.Vz
namespace Go.Proofs.YtejfmghjmhiodaaGreatDoor.Vz
open Go.RowKit Go.Proofs.YtejfmghjmhiodaaGreatDoorW.PrintWords
set_option linter.unusedVariables false
set_option linter.unusedSimpArgs false
attribute [local go_sem] store_float


set_option maxHeartbeats 8000000 in
set_option maxRecDepth 100000 in
theorem ff67_half (W : World) (T : Tabs W) : Calls Tryz.prog 67 #[.float .f64 4602678819172646912, .int .u8 103, .int .i64 (-1), .int .i64 64] W fun e w' => e = .returned (.string (strOfNums [48, 46, 53])) ∧ Below W.heap.size W w' := by
  obtain ⟨i0, hi, hzz⟩ := Option.map_eq_some_iff.1 info5
  simp only [Prod.mk.injEq] at hzz
  obtain ⟨hz0, hz1, hz2⟩ := hzz
  obtain ⟨w1, hrun, hown, hgr⟩ := run_make_own (P := Tryz.prog) (w := W) W.heap.size 36 5 i0 (.int .u8 0) 1 Tryz.underlying36 hi hz0 hz1 .i64 .i64 24 (by rw [hz2]; decide) (by simp [maxLen]) (Nat.le_refl _)
  have hm : (Instr.makeSlice 36 (.int .i64 0) (.int .i64 24)).run Tryz.prog W = .ok (.slice (some ⟨W.heap.size, 0, none⟩) 0 24) w1 := hrun
  have hB : Below W.heap.size W w1 := ⟨hgr.os, hgr.tape, hgr.output, hgr.size, fun k hk => hgr.block k hk (by simp)⟩
  have c1 : Calls Tryz.prog 82 #[.slice (some ⟨W.heap.size, 0, none⟩) 0 24, .float .f64 4602678819172646912, .int .u8 103, .int .i64 (-1)] w1 (fun e w' => ∃ v', e = .returned v' ∧ w'.ownsRow W.heap.size 5 1 v' 3 (nums .u8 [48, 46, 53]) ∧ Below W.heap.size w1 w') :=
    ftoa_half W.heap.size _ w1 (T.below hB) hown hB.size
  have HB := Aside0.mk hB
  have HC := Aside0.mk c1
  clear hrun hown hgr hB c1 hi hz0 hz1 hz2 T
  have m1 : max (3 : Int) 24 = 24 := by decide
  go_enter Tryz.func67, Tryz.ntmps67
  go_wp2_with (go_at_call 82; refine HC.out.mono ?_; rintro e w2 ⟨v', rfl, ho, hb⟩; have hconv : (convert 36 9 v').run Tryz.prog w2 = .ok (.string (strOfNums [48, 46, 53])) w2 := own_string Tryz.underlying36 Tryz.underlying5 Tryz.underlying9 ho; have HB2 := Aside0.mk (HB.out.trans hb); clear ho hb)
  go_ret
  exact ⟨rfl, HB2.out⟩

set_option maxHeartbeats 8000000 in
set_option maxRecDepth 100000 in
theorem ff48_half (W : World) (T : Tabs W) : Calls Tryz.prog 48 #[.float .f64 4602678819172646912, .int .u8 103, .int .i64 (-1), .int .i64 64] W fun e w' => e = .returned (.string (strOfNums [48, 46, 53])) ∧ Below W.heap.size W w' := by
  have c1 := ff67_half W T
  clear T
  go_enter Tryz.func48, Tryz.ntmps48
  go_wp2_with (go_at_call 67; refine c1.mono ?_; rintro e w2 ⟨rfl, hb⟩)
  go_ret
  exact ⟨rfl, hb⟩

set_option maxHeartbeats 8000000 in
set_option maxRecDepth 100000 in
theorem ff67_two (W : World) (T : Tabs W) : Calls Tryz.prog 67 #[.float .f64 4611686018427387904, .int .u8 103, .int .i64 (-1), .int .i64 64] W fun e w' => e = .returned (.string (strOfNums [50])) ∧ Below W.heap.size W w' := by
  obtain ⟨i0, hi, hzz⟩ := Option.map_eq_some_iff.1 info5
  simp only [Prod.mk.injEq] at hzz
  obtain ⟨hz0, hz1, hz2⟩ := hzz
  obtain ⟨w1, hrun, hown, hgr⟩ := run_make_own (P := Tryz.prog) (w := W) W.heap.size 36 5 i0 (.int .u8 0) 1 Tryz.underlying36 hi hz0 hz1 .i64 .i64 24 (by rw [hz2]; decide) (by simp [maxLen]) (Nat.le_refl _)
  have hm : (Instr.makeSlice 36 (.int .i64 0) (.int .i64 24)).run Tryz.prog W = .ok (.slice (some ⟨W.heap.size, 0, none⟩) 0 24) w1 := hrun
  have hB : Below W.heap.size W w1 := ⟨hgr.os, hgr.tape, hgr.output, hgr.size, fun k hk => hgr.block k hk (by simp)⟩
  have c1 : Calls Tryz.prog 82 #[.slice (some ⟨W.heap.size, 0, none⟩) 0 24, .float .f64 4611686018427387904, .int .u8 103, .int .i64 (-1)] w1 (fun e w' => ∃ v', e = .returned v' ∧ w'.ownsRow W.heap.size 5 1 v' 1 (nums .u8 [50]) ∧ Below W.heap.size w1 w') :=
    ftoa_two W.heap.size _ w1 (T.below hB) hown hB.size
  have HB := Aside0.mk hB
  have HC := Aside0.mk c1
  clear hrun hown hgr hB c1 hi hz0 hz1 hz2 T
  have m1 : max (3 : Int) 24 = 24 := by decide
  go_enter Tryz.func67, Tryz.ntmps67
  go_wp2_with (go_at_call 82; refine HC.out.mono ?_; rintro e w2 ⟨v', rfl, ho, hb⟩; have hconv : (convert 36 9 v').run Tryz.prog w2 = .ok (.string (strOfNums [50])) w2 := own_string Tryz.underlying36 Tryz.underlying5 Tryz.underlying9 ho; have HB2 := Aside0.mk (HB.out.trans hb); clear ho hb)
  go_ret
  exact ⟨rfl, HB2.out⟩

set_option maxHeartbeats 8000000 in
set_option maxRecDepth 100000 in
theorem ff48_two (W : World) (T : Tabs W) : Calls Tryz.prog 48 #[.float .f64 4611686018427387904, .int .u8 103, .int .i64 (-1), .int .i64 64] W fun e w' => e = .returned (.string (strOfNums [50])) ∧ Below W.heap.size W w' := by
  have c1 := ff67_two W T
  clear T
  go_enter Tryz.func48, Tryz.ntmps48
  go_wp2_with (go_at_call 67; refine c1.mono ?_; rintro e w2 ⟨rfl, hb⟩)
  go_ret
  exact ⟨rfl, hb⟩
end Go.Proofs.YtejfmghjmhiodaaGreatDoor.Vz
namespace Go.Proofs.YtejfmghjmhiodaaGreatDoor.Vz
open Go.RowKit Go.Proofs.YtejfmghjmhiodaaGreatDoorW.PrintWords
set_option linter.unusedVariables false
set_option linter.unusedSimpArgs false
attribute [local go_sem] store_float

/-- The NaN that Canon tells. -/
def nanC : Nat := 9221120237041090561
def isNan (f : Nat) : Bool := FloatKind.f64.format.order f f != some Ordering.eq
def canon (f : Nat) : Nat := if isNan f then nanC else f
theorem canon_wf {f : Nat} (h : (Lit.float .f64 f).wf = true) : (Lit.float .f64 (canon f)).wf = true := by
  unfold canon; split
  · decide +kernel
  · exact h
theorem call41 (W : World) : (callFunc 51 #[.int .u64 9221120237041090561]).run Tryz.prog W = .ok (.value (.float .f64 nanC)) W := by kernel_rfl
theorem call37 (f : Nat) (W : World) : (callFunc 38 #[.float .f64 f]).run Tryz.prog W = .ok (.value (.int .u64 f)) W := by kernel_rfl
mutual
def clean : Val → Val
  | .mk k i f s l => if k = 1 then .mk 1 i 0 ⟨#[]⟩ [] else if k = 2 then .mk 2 0 (canon f) ⟨#[]⟩ [] else if k = 3 then .mk 3 0 0 s [] else if k = 4 then .mk 4 0 0 ⟨#[]⟩ (cleans l) else .mk 0 0 0 ⟨#[]⟩ []
def cleans : List Val → List Val
  | [] => []
  | v :: r => clean v :: cleans r
end
theorem cleans_map (l : List Val) : cleans l = l.map clean := by
  induction l with
  | nil => rfl
  | cons v r ih => rw [cleans, ih]; rfl
theorem RV.flat {W : World} {ok : Nat → Prop} {k i : Int} {f : Nat} {s : ByteArray} {A : Option Addr} {c : Nat} (hk : (Lit.int .i64 k).wf = true) (hi : (Lit.int .i64 i).wf = true) (hf : (Lit.float .f64 f).wf = true) (hs : s.size ≤ 140737488351232) : RV W ok (.mk k i f s []) #[.int .i64 k, .int .i64 i, .float .f64 f, .string s, .slice A 0 c] :=
  .mk k i f s [] A c 0 0 (fun _ => #[]) hk hi hf hs (Nat.zero_le _) (by simp) (fun h => absurd h (Nat.lt_irrefl 0)) (fun j h => absurd h (Nat.not_lt_zero j)) (fun j h => absurd h (Nat.not_lt_zero j))

set_option maxHeartbeats 8000000 in
set_option maxRecDepth 100000 in
theorem canon38 (f : Nat) (W : World) : Calls Tryz.prog 28 #[.float .f64 f] W fun e w' => e = .returned (.float .f64 (canon f)) ∧ w' = W := by
  have hc := call41
  unfold canon isNan
  generalize nanC = N at hc ⊢
  by_cases h : (FloatKind.f64.format.order f f != some Ordering.eq) = true
  · rw [h]
    go_enter Tryz.func28, Tryz.ntmps28
    go_wp2
    go_ret
    exact ⟨rfl, rfl⟩
  · have h' : (FloatKind.f64.format.order f f != some Ordering.eq) = false := by simpa using h
    rw [h']
    clear h
    go_enter Tryz.func28, Tryz.ntmps28
    go_wp2
    go_ret
    exact ⟨rfl, rfl⟩

set_option maxHeartbeats 8000000 in
set_option maxRecDepth 100000 in
theorem bits30 (f : Nat) (W : World) : Calls Tryz.prog 14 #[.float .f64 f] W fun e w' => e = .returned (.int .u64 (canon f)) ∧ w' = W := by
  have hc := call37
  go_enter Tryz.func14, Tryz.ntmps14
  go_wp2_with (go_at_call 28; refine (canon38 f _).mono ?_; rintro e w1 ⟨rfl, rfl⟩)
  go_ret
  exact ⟨rfl, rfl⟩

set_option maxHeartbeats 8000000 in
set_option maxRecDepth 100000 in
theorem float31 (f : Nat) (W : World) : Calls Tryz.prog 12 #[.float .f64 f] W fun e w' => e = .returned (.agg #[.int .i64 2, .int .i64 0, .float .f64 (canon f), .string ⟨#[]⟩, .slice none 0 0]) ∧ Below W.heap.size W w' := by
  go_enter Tryz.func12, Tryz.ntmps12
  go_wp2_with (first
    | ((with_reducible refine gate_dst (N := 2) rfl ?_); refine box_event ?hg (N := 2) ?hd (cs := #[.int .i64 0, .int .i64 0, .float .f64 0, .string ⟨#[]⟩, .slice none 0 0]) (t := 25) ?hr ?_; (case hd => rfl); (case hg => rfl); (case hr => first | (go_simp; done) | (go_simp; rfl)); intro g hg w1 hbox hb; have HB := Aside0.mk hb; have HG := Aside0.mk (show W.heap.size ≤ g by omega); have K := Aside0.mk hbox; clear hg hbox hb)
    | (go_at_call 28; refine (canon38 f _).mono ?_; rintro e w2 ⟨rfl, rfl⟩)
    | ((with_reducible refine gate_store (t := 25) (p := 2) rfl ?_); refine put_eventU ?hg (t := 25) (p := 2) (v := .tmp 5) ?ho ?hN (g := g) (u := .agg #[.int .i64 2, .int .i64 0, .float .f64 (canon f), .string ⟨#[]⟩, .slice none 0 0]) (cs := #[.int .i64 2, .int .i64 0, .float .f64 (canon f), .string ⟨#[]⟩, .slice none 0 0]) ?hp ?hv K.out ?hs ?hi ?h1 ?hc ?_; (case hs => rfl); (case hi => kernel_rfl); (case h1 => simp [Value.oneCell']); (case hc => simp [Value.cells]); (case hg => rfl); (case ho => rfl); (case hN => rfl); (case hp => rfl); (case hv => rfl); intro w3 hk hs; have HB := Aside0.mk (below_keep HB.out HG.out hs); have K := Aside0.mk hk; clear hk hs))
  have q0 := blk_cell K.out 0
  have q1 := blk_cell K.out 1
  have q2 := blk_cell K.out 2
  have q3 := blk_cell K.out 3
  have q4 := blk_cell K.out 4
  simp at q0 q1 q2 q3 q4
  refine bodyPost_ret (v := .agg #[.int .i64 2, .int .i64 0, .float .f64 (canon f), .string ⟨#[]⟩, .slice none 0 0]) ?_ rfl ⟨rfl, HB.out⟩
  simp [results, Tryz.results12, go_sem, q0, q1, q2, q3, q4]

set_option maxHeartbeats 8000000 in
set_option maxRecDepth 100000 in
theorem text32 (t : ByteArray) (W : World) : Calls Tryz.prog 15 #[.string t] W fun e w' => e = .returned (.agg #[.int .i64 3, .int .i64 0, .float .f64 0, .string t, .slice none 0 0]) ∧ Below W.heap.size W w' := by
  go_enter Tryz.func15, Tryz.ntmps15
  go_wp2_with (first
    | ((with_reducible refine gate_dst (N := 2) rfl ?_); refine box_event ?hg (N := 2) ?hd (cs := #[.int .i64 0, .int .i64 0, .float .f64 0, .string ⟨#[]⟩, .slice none 0 0]) (t := 25) ?hr ?_; (case hd => rfl); (case hg => rfl); (case hr => first | (go_simp; done) | (go_simp; rfl)); intro g hg w1 hbox hb; have HB := Aside0.mk hb; have HG := Aside0.mk (show W.heap.size ≤ g by omega); have K := Aside0.mk hbox; clear hg hbox hb)
    | ((with_reducible refine gate_store (t := 25) (p := 2) rfl ?_); refine put_eventU ?hg (t := 25) (p := 2) (v := .tmp 4) ?ho ?hN (g := g) (u := .agg #[.int .i64 3, .int .i64 0, .float .f64 0, .string t, .slice none 0 0]) (cs := #[.int .i64 3, .int .i64 0, .float .f64 0, .string t, .slice none 0 0]) ?hp ?hv K.out ?hs ?hi ?h1 ?hc ?_; (case hs => rfl); (case hi => kernel_rfl); (case h1 => simp [Value.oneCell']); (case hc => simp [Value.cells]); (case hg => rfl); (case ho => rfl); (case hN => rfl); (case hp => rfl); (case hv => rfl); intro w3 hk hs; have HB := Aside0.mk (below_keep HB.out HG.out hs); have K := Aside0.mk hk; clear hk hs))
  have q0 := blk_cell K.out 0
  have q1 := blk_cell K.out 1
  have q2 := blk_cell K.out 2
  have q3 := blk_cell K.out 3
  have q4 := blk_cell K.out 4
  simp at q0 q1 q2 q3 q4
  refine bodyPost_ret (v := .agg #[.int .i64 3, .int .i64 0, .float .f64 0, .string t, .slice none 0 0]) ?_ rfl ⟨rfl, HB.out⟩
  simp [results, Tryz.results15, go_sem, q0, q1, q2, q3, q4]
end Go.Proofs.YtejfmghjmhiodaaGreatDoor.Vz
namespace Go.Proofs.YtejfmghjmhiodaaGreatDoor.Vz
open Go.RowKit Go.Proofs.YtejfmghjmhiodaaGreatDoorW.PrintWords
set_option linter.unusedVariables false
set_option linter.unusedSimpArgs false
attribute [local go_sem] store_float

set_option maxHeartbeats 8000000 in
set_option maxRecDepth 100000 in
theorem isNaN36 (f : Nat) (W : World) : Calls Tryz.prog 36 #[.float .f64 f] W fun e w' => e = .returned (.bool (isNan f)) ∧ w' = W := by
  unfold isNan
  go_enter Tryz.func36, Tryz.ntmps36
  go_wp2
  go_ret
  exact ⟨rfl, rfl⟩

theorem cal51_half (W : World) : (callFunc 51 #[.int .u64 4602678819172646912]).run Tryz.prog W = .ok (.value (.float .f64 4602678819172646912)) W := by kernel_rfl
set_option maxHeartbeats 8000000 in
set_option maxRecDepth 100000 in
theorem abs_half (W : World) : Calls Tryz.prog 76 #[.float .f64 4602678819172646912] W fun e w' => e = .returned (.float .f64 4602678819172646912) ∧ w' = W := by
  have c1 := call37 4602678819172646912
  have c2 := cal51_half
  have f1 : bits .andNot .u64 4602678819172646912 9223372036854775808 = 4602678819172646912 := by decide +kernel
  go_enter Tryz.func76, Tryz.ntmps76
  go_wp2
  go_ret
  exact ⟨rfl, rfl⟩
set_option maxHeartbeats 8000000 in
set_option maxRecDepth 100000 in
theorem inf_half (W : World) : Calls Tryz.prog 61 #[.float .f64 4602678819172646912, .int .i64 0] W fun e w' => e = .returned (.bool false) ∧ w' = W := by
  have f1 : (FloatKind.f64.format.order 4602678819172646912 9218868437227405311 == some Ordering.gt) = false := by decide +kernel
  go_enter Tryz.func61, Tryz.ntmps61
  go_wp2_with (go_at_call 76; refine (abs_half _).mono ?_; rintro e w1 ⟨rfl, hw⟩; rw [hw]; clear hw w1)
  go_ret
  exact ⟨rfl, rfl⟩
set_option maxHeartbeats 8000000 in
set_option maxRecDepth 100000 in
theorem float_half (W : World) (T : Tabs W) : Calls Tryz.prog 45 #[.float .f64 4602678819172646912] W fun e w' => e = .returned (.string ⟨#[48, 46, 53]⟩) ∧ Below W.heap.size W w' := by
  have c1 : Calls Tryz.prog 48 #[.float .f64 4602678819172646912, .int .u8 103, .int .i64 (-1), .int .i64 64] W (fun e w' => e = .returned (.string ⟨#[48, 46, 53]⟩) ∧ Below W.heap.size W w') := by
    have h := ff48_half W T
    rwa [show strOfNums [48, 46, 53] = ⟨#[48, 46, 53]⟩ by decide +kernel] at h
  have c2 : ∀ w, Calls Tryz.prog 36 #[.float .f64 4602678819172646912] w (fun e w' => e = .returned (.bool false) ∧ w' = w) := fun w => by
    have h := isNaN36 4602678819172646912 w
    rwa [show isNan 4602678819172646912 = false by decide +kernel] at h
  have c3 : ∀ w, Calls Tryz.prog 62 #[.string ⟨#[48, 46, 53]⟩, .string ⟨#[46]⟩] w (fun e w' => e = .returned (.bool true) ∧ w' = w) := fun w => by
    have h := Tryz.strings_Contains_one ⟨#[48, 46, 53]⟩ 46 w
    rwa [show decide (0 ≤ Lib.indexByte (ByteArray.mk #[48, 46, 53]).data.toList 46) = true by decide +kernel] at h
  have c4 : ∀ w, Calls Tryz.prog 62 #[.string ⟨#[48, 46, 53]⟩, .string ⟨#[101]⟩] w (fun e w' => e = .returned (.bool false) ∧ w' = w) := fun w => by
    have h := Tryz.strings_Contains_one ⟨#[48, 46, 53]⟩ 101 w
    rwa [show decide (0 ≤ Lib.indexByte (ByteArray.mk #[48, 46, 53]).data.toList 101) = false by decide +kernel] at h
  clear T
  go_enter Tryz.func45, Tryz.ntmps45
  go_wp2_with (first
    | (go_at_call 48; refine c1.mono ?_; rintro e w2 ⟨rfl, hb⟩; have HB := Aside0.mk hb; clear hb)
    | (go_at_call 61; refine (inf_half _).mono ?_; rintro e w1 ⟨rfl, hw⟩; rw [hw]; clear hw w1)
    | (go_at_call 36; refine (c2 _).mono ?_; rintro e w1 ⟨rfl, hw⟩; rw [hw]; clear hw w1)
    | (go_at_call 62; with_reducible refine (c3 _).mono ?_; rintro e w1 ⟨rfl, hw⟩; rw [hw]; clear hw w1)
    | (go_at_call 62; with_reducible refine (c4 _).mono ?_; rintro e w1 ⟨rfl, hw⟩; rw [hw]; clear hw w1))
  go_ret
  exact ⟨rfl, HB.out⟩

theorem cal51_two (W : World) : (callFunc 51 #[.int .u64 4611686018427387904]).run Tryz.prog W = .ok (.value (.float .f64 4611686018427387904)) W := by kernel_rfl
set_option maxHeartbeats 8000000 in
set_option maxRecDepth 100000 in
theorem abs_two (W : World) : Calls Tryz.prog 76 #[.float .f64 4611686018427387904] W fun e w' => e = .returned (.float .f64 4611686018427387904) ∧ w' = W := by
  have c1 := call37 4611686018427387904
  have c2 := cal51_two
  have f1 : bits .andNot .u64 4611686018427387904 9223372036854775808 = 4611686018427387904 := by decide +kernel
  go_enter Tryz.func76, Tryz.ntmps76
  go_wp2
  go_ret
  exact ⟨rfl, rfl⟩
set_option maxHeartbeats 8000000 in
set_option maxRecDepth 100000 in
theorem inf_two (W : World) : Calls Tryz.prog 61 #[.float .f64 4611686018427387904, .int .i64 0] W fun e w' => e = .returned (.bool false) ∧ w' = W := by
  have f1 : (FloatKind.f64.format.order 4611686018427387904 9218868437227405311 == some Ordering.gt) = false := by decide +kernel
  go_enter Tryz.func61, Tryz.ntmps61
  go_wp2_with (go_at_call 76; refine (abs_two _).mono ?_; rintro e w1 ⟨rfl, hw⟩; rw [hw]; clear hw w1)
  go_ret
  exact ⟨rfl, rfl⟩
set_option maxHeartbeats 8000000 in
set_option maxRecDepth 100000 in
theorem float_two (W : World) (T : Tabs W) : Calls Tryz.prog 45 #[.float .f64 4611686018427387904] W fun e w' => e = .returned (.string ⟨#[50, 46, 48]⟩) ∧ Below W.heap.size W w' := by
  have c1 : Calls Tryz.prog 48 #[.float .f64 4611686018427387904, .int .u8 103, .int .i64 (-1), .int .i64 64] W (fun e w' => e = .returned (.string ⟨#[50]⟩) ∧ Below W.heap.size W w') := by
    have h := ff48_two W T
    rwa [show strOfNums [50] = ⟨#[50]⟩ by decide +kernel] at h
  have c2 : ∀ w, Calls Tryz.prog 36 #[.float .f64 4611686018427387904] w (fun e w' => e = .returned (.bool false) ∧ w' = w) := fun w => by
    have h := isNaN36 4611686018427387904 w
    rwa [show isNan 4611686018427387904 = false by decide +kernel] at h
  have c3 : ∀ w, Calls Tryz.prog 62 #[.string ⟨#[50]⟩, .string ⟨#[46]⟩] w (fun e w' => e = .returned (.bool false) ∧ w' = w) := fun w => by
    have h := Tryz.strings_Contains_one ⟨#[50]⟩ 46 w
    rwa [show decide (0 ≤ Lib.indexByte (ByteArray.mk #[50]).data.toList 46) = false by decide +kernel] at h
  have c4 : ∀ w, Calls Tryz.prog 62 #[.string ⟨#[50]⟩, .string ⟨#[101]⟩] w (fun e w' => e = .returned (.bool false) ∧ w' = w) := fun w => by
    have h := Tryz.strings_Contains_one ⟨#[50]⟩ 101 w
    rwa [show decide (0 ≤ Lib.indexByte (ByteArray.mk #[50]).data.toList 101) = false by decide +kernel] at h
  clear T
  go_enter Tryz.func45, Tryz.ntmps45
  go_wp2_with (first
    | (go_at_call 48; refine c1.mono ?_; rintro e w2 ⟨rfl, hb⟩; have HB := Aside0.mk hb; clear hb)
    | (go_at_call 61; refine (inf_two _).mono ?_; rintro e w1 ⟨rfl, hw⟩; rw [hw]; clear hw w1)
    | (go_at_call 36; refine (c2 _).mono ?_; rintro e w1 ⟨rfl, hw⟩; rw [hw]; clear hw w1)
    | (go_at_call 62; with_reducible refine (c3 _).mono ?_; rintro e w1 ⟨rfl, hw⟩; rw [hw]; clear hw w1)
    | (go_at_call 62; with_reducible refine (c4 _).mono ?_; rintro e w1 ⟨rfl, hw⟩; rw [hw]; clear hw w1))
  go_ret
  exact ⟨rfl, HB.out⟩
end Go.Proofs.YtejfmghjmhiodaaGreatDoor.Vz
namespace Go.Proofs.YtejfmghjmhiodaaGreatDoor.Vz
open Go.RowKit Go.Proofs.YtejfmghjmhiodaaGreatDoorW.PrintWords
set_option linter.unusedVariables false
set_option linter.unusedSimpArgs false
attribute [local go_sem] store_float

def rows : List (Array Value) → List Value
  | [] => []
  | c :: r => c.toList ++ rows r
theorem rows_snoc (l : List (Array Value)) (c : Array Value) : rows (l ++ [c]) = rows l ++ c.toList := by
  induction l with
  | nil => simp [rows]
  | cons x r ih => simp [rows, ih, List.append_assoc]
theorem rows_get {l : List (Array Value)} (h : ∀ c ∈ l, c.size = 5) (j : Nat) (hj : j < l.length) (q : Nat) (hq : q < 5) : (rows l)[j * 5 + q]? = l[j][q]? := by
  induction l generalizing j with
  | nil => cases hj
  | cons x r ih =>
    have hx : x.toList.length = 5 := by rw [Array.length_toList]; exact h x (by simp)
    cases j with
    | zero =>
      rw [rows, List.getElem?_append_left (by rw [hx]; omega)]
      simp
    | succ j =>
      rw [rows, List.getElem?_append_right (by rw [hx]; omega), hx, show (j + 1) * 5 + q - 5 = j * 5 + q by omega]
      simpa using ih (fun c hc => h c (by simp [hc])) j (by simpa using hj)
theorem RV.size {W : World} {ok : Nat → Prop} {v : Val} {cs : Array Value} (h : RV W ok v cs) : cs.size = 5 := by
  obtain ⟨_, _, _, _, _, _, _, rfl⟩ := h.form; rfl
/-- The loop of Cleans, at its head. -/
structure Cl (W : World) (l : List Val) (j : Nat) (v : Value) (css : List (Array Value)) (wr : World) : Prop where
  b : Below W.heap.size W wr
  n : css.length = j
  o : wr.ownsRow W.heap.size 25 5 v j (rows css)
  e : ∀ (i : Nat) (h : i < css.length) (h' : i < l.length), RV wr (fun g => W.heap.size ≤ g ∧ v.ownBlock ≠ some g) (clean l[i]) css[i]
theorem Cl.snoc {W w1 w2 : World} {l : List Val} {j : Nat} {v v2 : Value} {css : List (Array Value)} {x : Val} {cs : Array Value} (hj : j < l.length) (hx : l[j] = x) (hb : Below W.heap.size W w1) (hn : css.length = j) (ho : w1.ownsRow W.heap.size 25 5 v j (rows css))
    (he : ∀ (i : Nat) (h : i < css.length) (h' : i < l.length), RV w1 (fun g => W.heap.size ≤ g ∧ v.ownBlock ≠ some g) (clean l[i]) css[i])
    (hc : RV w1 (fun g => W.heap.size ≤ g ∧ v.ownBlock ≠ some g) (clean x) cs) (hown : w2.ownsRow W.heap.size 25 5 v2 (j + 1) (rows css ++ cs.toList)) (hg : w1.grownBy w2 v.ownBlock) (hat : v2.ownBlock = v.ownBlock ∨ ∃ b, v2.ownBlock = some b ∧ w1.heap.size ≤ b) : Cl W l (j + 1) v2 (css ++ [cs]) w2 := by
  have hm : ∀ {y : Val} {c : Array Value}, RV w1 (fun g => W.heap.size ≤ g ∧ v.ownBlock ≠ some g) y c → RV w2 (fun g => W.heap.size ≤ g ∧ v2.ownBlock ≠ some g) y c := fun h =>
    h.step (fun g hok hlt => hg.block g hlt (fun e => hok.2 e.symm)) (fun g hok hlt => ⟨hok.1, by
      rcases hat with e | ⟨b, e, hbb⟩
      · rw [e]; exact hok.2
      · rw [e]; intro hh; injection hh with hh; omega⟩)
  refine ⟨pw_below_grown hb v.ownBlock hb.size hg (fun q hq => (own_under ho q hq).1), by simp [hn], by rw [rows_snoc]; exact hown, fun i h h' => ?_⟩
  by_cases hi : i < css.length
  · rw [List.getElem_append_left hi]; exact hm (he i hi h')
  · have e : i = css.length := by simp at h; omega
    subst e
    rw [List.getElem_append_right (Nat.le_refl _)]
    simp only [Nat.sub_self, List.getElem_cons_zero]
    have e2 : l[css.length] = x := by rw [← hx]; congr 1
    rw [e2]; exact hm hc
theorem Cl.done {W w1 : World} {l : List Val} {v : Value} {css : List (Array Value)} (h : Cl W l l.length v css w1) (hb : l.length * 64 ≤ 140737488351232) : ∃ A c, v = .slice A l.length c ∧ RV w1 (fun g => W.heap.size ≤ g) (.mk 4 0 0 ⟨#[]⟩ (cleans l)) #[.int .i64 4, .int .i64 0, .float .f64 0, .string ⟨#[]⟩, .slice A l.length c] := by
  have hl : (cleans l).length = l.length := by rw [cleans_map]; simp
  have hk : (Lit.int .i64 4).wf = true := by decide
  have hi : (Lit.int .i64 0).wf = true := by decide
  have hf : (Lit.float .f64 0).wf = true := by decide
  rcases h.o.2 with ⟨hv, h0⟩ | ⟨g, cap, cur, hv, hg, hh, hc, _, hcs, htk⟩
  · refine ⟨none, 0, by rw [hv, h0], ?_⟩
    have e : cleans l = [] := List.length_eq_zero_iff.1 (by rw [hl]; exact h0)
    rw [e, h0]
    exact RV.flat hk hi hf (by decide)
  · refine ⟨_, cap, hv, ?_⟩
    have hx := RV.mk (W := w1) (ok := fun g => W.heap.size ≤ g) 4 0 0 ⟨#[]⟩ (cleans l) (some ⟨g, 0, none⟩) cap g 0 (fun j => css.getD j #[]) hk hi hf (by decide) (by rw [hl]; exact hc) (by rw [hl]; exact hb) (fun _ => ⟨rfl, hg⟩) (fun j hj q hq => ?_) (fun j hj => ?_)
    · rw [hl] at hx; exact hx
    · have hj' : j < css.length := by rw [h.n, ← hl]; exact hj
      rw [show 0 + j * 5 + q = j * 5 + q by omega]
      have ho := h.o
      rw [hv] at ho
      rw [World.ownsRow.cellAt ho _ (by rw [hl] at hj; omega), rows_get (fun c hc => ?_) j hj' q hq]
      · simp [List.getD_eq_getElem?_getD, hj']
      · obtain ⟨i, hi', rfl⟩ := List.getElem_of_mem hc
        exact (h.e i hi' (by rw [← h.n]; exact hi')).size
    · have hj' : j < css.length := by rw [h.n, ← hl]; exact hj
      have e1 : css.getD j #[] = css[j] := by simp [List.getD_eq_getElem?_getD, hj']
      have e2 : (cleans l)[j] = clean (l[j]'(by rw [← hl]; exact hj)) := by simp [cleans_map]
      rw [e1, e2]
      exact (h.e j hj' (by rw [← hl]; exact hj)).mono (fun g hg _ => hg.1)
/-- What Clean tells. -/
def CleanC (v : Val) : Prop := ∀ (W : World) (ok : Nat → Prop) (cs : Array Value), RV W ok v cs → Calls Tryz.prog 25 #[.agg cs] W fun e w' => ∃ cs', e = .returned (.agg cs') ∧ RV w' (fun g => W.heap.size ≤ g) (clean v) cs' ∧ Below W.heap.size W w'

set_option maxHeartbeats 8000000 in
set_option maxRecDepth 100000 in
/-- Cleans. -/
theorem cleans33 (k i : Int) (f : Nat) (s : ByteArray) (l : List Val) (hE : ∀ (j : Nat) (hj : j < l.length), CleanC l[j]) (W : World) (ok : Nat → Prop) (x0 x1 x2 x3 : Value) (A : Option Addr) (c : Nat) (hR : RV W ok (.mk k i f s l) #[x0, x1, x2, x3, .slice A l.length c]) :
    Calls Tryz.prog 49 #[.slice A l.length c] W fun e w' => (∃ A' c', e = .returned (.slice A' l.length c') ∧ RV w' (fun g => W.heap.size ≤ g) (.mk 4 0 0 ⟨#[]⟩ (cleans l)) #[.int .i64 4, .int .i64 0, .float .f64 0, .string ⟨#[]⟩, .slice A' l.length c']) ∧ Below W.heap.size W w' := by
  obtain ⟨A0, c0, e0, wk, wi, wf, ws, wc, wb⟩ := hR.len
  have HI := Aside0.mk hE
  have HR := Aside0.mk hR
  have HWB := Aside0.mk (show (l.length : Int) * 64 ≤ 140737488351232 ∧ l.length * 64 ≤ 140737488351232 by omega)
  have hnn : (0 : Int) ≤ (l.length : Int) := by omega
  clear hE hR wk wi wf ws wc wb e0
  obtain ⟨n, hn⟩ : ∃ n, l.length = n := ⟨_, rfl⟩
  have HNL := Aside0.mk hn
  rw [hn] at HR HWB hnn ⊢
  clear hn
  go_enter Tryz.func49, Tryz.ntmps49
  go_wp2
  go_loopw [3, 4] (fun v ix wr => ∃ j : Nat, j ≤ n ∧ ix = .int .i64 (j : Int) ∧ Aside0 (∃ css, Cl W l j v css wr)) (fun _ ix _ => n - (intOf ix).toNat)
  case atStart => exact ⟨0, by omega, rfl, Aside0.mk ⟨[], Below.refl _ _, rfl, ⟨rfl, .inl ⟨rfl, rfl⟩⟩, fun i h => absurd h (Nat.not_lt_zero i)⟩⟩
  case round =>
    obtain ⟨j, hj, rfl, HH⟩ := hrel
    obtain ⟨css, hcl⟩ := HH.out
    have HB' := Aside0.mk hcl.b
    have HCn := Aside0.mk hcl.n
    have HO := Aside0.mk hcl.o
    have HEe := Aside0.mk hcl.e
    have HCL := Aside0.mk hcl
    clear hcl HH
    by_cases hlt : j < n
    · have hji : (j : Int) < (n : Int) := by omega
      have hj0 : (0 : Int) ≤ (j : Int) := by omega
      have hjl : j < l.length := by rw [HNL.out]; exact hlt
      obtain ⟨g, off, k', i', f', s', A', n', c', rfl, hg1, hg2, hsub, p0, p1, p2, p3, p4⟩ := (HR.out.kept HB'.out).elem j hjl
      have hih := HI.out j hjl
      obtain ⟨x, hx⟩ : ∃ x, l[j] = x := ⟨_, rfl⟩
      have HX := Aside0.mk (show ∃ h : j < l.length, l[j] = x from ⟨hjl, hx⟩)
      rw [hx] at hsub hih
      have HSub := Aside0.mk hsub
      have HIx := Aside0.mk hih
      have hwk : IntKind.i64.wrap ((j : Int) + 1) = ((j + 1 : Nat) : Int) := by have := HWB.out; rw [IntKind.wrap_i64]; omega
      clear hx hsub hih hjl hg1 hg2
      go_upto_region 4 with (first
        | (go_at_call 25; refine (HIx.out _ _ _ HSub.out).mono ?_; rintro e w1 ⟨cs', rfl, hcs, hb⟩; obtain ⟨y0, y1, y2, y3, y4, y5, y6, rfl⟩ := hcs.form; have HCs := Aside0.mk (hcs.mono (ok' := fun q => W.heap.size ≤ q ∧ u3.ownBlock ≠ some q) (fun q hq _ => ⟨Nat.le_trans HB'.out.size hq, fun e => by have := (own_under HO.out q e).2; omega⟩)); have HE1 := Aside0.mk (fun (i : Nat) (h : i < css.length) (h' : i < l.length) => (HEe.out i h h').kept hb); have HO1 := Aside0.mk (own_save HO.out (Save.of (S := fun _ => False) hb) (fun _ _ x => x.elim)); have HB1 := Aside0.mk (below_step HB'.out hb); clear hcs hb)
        | (at_builtin; refine print_append_cells (w0 := w1) W.heap.size rfl (.tmp 11) (.tmp 17) 23 25 (.agg #[.int .i64 0, .int .i64 0, .float .f64 0, .string ⟨#[]⟩, .slice none 0 0]) 5 64 rfl Tryz.underlying23 info25 rfl (by decide) (by decide) u3 j (rows css) [.int .i64 y0, .int .i64 y1, .float .f64 y2, .string y3, .slice y4 y5 y6] rfl rfl rfl ?a1 ?aO ?aB ?aS ?aL ?_; (case a1 => simp [Value.oneCell']); (case aO => exact HO1.out); (case aB => exact Below.refl _ _); (case aS => exact HB1.out.size); (case aL => (have := HWB.out; omega)); intro v1 w2 hown hb hg hat; have HN1 := Aside0.mk (Cl.snoc HX.out.1 HX.out.2 HB1.out HCn.out HO1.out HE1.out HCs.out hown hg hat); clear hown hb hg hat))
      go_wp2
      go_roundw
      case rel => exact ⟨j + 1, by omega, by go_num, Aside0.mk ⟨_, HN1.out⟩⟩
      case measure => simp [intOf]; omega
    · obtain rfl : j = n := by omega
      obtain ⟨A', c', e, hd⟩ := Cl.done (HNL.out.symm ▸ HCL.out : Cl W l l.length u3 css wr) (by rw [HNL.out]; exact HWB.out.2)
      rw [HNL.out] at e hd
      subst e
      have HD := Aside0.mk hd
      clear hd
      go_wp2
      go_ret
      exact ⟨⟨_, _, rfl, HD.out⟩, HB'.out⟩

set_option maxHeartbeats 8000000 in
set_option maxRecDepth 100000 in
theorem clean18_1 (k i : Int) (f : Nat) (s : ByteArray) (A : Option Addr) (n c : Nat) (W : World) : Calls Tryz.prog 25 #[.agg #[.int .i64 1, .int .i64 i, .float .f64 f, .string s, .slice A n c]] W fun e w' => e = .returned (.agg #[.int .i64 1, .int .i64 i, .float .f64 0, .string ⟨#[]⟩, .slice none 0 0]) ∧ Below W.heap.size W w' := by
  go_enter Tryz.func25, Tryz.ntmps25
  go_wp2_with (first
    | ((with_reducible refine gate_dst (N := 1) rfl ?_); refine box_event ?hg (N := 1) ?hd (cs := #[.int .i64 1, .int .i64 i, .float .f64 f, .string s, .slice A n c]) (t := 25) ?hr ?_; (case hd => rfl); (case hg => rfl); (case hr => first | (go_simp; done) | (go_simp; rfl)); intro gb hg w1 hbox hb; have HB := Aside0.mk hb; have KB := Aside0.mk hbox; clear hg hbox hb)
    | ((with_reducible refine gate_dst (N := 2) rfl ?_); refine box_event ?hg (N := 2) ?hd (cs := #[.int .i64 0, .int .i64 0, .float .f64 0, .string ⟨#[]⟩, .slice none 0 0]) (t := 25) ?hr ?_; (case hd => rfl); (case hg => rfl); (case hr => first | (go_simp; done) | (go_simp; rfl)); intro gr hg w2 hbox hb; have HG := Aside0.mk (show W.heap.size ≤ gr from by (have := HB.out.size; omega)); have HB := Aside0.mk (below_step HB.out hb); have KB := Aside0.mk (blk_below KB.out hb); have K := Aside0.mk hbox; have b0 : w2.cell? ⟨gb, 0, none⟩ = some (.int .i64 1) := blk_cell KB.out 0; have b1 : w2.cell? ⟨gb, 1, none⟩ = some (.int .i64 i) := blk_cell KB.out 1; have b2 : w2.cell? ⟨gb, 2, none⟩ = some (.float .f64 f) := blk_cell KB.out 2; have b3 : w2.cell? ⟨gb, 3, none⟩ = some (.string s) := blk_cell KB.out 3; have b4 : w2.cell? ⟨gb, 4, none⟩ = some (.slice A n c) := blk_cell KB.out 4; clear hg hbox hb)
    | (go_at_call 23; refine (int14 i _).mono ?_; rintro e w3 ⟨rfl, hb⟩; have HB := Aside0.mk (below_step HB.out hb); have K := Aside0.mk (blk_below K.out hb); clear hb)
    | ((with_reducible refine gate_store (t := 25) (p := 2) rfl ?_); refine put_eventU ?hg (t := 25) (p := 2) (v := .tmp 9) ?ho ?hN (g := gr) (u := .agg #[.int .i64 1, .int .i64 i, .float .f64 0, .string ⟨#[]⟩, .slice none 0 0]) (cs := #[.int .i64 1, .int .i64 i, .float .f64 0, .string ⟨#[]⟩, .slice none 0 0]) ?hp ?hv K.out ?hs ?hi ?h1 ?hc ?_; (case hs => rfl); (case hi => kernel_rfl); (case h1 => simp [Value.oneCell']); (case hc => simp [Value.cells]); (case hg => rfl); (case ho => rfl); (case hN => rfl); (case hp => rfl); (case hv => rfl); intro w4 hk hs; have HB := Aside0.mk (below_keep HB.out HG.out hs); have K := Aside0.mk hk; clear hk hs))
  have q0 := blk_cell K.out 0
  have q1 := blk_cell K.out 1
  have q2 := blk_cell K.out 2
  have q3 := blk_cell K.out 3
  have q4 := blk_cell K.out 4
  simp at q0 q1 q2 q3 q4
  refine bodyPost_ret (v := .agg #[.int .i64 1, .int .i64 i, .float .f64 0, .string ⟨#[]⟩, .slice none 0 0]) ?_ rfl ⟨rfl, HB.out⟩
  simp [results, Tryz.results25, go_sem, q0, q1, q2, q3, q4]

set_option maxHeartbeats 8000000 in
set_option maxRecDepth 100000 in
theorem clean18_2 (k i : Int) (f : Nat) (s : ByteArray) (A : Option Addr) (n c : Nat) (W : World) : Calls Tryz.prog 25 #[.agg #[.int .i64 2, .int .i64 i, .float .f64 f, .string s, .slice A n c]] W fun e w' => e = .returned (.agg #[.int .i64 2, .int .i64 0, .float .f64 (canon f), .string ⟨#[]⟩, .slice none 0 0]) ∧ Below W.heap.size W w' := by
  go_enter Tryz.func25, Tryz.ntmps25
  go_wp2_with (first
    | ((with_reducible refine gate_dst (N := 1) rfl ?_); refine box_event ?hg (N := 1) ?hd (cs := #[.int .i64 2, .int .i64 i, .float .f64 f, .string s, .slice A n c]) (t := 25) ?hr ?_; (case hd => rfl); (case hg => rfl); (case hr => first | (go_simp; done) | (go_simp; rfl)); intro gb hg w1 hbox hb; have HB := Aside0.mk hb; have KB := Aside0.mk hbox; clear hg hbox hb)
    | ((with_reducible refine gate_dst (N := 2) rfl ?_); refine box_event ?hg (N := 2) ?hd (cs := #[.int .i64 0, .int .i64 0, .float .f64 0, .string ⟨#[]⟩, .slice none 0 0]) (t := 25) ?hr ?_; (case hd => rfl); (case hg => rfl); (case hr => first | (go_simp; done) | (go_simp; rfl)); intro gr hg w2 hbox hb; have HG := Aside0.mk (show W.heap.size ≤ gr from by (have := HB.out.size; omega)); have HB := Aside0.mk (below_step HB.out hb); have KB := Aside0.mk (blk_below KB.out hb); have K := Aside0.mk hbox; have b0 : w2.cell? ⟨gb, 0, none⟩ = some (.int .i64 2) := blk_cell KB.out 0; have b1 : w2.cell? ⟨gb, 1, none⟩ = some (.int .i64 i) := blk_cell KB.out 1; have b2 : w2.cell? ⟨gb, 2, none⟩ = some (.float .f64 f) := blk_cell KB.out 2; have b3 : w2.cell? ⟨gb, 3, none⟩ = some (.string s) := blk_cell KB.out 3; have b4 : w2.cell? ⟨gb, 4, none⟩ = some (.slice A n c) := blk_cell KB.out 4; clear hg hbox hb)
    | (go_at_call 12; refine (float31 f _).mono ?_; rintro e w3 ⟨rfl, hb⟩; have HB := Aside0.mk (below_step HB.out hb); have K := Aside0.mk (blk_below K.out hb); clear hb)
    | ((with_reducible refine gate_store (t := 25) (p := 2) rfl ?_); refine put_eventU ?hg (t := 25) (p := 2) (v := .tmp 14) ?ho ?hN (g := gr) (u := .agg #[.int .i64 2, .int .i64 0, .float .f64 (canon f), .string ⟨#[]⟩, .slice none 0 0]) (cs := #[.int .i64 2, .int .i64 0, .float .f64 (canon f), .string ⟨#[]⟩, .slice none 0 0]) ?hp ?hv K.out ?hs ?hi ?h1 ?hc ?_; (case hs => rfl); (case hi => kernel_rfl); (case h1 => simp [Value.oneCell']); (case hc => simp [Value.cells]); (case hg => rfl); (case ho => rfl); (case hN => rfl); (case hp => rfl); (case hv => rfl); intro w4 hk hs; have HB := Aside0.mk (below_keep HB.out HG.out hs); have K := Aside0.mk hk; clear hk hs))
  have q0 := blk_cell K.out 0
  have q1 := blk_cell K.out 1
  have q2 := blk_cell K.out 2
  have q3 := blk_cell K.out 3
  have q4 := blk_cell K.out 4
  simp at q0 q1 q2 q3 q4
  refine bodyPost_ret (v := .agg #[.int .i64 2, .int .i64 0, .float .f64 (canon f), .string ⟨#[]⟩, .slice none 0 0]) ?_ rfl ⟨rfl, HB.out⟩
  simp [results, Tryz.results25, go_sem, q0, q1, q2, q3, q4]

set_option maxHeartbeats 8000000 in
set_option maxRecDepth 100000 in
theorem clean18_3 (k i : Int) (f : Nat) (s : ByteArray) (A : Option Addr) (n c : Nat) (W : World) : Calls Tryz.prog 25 #[.agg #[.int .i64 3, .int .i64 i, .float .f64 f, .string s, .slice A n c]] W fun e w' => e = .returned (.agg #[.int .i64 3, .int .i64 0, .float .f64 0, .string s, .slice none 0 0]) ∧ Below W.heap.size W w' := by
  go_enter Tryz.func25, Tryz.ntmps25
  go_wp2_with (first
    | ((with_reducible refine gate_dst (N := 1) rfl ?_); refine box_event ?hg (N := 1) ?hd (cs := #[.int .i64 3, .int .i64 i, .float .f64 f, .string s, .slice A n c]) (t := 25) ?hr ?_; (case hd => rfl); (case hg => rfl); (case hr => first | (go_simp; done) | (go_simp; rfl)); intro gb hg w1 hbox hb; have HB := Aside0.mk hb; have KB := Aside0.mk hbox; clear hg hbox hb)
    | ((with_reducible refine gate_dst (N := 2) rfl ?_); refine box_event ?hg (N := 2) ?hd (cs := #[.int .i64 0, .int .i64 0, .float .f64 0, .string ⟨#[]⟩, .slice none 0 0]) (t := 25) ?hr ?_; (case hd => rfl); (case hg => rfl); (case hr => first | (go_simp; done) | (go_simp; rfl)); intro gr hg w2 hbox hb; have HG := Aside0.mk (show W.heap.size ≤ gr from by (have := HB.out.size; omega)); have HB := Aside0.mk (below_step HB.out hb); have KB := Aside0.mk (blk_below KB.out hb); have K := Aside0.mk hbox; have b0 : w2.cell? ⟨gb, 0, none⟩ = some (.int .i64 3) := blk_cell KB.out 0; have b1 : w2.cell? ⟨gb, 1, none⟩ = some (.int .i64 i) := blk_cell KB.out 1; have b2 : w2.cell? ⟨gb, 2, none⟩ = some (.float .f64 f) := blk_cell KB.out 2; have b3 : w2.cell? ⟨gb, 3, none⟩ = some (.string s) := blk_cell KB.out 3; have b4 : w2.cell? ⟨gb, 4, none⟩ = some (.slice A n c) := blk_cell KB.out 4; clear hg hbox hb)
    | (go_at_call 15; refine (text32 s _).mono ?_; rintro e w3 ⟨rfl, hb⟩; have HB := Aside0.mk (below_step HB.out hb); have K := Aside0.mk (blk_below K.out hb); clear hb)
    | ((with_reducible refine gate_store (t := 25) (p := 2) rfl ?_); refine put_eventU ?hg (t := 25) (p := 2) (v := .tmp 19) ?ho ?hN (g := gr) (u := .agg #[.int .i64 3, .int .i64 0, .float .f64 0, .string s, .slice none 0 0]) (cs := #[.int .i64 3, .int .i64 0, .float .f64 0, .string s, .slice none 0 0]) ?hp ?hv K.out ?hs ?hi ?h1 ?hc ?_; (case hs => rfl); (case hi => kernel_rfl); (case h1 => simp [Value.oneCell']); (case hc => simp [Value.cells]); (case hg => rfl); (case ho => rfl); (case hN => rfl); (case hp => rfl); (case hv => rfl); intro w4 hk hs; have HB := Aside0.mk (below_keep HB.out HG.out hs); have K := Aside0.mk hk; clear hk hs))
  have q0 := blk_cell K.out 0
  have q1 := blk_cell K.out 1
  have q2 := blk_cell K.out 2
  have q3 := blk_cell K.out 3
  have q4 := blk_cell K.out 4
  simp at q0 q1 q2 q3 q4
  refine bodyPost_ret (v := .agg #[.int .i64 3, .int .i64 0, .float .f64 0, .string s, .slice none 0 0]) ?_ rfl ⟨rfl, HB.out⟩
  simp [results, Tryz.results25, go_sem, q0, q1, q2, q3, q4]

set_option maxHeartbeats 8000000 in
set_option maxRecDepth 100000 in
theorem clean18_0 (k i : Int) (f : Nat) (s : ByteArray) (A : Option Addr) (n c : Nat) (W : World) (h1 : (k == 1) = false) (h2 : (k == 2) = false) (h3 : (k == 3) = false) (h4 : (k == 4) = false) : Calls Tryz.prog 25 #[.agg #[.int .i64 k, .int .i64 i, .float .f64 f, .string s, .slice A n c]] W fun e w' => e = .returned (.agg #[.int .i64 0, .int .i64 0, .float .f64 0, .string ⟨#[]⟩, .slice none 0 0]) ∧ Below W.heap.size W w' := by
  go_enter Tryz.func25, Tryz.ntmps25
  go_wp2_with (first
    | ((with_reducible refine gate_dst (N := 1) rfl ?_); refine box_event ?hg (N := 1) ?hd (cs := #[.int .i64 k, .int .i64 i, .float .f64 f, .string s, .slice A n c]) (t := 25) ?hr ?_; (case hd => rfl); (case hg => rfl); (case hr => first | (go_simp; done) | (go_simp; rfl)); intro gb hg w1 hbox hb; have HB := Aside0.mk hb; have KB := Aside0.mk hbox; clear hg hbox hb)
    | ((with_reducible refine gate_dst (N := 2) rfl ?_); refine box_event ?hg (N := 2) ?hd (cs := #[.int .i64 0, .int .i64 0, .float .f64 0, .string ⟨#[]⟩, .slice none 0 0]) (t := 25) ?hr ?_; (case hd => rfl); (case hg => rfl); (case hr => first | (go_simp; done) | (go_simp; rfl)); intro gr hg w2 hbox hb; have HG := Aside0.mk (show W.heap.size ≤ gr from by (have := HB.out.size; omega)); have HB := Aside0.mk (below_step HB.out hb); have KB := Aside0.mk (blk_below KB.out hb); have K := Aside0.mk hbox; have b0 : w2.cell? ⟨gb, 0, none⟩ = some (.int .i64 k) := blk_cell KB.out 0; have b1 : w2.cell? ⟨gb, 1, none⟩ = some (.int .i64 i) := blk_cell KB.out 1; have b2 : w2.cell? ⟨gb, 2, none⟩ = some (.float .f64 f) := blk_cell KB.out 2; have b3 : w2.cell? ⟨gb, 3, none⟩ = some (.string s) := blk_cell KB.out 3; have b4 : w2.cell? ⟨gb, 4, none⟩ = some (.slice A n c) := blk_cell KB.out 4; clear hg hbox hb)
    | ((with_reducible refine gate_store (t := 25) (p := 2) rfl ?_); refine put_eventU ?hg (t := 25) (p := 2) (v := .tmp 26) ?ho ?hN (g := gr) (u := .agg #[.int .i64 0, .int .i64 0, .float .f64 0, .string ⟨#[]⟩, .slice none 0 0]) (cs := #[.int .i64 0, .int .i64 0, .float .f64 0, .string ⟨#[]⟩, .slice none 0 0]) ?hp ?hv K.out ?hs ?hi ?h1 ?hc ?_; (case hs => rfl); (case hi => kernel_rfl); (case h1 => simp [Value.oneCell']); (case hc => simp [Value.cells]); (case hg => rfl); (case ho => rfl); (case hN => rfl); (case hp => rfl); (case hv => rfl); intro w4 hk hs; have HB := Aside0.mk (below_keep HB.out HG.out hs); have K := Aside0.mk hk; clear hk hs))
  have q0 := blk_cell K.out 0
  have q1 := blk_cell K.out 1
  have q2 := blk_cell K.out 2
  have q3 := blk_cell K.out 3
  have q4 := blk_cell K.out 4
  simp at q0 q1 q2 q3 q4
  refine bodyPost_ret (v := .agg #[.int .i64 0, .int .i64 0, .float .f64 0, .string ⟨#[]⟩, .slice none 0 0]) ?_ rfl ⟨rfl, HB.out⟩
  simp [results, Tryz.results25, go_sem, q0, q1, q2, q3, q4]

set_option maxHeartbeats 8000000 in
set_option maxRecDepth 100000 in
theorem clean18_4 (i : Int) (f : Nat) (s : ByteArray) (l : List Val) (hE : ∀ (j : Nat) (hj : j < l.length), CleanC l[j]) (W : World) (ok : Nat → Prop) (A : Option Addr) (c : Nat) (hR : RV W ok (.mk 4 i f s l) #[.int .i64 4, .int .i64 i, .float .f64 f, .string s, .slice A l.length c]) :
    Calls Tryz.prog 25 #[.agg #[.int .i64 4, .int .i64 i, .float .f64 f, .string s, .slice A l.length c]] W fun e w' => ∃ cs', e = .returned (.agg cs') ∧ RV w' (fun g => W.heap.size ≤ g) (.mk 4 0 0 ⟨#[]⟩ (cleans l)) cs' ∧ Below W.heap.size W w' := by
  have HR := Aside0.mk hR
  have HI := Aside0.mk hE
  clear hR hE
  go_enter Tryz.func25, Tryz.ntmps25
  go_wp2_with (first
    | ((with_reducible refine gate_dst (N := 1) rfl ?_); refine box_event ?hg (N := 1) ?hd (cs := #[.int .i64 4, .int .i64 i, .float .f64 f, .string s, .slice A l.length c]) (t := 25) ?hr ?_; (case hd => rfl); (case hg => rfl); (case hr => first | (go_simp; done) | (go_simp; rfl)); intro gb hg w1 hbox hb; have HB := Aside0.mk hb; have KB := Aside0.mk hbox; clear hg hbox hb)
    | ((with_reducible refine gate_dst (N := 2) rfl ?_); refine box_event ?hg (N := 2) ?hd (cs := #[.int .i64 0, .int .i64 0, .float .f64 0, .string ⟨#[]⟩, .slice none 0 0]) (t := 25) ?hr ?_; (case hd => rfl); (case hg => rfl); (case hr => first | (go_simp; done) | (go_simp; rfl)); intro gr hg w2 hbox hb; have HG := Aside0.mk (show W.heap.size ≤ gr from by (have := HB.out.size; omega)); have HB := Aside0.mk (below_step HB.out hb); have KB := Aside0.mk (blk_below KB.out hb); have K := Aside0.mk hbox; have b0 : w2.cell? ⟨gb, 0, none⟩ = some (.int .i64 4) := blk_cell KB.out 0; have b1 : w2.cell? ⟨gb, 1, none⟩ = some (.int .i64 i) := blk_cell KB.out 1; have b2 : w2.cell? ⟨gb, 2, none⟩ = some (.float .f64 f) := blk_cell KB.out 2; have b3 : w2.cell? ⟨gb, 3, none⟩ = some (.string s) := blk_cell KB.out 3; have b4 : w2.cell? ⟨gb, 4, none⟩ = some (.slice A l.length c) := blk_cell KB.out 4; clear hg hbox hb)
    | (go_at_call 49; refine (cleans33 4 i f s l HI.out _ ok _ _ _ _ A c (HR.out.kept HB.out)).mono ?_; rintro e w3 ⟨⟨A', c', rfl, hcl⟩, hb⟩; have hsz := HB.out.size; have hgr := blk_lt K.out; have HV := Aside0.mk (hcl.mono (ok' := fun q => W.heap.size ≤ q ∧ gr ≠ q) (fun q hq _ => by omega)); have HB := Aside0.mk (below_step HB.out hb); have K := Aside0.mk (blk_below K.out hb); clear hb hcl hsz hgr)
    | ((with_reducible refine gate_store (t := 25) (p := 2) rfl ?_); refine put_eventU ?hg (t := 25) (p := 2) (v := .tmp 25) ?ho ?hN (g := gr) (u := .agg #[.int .i64 4, .int .i64 0, .float .f64 0, .string ⟨#[]⟩, .slice A' l.length c']) (cs := #[.int .i64 4, .int .i64 0, .float .f64 0, .string ⟨#[]⟩, .slice A' l.length c']) ?hp ?hv K.out ?hs ?hi ?h1 ?hc ?_; (case hs => rfl); (case hi => kernel_rfl); (case h1 => simp [Value.oneCell']); (case hc => simp [Value.cells]); (case hg => rfl); (case ho => rfl); (case hN => rfl); (case hp => rfl); (case hv => rfl); intro w4 hk hs; have HB := Aside0.mk (below_keep HB.out HG.out hs); have HV := Aside0.mk (HV.out.step (ok' := fun q => W.heap.size ≤ q) (fun q hq hlt => hs.block q hlt (fun e => hq.2 e.symm)) (fun q hq _ => hq.1)); have K := Aside0.mk hk; clear hk hs))
  have q0 := blk_cell K.out 0
  have q1 := blk_cell K.out 1
  have q2 := blk_cell K.out 2
  have q3 := blk_cell K.out 3
  have q4 := blk_cell K.out 4
  simp at q0 q1 q2 q3 q4
  refine bodyPost_ret (v := .agg #[.int .i64 4, .int .i64 0, .float .f64 0, .string ⟨#[]⟩, .slice A' l.length c']) ?_ rfl ⟨_, rfl, HV.out, HB.out⟩
  simp [results, Tryz.results25, go_sem, q0, q1, q2, q3, q4]
/-- Clean. -/
theorem clean18 (v : Val) : CleanC v := by
  induction v using Val.ind with
  | h k i f s l ih =>
    intro W ok cs hR
    obtain ⟨A, c, rfl, wk, wi, wf, ws, wc, wb⟩ := hR.len
    have hk1 : (Lit.int .i64 1).wf = true := by decide
    have hk2 : (Lit.int .i64 2).wf = true := by decide
    have hk3 : (Lit.int .i64 3).wf = true := by decide
    have hi0 : (Lit.int .i64 0).wf = true := by decide
    have hf0 : (Lit.float .f64 0).wf = true := by decide
    have hs0 : (⟨#[]⟩ : ByteArray).size ≤ 140737488351232 := by decide
    unfold clean
    by_cases h1 : k = 1
    · subst h1
      exact (clean18_1 1 i f s A l.length c W).mono fun e w' ⟨he, hb⟩ => ⟨_, he, by simp only [if_true]; exact RV.flat hk1 wi hf0 hs0, hb⟩
    · rw [if_neg h1]
      by_cases h2 : k = 2
      · subst h2
        exact (clean18_2 2 i f s A l.length c W).mono fun e w' ⟨he, hb⟩ => ⟨_, he, by simp only [if_true]; exact RV.flat hk2 hi0 (canon_wf wf) hs0, hb⟩
      · rw [if_neg h2]
        by_cases h3 : k = 3
        · subst h3
          exact (clean18_3 3 i f s A l.length c W).mono fun e w' ⟨he, hb⟩ => ⟨_, he, by simp only [if_true]; exact RV.flat hk3 hi0 hf0 ws, hb⟩
        · rw [if_neg h3]
          by_cases h4 : k = 4
          · subst h4
            refine (clean18_4 i f s l ih W ok A c hR).mono fun e w' ⟨cs', he, hv, hb⟩ => ⟨_, he, by simp only [if_true]; exact hv, hb⟩
          · rw [if_neg h4]
            exact (clean18_0 k i f s A l.length c W (beq_eq_false_iff_ne.2 h1) (beq_eq_false_iff_ne.2 h2) (beq_eq_false_iff_ne.2 h3) (beq_eq_false_iff_ne.2 h4)).mono fun e w' ⟨he, hb⟩ => ⟨_, he, RV.flat hi0 hi0 hf0 hs0, hb⟩
end Go.Proofs.YtejfmghjmhiodaaGreatDoor.Vz
namespace Go.Proofs.YtejfmghjmhiodaaGreatDoor.Vz
open Go.RowKit Go.Proofs.YtejfmghjmhiodaaGreatDoorW.PrintWords
set_option linter.unusedVariables false
set_option linter.unusedSimpArgs false
attribute [local go_sem] store_float

set_option maxHeartbeats 8000000 in
set_option maxRecDepth 100000 in
/-- Same, of one value twice. -/
theorem same17 : ∀ (v : Val) (W : World) (ok : Nat → Prop) (ca : Array Value), RV W ok v ca → ∀ (ok2 : Nat → Prop) (cb : Array Value), RV W ok2 v cb → Calls Tryz.prog 27 #[.agg ca, .agg cb] W fun e w' => e = .returned (.bool true) ∧ Below W.heap.size W w' := by
  intro v
  induction v using Val.ind with
  | h k i f s l ih =>
    intro W ok ca hR ok2 cb hR2
    obtain ⟨A, c, rfl, wk, wi, wf, ws, wc, wb⟩ := hR.len
    obtain ⟨A2, c2, rfl, _, _, _, _, wc2, _⟩ := hR2.len
    have HI := Aside0.mk ih
    have HR := Aside0.mk hR
    have HR2 := Aside0.mk hR2
    have HWB := Aside0.mk (show (l.length : Int) * 64 ≤ 140737488351232 ∧ l.length ≤ c by omega)
    have hnn : (0 : Int) ≤ (l.length : Int) := by omega
    clear ih hR hR2 wk wi wf ws wc wb wc2
    obtain ⟨n, hn⟩ : ∃ n, l.length = n := ⟨_, rfl⟩
    have HNL := Aside0.mk hn
    rw [hn] at HR HR2 HWB hnn ⊢
    clear hn
    go_enter Tryz.func27, Tryz.ntmps27
    go_upto_region 1 with (first
      | ((with_reducible refine gate_dst (N := 2) rfl ?_); refine box_event ?hg (N := 2) ?hd (cs := #[.int .i64 k, .int .i64 i, .float .f64 f, .string s, .slice A n c]) (t := 25) ?hr ?_; (case hd => rfl); (case hg => rfl); (case hr => first | (go_simp; done) | (go_simp; rfl)); intro ga hg w1 hbox hb; have HB := Aside0.mk hb; have KA := Aside0.mk hbox; clear hg hbox hb)
      | ((with_reducible refine gate_dst (N := 3) rfl ?_); refine box_event ?hg (N := 3) ?hd (cs := #[.int .i64 k, .int .i64 i, .float .f64 f, .string s, .slice A2 n c2]) (t := 25) ?hr ?_; (case hd => rfl); (case hg => rfl); (case hr => first | (go_simp; done) | (go_simp; rfl)); intro gb hg w2 hbox hb; have KA := Aside0.mk (blk_below KA.out hb); have KB := Aside0.mk hbox; have HB := Aside0.mk (below_step HB.out hb); clear hg hbox hb))
    have a0 : w2.cell? ⟨ga, 0, none⟩ = some (.int .i64 k) := blk_cell KA.out 0
    have a1 : w2.cell? ⟨ga, 1, none⟩ = some (.int .i64 i) := blk_cell KA.out 1
    have a2 : w2.cell? ⟨ga, 2, none⟩ = some (.float .f64 f) := blk_cell KA.out 2
    have a3 : w2.cell? ⟨ga, 3, none⟩ = some (.string s) := blk_cell KA.out 3
    have a4 : w2.cell? ⟨ga, 4, none⟩ = some (.slice A n c) := blk_cell KA.out 4
    have b0 : w2.cell? ⟨gb, 0, none⟩ = some (.int .i64 k) := blk_cell KB.out 0
    have b1 : w2.cell? ⟨gb, 1, none⟩ = some (.int .i64 i) := blk_cell KB.out 1
    have b2 : w2.cell? ⟨gb, 2, none⟩ = some (.float .f64 f) := blk_cell KB.out 2
    have b3 : w2.cell? ⟨gb, 3, none⟩ = some (.string s) := blk_cell KB.out 3
    have b4 : w2.cell? ⟨gb, 4, none⟩ = some (.slice A2 n c2) := blk_cell KB.out 4
    go_quiet ((go_at_call 14; exact Calls.quiet_of_same (bits30 _ _)))
    clear a0 a1 a2 a3 a4 b0 b1 b2 b3 b4
    go_wp2
    go_loopw [5] (fun ix wr => ∃ j : Nat, j ≤ n ∧ ix = .int .i64 (j : Int) ∧ Aside0 (Below W.heap.size W wr) ∧ Aside0 (wr.heap[ga]? = some (.cells #[.int .i64 k, .int .i64 i, .float .f64 f, .string s, .slice A n c] 25 (0, 0))) ∧ Aside0 (wr.heap[gb]? = some (.cells #[.int .i64 k, .int .i64 i, .float .f64 f, .string s, .slice A2 n c2] 25 (0, 0)))) (fun ix _ => n - (intOf ix).toNat)
    case atStart => exact ⟨0, by omega, rfl, Aside0.mk (pw_below_drewN HB.out _), Aside0.mk KA.out, Aside0.mk KB.out⟩
    case round =>
      obtain ⟨j, hj, rfl, HB', KA', KB'⟩ := hrel
      have a4 : wr.cell? ⟨ga, 4, none⟩ = some (.slice A n c) := blk_cell KA'.out 4
      have b4 : wr.cell? ⟨gb, 4, none⟩ = some (.slice A2 n c2) := blk_cell KB'.out 4
      by_cases hlt : j < n
      · have hji : (j : Int) < (n : Int) := by omega
        have hj0 : (0 : Int) ≤ (j : Int) := by omega
        have hjl : j < l.length := by rw [HNL.out]; exact hlt
        obtain ⟨g, off, k', i', f', s', A', n', c', rfl, hg1, hg2, hsub, p0, p1, p2, p3, p4⟩ := (HR.out.kept HB'.out).elem j hjl
        obtain ⟨g2, off2, k2, i2, f2, s2, A2', n2, c2', rfl, hg12, hg22, hsub2, r0, r1, r2, r3, r4⟩ := (HR2.out.kept HB'.out).elem j hjl
        have hih := HI.out j hjl
        generalize l[j] = x at hsub hsub2 hih
        have HSub := Aside0.mk hsub
        have HSub2 := Aside0.mk hsub2
        have HIx := Aside0.mk hih
        have hwk : IntKind.i64.wrap ((j : Int) + 1) = ((j + 1 : Nat) : Int) := by have := HWB.out; rw [IntKind.wrap_i64]; omega
        clear hsub hsub2 hih hjl hg1 hg2 hg12 hg22
        go_upto_region 6 with (fail)
        go_still_tail 10, (by kernel_rfl)
        change wpList _ _ _ _ _ wr.drew
        have HS1 := Aside0.mk (HSub.out.kept (Below.refl _ _).drew)
        have HS2 := Aside0.mk (HSub2.out.kept (Below.refl _ _).drew)
        have HB3 := Aside0.mk (HB'.out.drew)
        have KA3 := Aside0.mk (show wr.drew.heap[ga]? = _ from KA'.out)
        have KB3 := Aside0.mk (show wr.drew.heap[gb]? = _ from KB'.out)
        clear p0 p1 p2 p3 p4 r0 r1 r2 r3 r4 a4 b4
        generalize wr.drew = wd at HS1 HS2 HB3 KA3 KB3 ⊢
        go_wp2_with (go_at_call 27; refine (HIx.out _ _ _ HS1.out _ _ HS2.out).mono ?_; rintro e w5 ⟨rfl, hb⟩; have HB5 := Aside0.mk (below_step HB3.out hb); have KA5 := Aside0.mk (blk_below KA3.out hb); have KB5 := Aside0.mk (blk_below KB3.out hb); clear hb)
        go_roundw
        case rel => exact ⟨j + 1, by omega, by go_num, HB5, KA5, KB5⟩
        case measure => simp [intOf]; omega
      · obtain rfl : j = n := by omega
        go_wp2
        go_ret
        exact ⟨rfl, HB'.out⟩
end Go.Proofs.YtejfmghjmhiodaaGreatDoor.Vz
namespace Go.Proofs.YtejfmghjmhiodaaGreatDoor.Vz
open Go.RowKit Go.Proofs.YtejfmghjmhiodaaGreatDoorW.PrintWords
set_option linter.unusedVariables false
set_option linter.unusedSimpArgs false
attribute [local go_sem] store_float

def cmpI (a b : Int) : Int := if a < b then -1 else if b < a then 1 else 0
def flt (a b : Nat) : Bool := FloatKind.f64.format.order a b == some Ordering.lt
def fgt (a b : Nat) : Bool := FloatKind.f64.format.order a b == some Ordering.gt
def feq (a b : Nat) : Bool := FloatKind.f64.format.order a b == some Ordering.eq
def cmpF (a b : Nat) : Int := if isNan a then (if isNan b then 0 else -1) else if isNan b then 1 else if flt a b then -1 else if fgt a b then 1 else 0
def negF (f : Nat) : Bool := decide (wrap64 (f : Int) < 0)
def signV (f : Nat) : Int := if negF f then 0 else 1
def floatsV (a b : Nat) : Int := if feq a 0 && feq b 0 then cmpI (signV a) (signV b) else cmpF a b
def kindV (k : Int) : Int := if k < 0 then 0 else if 4 < k then 0 else k

set_option maxHeartbeats 8000000 in
set_option maxRecDepth 100000 in
theorem cmp30 (a b : Int) (W : World) : Calls Tryz.prog 30 #[.int .i64 a, .int .i64 b] W fun e w' => e = .returned (.int .i64 (cmpI a b)) ∧ w' = W := by
  by_cases h1 : a < b
  · rw [show cmpI a b = -1 by rw [cmpI, if_pos h1]]
    go_enter Tryz.func30, Tryz.ntmps30
    go_wp2
    go_ret
    exact ⟨rfl, rfl⟩
  · by_cases h2 : b < a
    · rw [show cmpI a b = 1 by rw [cmpI, if_neg h1, if_pos h2]]
      go_enter Tryz.func30, Tryz.ntmps30
      go_wp2
      go_ret
      exact ⟨rfl, rfl⟩
    · rw [show cmpI a b = 0 by rw [cmpI, if_neg h1, if_neg h2]]
      go_enter Tryz.func30, Tryz.ntmps30
      go_wp2
      go_ret
      exact ⟨rfl, rfl⟩

set_option maxHeartbeats 8000000 in
set_option maxRecDepth 100000 in
theorem cmp32 (a b : Int) (W : World) : Calls Tryz.prog 32 #[.int .i64 a, .int .i64 b] W fun e w' => e = .returned (.int .i64 (cmpI a b)) ∧ w' = W := by
  by_cases h1 : a < b
  · rw [show cmpI a b = -1 by rw [cmpI, if_pos h1]]
    go_enter Tryz.func32, Tryz.ntmps32
    go_wp2
    go_ret
    exact ⟨rfl, rfl⟩
  · by_cases h2 : b < a
    · rw [show cmpI a b = 1 by rw [cmpI, if_neg h1, if_pos h2]]
      go_enter Tryz.func32, Tryz.ntmps32
      go_wp2
      go_ret
      exact ⟨rfl, rfl⟩
    · rw [show cmpI a b = 0 by rw [cmpI, if_neg h1, if_neg h2]]
      go_enter Tryz.func32, Tryz.ntmps32
      go_wp2
      go_ret
      exact ⟨rfl, rfl⟩

set_option maxHeartbeats 8000000 in
set_option maxRecDepth 100000 in
theorem cf_nn (a b : Nat) (ha : (FloatKind.f64.format.order a a != some Ordering.eq) = true) (hb : (FloatKind.f64.format.order b b != some Ordering.eq) = true) (W : World) : Calls Tryz.prog 55 #[.float .f64 a, .float .f64 b] W fun e w' => e = .returned (.int .i64 (0)) ∧ w' = W := by
  go_enter Tryz.func55, Tryz.ntmps55
  go_wp2
  go_ret
  exact ⟨rfl, rfl⟩

set_option maxHeartbeats 8000000 in
set_option maxRecDepth 100000 in
theorem cf_n (a b : Nat) (ha : (FloatKind.f64.format.order a a != some Ordering.eq) = true) (hb : (FloatKind.f64.format.order b b != some Ordering.eq) = false) (W : World) : Calls Tryz.prog 55 #[.float .f64 a, .float .f64 b] W fun e w' => e = .returned (.int .i64 (-1)) ∧ w' = W := by
  go_enter Tryz.func55, Tryz.ntmps55
  go_wp2
  go_ret
  exact ⟨rfl, rfl⟩

set_option maxHeartbeats 8000000 in
set_option maxRecDepth 100000 in
theorem cf_m (a b : Nat) (ha : (FloatKind.f64.format.order a a != some Ordering.eq) = false) (hb : (FloatKind.f64.format.order b b != some Ordering.eq) = true) (W : World) : Calls Tryz.prog 55 #[.float .f64 a, .float .f64 b] W fun e w' => e = .returned (.int .i64 (1)) ∧ w' = W := by
  go_enter Tryz.func55, Tryz.ntmps55
  go_wp2
  go_ret
  exact ⟨rfl, rfl⟩

set_option maxHeartbeats 8000000 in
set_option maxRecDepth 100000 in
theorem cf_lt (a b : Nat) (ha : (FloatKind.f64.format.order a a != some Ordering.eq) = false) (hb : (FloatKind.f64.format.order b b != some Ordering.eq) = false) (hl : (FloatKind.f64.format.order a b == some Ordering.lt) = true) (W : World) : Calls Tryz.prog 55 #[.float .f64 a, .float .f64 b] W fun e w' => e = .returned (.int .i64 (-1)) ∧ w' = W := by
  go_enter Tryz.func55, Tryz.ntmps55
  go_wp2
  go_ret
  exact ⟨rfl, rfl⟩

set_option maxHeartbeats 8000000 in
set_option maxRecDepth 100000 in
theorem cf_gt (a b : Nat) (ha : (FloatKind.f64.format.order a a != some Ordering.eq) = false) (hb : (FloatKind.f64.format.order b b != some Ordering.eq) = false) (hl : (FloatKind.f64.format.order a b == some Ordering.lt) = false) (hg : (FloatKind.f64.format.order a b == some Ordering.gt) = true) (W : World) : Calls Tryz.prog 55 #[.float .f64 a, .float .f64 b] W fun e w' => e = .returned (.int .i64 (1)) ∧ w' = W := by
  go_enter Tryz.func55, Tryz.ntmps55
  go_wp2
  go_ret
  exact ⟨rfl, rfl⟩

set_option maxHeartbeats 8000000 in
set_option maxRecDepth 100000 in
theorem cf_eq (a b : Nat) (ha : (FloatKind.f64.format.order a a != some Ordering.eq) = false) (hb : (FloatKind.f64.format.order b b != some Ordering.eq) = false) (hl : (FloatKind.f64.format.order a b == some Ordering.lt) = false) (hg : (FloatKind.f64.format.order a b == some Ordering.gt) = false) (W : World) : Calls Tryz.prog 55 #[.float .f64 a, .float .f64 b] W fun e w' => e = .returned (.int .i64 (0)) ∧ w' = W := by
  go_enter Tryz.func55, Tryz.ntmps55
  go_wp2
  go_ret
  exact ⟨rfl, rfl⟩
theorem cmp55 (a b : Nat) (W : World) : Calls Tryz.prog 55 #[.float .f64 a, .float .f64 b] W fun e w' => e = .returned (.int .i64 (cmpF a b)) ∧ w' = W := by
  cases ha : isNan a <;> cases hb : isNan b
  · cases hl : flt a b
    · cases hg : fgt a b
      · rw [show cmpF a b = 0 by unfold cmpF; rw [ha, hb, hl, hg]; rfl]
        unfold isNan at ha hb; unfold flt at hl; unfold fgt at hg
        exact cf_eq a b ha hb hl hg W
      · rw [show cmpF a b = 1 by unfold cmpF; rw [ha, hb, hl, hg]; rfl]
        unfold isNan at ha hb; unfold flt at hl; unfold fgt at hg
        exact cf_gt a b ha hb hl hg W
    · rw [show cmpF a b = -1 by unfold cmpF; rw [ha, hb, hl]; rfl]
      unfold isNan at ha hb; unfold flt at hl
      exact cf_lt a b ha hb hl W
  · rw [show cmpF a b = 1 by unfold cmpF; rw [ha, hb]; rfl]
    unfold isNan at ha hb
    exact cf_m a b ha hb W
  · rw [show cmpF a b = -1 by unfold cmpF; rw [ha, hb]; rfl]
    unfold isNan at ha hb
    exact cf_n a b ha hb W
  · rw [show cmpF a b = 0 by unfold cmpF; rw [ha, hb]; rfl]
    unfold isNan at ha hb
    exact cf_nn a b ha hb W

set_option maxHeartbeats 8000000 in
set_option maxRecDepth 100000 in
theorem neg59 (f : Nat) (W : World) : Calls Tryz.prog 59 #[.float .f64 f] W fun e w' => e = .returned (.bool (negF f)) ∧ w' = W := by
  have hc := call37 f
  unfold negF
  go_enter Tryz.func59, Tryz.ntmps59
  go_wp2
  go_ret
  exact ⟨rfl, rfl⟩

set_option maxHeartbeats 8000000 in
set_option maxRecDepth 100000 in
theorem sign54 (f : Nat) (W : World) : Calls Tryz.prog 54 #[.float .f64 f] W fun e w' => e = .returned (.int .i64 (signV f)) ∧ w' = W := by
  unfold signV
  have hn := neg59 f
  generalize negF f = b at hn ⊢
  cases b
  · go_enter Tryz.func54, Tryz.ntmps54
    go_wp2_with (go_at_call 59; refine (hn _).mono ?_; rintro e w1 ⟨rfl, rfl⟩)
    go_ret
    exact ⟨rfl, rfl⟩
  · go_enter Tryz.func54, Tryz.ntmps54
    go_wp2_with (go_at_call 59; refine (hn _).mono ?_; rintro e w1 ⟨rfl, rfl⟩)
    go_ret
    exact ⟨rfl, rfl⟩

set_option maxHeartbeats 8000000 in
set_option maxRecDepth 100000 in
theorem floats33_z (a b : Nat) (ha : (FloatKind.f64.format.order a 0 == some Ordering.eq) = true) (hb : (FloatKind.f64.format.order b 0 == some Ordering.eq) = true) (W : World) : Calls Tryz.prog 33 #[.float .f64 a, .float .f64 b] W fun e w' => e = .returned (.int .i64 (cmpI (signV a) (signV b))) ∧ w' = W := by
  have h1 := sign54 a
  have h2 := sign54 b
  generalize signV a = x at h1 ⊢
  generalize signV b = y at h2 ⊢
  go_enter Tryz.func33, Tryz.ntmps33
  go_wp2_with (first
    | (go_at_call 54; (with_reducible refine (h1 _).mono ?_); rintro e w1 ⟨rfl, rfl⟩)
    | (go_at_call 54; (with_reducible refine (h2 _).mono ?_); rintro e w1 ⟨rfl, rfl⟩)
    | (go_at_call 30; refine (cmp30 x y _).mono ?_; rintro e w1 ⟨rfl, rfl⟩))
  go_ret
  exact ⟨rfl, rfl⟩

set_option maxHeartbeats 8000000 in
set_option maxRecDepth 100000 in
theorem floats33_a (a b : Nat) (ha : (FloatKind.f64.format.order a 0 == some Ordering.eq) = false) (W : World) : Calls Tryz.prog 33 #[.float .f64 a, .float .f64 b] W fun e w' => e = .returned (.int .i64 (cmpF a b)) ∧ w' = W := by
  have h1 := cmp55 a b
  generalize cmpF a b = x at h1 ⊢
  go_enter Tryz.func33, Tryz.ntmps33
  go_wp2_with (go_at_call 55; refine (h1 _).mono ?_; rintro e w1 ⟨rfl, rfl⟩)
  go_ret
  exact ⟨rfl, rfl⟩

set_option maxHeartbeats 8000000 in
set_option maxRecDepth 100000 in
theorem floats33_b (a b : Nat) (ha : (FloatKind.f64.format.order a 0 == some Ordering.eq) = true) (hb : (FloatKind.f64.format.order b 0 == some Ordering.eq) = false) (W : World) : Calls Tryz.prog 33 #[.float .f64 a, .float .f64 b] W fun e w' => e = .returned (.int .i64 (cmpF a b)) ∧ w' = W := by
  have h1 := cmp55 a b
  generalize cmpF a b = x at h1 ⊢
  go_enter Tryz.func33, Tryz.ntmps33
  go_wp2_with (go_at_call 55; refine (h1 _).mono ?_; rintro e w1 ⟨rfl, rfl⟩)
  go_ret
  exact ⟨rfl, rfl⟩
theorem floats33 (a b : Nat) (W : World) : Calls Tryz.prog 33 #[.float .f64 a, .float .f64 b] W fun e w' => e = .returned (.int .i64 (floatsV a b)) ∧ w' = W := by
  cases ha : feq a 0
  · rw [show floatsV a b = cmpF a b by unfold floatsV; rw [ha, Bool.false_and, if_neg (by decide)]]
    unfold feq at ha
    exact floats33_a a b ha W
  · cases hb : feq b 0
    · rw [show floatsV a b = cmpF a b by unfold floatsV; rw [ha, hb, Bool.true_and, if_neg (by decide)]]
      unfold feq at ha hb
      exact floats33_b a b ha hb W
    · rw [show floatsV a b = cmpI (signV a) (signV b) by unfold floatsV; rw [ha, hb, Bool.true_and, if_pos rfl]]
      unfold feq at ha hb
      exact floats33_z a b ha hb W

set_option maxHeartbeats 8000000 in
set_option maxRecDepth 100000 in
theorem kind31 (k i : Int) (f : Nat) (s : ByteArray) (A : Option Addr) (n c : Nat) (W : World) : Calls Tryz.prog 31 #[.agg #[.int .i64 k, .int .i64 i, .float .f64 f, .string s, .slice A n c]] W fun e w' => e = .returned (.int .i64 (kindV k)) ∧ Below W.heap.size W w' := by
  by_cases h1 : k < 0
  · rw [show kindV k = 0 by rw [kindV, if_pos h1]]
    go_enter Tryz.func31, Tryz.ntmps31
    go_wp2_with (first
      | ((with_reducible refine gate_dst (N := 1) rfl ?_); refine box_event ?hg (N := 1) ?hd (cs := #[.int .i64 k, .int .i64 i, .float .f64 f, .string s, .slice A n c]) (t := 25) ?hr ?_; (case hd => rfl); (case hg => rfl); (case hr => first | (go_simp; done) | (go_simp; rfl)); intro gb hg w1 hbox hb; have HB := Aside0.mk hb; have b0 : w1.cell? ⟨gb, 0, none⟩ = some (.int .i64 k) := blk_cell hbox 0; have b1 : w1.cell? ⟨gb, 1, none⟩ = some (.int .i64 i) := blk_cell hbox 1; have b2 : w1.cell? ⟨gb, 2, none⟩ = some (.float .f64 f) := blk_cell hbox 2; have b3 : w1.cell? ⟨gb, 3, none⟩ = some (.string s) := blk_cell hbox 3; have b4 : w1.cell? ⟨gb, 4, none⟩ = some (.slice A n c) := blk_cell hbox 4; clear hg hbox hb))
    go_ret
    exact ⟨rfl, HB.out⟩
  · by_cases h2 : 4 < k
    · rw [show kindV k = 0 by rw [kindV, if_neg h1, if_pos h2]]
      go_enter Tryz.func31, Tryz.ntmps31
      go_wp2_with (first
        | ((with_reducible refine gate_dst (N := 1) rfl ?_); refine box_event ?hg (N := 1) ?hd (cs := #[.int .i64 k, .int .i64 i, .float .f64 f, .string s, .slice A n c]) (t := 25) ?hr ?_; (case hd => rfl); (case hg => rfl); (case hr => first | (go_simp; done) | (go_simp; rfl)); intro gb hg w1 hbox hb; have HB := Aside0.mk hb; have b0 : w1.cell? ⟨gb, 0, none⟩ = some (.int .i64 k) := blk_cell hbox 0; have b1 : w1.cell? ⟨gb, 1, none⟩ = some (.int .i64 i) := blk_cell hbox 1; have b2 : w1.cell? ⟨gb, 2, none⟩ = some (.float .f64 f) := blk_cell hbox 2; have b3 : w1.cell? ⟨gb, 3, none⟩ = some (.string s) := blk_cell hbox 3; have b4 : w1.cell? ⟨gb, 4, none⟩ = some (.slice A n c) := blk_cell hbox 4; clear hg hbox hb))
      go_ret
      exact ⟨rfl, HB.out⟩
    · rw [show kindV k = k by rw [kindV, if_neg h1, if_neg h2]]
      go_enter Tryz.func31, Tryz.ntmps31
      go_wp2_with (first
        | ((with_reducible refine gate_dst (N := 1) rfl ?_); refine box_event ?hg (N := 1) ?hd (cs := #[.int .i64 k, .int .i64 i, .float .f64 f, .string s, .slice A n c]) (t := 25) ?hr ?_; (case hd => rfl); (case hg => rfl); (case hr => first | (go_simp; done) | (go_simp; rfl)); intro gb hg w1 hbox hb; have HB := Aside0.mk hb; have b0 : w1.cell? ⟨gb, 0, none⟩ = some (.int .i64 k) := blk_cell hbox 0; have b1 : w1.cell? ⟨gb, 1, none⟩ = some (.int .i64 i) := blk_cell hbox 1; have b2 : w1.cell? ⟨gb, 2, none⟩ = some (.float .f64 f) := blk_cell hbox 2; have b3 : w1.cell? ⟨gb, 3, none⟩ = some (.string s) := blk_cell hbox 3; have b4 : w1.cell? ⟨gb, 4, none⟩ = some (.slice A n c) := blk_cell hbox 4; clear hg hbox hb))
      go_ret
      exact ⟨rfl, HB.out⟩
end Go.Proofs.YtejfmghjmhiodaaGreatDoor.Vz
