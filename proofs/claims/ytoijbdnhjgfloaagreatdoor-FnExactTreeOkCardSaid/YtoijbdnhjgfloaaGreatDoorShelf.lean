/-
  DERIVED: THE SHELF's CONTRACTS AT THIS DUMP, IN PLAIN WORDS (tools/lay-plain.mjs out of 'TryzShelf.lean', which tools/lay-shelf.mjs wrote): THE SAME DECLARATIONS UNDER THE SAME NAMES: 'import', 'namespace', 'open', 'def', 'theorem' AND NOTHING ELSE: no command of the shelf's: FOR A HAND-IN. Each laying: the table of numbers ('.._ren') and one theorem, a field a fact of the dump's own or the kernel's comparison; each contract: ONE APPLICATION.
-/
import Derived.Shelf.Strings.Fields
import Derived.Test.YtoijbdnhjgfloaaGreatDoorProg
namespace Go.Proofs
open Go.Shelf
def Tryz.lays157_ren : Go.Shelf.Ren := ⟨fun | 157 => 223 | 229 => 239 | 199 => 240 | 261 => 249 | 311 => 251 | 312 => 252 | n => n, fun | 9 => 9 | 31 => 22 | 3 => 3 | 5 => 5 | 4 => 4 | 119 => 249 | 0 => 0 | 40 => 251 | 152 => 256 | 21 => 21 | 154 => 258 | 51 => 259 | 141 => 261 | 196 => 266 | 193 => 263 | 198 => 269 | 49 => 267 | 194 => 264 | 201 => 272 | 226 => 274 | 46 => 174 | 227 => 275 | n => n, fun | 0 => 0 | 6 => 1 | n => n⟩
theorem Tryz.lays157 : Go.Proofs.Lays.n157 Tryz.prog Tryz.lays157_ren := {
  mixed := by kernel_rfl
  f157 := Tryz.func223.trans (congrArg some (by kernel_rfl))
  f199 := Tryz.func240.trans (congrArg some (by kernel_rfl))
  f229 := Tryz.func239.trans (congrArg some (by kernel_rfl))
  f261 := Tryz.func249.trans (congrArg some (by kernel_rfl))
  f311 := Tryz.func251.trans (congrArg some (by kernel_rfl))
  f312 := Tryz.func252.trans (congrArg some (by kernel_rfl))
  t0 := Tryz.underlying0
  a0 := Tryz.isAgg0
  z0 := Tryz.sizeOf0
  v0 := Tryz.zeroValue0
  t3 := Tryz.underlying3
  a3 := Tryz.isAgg3
  z3 := Tryz.sizeOf3
  v3 := Tryz.zeroValue3
  t4 := Tryz.underlying4
  a4 := Tryz.isAgg4
  z4 := Tryz.sizeOf4
  v4 := Tryz.zeroValue4
  t5 := Tryz.underlying5
  a5 := Tryz.isAgg5
  z5 := Tryz.sizeOf5
  v5 := Tryz.zeroValue5
  t9 := Tryz.underlying9
  a9 := Tryz.isAgg9
  z9 := Tryz.sizeOf9
  v9 := Tryz.zeroValue9
  t21 := Tryz.underlying21
  a21 := Tryz.isAgg21
  z21 := Tryz.sizeOf21
  v21 := Tryz.zeroValue21
  t31 := Tryz.underlying22
  a31 := Tryz.isAgg22
  z31 := Tryz.sizeOf22
  v31 := Tryz.zeroValue22
  t40 := Tryz.underlying251
  a40 := Tryz.isAgg251
  z40 := Tryz.sizeOf251
  v40 := Tryz.zeroValue251
  t46 := Tryz.underlying174
  a46 := Tryz.isAgg174
  z46 := Tryz.sizeOf174
  v46 := Tryz.zeroValue174
  t49 := Tryz.underlying267
  a49 := Tryz.isAgg267
  z49 := Tryz.sizeOf267
  v49 := Tryz.zeroValue267
  t51 := Tryz.underlying259
  a51 := Tryz.isAgg259
  z51 := Tryz.sizeOf259
  v51 := Tryz.zeroValue259
  t119 := Tryz.underlying249
  a119 := Tryz.isAgg249
  z119 := Tryz.sizeOf249
  t141 := Tryz.underlying261
  a141 := Tryz.isAgg261
  z141 := Tryz.sizeOf261
  v141 := Tryz.zeroValue261
  t152 := Tryz.underlying256
  a152 := Tryz.isAgg256
  z152 := Tryz.sizeOf256
  v152 := Tryz.zeroValue256
  t154 := Tryz.underlying258
  a154 := Tryz.isAgg258
  z154 := Tryz.sizeOf258
  v154 := Tryz.zeroValue258
  t193 := Tryz.underlying263
  a193 := Tryz.isAgg263
  z193 := Tryz.sizeOf263
  v193 := Tryz.zeroValue263
  t194 := Tryz.underlying264
  a194 := Tryz.isAgg264
  z194 := Tryz.sizeOf264
  v194 := Tryz.zeroValue264
  t196 := Tryz.underlying266
  a196 := Tryz.isAgg266
  z196 := Tryz.sizeOf266
  v196 := Tryz.zeroValue266
  t198 := Tryz.underlying269
  a198 := Tryz.isAgg269
  z198 := Tryz.sizeOf269
  v198 := Tryz.zeroValue269
  t201 := Tryz.underlying272
  a201 := Tryz.isAgg272
  z201 := Tryz.sizeOf272
  v201 := Tryz.zeroValue272
  t226 := Tryz.underlying274
  a226 := Tryz.isAgg274
  z226 := Tryz.sizeOf274
  v226 := Tryz.zeroValue274
  t227 := Tryz.underlying275
  a227 := Tryz.isAgg275
  z227 := Tryz.sizeOf275
  v227 := Tryz.zeroValue275
  g0 := by kernel_rfl
  g6 := by kernel_rfl }
open Go.RowKit Go.Lib in
/-- strings.Fields, the table by 'Lib.TabIs' (as strings.TrimSpace's contract). 'hg': the table's number, by its name: at a dump 'by kernel_rfl'. (LAID: no walk: one application.) -/
theorem Tryz.strings_Fields (s : ByteArray) (w : World) (hs : s.size < 4294967281) (hascii : ∀ (j : Nat) b, s.data.toList[j]? = some b → b.toNat < 128) (htab : Lib.TabIs Tryz.prog w "strings.asciiSpace" .u8 Lib.asciiSpaceTab) :
    Calls Tryz.prog 223 #[.string s] w fun e w' =>
      e = .returned (.slice (some ⟨w.heap.size, 0, none⟩) (Lib.fields s.data.toList).length (Lib.fields s.data.toList).length) ∧ w' = w.alloc (.cells ((Lib.fields s.data.toList).map fun l => Value.string ⟨l.toArray⟩).toArray 9) := Any.strings_Fields Tryz.lays157 (by kernel_rfl) (by kernel_rfl) s w hs hascii htab
end Go.Proofs
