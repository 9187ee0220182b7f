/-
  DERIVED: THE SHELF's CONTRACTS AT THIS DUMP, IN PLAIN WORDS (tools/lay-plain.mjs out of 'TrydShelf.lean', which tools/lay-shelf.mjs wrote): THE SAME DECLARATIONS UNDER THE SAME NAMES: 'import', 'namespace', 'open', 'def', 'theorem' AND NOTHING ELSE: no command of the shelf's: FOR A HAND-IN. Each laying: the table of numbers ('.._ren') and one theorem, a field a fact of the dump's own or the kernel's comparison; each contract: ONE APPLICATION.
-/
import Derived.Shelf.Strings.Fields
import Derived.Test.YthinbbomgpjegabDoorProg
namespace Go.Proofs
open Go.Shelf
def Tryd.lays157_ren : Go.Shelf.Ren := ⟨fun | 157 => 158 | 229 => 164 | 199 => 165 | 261 => 166 | 311 => 167 | 312 => 168 | n => n, fun | 9 => 9 | 31 => 24 | 3 => 3 | 5 => 5 | 4 => 4 | 119 => 177 | 0 => 0 | 40 => 179 | 152 => 180 | 21 => 21 | 154 => 182 | 51 => 183 | 141 => 185 | 196 => 189 | 193 => 186 | 198 => 192 | 49 => 190 | 194 => 187 | 201 => 195 | 226 => 197 | 46 => 91 | 227 => 198 | n => n, fun | 0 => 0 | 6 => 1 | n => n⟩
theorem Tryd.lays157 : Go.Proofs.Lays.n157 Tryd.prog Tryd.lays157_ren := {
  mixed := by kernel_rfl
  f157 := Tryd.func158.trans (congrArg some (by kernel_rfl))
  f199 := Tryd.func165.trans (congrArg some (by kernel_rfl))
  f229 := Tryd.func164.trans (congrArg some (by kernel_rfl))
  f261 := Tryd.func166.trans (congrArg some (by kernel_rfl))
  f311 := Tryd.func167.trans (congrArg some (by kernel_rfl))
  f312 := Tryd.func168.trans (congrArg some (by kernel_rfl))
  t0 := Tryd.underlying0
  a0 := Tryd.isAgg0
  z0 := Tryd.sizeOf0
  v0 := Tryd.zeroValue0
  t3 := Tryd.underlying3
  a3 := Tryd.isAgg3
  z3 := Tryd.sizeOf3
  v3 := Tryd.zeroValue3
  t4 := Tryd.underlying4
  a4 := Tryd.isAgg4
  z4 := Tryd.sizeOf4
  v4 := Tryd.zeroValue4
  t5 := Tryd.underlying5
  a5 := Tryd.isAgg5
  z5 := Tryd.sizeOf5
  v5 := Tryd.zeroValue5
  t9 := Tryd.underlying9
  a9 := Tryd.isAgg9
  z9 := Tryd.sizeOf9
  v9 := Tryd.zeroValue9
  t21 := Tryd.underlying21
  a21 := Tryd.isAgg21
  z21 := Tryd.sizeOf21
  v21 := Tryd.zeroValue21
  t31 := Tryd.underlying24
  a31 := Tryd.isAgg24
  z31 := Tryd.sizeOf24
  v31 := Tryd.zeroValue24
  t40 := Tryd.underlying179
  a40 := Tryd.isAgg179
  z40 := Tryd.sizeOf179
  v40 := Tryd.zeroValue179
  t46 := Tryd.underlying91
  a46 := Tryd.isAgg91
  z46 := Tryd.sizeOf91
  v46 := Tryd.zeroValue91
  t49 := Tryd.underlying190
  a49 := Tryd.isAgg190
  z49 := Tryd.sizeOf190
  v49 := Tryd.zeroValue190
  t51 := Tryd.underlying183
  a51 := Tryd.isAgg183
  z51 := Tryd.sizeOf183
  v51 := Tryd.zeroValue183
  t119 := Tryd.underlying177
  a119 := Tryd.isAgg177
  z119 := Tryd.sizeOf177
  t141 := Tryd.underlying185
  a141 := Tryd.isAgg185
  z141 := Tryd.sizeOf185
  v141 := Tryd.zeroValue185
  t152 := Tryd.underlying180
  a152 := Tryd.isAgg180
  z152 := Tryd.sizeOf180
  v152 := Tryd.zeroValue180
  t154 := Tryd.underlying182
  a154 := Tryd.isAgg182
  z154 := Tryd.sizeOf182
  v154 := Tryd.zeroValue182
  t193 := Tryd.underlying186
  a193 := Tryd.isAgg186
  z193 := Tryd.sizeOf186
  v193 := Tryd.zeroValue186
  t194 := Tryd.underlying187
  a194 := Tryd.isAgg187
  z194 := Tryd.sizeOf187
  v194 := Tryd.zeroValue187
  t196 := Tryd.underlying189
  a196 := Tryd.isAgg189
  z196 := Tryd.sizeOf189
  v196 := Tryd.zeroValue189
  t198 := Tryd.underlying192
  a198 := Tryd.isAgg192
  z198 := Tryd.sizeOf192
  v198 := Tryd.zeroValue192
  t201 := Tryd.underlying195
  a201 := Tryd.isAgg195
  z201 := Tryd.sizeOf195
  v201 := Tryd.zeroValue195
  t226 := Tryd.underlying197
  a226 := Tryd.isAgg197
  z226 := Tryd.sizeOf197
  v226 := Tryd.zeroValue197
  t227 := Tryd.underlying198
  a227 := Tryd.isAgg198
  z227 := Tryd.sizeOf198
  v227 := Tryd.zeroValue198
  g0 := by kernel_rfl
  g6 := by kernel_rfl }
open Go.RowKit Go.Lib in
/-- strings.Fields, the table by 'Lib.TabIs' (as strings.TrimSpace's contract). 'hg': the table's number, by its name: at a dump 'by kernel_rfl'. (LAID: no walk: one application.) -/
theorem Tryd.strings_Fields (s : ByteArray) (w : World) (hs : s.size < 4294967281) (hascii : ∀ (j : Nat) b, s.data.toList[j]? = some b → b.toNat < 128) (htab : Lib.TabIs Tryd.prog w "strings.asciiSpace" .u8 Lib.asciiSpaceTab) :
    Calls Tryd.prog 158 #[.string s] w fun e w' =>
      e = .returned (.slice (some ⟨w.heap.size, 0, none⟩) (Lib.fields s.data.toList).length (Lib.fields s.data.toList).length) ∧ w' = w.alloc (.cells ((Lib.fields s.data.toList).map fun l => Value.string ⟨l.toArray⟩).toArray 9) := Any.strings_Fields Tryd.lays157 (by kernel_rfl) (by kernel_rfl) s w hs hascii htab
end Go.Proofs
