/-
  DERIVED: THE SHELF's CONTRACTS AT THIS DUMP, IN PLAIN WORDS (tools/lay-plain.mjs out of 'TrydShelf.lean', which tools/lay-shelf.mjs wrote): THE SAME DECLARATIONS UNDER THE SAME NAMES: 'import', 'namespace', 'open', 'def', 'theorem' AND NOTHING ELSE: no command of the shelf's: FOR A HAND-IN. Each laying: the table of numbers ('.._ren') and one theorem, a field a fact of the dump's own or the kernel's comparison; each contract: ONE APPLICATION.
-/
import Derived.Shelf.Strings.Fields
import Derived.Test.YtneihlkamemjeaaDoorProg
namespace Go.Proofs
open Go.Shelf
def Tryd.lays157_ren : Go.Shelf.Ren := ⟨fun | 157 => 168 | 229 => 177 | 199 => 178 | 261 => 184 | 311 => 187 | 312 => 188 | n => n, fun | 9 => 9 | 31 => 24 | 3 => 3 | 5 => 5 | 4 => 4 | 119 => 202 | 0 => 0 | 40 => 204 | 152 => 210 | 21 => 21 | 154 => 212 | 51 => 207 | 141 => 214 | 196 => 219 | 193 => 216 | 198 => 222 | 49 => 220 | 194 => 217 | 201 => 225 | 226 => 229 | 46 => 105 | 227 => 230 | n => n, fun | 0 => 0 | 6 => 2 | n => n⟩
theorem Tryd.lays157 : Go.Proofs.Lays.n157 Tryd.prog Tryd.lays157_ren := {
  mixed := by kernel_rfl
  f157 := Tryd.func168.trans (congrArg some (by kernel_rfl))
  f199 := Tryd.func178.trans (congrArg some (by kernel_rfl))
  f229 := Tryd.func177.trans (congrArg some (by kernel_rfl))
  f261 := Tryd.func184.trans (congrArg some (by kernel_rfl))
  f311 := Tryd.func187.trans (congrArg some (by kernel_rfl))
  f312 := Tryd.func188.trans (congrArg some (by kernel_rfl))
  t0 := Tryd.underlying0
  a0 := Tryd.isAgg0
  z0 := Tryd.sizeOf0
  v0 := Tryd.zeroValue0
  t3 := Tryd.underlying3
  a3 := Tryd.isAgg3
  z3 := Tryd.sizeOf3
  v3 := Tryd.zeroValue3
  t4 := Tryd.underlying4
  a4 := Tryd.isAgg4
  z4 := Tryd.sizeOf4
  v4 := Tryd.zeroValue4
  t5 := Tryd.underlying5
  a5 := Tryd.isAgg5
  z5 := Tryd.sizeOf5
  v5 := Tryd.zeroValue5
  t9 := Tryd.underlying9
  a9 := Tryd.isAgg9
  z9 := Tryd.sizeOf9
  v9 := Tryd.zeroValue9
  t21 := Tryd.underlying21
  a21 := Tryd.isAgg21
  z21 := Tryd.sizeOf21
  v21 := Tryd.zeroValue21
  t31 := Tryd.underlying24
  a31 := Tryd.isAgg24
  z31 := Tryd.sizeOf24
  v31 := Tryd.zeroValue24
  t40 := Tryd.underlying204
  a40 := Tryd.isAgg204
  z40 := Tryd.sizeOf204
  v40 := Tryd.zeroValue204
  t46 := Tryd.underlying105
  a46 := Tryd.isAgg105
  z46 := Tryd.sizeOf105
  v46 := Tryd.zeroValue105
  t49 := Tryd.underlying220
  a49 := Tryd.isAgg220
  z49 := Tryd.sizeOf220
  v49 := Tryd.zeroValue220
  t51 := Tryd.underlying207
  a51 := Tryd.isAgg207
  z51 := Tryd.sizeOf207
  v51 := Tryd.zeroValue207
  t119 := Tryd.underlying202
  a119 := Tryd.isAgg202
  z119 := Tryd.sizeOf202
  t141 := Tryd.underlying214
  a141 := Tryd.isAgg214
  z141 := Tryd.sizeOf214
  v141 := Tryd.zeroValue214
  t152 := Tryd.underlying210
  a152 := Tryd.isAgg210
  z152 := Tryd.sizeOf210
  v152 := Tryd.zeroValue210
  t154 := Tryd.underlying212
  a154 := Tryd.isAgg212
  z154 := Tryd.sizeOf212
  v154 := Tryd.zeroValue212
  t193 := Tryd.underlying216
  a193 := Tryd.isAgg216
  z193 := Tryd.sizeOf216
  v193 := Tryd.zeroValue216
  t194 := Tryd.underlying217
  a194 := Tryd.isAgg217
  z194 := Tryd.sizeOf217
  v194 := Tryd.zeroValue217
  t196 := Tryd.underlying219
  a196 := Tryd.isAgg219
  z196 := Tryd.sizeOf219
  v196 := Tryd.zeroValue219
  t198 := Tryd.underlying222
  a198 := Tryd.isAgg222
  z198 := Tryd.sizeOf222
  v198 := Tryd.zeroValue222
  t201 := Tryd.underlying225
  a201 := Tryd.isAgg225
  z201 := Tryd.sizeOf225
  v201 := Tryd.zeroValue225
  t226 := Tryd.underlying229
  a226 := Tryd.isAgg229
  z226 := Tryd.sizeOf229
  v226 := Tryd.zeroValue229
  t227 := Tryd.underlying230
  a227 := Tryd.isAgg230
  z227 := Tryd.sizeOf230
  v227 := Tryd.zeroValue230
  g0 := by kernel_rfl
  g6 := by kernel_rfl }
open Go.RowKit Go.Lib in
/-- strings.Fields, the table by 'Lib.TabIs' (as strings.TrimSpace's contract). 'hg': the table's number, by its name: at a dump 'by kernel_rfl'. (LAID: no walk: one application.) -/
theorem Tryd.strings_Fields (s : ByteArray) (w : World) (hs : s.size < 4294967281) (hascii : ∀ (j : Nat) b, s.data.toList[j]? = some b → b.toNat < 128) (htab : Lib.TabIs Tryd.prog w "strings.asciiSpace" .u8 Lib.asciiSpaceTab) :
    Calls Tryd.prog 168 #[.string s] w fun e w' =>
      e = .returned (.slice (some ⟨w.heap.size, 0, none⟩) (Lib.fields s.data.toList).length (Lib.fields s.data.toList).length) ∧ w' = w.alloc (.cells ((Lib.fields s.data.toList).map fun l => Value.string ⟨l.toArray⟩).toArray 9) := Any.strings_Fields Tryd.lays157 (by kernel_rfl) (by kernel_rfl) s w hs hascii htab
end Go.Proofs
