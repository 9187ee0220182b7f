/-
  DERIVED: THE SHELF's CONTRACTS AT THIS DUMP, IN PLAIN WORDS (tools/lay-plain.mjs out of 'TryzShelf.lean', which tools/lay-shelf.mjs wrote): THE SAME DECLARATIONS UNDER THE SAME NAMES: 'import', 'namespace', 'open', 'def', 'theorem' AND NOTHING ELSE: no command of the shelf's: FOR A HAND-IN. Each laying: the table of numbers ('.._ren') and one theorem, a field a fact of the dump's own or the kernel's comparison; each contract: ONE APPLICATION.
-/
import Derived.Shelf.Strings.Fields
import Derived.Test.YtieoiccmlhjioaaGreatDoorProg
namespace Go.Proofs
open Go.Shelf
def Tryz.lays157_ren : Go.Shelf.Ren := ⟨fun | 157 => 203 | 229 => 221 | 199 => 222 | 261 => 228 | 311 => 231 | 312 => 232 | n => n, fun | 9 => 9 | 31 => 22 | 3 => 3 | 5 => 5 | 4 => 4 | 119 => 225 | 0 => 0 | 40 => 227 | 152 => 230 | 21 => 21 | 154 => 232 | 51 => 233 | 141 => 235 | 196 => 241 | 193 => 238 | 198 => 244 | 49 => 242 | 194 => 239 | 201 => 247 | 226 => 249 | 46 => 100 | 227 => 250 | n => n, fun | 0 => 0 | 6 => 1 | n => n⟩
theorem Tryz.lays157 : Go.Proofs.Lays.n157 Tryz.prog Tryz.lays157_ren := {
  mixed := by kernel_rfl
  f157 := Tryz.func203.trans (congrArg some (by kernel_rfl))
  f199 := Tryz.func222.trans (congrArg some (by kernel_rfl))
  f229 := Tryz.func221.trans (congrArg some (by kernel_rfl))
  f261 := Tryz.func228.trans (congrArg some (by kernel_rfl))
  f311 := Tryz.func231.trans (congrArg some (by kernel_rfl))
  f312 := Tryz.func232.trans (congrArg some (by kernel_rfl))
  t0 := Tryz.underlying0
  a0 := Tryz.isAgg0
  z0 := Tryz.sizeOf0
  v0 := Tryz.zeroValue0
  t3 := Tryz.underlying3
  a3 := Tryz.isAgg3
  z3 := Tryz.sizeOf3
  v3 := Tryz.zeroValue3
  t4 := Tryz.underlying4
  a4 := Tryz.isAgg4
  z4 := Tryz.sizeOf4
  v4 := Tryz.zeroValue4
  t5 := Tryz.underlying5
  a5 := Tryz.isAgg5
  z5 := Tryz.sizeOf5
  v5 := Tryz.zeroValue5
  t9 := Tryz.underlying9
  a9 := Tryz.isAgg9
  z9 := Tryz.sizeOf9
  v9 := Tryz.zeroValue9
  t21 := Tryz.underlying21
  a21 := Tryz.isAgg21
  z21 := Tryz.sizeOf21
  v21 := Tryz.zeroValue21
  t31 := Tryz.underlying22
  a31 := Tryz.isAgg22
  z31 := Tryz.sizeOf22
  v31 := Tryz.zeroValue22
  t40 := Tryz.underlying227
  a40 := Tryz.isAgg227
  z40 := Tryz.sizeOf227
  v40 := Tryz.zeroValue227
  t46 := Tryz.underlying100
  a46 := Tryz.isAgg100
  z46 := Tryz.sizeOf100
  v46 := Tryz.zeroValue100
  t49 := Tryz.underlying242
  a49 := Tryz.isAgg242
  z49 := Tryz.sizeOf242
  v49 := Tryz.zeroValue242
  t51 := Tryz.underlying233
  a51 := Tryz.isAgg233
  z51 := Tryz.sizeOf233
  v51 := Tryz.zeroValue233
  t119 := Tryz.underlying225
  a119 := Tryz.isAgg225
  z119 := Tryz.sizeOf225
  t141 := Tryz.underlying235
  a141 := Tryz.isAgg235
  z141 := Tryz.sizeOf235
  v141 := Tryz.zeroValue235
  t152 := Tryz.underlying230
  a152 := Tryz.isAgg230
  z152 := Tryz.sizeOf230
  v152 := Tryz.zeroValue230
  t154 := Tryz.underlying232
  a154 := Tryz.isAgg232
  z154 := Tryz.sizeOf232
  v154 := Tryz.zeroValue232
  t193 := Tryz.underlying238
  a193 := Tryz.isAgg238
  z193 := Tryz.sizeOf238
  v193 := Tryz.zeroValue238
  t194 := Tryz.underlying239
  a194 := Tryz.isAgg239
  z194 := Tryz.sizeOf239
  v194 := Tryz.zeroValue239
  t196 := Tryz.underlying241
  a196 := Tryz.isAgg241
  z196 := Tryz.sizeOf241
  v196 := Tryz.zeroValue241
  t198 := Tryz.underlying244
  a198 := Tryz.isAgg244
  z198 := Tryz.sizeOf244
  v198 := Tryz.zeroValue244
  t201 := Tryz.underlying247
  a201 := Tryz.isAgg247
  z201 := Tryz.sizeOf247
  v201 := Tryz.zeroValue247
  t226 := Tryz.underlying249
  a226 := Tryz.isAgg249
  z226 := Tryz.sizeOf249
  v226 := Tryz.zeroValue249
  t227 := Tryz.underlying250
  a227 := Tryz.isAgg250
  z227 := Tryz.sizeOf250
  v227 := Tryz.zeroValue250
  g0 := by kernel_rfl
  g6 := by kernel_rfl }
open Go.RowKit Go.Lib in
/-- strings.Fields, the table by 'Lib.TabIs' (as strings.TrimSpace's contract). 'hg': the table's number, by its name: at a dump 'by kernel_rfl'. (LAID: no walk: one application.) -/
theorem Tryz.strings_Fields (s : ByteArray) (w : World) (hs : s.size < 4294967281) (hascii : ∀ (j : Nat) b, s.data.toList[j]? = some b → b.toNat < 128) (htab : Lib.TabIs Tryz.prog w "strings.asciiSpace" .u8 Lib.asciiSpaceTab) :
    Calls Tryz.prog 203 #[.string s] w fun e w' =>
      e = .returned (.slice (some ⟨w.heap.size, 0, none⟩) (Lib.fields s.data.toList).length (Lib.fields s.data.toList).length) ∧ w' = w.alloc (.cells ((Lib.fields s.data.toList).map fun l => Value.string ⟨l.toArray⟩).toArray 9) := Any.strings_Fields Tryz.lays157 (by kernel_rfl) (by kernel_rfl) s w hs hascii htab
end Go.Proofs
