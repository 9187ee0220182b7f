/-
  DERIVED: THE SHELF's CONTRACTS AT THIS DUMP, IN PLAIN WORDS (tools/lay-plain.mjs out of 'TrydShelf.lean', which tools/lay-shelf.mjs wrote): THE SAME DECLARATIONS UNDER THE SAME NAMES: 'import', 'namespace', 'open', 'def', 'theorem' AND NOTHING ELSE: no command of the shelf's: FOR A HAND-IN. Each laying: the table of numbers ('.._ren') and one theorem, a field a fact of the dump's own or the kernel's comparison; each contract: ONE APPLICATION.
-/
import Derived.Shelf.Strings.Fields
import Derived.Test.YtopabnpmedpakaaDoorProg
namespace Go.Proofs
open Go.Shelf
def Tryd.lays157_ren : Go.Shelf.Ren := ⟨fun | 157 => 107 | 229 => 112 | 199 => 113 | 261 => 116 | 311 => 117 | 312 => 118 | n => n, fun | 9 => 9 | 31 => 22 | 3 => 3 | 5 => 5 | 4 => 4 | 119 => 150 | 0 => 0 | 40 => 152 | 152 => 155 | 21 => 21 | 154 => 157 | 51 => 158 | 141 => 160 | 196 => 164 | 193 => 161 | 198 => 167 | 49 => 165 | 194 => 162 | 201 => 170 | 226 => 172 | 46 => 142 | 227 => 173 | n => n, fun | 0 => 0 | 6 => 1 | n => n⟩
theorem Tryd.lays157 : Go.Proofs.Lays.n157 Tryd.prog Tryd.lays157_ren := {
  mixed := by kernel_rfl
  f157 := Tryd.func107.trans (congrArg some (by kernel_rfl))
  f199 := Tryd.func113.trans (congrArg some (by kernel_rfl))
  f229 := Tryd.func112.trans (congrArg some (by kernel_rfl))
  f261 := Tryd.func116.trans (congrArg some (by kernel_rfl))
  f311 := Tryd.func117.trans (congrArg some (by kernel_rfl))
  f312 := Tryd.func118.trans (congrArg some (by kernel_rfl))
  t0 := Tryd.underlying0
  a0 := Tryd.isAgg0
  z0 := Tryd.sizeOf0
  v0 := Tryd.zeroValue0
  t3 := Tryd.underlying3
  a3 := Tryd.isAgg3
  z3 := Tryd.sizeOf3
  v3 := Tryd.zeroValue3
  t4 := Tryd.underlying4
  a4 := Tryd.isAgg4
  z4 := Tryd.sizeOf4
  v4 := Tryd.zeroValue4
  t5 := Tryd.underlying5
  a5 := Tryd.isAgg5
  z5 := Tryd.sizeOf5
  v5 := Tryd.zeroValue5
  t9 := Tryd.underlying9
  a9 := Tryd.isAgg9
  z9 := Tryd.sizeOf9
  v9 := Tryd.zeroValue9
  t21 := Tryd.underlying21
  a21 := Tryd.isAgg21
  z21 := Tryd.sizeOf21
  v21 := Tryd.zeroValue21
  t31 := Tryd.underlying22
  a31 := Tryd.isAgg22
  z31 := Tryd.sizeOf22
  v31 := Tryd.zeroValue22
  t40 := Tryd.underlying152
  a40 := Tryd.isAgg152
  z40 := Tryd.sizeOf152
  v40 := Tryd.zeroValue152
  t46 := Tryd.underlying142
  a46 := Tryd.isAgg142
  z46 := Tryd.sizeOf142
  v46 := Tryd.zeroValue142
  t49 := Tryd.underlying165
  a49 := Tryd.isAgg165
  z49 := Tryd.sizeOf165
  v49 := Tryd.zeroValue165
  t51 := Tryd.underlying158
  a51 := Tryd.isAgg158
  z51 := Tryd.sizeOf158
  v51 := Tryd.zeroValue158
  t119 := Tryd.underlying150
  a119 := Tryd.isAgg150
  z119 := Tryd.sizeOf150
  t141 := Tryd.underlying160
  a141 := Tryd.isAgg160
  z141 := Tryd.sizeOf160
  v141 := Tryd.zeroValue160
  t152 := Tryd.underlying155
  a152 := Tryd.isAgg155
  z152 := Tryd.sizeOf155
  v152 := Tryd.zeroValue155
  t154 := Tryd.underlying157
  a154 := Tryd.isAgg157
  z154 := Tryd.sizeOf157
  v154 := Tryd.zeroValue157
  t193 := Tryd.underlying161
  a193 := Tryd.isAgg161
  z193 := Tryd.sizeOf161
  v193 := Tryd.zeroValue161
  t194 := Tryd.underlying162
  a194 := Tryd.isAgg162
  z194 := Tryd.sizeOf162
  v194 := Tryd.zeroValue162
  t196 := Tryd.underlying164
  a196 := Tryd.isAgg164
  z196 := Tryd.sizeOf164
  v196 := Tryd.zeroValue164
  t198 := Tryd.underlying167
  a198 := Tryd.isAgg167
  z198 := Tryd.sizeOf167
  v198 := Tryd.zeroValue167
  t201 := Tryd.underlying170
  a201 := Tryd.isAgg170
  z201 := Tryd.sizeOf170
  v201 := Tryd.zeroValue170
  t226 := Tryd.underlying172
  a226 := Tryd.isAgg172
  z226 := Tryd.sizeOf172
  v226 := Tryd.zeroValue172
  t227 := Tryd.underlying173
  a227 := Tryd.isAgg173
  z227 := Tryd.sizeOf173
  v227 := Tryd.zeroValue173
  g0 := by kernel_rfl
  g6 := by kernel_rfl }
open Go.RowKit Go.Lib in
/-- strings.Fields, the table by 'Lib.TabIs' (as strings.TrimSpace's contract). 'hg': the table's number, by its name: at a dump 'by kernel_rfl'. (LAID: no walk: one application.) -/
theorem Tryd.strings_Fields (s : ByteArray) (w : World) (hs : s.size < 4294967281) (hascii : ∀ (j : Nat) b, s.data.toList[j]? = some b → b.toNat < 128) (htab : Lib.TabIs Tryd.prog w "strings.asciiSpace" .u8 Lib.asciiSpaceTab) :
    Calls Tryd.prog 107 #[.string s] w fun e w' =>
      e = .returned (.slice (some ⟨w.heap.size, 0, none⟩) (Lib.fields s.data.toList).length (Lib.fields s.data.toList).length) ∧ w' = w.alloc (.cells ((Lib.fields s.data.toList).map fun l => Value.string ⟨l.toArray⟩).toArray 9) := Any.strings_Fields Tryd.lays157 (by kernel_rfl) (by kernel_rfl) s w hs hascii htab
end Go.Proofs
