/-
  DERIVED: THE SHELF's CONTRACTS AT THIS DUMP, IN PLAIN WORDS (tools/lay-plain.mjs out of 'TrydShelf.lean', which tools/lay-shelf.mjs wrote): THE SAME DECLARATIONS UNDER THE SAME NAMES: 'import', 'namespace', 'open', 'def', 'theorem' AND NOTHING ELSE: no command of the shelf's: FOR A HAND-IN. Each laying: the table of numbers ('.._ren') and one theorem, a field a fact of the dump's own or the kernel's comparison; each contract: ONE APPLICATION.
-/
import Derived.Shelf.Strings.Fields
import Derived.Test.YtgpcioamhfaodabDoorProg
namespace Go.Proofs
open Go.Shelf
def Tryd.lays157_ren : Go.Shelf.Ren := ⟨fun | 157 => 128 | 229 => 138 | 199 => 139 | 261 => 142 | 311 => 143 | 312 => 144 | n => n, fun | 9 => 9 | 31 => 24 | 3 => 3 | 5 => 5 | 4 => 4 | 119 => 158 | 0 => 0 | 40 => 160 | 152 => 162 | 21 => 21 | 154 => 164 | 51 => 165 | 141 => 167 | 196 => 171 | 193 => 168 | 198 => 174 | 49 => 172 | 194 => 169 | 201 => 177 | 226 => 179 | 46 => 124 | 227 => 180 | n => n, fun | 0 => 0 | 6 => 1 | n => n⟩
theorem Tryd.lays157 : Go.Proofs.Lays.n157 Tryd.prog Tryd.lays157_ren := {
  mixed := by kernel_rfl
  f157 := Tryd.func128.trans (congrArg some (by kernel_rfl))
  f199 := Tryd.func139.trans (congrArg some (by kernel_rfl))
  f229 := Tryd.func138.trans (congrArg some (by kernel_rfl))
  f261 := Tryd.func142.trans (congrArg some (by kernel_rfl))
  f311 := Tryd.func143.trans (congrArg some (by kernel_rfl))
  f312 := Tryd.func144.trans (congrArg some (by kernel_rfl))
  t0 := Tryd.underlying0
  a0 := Tryd.isAgg0
  z0 := Tryd.sizeOf0
  v0 := Tryd.zeroValue0
  t3 := Tryd.underlying3
  a3 := Tryd.isAgg3
  z3 := Tryd.sizeOf3
  v3 := Tryd.zeroValue3
  t4 := Tryd.underlying4
  a4 := Tryd.isAgg4
  z4 := Tryd.sizeOf4
  v4 := Tryd.zeroValue4
  t5 := Tryd.underlying5
  a5 := Tryd.isAgg5
  z5 := Tryd.sizeOf5
  v5 := Tryd.zeroValue5
  t9 := Tryd.underlying9
  a9 := Tryd.isAgg9
  z9 := Tryd.sizeOf9
  v9 := Tryd.zeroValue9
  t21 := Tryd.underlying21
  a21 := Tryd.isAgg21
  z21 := Tryd.sizeOf21
  v21 := Tryd.zeroValue21
  t31 := Tryd.underlying24
  a31 := Tryd.isAgg24
  z31 := Tryd.sizeOf24
  v31 := Tryd.zeroValue24
  t40 := Tryd.underlying160
  a40 := Tryd.isAgg160
  z40 := Tryd.sizeOf160
  v40 := Tryd.zeroValue160
  t46 := Tryd.underlying124
  a46 := Tryd.isAgg124
  z46 := Tryd.sizeOf124
  v46 := Tryd.zeroValue124
  t49 := Tryd.underlying172
  a49 := Tryd.isAgg172
  z49 := Tryd.sizeOf172
  v49 := Tryd.zeroValue172
  t51 := Tryd.underlying165
  a51 := Tryd.isAgg165
  z51 := Tryd.sizeOf165
  v51 := Tryd.zeroValue165
  t119 := Tryd.underlying158
  a119 := Tryd.isAgg158
  z119 := Tryd.sizeOf158
  t141 := Tryd.underlying167
  a141 := Tryd.isAgg167
  z141 := Tryd.sizeOf167
  v141 := Tryd.zeroValue167
  t152 := Tryd.underlying162
  a152 := Tryd.isAgg162
  z152 := Tryd.sizeOf162
  v152 := Tryd.zeroValue162
  t154 := Tryd.underlying164
  a154 := Tryd.isAgg164
  z154 := Tryd.sizeOf164
  v154 := Tryd.zeroValue164
  t193 := Tryd.underlying168
  a193 := Tryd.isAgg168
  z193 := Tryd.sizeOf168
  v193 := Tryd.zeroValue168
  t194 := Tryd.underlying169
  a194 := Tryd.isAgg169
  z194 := Tryd.sizeOf169
  v194 := Tryd.zeroValue169
  t196 := Tryd.underlying171
  a196 := Tryd.isAgg171
  z196 := Tryd.sizeOf171
  v196 := Tryd.zeroValue171
  t198 := Tryd.underlying174
  a198 := Tryd.isAgg174
  z198 := Tryd.sizeOf174
  v198 := Tryd.zeroValue174
  t201 := Tryd.underlying177
  a201 := Tryd.isAgg177
  z201 := Tryd.sizeOf177
  v201 := Tryd.zeroValue177
  t226 := Tryd.underlying179
  a226 := Tryd.isAgg179
  z226 := Tryd.sizeOf179
  v226 := Tryd.zeroValue179
  t227 := Tryd.underlying180
  a227 := Tryd.isAgg180
  z227 := Tryd.sizeOf180
  v227 := Tryd.zeroValue180
  g0 := by kernel_rfl
  g6 := by kernel_rfl }
open Go.RowKit Go.Lib in
/-- strings.Fields, the table by 'Lib.TabIs' (as strings.TrimSpace's contract). 'hg': the table's number, by its name: at a dump 'by kernel_rfl'. (LAID: no walk: one application.) -/
theorem Tryd.strings_Fields (s : ByteArray) (w : World) (hs : s.size < 4294967281) (hascii : ∀ (j : Nat) b, s.data.toList[j]? = some b → b.toNat < 128) (htab : Lib.TabIs Tryd.prog w "strings.asciiSpace" .u8 Lib.asciiSpaceTab) :
    Calls Tryd.prog 128 #[.string s] w fun e w' =>
      e = .returned (.slice (some ⟨w.heap.size, 0, none⟩) (Lib.fields s.data.toList).length (Lib.fields s.data.toList).length) ∧ w' = w.alloc (.cells ((Lib.fields s.data.toList).map fun l => Value.string ⟨l.toArray⟩).toArray 9) := Any.strings_Fields Tryd.lays157 (by kernel_rfl) (by kernel_rfl) s w hs hascii htab
end Go.Proofs
