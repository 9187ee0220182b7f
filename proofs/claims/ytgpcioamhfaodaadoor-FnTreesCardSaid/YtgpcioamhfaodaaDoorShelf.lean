/-
  DERIVED: THE SHELF's CONTRACTS AT THIS DUMP, IN PLAIN WORDS (tools/lay-plain.mjs out of 'TrydShelf.lean', which tools/lay-shelf.mjs wrote): THE SAME DECLARATIONS UNDER THE SAME NAMES: 'import', 'namespace', 'open', 'def', 'theorem' AND NOTHING ELSE: no command of the shelf's: FOR A HAND-IN. Each laying: the table of numbers ('.._ren') and one theorem, a field a fact of the dump's own or the kernel's comparison; each contract: ONE APPLICATION.
-/
import Derived.Shelf.Strings.Fields
import Derived.Test.YtgpcioamhfaodaaDoorProg
namespace Go.Proofs
open Go.Shelf
def Tryd.lays157_ren : Go.Shelf.Ren := ⟨fun | 157 => 136 | 229 => 142 | 199 => 143 | 261 => 144 | 311 => 145 | 312 => 146 | n => n, fun | 9 => 9 | 31 => 24 | 3 => 3 | 5 => 5 | 4 => 4 | 119 => 163 | 0 => 0 | 40 => 165 | 152 => 166 | 21 => 21 | 154 => 168 | 51 => 169 | 141 => 171 | 196 => 175 | 193 => 172 | 198 => 178 | 49 => 176 | 194 => 173 | 201 => 181 | 226 => 183 | 46 => 86 | 227 => 184 | n => n, fun | 0 => 0 | 6 => 1 | n => n⟩
theorem Tryd.lays157 : Go.Proofs.Lays.n157 Tryd.prog Tryd.lays157_ren := {
  mixed := by kernel_rfl
  f157 := Tryd.func136.trans (congrArg some (by kernel_rfl))
  f199 := Tryd.func143.trans (congrArg some (by kernel_rfl))
  f229 := Tryd.func142.trans (congrArg some (by kernel_rfl))
  f261 := Tryd.func144.trans (congrArg some (by kernel_rfl))
  f311 := Tryd.func145.trans (congrArg some (by kernel_rfl))
  f312 := Tryd.func146.trans (congrArg some (by kernel_rfl))
  t0 := Tryd.underlying0
  a0 := Tryd.isAgg0
  z0 := Tryd.sizeOf0
  v0 := Tryd.zeroValue0
  t3 := Tryd.underlying3
  a3 := Tryd.isAgg3
  z3 := Tryd.sizeOf3
  v3 := Tryd.zeroValue3
  t4 := Tryd.underlying4
  a4 := Tryd.isAgg4
  z4 := Tryd.sizeOf4
  v4 := Tryd.zeroValue4
  t5 := Tryd.underlying5
  a5 := Tryd.isAgg5
  z5 := Tryd.sizeOf5
  v5 := Tryd.zeroValue5
  t9 := Tryd.underlying9
  a9 := Tryd.isAgg9
  z9 := Tryd.sizeOf9
  v9 := Tryd.zeroValue9
  t21 := Tryd.underlying21
  a21 := Tryd.isAgg21
  z21 := Tryd.sizeOf21
  v21 := Tryd.zeroValue21
  t31 := Tryd.underlying24
  a31 := Tryd.isAgg24
  z31 := Tryd.sizeOf24
  v31 := Tryd.zeroValue24
  t40 := Tryd.underlying165
  a40 := Tryd.isAgg165
  z40 := Tryd.sizeOf165
  v40 := Tryd.zeroValue165
  t46 := Tryd.underlying86
  a46 := Tryd.isAgg86
  z46 := Tryd.sizeOf86
  v46 := Tryd.zeroValue86
  t49 := Tryd.underlying176
  a49 := Tryd.isAgg176
  z49 := Tryd.sizeOf176
  v49 := Tryd.zeroValue176
  t51 := Tryd.underlying169
  a51 := Tryd.isAgg169
  z51 := Tryd.sizeOf169
  v51 := Tryd.zeroValue169
  t119 := Tryd.underlying163
  a119 := Tryd.isAgg163
  z119 := Tryd.sizeOf163
  t141 := Tryd.underlying171
  a141 := Tryd.isAgg171
  z141 := Tryd.sizeOf171
  v141 := Tryd.zeroValue171
  t152 := Tryd.underlying166
  a152 := Tryd.isAgg166
  z152 := Tryd.sizeOf166
  v152 := Tryd.zeroValue166
  t154 := Tryd.underlying168
  a154 := Tryd.isAgg168
  z154 := Tryd.sizeOf168
  v154 := Tryd.zeroValue168
  t193 := Tryd.underlying172
  a193 := Tryd.isAgg172
  z193 := Tryd.sizeOf172
  v193 := Tryd.zeroValue172
  t194 := Tryd.underlying173
  a194 := Tryd.isAgg173
  z194 := Tryd.sizeOf173
  v194 := Tryd.zeroValue173
  t196 := Tryd.underlying175
  a196 := Tryd.isAgg175
  z196 := Tryd.sizeOf175
  v196 := Tryd.zeroValue175
  t198 := Tryd.underlying178
  a198 := Tryd.isAgg178
  z198 := Tryd.sizeOf178
  v198 := Tryd.zeroValue178
  t201 := Tryd.underlying181
  a201 := Tryd.isAgg181
  z201 := Tryd.sizeOf181
  v201 := Tryd.zeroValue181
  t226 := Tryd.underlying183
  a226 := Tryd.isAgg183
  z226 := Tryd.sizeOf183
  v226 := Tryd.zeroValue183
  t227 := Tryd.underlying184
  a227 := Tryd.isAgg184
  z227 := Tryd.sizeOf184
  v227 := Tryd.zeroValue184
  g0 := by kernel_rfl
  g6 := by kernel_rfl }
open Go.RowKit Go.Lib in
/-- strings.Fields, the table by 'Lib.TabIs' (as strings.TrimSpace's contract). 'hg': the table's number, by its name: at a dump 'by kernel_rfl'. (LAID: no walk: one application.) -/
theorem Tryd.strings_Fields (s : ByteArray) (w : World) (hs : s.size < 4294967281) (hascii : ∀ (j : Nat) b, s.data.toList[j]? = some b → b.toNat < 128) (htab : Lib.TabIs Tryd.prog w "strings.asciiSpace" .u8 Lib.asciiSpaceTab) :
    Calls Tryd.prog 136 #[.string s] w fun e w' =>
      e = .returned (.slice (some ⟨w.heap.size, 0, none⟩) (Lib.fields s.data.toList).length (Lib.fields s.data.toList).length) ∧ w' = w.alloc (.cells ((Lib.fields s.data.toList).map fun l => Value.string ⟨l.toArray⟩).toArray 9) := Any.strings_Fields Tryd.lays157 (by kernel_rfl) (by kernel_rfl) s w hs hascii htab
end Go.Proofs
