/-
  DERIVED: THE SHELF's CONTRACTS AT THIS DUMP, IN PLAIN WORDS (tools/lay-plain.mjs out of 'TryzShelf.lean', which tools/lay-shelf.mjs wrote): THE SAME DECLARATIONS UNDER THE SAME NAMES: 'import', 'namespace', 'open', 'def', 'theorem' AND NOTHING ELSE: no command of the shelf's: FOR A HAND-IN. Each laying: the table of numbers ('.._ren') and one theorem, a field a fact of the dump's own or the kernel's comparison; each contract: ONE APPLICATION.
-/
import Derived.Shelf.Strings.Fields
import Derived.Test.YtgpcioamhfaodaaGreatDoorProg
namespace Go.Proofs
open Go.Shelf
def Tryz.lays157_ren : Go.Shelf.Ren := ⟨fun | 157 => 101 | 229 => 109 | 199 => 110 | 261 => 112 | 311 => 113 | 312 => 114 | n => n, fun | 9 => 9 | 31 => 24 | 3 => 3 | 5 => 5 | 4 => 4 | 119 => 125 | 0 => 0 | 40 => 127 | 152 => 129 | 21 => 21 | 154 => 131 | 51 => 132 | 141 => 134 | 196 => 138 | 193 => 135 | 198 => 141 | 49 => 139 | 194 => 136 | 201 => 144 | 226 => 146 | 46 => 71 | 227 => 147 | n => n, fun | 0 => 0 | 6 => 1 | n => n⟩
theorem Tryz.lays157 : Go.Proofs.Lays.n157 Tryz.prog Tryz.lays157_ren := {
  mixed := by kernel_rfl
  f157 := Tryz.func101.trans (congrArg some (by kernel_rfl))
  f199 := Tryz.func110.trans (congrArg some (by kernel_rfl))
  f229 := Tryz.func109.trans (congrArg some (by kernel_rfl))
  f261 := Tryz.func112.trans (congrArg some (by kernel_rfl))
  f311 := Tryz.func113.trans (congrArg some (by kernel_rfl))
  f312 := Tryz.func114.trans (congrArg some (by kernel_rfl))
  t0 := Tryz.underlying0
  a0 := Tryz.isAgg0
  z0 := Tryz.sizeOf0
  v0 := Tryz.zeroValue0
  t3 := Tryz.underlying3
  a3 := Tryz.isAgg3
  z3 := Tryz.sizeOf3
  v3 := Tryz.zeroValue3
  t4 := Tryz.underlying4
  a4 := Tryz.isAgg4
  z4 := Tryz.sizeOf4
  v4 := Tryz.zeroValue4
  t5 := Tryz.underlying5
  a5 := Tryz.isAgg5
  z5 := Tryz.sizeOf5
  v5 := Tryz.zeroValue5
  t9 := Tryz.underlying9
  a9 := Tryz.isAgg9
  z9 := Tryz.sizeOf9
  v9 := Tryz.zeroValue9
  t21 := Tryz.underlying21
  a21 := Tryz.isAgg21
  z21 := Tryz.sizeOf21
  v21 := Tryz.zeroValue21
  t31 := Tryz.underlying24
  a31 := Tryz.isAgg24
  z31 := Tryz.sizeOf24
  v31 := Tryz.zeroValue24
  t40 := Tryz.underlying127
  a40 := Tryz.isAgg127
  z40 := Tryz.sizeOf127
  v40 := Tryz.zeroValue127
  t46 := Tryz.underlying71
  a46 := Tryz.isAgg71
  z46 := Tryz.sizeOf71
  v46 := Tryz.zeroValue71
  t49 := Tryz.underlying139
  a49 := Tryz.isAgg139
  z49 := Tryz.sizeOf139
  v49 := Tryz.zeroValue139
  t51 := Tryz.underlying132
  a51 := Tryz.isAgg132
  z51 := Tryz.sizeOf132
  v51 := Tryz.zeroValue132
  t119 := Tryz.underlying125
  a119 := Tryz.isAgg125
  z119 := Tryz.sizeOf125
  t141 := Tryz.underlying134
  a141 := Tryz.isAgg134
  z141 := Tryz.sizeOf134
  v141 := Tryz.zeroValue134
  t152 := Tryz.underlying129
  a152 := Tryz.isAgg129
  z152 := Tryz.sizeOf129
  v152 := Tryz.zeroValue129
  t154 := Tryz.underlying131
  a154 := Tryz.isAgg131
  z154 := Tryz.sizeOf131
  v154 := Tryz.zeroValue131
  t193 := Tryz.underlying135
  a193 := Tryz.isAgg135
  z193 := Tryz.sizeOf135
  v193 := Tryz.zeroValue135
  t194 := Tryz.underlying136
  a194 := Tryz.isAgg136
  z194 := Tryz.sizeOf136
  v194 := Tryz.zeroValue136
  t196 := Tryz.underlying138
  a196 := Tryz.isAgg138
  z196 := Tryz.sizeOf138
  v196 := Tryz.zeroValue138
  t198 := Tryz.underlying141
  a198 := Tryz.isAgg141
  z198 := Tryz.sizeOf141
  v198 := Tryz.zeroValue141
  t201 := Tryz.underlying144
  a201 := Tryz.isAgg144
  z201 := Tryz.sizeOf144
  v201 := Tryz.zeroValue144
  t226 := Tryz.underlying146
  a226 := Tryz.isAgg146
  z226 := Tryz.sizeOf146
  v226 := Tryz.zeroValue146
  t227 := Tryz.underlying147
  a227 := Tryz.isAgg147
  z227 := Tryz.sizeOf147
  v227 := Tryz.zeroValue147
  g0 := by kernel_rfl
  g6 := by kernel_rfl }
open Go.RowKit Go.Lib in
/-- strings.Fields, the table by 'Lib.TabIs' (as strings.TrimSpace's contract). 'hg': the table's number, by its name: at a dump 'by kernel_rfl'. (LAID: no walk: one application.) -/
theorem Tryz.strings_Fields (s : ByteArray) (w : World) (hs : s.size < 4294967281) (hascii : ∀ (j : Nat) b, s.data.toList[j]? = some b → b.toNat < 128) (htab : Lib.TabIs Tryz.prog w "strings.asciiSpace" .u8 Lib.asciiSpaceTab) :
    Calls Tryz.prog 101 #[.string s] w fun e w' =>
      e = .returned (.slice (some ⟨w.heap.size, 0, none⟩) (Lib.fields s.data.toList).length (Lib.fields s.data.toList).length) ∧ w' = w.alloc (.cells ((Lib.fields s.data.toList).map fun l => Value.string ⟨l.toArray⟩).toArray 9) := Any.strings_Fields Tryz.lays157 (by kernel_rfl) (by kernel_rfl) s w hs hascii htab
end Go.Proofs
