/-
  DERIVED: THE SHELF's CONTRACTS AT THIS DUMP, IN PLAIN WORDS (tools/lay-plain.mjs out of 'TrydShelf.lean', which tools/lay-shelf.mjs wrote): THE SAME DECLARATIONS UNDER THE SAME NAMES: 'import', 'namespace', 'open', 'def', 'theorem' AND NOTHING ELSE: no command of the shelf's: FOR A HAND-IN. Each laying: the table of numbers ('.._ren') and one theorem, a field a fact of the dump's own or the kernel's comparison; each contract: ONE APPLICATION.
-/
import Derived.Shelf.Strings.Fields
import Derived.Test.YthinbbomgpjegaaDoorProg
namespace Go.Proofs
open Go.Shelf
def Tryd.lays157_ren : Go.Shelf.Ren := ⟨fun | 157 => 108 | 229 => 117 | 199 => 118 | 261 => 121 | 311 => 122 | 312 => 123 | n => n, fun | 9 => 9 | 31 => 24 | 3 => 3 | 5 => 5 | 4 => 4 | 119 => 134 | 0 => 0 | 40 => 136 | 152 => 138 | 21 => 21 | 154 => 140 | 51 => 141 | 141 => 143 | 196 => 147 | 193 => 144 | 198 => 150 | 49 => 148 | 194 => 145 | 201 => 153 | 226 => 155 | 46 => 109 | 227 => 156 | n => n, fun | 0 => 0 | 6 => 1 | n => n⟩
theorem Tryd.lays157 : Go.Proofs.Lays.n157 Tryd.prog Tryd.lays157_ren := {
  mixed := by kernel_rfl
  f157 := Tryd.func108.trans (congrArg some (by kernel_rfl))
  f199 := Tryd.func118.trans (congrArg some (by kernel_rfl))
  f229 := Tryd.func117.trans (congrArg some (by kernel_rfl))
  f261 := Tryd.func121.trans (congrArg some (by kernel_rfl))
  f311 := Tryd.func122.trans (congrArg some (by kernel_rfl))
  f312 := Tryd.func123.trans (congrArg some (by kernel_rfl))
  t0 := Tryd.underlying0
  a0 := Tryd.isAgg0
  z0 := Tryd.sizeOf0
  v0 := Tryd.zeroValue0
  t3 := Tryd.underlying3
  a3 := Tryd.isAgg3
  z3 := Tryd.sizeOf3
  v3 := Tryd.zeroValue3
  t4 := Tryd.underlying4
  a4 := Tryd.isAgg4
  z4 := Tryd.sizeOf4
  v4 := Tryd.zeroValue4
  t5 := Tryd.underlying5
  a5 := Tryd.isAgg5
  z5 := Tryd.sizeOf5
  v5 := Tryd.zeroValue5
  t9 := Tryd.underlying9
  a9 := Tryd.isAgg9
  z9 := Tryd.sizeOf9
  v9 := Tryd.zeroValue9
  t21 := Tryd.underlying21
  a21 := Tryd.isAgg21
  z21 := Tryd.sizeOf21
  v21 := Tryd.zeroValue21
  t31 := Tryd.underlying24
  a31 := Tryd.isAgg24
  z31 := Tryd.sizeOf24
  v31 := Tryd.zeroValue24
  t40 := Tryd.underlying136
  a40 := Tryd.isAgg136
  z40 := Tryd.sizeOf136
  v40 := Tryd.zeroValue136
  t46 := Tryd.underlying109
  a46 := Tryd.isAgg109
  z46 := Tryd.sizeOf109
  v46 := Tryd.zeroValue109
  t49 := Tryd.underlying148
  a49 := Tryd.isAgg148
  z49 := Tryd.sizeOf148
  v49 := Tryd.zeroValue148
  t51 := Tryd.underlying141
  a51 := Tryd.isAgg141
  z51 := Tryd.sizeOf141
  v51 := Tryd.zeroValue141
  t119 := Tryd.underlying134
  a119 := Tryd.isAgg134
  z119 := Tryd.sizeOf134
  t141 := Tryd.underlying143
  a141 := Tryd.isAgg143
  z141 := Tryd.sizeOf143
  v141 := Tryd.zeroValue143
  t152 := Tryd.underlying138
  a152 := Tryd.isAgg138
  z152 := Tryd.sizeOf138
  v152 := Tryd.zeroValue138
  t154 := Tryd.underlying140
  a154 := Tryd.isAgg140
  z154 := Tryd.sizeOf140
  v154 := Tryd.zeroValue140
  t193 := Tryd.underlying144
  a193 := Tryd.isAgg144
  z193 := Tryd.sizeOf144
  v193 := Tryd.zeroValue144
  t194 := Tryd.underlying145
  a194 := Tryd.isAgg145
  z194 := Tryd.sizeOf145
  v194 := Tryd.zeroValue145
  t196 := Tryd.underlying147
  a196 := Tryd.isAgg147
  z196 := Tryd.sizeOf147
  v196 := Tryd.zeroValue147
  t198 := Tryd.underlying150
  a198 := Tryd.isAgg150
  z198 := Tryd.sizeOf150
  v198 := Tryd.zeroValue150
  t201 := Tryd.underlying153
  a201 := Tryd.isAgg153
  z201 := Tryd.sizeOf153
  v201 := Tryd.zeroValue153
  t226 := Tryd.underlying155
  a226 := Tryd.isAgg155
  z226 := Tryd.sizeOf155
  v226 := Tryd.zeroValue155
  t227 := Tryd.underlying156
  a227 := Tryd.isAgg156
  z227 := Tryd.sizeOf156
  v227 := Tryd.zeroValue156
  g0 := by kernel_rfl
  g6 := by kernel_rfl }
open Go.RowKit Go.Lib in
/-- strings.Fields, the table by 'Lib.TabIs' (as strings.TrimSpace's contract). 'hg': the table's number, by its name: at a dump 'by kernel_rfl'. (LAID: no walk: one application.) -/
theorem Tryd.strings_Fields (s : ByteArray) (w : World) (hs : s.size < 4294967281) (hascii : ∀ (j : Nat) b, s.data.toList[j]? = some b → b.toNat < 128) (htab : Lib.TabIs Tryd.prog w "strings.asciiSpace" .u8 Lib.asciiSpaceTab) :
    Calls Tryd.prog 108 #[.string s] w fun e w' =>
      e = .returned (.slice (some ⟨w.heap.size, 0, none⟩) (Lib.fields s.data.toList).length (Lib.fields s.data.toList).length) ∧ w' = w.alloc (.cells ((Lib.fields s.data.toList).map fun l => Value.string ⟨l.toArray⟩).toArray 9) := Any.strings_Fields Tryd.lays157 (by kernel_rfl) (by kernel_rfl) s w hs hascii htab
end Go.Proofs
