/-
  TopSheeted, the statement: for every input the call returns true and leaves the input alone.
-/
import Derived.Test.YtamnnjdfjffhlaaGreatDoorTopSBaseM
import Derived.Shelf.Strings.BuilderK
import Derived.Shelf.Strconv.Atoi
import Derived.Shelf.LaysM
import Derived.Shelf.Strconv.Itoa3
import Derived.Shelf.Strings.Prefix
import Derived.Shelf.Strings.SplitShaped
import Derived.Shelf.Strings.Repeat
import Derived.Test.YtamnnjdfjffhlaaGreatDoorProg
import Derived.WalkSmall
import Derived.Deep.RegionHeld3
import Derived.Deep.DeepCutAuto
import Derived.Deep.CutBlock
import Derived.BigRegion
import Derived.Lib.LaidTab
import Derived.Lib.OthersKept
import Derived.BigQuiet
import Derived.Deep.LoopGhost
import Derived.Laws.BytesArg
import Derived.Handed
import Derived.HandedShaped
import Derived.Test.YtamnnjdfjffhlaaGreatDoorRows
import Derived.Test.YtamnnjdfjffhlaaGreatDoorCards
import Derived.Test.YtamnnjdfjffhlaaGreatDoorTie
import Derived.Lib.LaidU8
import Derived.Lay
import Derived.LaidOnce
import Derived.SevenTiedAt
set_option linter.unusedVariables false
set_option linter.unusedSimpArgs false
/-
  The contracts of the library that the load sheet calls, laid at this seat by the kit's own tool (strings, strconv).
-/
namespace Go.Proofs
open Go.Shelf
def Tryz.lays169_ren : Go.Shelf.Ren := ⟨fun | 169 => 72 | n => n, fun | 70 => 135 | 9 => 9 | 0 => 0 | 72 => 137 | 37 => 61 | 127 => 166 | 3 => 3 | 5 => 5 | n => n, fun | n => n⟩
theorem Tryz.lays169 : Go.Proofs.Lays.n169 Tryz.prog Tryz.lays169_ren := {
  mixed := by kernel_rfl
  f169 := Tryz.func72.trans (congrArg some (by kernel_rfl))
  t0 := Tryz.underlying0
  a0 := Tryz.isAgg0
  z0 := Tryz.sizeOf0
  v0 := Tryz.zeroValue0
  t3 := Tryz.underlying3
  a3 := Tryz.isAgg3
  z3 := Tryz.sizeOf3
  v3 := Tryz.zeroValue3
  t9 := Tryz.underlying9
  a9 := Tryz.isAgg9
  z9 := Tryz.sizeOf9
  v9 := Tryz.zeroValue9
  t37 := Tryz.underlying61
  a37 := Tryz.isAgg61
  z37 := Tryz.sizeOf61
  v37 := Tryz.zeroValue61
  t70 := Tryz.underlying135
  a70 := Tryz.isAgg135
  z70 := Tryz.sizeOf135
  v70 := Tryz.zeroValue135
  t72 := Tryz.underlying137
  a72 := Tryz.isAgg137
  z72 := Tryz.sizeOf137
  v72 := Tryz.zeroValue137
  t127 := Tryz.underlying166
  a127 := Tryz.isAgg166
  z127 := Tryz.sizeOf166
  v127 := Tryz.zeroValue166 }
theorem Tryz.Builder_Extra_169 : Builder.Extra Tryz.prog Tryz.lays169_ren := {
  sizeBuilder := by kernel_rfl
  liesBuilder := by kernel_rfl
  t5 := Tryz.underlying5
  a5 := Tryz.isAgg5
  z5 := Tryz.sizeOf5
  v5 := Tryz.zeroValue5
  infoByte := by kernel_rfl
  cellsByte := by kernel_rfl
  sizeByte := by kernel_rfl
  neB5 := by decide }
open Go.RowKit in
/-- (*strings.Builder).String: "String returns the accumulated string.": WHATEVER THE BUILDER HOLDS; THE FORM '_k': OVER 'Lib.IsBuilderF' (a builder that 'String()' may have read), AND WITH THE FRAME THAT REACHES ABOVE THE BUILDER: 'Lib.OthersKept': every block that is not b and is no row of uint8's stands as it stood: the iterator of a range among them. (LAID: no walk: one application.) -/
theorem Tryz.Builder_String_any_k (B b : Nat) (l : List UInt8) (w : World) (h : Lib.IsBuilderF 137 5 B b (Lib.byteCells l) w) (hBw : B ≤ w.heap.size) :
    Calls Tryz.prog 72 #[.pointer (some ⟨b, 0, none⟩)] w fun e w' => e = .returned (.string ⟨l.toArray⟩) ∧ (Lib.IsBuilderF 137 5 B b (Lib.byteCells l) w' ∧ Below B w w' ∧ Lib.OthersKept 5 (some b) w w') := Any.Builder_String_any_k Tryz.lays169 Tryz.Builder_Extra_169 B b l w h hBw
def Tryz.lays105_ren : Go.Shelf.Ren := ⟨fun | 105 => 71 | 212 => 96 | 99 => 97 | 165 => 98 | 166 => 70 | 170 => 99 | 169 => 72 | 263 => 114 | 264 => 115 | 206 => 103 | 240 => 95 | 241 => 116 | 276 => 113 | 277 => 133 | n => n, fun | 9 => 9 | 3 => 3 | 4 => 4 | 20 => 20 | 0 => 0 | 46 => 161 | 109 => 162 | 5 => 5 | 72 => 137 | 76 => 140 | 51 => 172 | 146 => 188 | 53 => 181 | 148 => 190 | 70 => 135 | 37 => 61 | 75 => 139 | 127 => 166 | 164 => 186 | 80 => 143 | n => n, fun | n => n⟩
theorem Tryz.lays105 : Go.Proofs.Lays.n105 Tryz.prog Tryz.lays105_ren := {
  mixed := by kernel_rfl
  f99 := Tryz.func97.trans (congrArg some (by kernel_rfl))
  f105 := Tryz.func71.trans (congrArg some (by kernel_rfl))
  f165 := Tryz.func98.trans (congrArg some (by kernel_rfl))
  f166 := Tryz.func70.trans (congrArg some (by kernel_rfl))
  f169 := Tryz.func72.trans (congrArg some (by kernel_rfl))
  f170 := Tryz.func99.trans (congrArg some (by kernel_rfl))
  f206 := Tryz.func103.trans (congrArg some (by kernel_rfl))
  f212 := Tryz.func96.trans (congrArg some (by kernel_rfl))
  f240 := Tryz.func95.trans (congrArg some (by kernel_rfl))
  f241 := Tryz.func116.trans (congrArg some (by kernel_rfl))
  f263 := Tryz.func114.trans (congrArg some (by kernel_rfl))
  f264 := Tryz.func115.trans (congrArg some (by kernel_rfl))
  f276 := Tryz.func113.trans (congrArg some (by kernel_rfl))
  f277 := Tryz.func133.trans (congrArg some (by kernel_rfl))
  t0 := Tryz.underlying0
  a0 := Tryz.isAgg0
  z0 := Tryz.sizeOf0
  v0 := Tryz.zeroValue0
  t3 := Tryz.underlying3
  a3 := Tryz.isAgg3
  z3 := Tryz.sizeOf3
  v3 := Tryz.zeroValue3
  t4 := Tryz.underlying4
  a4 := Tryz.isAgg4
  z4 := Tryz.sizeOf4
  v4 := Tryz.zeroValue4
  t5 := Tryz.underlying5
  a5 := Tryz.isAgg5
  z5 := Tryz.sizeOf5
  v5 := Tryz.zeroValue5
  t9 := Tryz.underlying9
  a9 := Tryz.isAgg9
  z9 := Tryz.sizeOf9
  v9 := Tryz.zeroValue9
  t20 := Tryz.underlying20
  a20 := Tryz.isAgg20
  z20 := Tryz.sizeOf20
  v20 := Tryz.zeroValue20
  t37 := Tryz.underlying61
  a37 := Tryz.isAgg61
  z37 := Tryz.sizeOf61
  v37 := Tryz.zeroValue61
  t46 := Tryz.underlying161
  a46 := Tryz.isAgg161
  z46 := Tryz.sizeOf161
  v46 := Tryz.zeroValue161
  t51 := Tryz.underlying172
  a51 := Tryz.isAgg172
  z51 := Tryz.sizeOf172
  v51 := Tryz.zeroValue172
  t53 := Tryz.underlying181
  a53 := Tryz.isAgg181
  z53 := Tryz.sizeOf181
  v53 := Tryz.zeroValue181
  t70 := Tryz.underlying135
  a70 := Tryz.isAgg135
  z70 := Tryz.sizeOf135
  v70 := Tryz.zeroValue135
  t72 := Tryz.underlying137
  a72 := Tryz.isAgg137
  z72 := Tryz.sizeOf137
  v72 := Tryz.zeroValue137
  t75 := Tryz.underlying139
  a75 := Tryz.isAgg139
  z75 := Tryz.sizeOf139
  v75 := Tryz.zeroValue139
  t76 := Tryz.underlying140
  a76 := Tryz.isAgg140
  z76 := Tryz.sizeOf140
  v76 := Tryz.zeroValue140
  t109 := Tryz.underlying162
  a109 := Tryz.isAgg162
  z109 := Tryz.sizeOf162
  v109 := Tryz.zeroValue162
  t127 := Tryz.underlying166
  a127 := Tryz.isAgg166
  z127 := Tryz.sizeOf166
  v127 := Tryz.zeroValue166
  t146 := Tryz.underlying188
  a146 := Tryz.isAgg188
  z146 := Tryz.sizeOf188
  v146 := Tryz.zeroValue188
  t148 := Tryz.underlying190
  a148 := Tryz.isAgg190
  z148 := Tryz.sizeOf190
  v148 := Tryz.zeroValue190
  t164 := Tryz.underlying186
  a164 := Tryz.isAgg186
  z164 := Tryz.sizeOf186
  v164 := Tryz.zeroValue186 }
theorem Tryz.Builder_Extra_105 : Builder.Extra Tryz.prog Tryz.lays105_ren := {
  sizeBuilder := by kernel_rfl
  liesBuilder := by kernel_rfl
  t5 := Tryz.underlying5
  a5 := Tryz.isAgg5
  z5 := Tryz.sizeOf5
  v5 := Tryz.zeroValue5
  infoByte := by kernel_rfl
  cellsByte := by kernel_rfl
  sizeByte := by kernel_rfl
  neB5 := by decide }
open Go.RowKit Go.Lib in
/-- **strings.Repeat: count ≥ 0, the result within one allocation: count copies of s.** (LAID: no walk: one application.) -/
theorem Tryz.strings_Repeat (s : ByteArray) (c : Nat) (w : World) (hc : c ≤ 9223372036854775807) (hlen : s.size * c ≤ 140737488355328) :
    Calls Tryz.prog 71 #[.string s, .int .i64 c] w fun e w' => e = .returned (.string ⟨(Lib.repeatL s.data.toList c).toArray⟩) ∧ Below w.heap.size w w' := Any.strings_Repeat Tryz.lays105 Tryz.Builder_Extra_105 s c w hc hlen
def Tryz.lays101_ren : Go.Shelf.Ren := ⟨fun | 101 => 45 | 208 => 75 | 206 => 103 | n => n, fun | 9 => 9 | 4 => 4 | 3 => 3 | n => n, fun | n => n⟩
theorem Tryz.lays101 : Go.Proofs.Lays.n101 Tryz.prog Tryz.lays101_ren := {
  mixed := by kernel_rfl
  f101 := Tryz.func45.trans (congrArg some (by kernel_rfl))
  f206 := Tryz.func103.trans (congrArg some (by kernel_rfl))
  f208 := Tryz.func75.trans (congrArg some (by kernel_rfl))
  t3 := Tryz.underlying3
  a3 := Tryz.isAgg3
  z3 := Tryz.sizeOf3
  v3 := Tryz.zeroValue3
  t4 := Tryz.underlying4
  a4 := Tryz.isAgg4
  z4 := Tryz.sizeOf4
  v4 := Tryz.zeroValue4
  t9 := Tryz.underlying9
  a9 := Tryz.isAgg9
  z9 := Tryz.sizeOf9
  v9 := Tryz.zeroValue9 }
open Go.RowKit Go.Lib in
/-- strings.TrimPrefix: "TrimPrefix returns s without the provided leading prefix string. If s doesn't start with prefix, s is returned unchanged.": IT RETURNS 'Lib.trimPrefix s prefix'; the world is as it was. (LAID: no walk: one application.) -/
theorem Tryz.strings_TrimPrefix (s p : ByteArray) (w : World) :
    Calls Tryz.prog 45 #[.string s, .string p] w fun e w' => e = .returned (.string ⟨(Lib.trimPrefix s.data.toList p.data.toList).toArray⟩) ∧ w' = w := Any.strings_TrimPrefix Tryz.lays101 s p w
def Tryz.laysM146_ren : Go.Shelf.Ren := ⟨fun | 146 => 44 | 221 => 74 | 268 => 100 | 138 => 101 | 143 => 102 | 195 => 117 | 197 => 118 | 218 => 119 | 219 => 120 | 260 => 134 | 217 => 135 | 225 => 136 | 224 => 137 | 267 => 138 | 266 => 144 | 314 => 145 | n => n, fun | 9 => 9 | 31 => 108 | 3 => 3 | 4 => 4 | 0 => 0 | 105 => 192 | 21 => 21 | 5 => 5 | 46 => 161 | 119 => 145 | 139 => 229 | 138 => 228 | 146 => 188 | 51 => 172 | n => n, fun | 1 => 3 | 3 => 6 | 4 => 7 | n => n⟩
theorem Tryz.laysM146 : Go.Proofs.LaysM.n146 Tryz.prog Tryz.laysM146_ren := {
  mixed := by kernel_rfl
  f138 := Tryz.func101.trans (congrArg some (by kernel_rfl))
  f143 := Tryz.func102.trans (congrArg some (by kernel_rfl))
  f146 := Tryz.func44.trans (congrArg some (by kernel_rfl))
  f195 := Tryz.func117.trans (congrArg some (by kernel_rfl))
  f197 := Tryz.func118.trans (congrArg some (by kernel_rfl))
  f217 := Tryz.func135.trans (congrArg some (by kernel_rfl))
  f218 := Tryz.func119.trans (congrArg some (by kernel_rfl))
  f219 := Tryz.func120.trans (congrArg some (by kernel_rfl))
  f221 := Tryz.func74.trans (congrArg some (by kernel_rfl))
  f224 := Tryz.func137.trans (congrArg some (by kernel_rfl))
  f225 := Tryz.func136.trans (congrArg some (by kernel_rfl))
  f260 := Tryz.func134.trans (congrArg some (by kernel_rfl))
  f266 := Tryz.func144.trans (congrArg some (by kernel_rfl))
  f267 := Tryz.func138.trans (congrArg some (by kernel_rfl))
  f268 := Tryz.func100.trans (congrArg some (by kernel_rfl))
  f314 := Tryz.func145.trans (congrArg some (by kernel_rfl))
  t0 := Tryz.underlying0
  a0 := Tryz.isAgg0
  z0 := Tryz.sizeOf0
  v0 := Tryz.zeroValue0
  t3 := Tryz.underlying3
  a3 := Tryz.isAgg3
  z3 := Tryz.sizeOf3
  v3 := Tryz.zeroValue3
  t4 := Tryz.underlying4
  a4 := Tryz.isAgg4
  z4 := Tryz.sizeOf4
  v4 := Tryz.zeroValue4
  t5 := Tryz.underlying5
  a5 := Tryz.isAgg5
  z5 := Tryz.sizeOf5
  v5 := Tryz.zeroValue5
  t9 := Tryz.underlying9
  a9 := Tryz.isAgg9
  z9 := Tryz.sizeOf9
  v9 := Tryz.zeroValue9
  t21 := Tryz.underlying21
  a21 := Tryz.isAgg21
  z21 := Tryz.sizeOf21
  v21 := Tryz.zeroValue21
  t31 := Tryz.underlying108
  a31 := Tryz.isAgg108
  z31 := Tryz.sizeOf108
  v31 := Tryz.zeroValue108
  t46 := Tryz.underlying161
  a46 := Tryz.isAgg161
  z46 := Tryz.sizeOf161
  v46 := Tryz.zeroValue161
  t51 := Tryz.underlying172
  a51 := Tryz.isAgg172
  z51 := Tryz.sizeOf172
  v51 := Tryz.zeroValue172
  t105 := Tryz.underlying192
  a105 := Tryz.isAgg192
  z105 := Tryz.sizeOf192
  v105 := Tryz.zeroValue192
  t119 := Tryz.underlying145
  a119 := Tryz.isAgg145
  z119 := Tryz.sizeOf145
  t138 := Tryz.underlying228
  a138 := Tryz.isAgg228
  z138 := Tryz.sizeOf228
  v138 := Tryz.zeroValue228
  t139 := Tryz.underlying229
  a139 := Tryz.isAgg229
  z139 := Tryz.sizeOf229
  v139 := Tryz.zeroValue229
  t146 := Tryz.underlying188
  a146 := Tryz.isAgg188
  z146 := Tryz.sizeOf188
  v146 := Tryz.zeroValue188
  g1 := by kernel_rfl
  g3 := by kernel_rfl
  g4 := by kernel_rfl
  i0 := by kernel_rfl
  i3 := by kernel_rfl
  i4 := by kernel_rfl
  i5 := by kernel_rfl
  i9 := by kernel_rfl
  i21 := by kernel_rfl
  i31 := by kernel_rfl
  i46 := by kernel_rfl
  i51 := by kernel_rfl
  i105 := by kernel_rfl
  i138 := by kernel_rfl
  i139 := by kernel_rfl
  i146 := by kernel_rfl
  m1 := by kernel_rfl
  s1_3 := fun w h => Go.Proofs.cell_of_shapedOpen_int (zero := #[.int .i64 0]) (t := 3) h (of_decide_eq_true (by kernel_rfl)) (by kernel_rfl) rfl (by kernel_rfl) (by kernel_rfl) Tryz.underlying3
  m3 := by kernel_rfl
  m4 := by kernel_rfl }
open Go.RowKit Go.Lib in
/-- strings.Split, sep not empty. (LAID: no walk: one application.) -/
theorem Tryz.strings_Split_shaped (s sep : ByteArray) (w : World) (h : w.ShapedOpen Tryz.prog) (hs : s.size < 4294967281) (h1 : 1 ≤ sep.size) :
    Calls Tryz.prog 44 #[.string s, .string sep] w fun e w' =>
      e = .returned (.slice (some ⟨w.heap.size, 0, none⟩) (Lib.countB s sep + 1) (Lib.countB s sep + 1)) ∧ w' = w.alloc (.cells ((Lib.splitB sep 0 (Lib.countB s sep) s).map Value.string).toArray 9) := Any.strings_Split_shaped Tryz.laysM146 s sep w h hs h1
def Tryz.laysM157_ren : Go.Shelf.Ren := ⟨fun | 157 => 46 | 229 => 76 | 199 => 77 | 261 => 104 | 311 => 121 | 312 => 122 | n => n, fun | 9 => 9 | 31 => 108 | 3 => 3 | 5 => 5 | 4 => 4 | 119 => 145 | 0 => 0 | 40 => 147 | 152 => 169 | 21 => 21 | 154 => 171 | 51 => 172 | 141 => 174 | 196 => 198 | 193 => 195 | 198 => 200 | 49 => 31 | 194 => 196 | 201 => 203 | 226 => 218 | 46 => 161 | 227 => 219 | n => n, fun | 0 => 0 | 6 => 1 | n => n⟩
theorem Tryz.laysM157 : Go.Proofs.LaysM.n157 Tryz.prog Tryz.laysM157_ren := {
  mixed := by kernel_rfl
  f157 := Tryz.func46.trans (congrArg some (by kernel_rfl))
  f199 := Tryz.func77.trans (congrArg some (by kernel_rfl))
  f229 := Tryz.func76.trans (congrArg some (by kernel_rfl))
  f261 := Tryz.func104.trans (congrArg some (by kernel_rfl))
  f311 := Tryz.func121.trans (congrArg some (by kernel_rfl))
  f312 := Tryz.func122.trans (congrArg some (by kernel_rfl))
  t0 := Tryz.underlying0
  a0 := Tryz.isAgg0
  z0 := Tryz.sizeOf0
  v0 := Tryz.zeroValue0
  t3 := Tryz.underlying3
  a3 := Tryz.isAgg3
  z3 := Tryz.sizeOf3
  v3 := Tryz.zeroValue3
  t4 := Tryz.underlying4
  a4 := Tryz.isAgg4
  z4 := Tryz.sizeOf4
  v4 := Tryz.zeroValue4
  t5 := Tryz.underlying5
  a5 := Tryz.isAgg5
  z5 := Tryz.sizeOf5
  v5 := Tryz.zeroValue5
  t9 := Tryz.underlying9
  a9 := Tryz.isAgg9
  z9 := Tryz.sizeOf9
  v9 := Tryz.zeroValue9
  t21 := Tryz.underlying21
  a21 := Tryz.isAgg21
  z21 := Tryz.sizeOf21
  v21 := Tryz.zeroValue21
  t31 := Tryz.underlying108
  a31 := Tryz.isAgg108
  z31 := Tryz.sizeOf108
  v31 := Tryz.zeroValue108
  t40 := Tryz.underlying147
  a40 := Tryz.isAgg147
  z40 := Tryz.sizeOf147
  v40 := Tryz.zeroValue147
  t46 := Tryz.underlying161
  a46 := Tryz.isAgg161
  z46 := Tryz.sizeOf161
  v46 := Tryz.zeroValue161
  t49 := Tryz.underlying31
  a49 := Tryz.isAgg31
  z49 := Tryz.sizeOf31
  v49 := Tryz.zeroValue31
  t51 := Tryz.underlying172
  a51 := Tryz.isAgg172
  z51 := Tryz.sizeOf172
  v51 := Tryz.zeroValue172
  t119 := Tryz.underlying145
  a119 := Tryz.isAgg145
  z119 := Tryz.sizeOf145
  t141 := Tryz.underlying174
  a141 := Tryz.isAgg174
  z141 := Tryz.sizeOf174
  v141 := Tryz.zeroValue174
  t152 := Tryz.underlying169
  a152 := Tryz.isAgg169
  z152 := Tryz.sizeOf169
  v152 := Tryz.zeroValue169
  t154 := Tryz.underlying171
  a154 := Tryz.isAgg171
  z154 := Tryz.sizeOf171
  v154 := Tryz.zeroValue171
  t193 := Tryz.underlying195
  a193 := Tryz.isAgg195
  z193 := Tryz.sizeOf195
  v193 := Tryz.zeroValue195
  t194 := Tryz.underlying196
  a194 := Tryz.isAgg196
  z194 := Tryz.sizeOf196
  v194 := Tryz.zeroValue196
  t196 := Tryz.underlying198
  a196 := Tryz.isAgg198
  z196 := Tryz.sizeOf198
  v196 := Tryz.zeroValue198
  t198 := Tryz.underlying200
  a198 := Tryz.isAgg200
  z198 := Tryz.sizeOf200
  v198 := Tryz.zeroValue200
  t201 := Tryz.underlying203
  a201 := Tryz.isAgg203
  z201 := Tryz.sizeOf203
  v201 := Tryz.zeroValue203
  t226 := Tryz.underlying218
  a226 := Tryz.isAgg218
  z226 := Tryz.sizeOf218
  v226 := Tryz.zeroValue218
  t227 := Tryz.underlying219
  a227 := Tryz.isAgg219
  z227 := Tryz.sizeOf219
  v227 := Tryz.zeroValue219
  g0 := by kernel_rfl
  g6 := by kernel_rfl
  i0 := by kernel_rfl
  i3 := by kernel_rfl
  i4 := by kernel_rfl
  i5 := by kernel_rfl
  i9 := by kernel_rfl
  i21 := by kernel_rfl
  i31 := by kernel_rfl
  i40 := by kernel_rfl
  i46 := by kernel_rfl
  i49 := by kernel_rfl
  i51 := by kernel_rfl
  i141 := by kernel_rfl
  i152 := by kernel_rfl
  i154 := by kernel_rfl
  i193 := by kernel_rfl
  i194 := by kernel_rfl
  i196 := by kernel_rfl
  i198 := by kernel_rfl
  i201 := by kernel_rfl
  i226 := by kernel_rfl
  i227 := by kernel_rfl
  m0 := by kernel_rfl
  m6 := by kernel_rfl }
open Go.RowKit Go.Lib in
/-- strings.Fields on ASCII bytes. (The table: 'Lib.TabIs', as strings.TrimSpace's contract asks it.) (LAID: no walk: one application.) -/
theorem Tryz.strings_Fields_laid (s : ByteArray) (w : World) (hs : s.size < 4294967281) (hascii : ∀ (j : Nat) b, s.data.toList[j]? = some b → b.toNat < 128) (htab : Lib.TabIs Tryz.prog w "strings.asciiSpace" .u8 Lib.asciiSpaceTab) :
    Calls Tryz.prog 46 #[.string s] w fun e w' =>
      e = .returned (.slice (some ⟨w.heap.size, 0, none⟩) (Lib.fields s.data.toList).length (Lib.fields s.data.toList).length) ∧ w' = w.alloc (.cells ((Lib.fields s.data.toList).map fun l => Value.string ⟨l.toArray⟩).toArray 9) := Any.strings_Fields_laid Tryz.laysM157 s w hs hascii htab
def Tryz.laysM171_ren : Go.Shelf.Ren := ⟨fun | 171 => 37 | 243 => 69 | 246 => 94 | 283 => 109 | 284 => 110 | 285 => 111 | 286 => 112 | 129 => 129 | 317 => 128 | 318 => 130 | 319 => 131 | 320 => 132 | 337 => 142 | 338 => 143 | n => n, fun | 3 => 3 | 9 => 9 | 2 => 2 | 4 => 4 | 171 => 180 | 0 => 0 | 53 => 181 | 37 => 61 | 5 => 5 | 173 => 184 | 212 => 213 | 51 => 172 | 20 => 20 | 213 => 214 | 46 => 161 | 232 => 235 | 233 => 236 | n => n, fun | 17 => 2 | 18 => 8 | 19 => 9 | n => n⟩
theorem Tryz.laysM171 : Go.Proofs.LaysM.n171 Tryz.prog Tryz.laysM171_ren := {
  mixed := by kernel_rfl
  f129 := Tryz.func129.trans (congrArg some (by kernel_rfl))
  f171 := Tryz.func37.trans (congrArg some (by kernel_rfl))
  f243 := Tryz.func69.trans (congrArg some (by kernel_rfl))
  f246 := Tryz.func94.trans (congrArg some (by kernel_rfl))
  f283 := Tryz.func109.trans (congrArg some (by kernel_rfl))
  f284 := Tryz.func110.trans (congrArg some (by kernel_rfl))
  f285 := Tryz.func111.trans (congrArg some (by kernel_rfl))
  f286 := Tryz.func112.trans (congrArg some (by kernel_rfl))
  f317 := Tryz.func128.trans (congrArg some (by kernel_rfl))
  f318 := Tryz.func130.trans (congrArg some (by kernel_rfl))
  f319 := Tryz.func131.trans (congrArg some (by kernel_rfl))
  f320 := Tryz.func132.trans (congrArg some (by kernel_rfl))
  f337 := Tryz.func142.trans (congrArg some (by kernel_rfl))
  f338 := Tryz.func143.trans (congrArg some (by kernel_rfl))
  t0 := Tryz.underlying0
  a0 := Tryz.isAgg0
  z0 := Tryz.sizeOf0
  v0 := Tryz.zeroValue0
  t2 := Tryz.underlying2
  a2 := Tryz.isAgg2
  z2 := Tryz.sizeOf2
  v2 := Tryz.zeroValue2
  t3 := Tryz.underlying3
  a3 := Tryz.isAgg3
  z3 := Tryz.sizeOf3
  v3 := Tryz.zeroValue3
  t4 := Tryz.underlying4
  a4 := Tryz.isAgg4
  z4 := Tryz.sizeOf4
  v4 := Tryz.zeroValue4
  t5 := Tryz.underlying5
  a5 := Tryz.isAgg5
  z5 := Tryz.sizeOf5
  v5 := Tryz.zeroValue5
  t9 := Tryz.underlying9
  a9 := Tryz.isAgg9
  z9 := Tryz.sizeOf9
  v9 := Tryz.zeroValue9
  t20 := Tryz.underlying20
  a20 := Tryz.isAgg20
  z20 := Tryz.sizeOf20
  v20 := Tryz.zeroValue20
  t37 := Tryz.underlying61
  a37 := Tryz.isAgg61
  z37 := Tryz.sizeOf61
  v37 := Tryz.zeroValue61
  t46 := Tryz.underlying161
  a46 := Tryz.isAgg161
  z46 := Tryz.sizeOf161
  v46 := Tryz.zeroValue161
  t51 := Tryz.underlying172
  a51 := Tryz.isAgg172
  z51 := Tryz.sizeOf172
  v51 := Tryz.zeroValue172
  t53 := Tryz.underlying181
  a53 := Tryz.isAgg181
  z53 := Tryz.sizeOf181
  v53 := Tryz.zeroValue181
  t171 := Tryz.underlying180
  a171 := Tryz.isAgg180
  z171 := Tryz.sizeOf180
  v171 := Tryz.zeroValue180
  t173 := Tryz.underlying184
  a173 := Tryz.isAgg184
  z173 := Tryz.sizeOf184
  v173 := Tryz.zeroValue184
  t212 := Tryz.underlying213
  a212 := Tryz.isAgg213
  z212 := Tryz.sizeOf213
  v212 := Tryz.zeroValue213
  t213 := Tryz.underlying214
  a213 := Tryz.isAgg214
  z213 := Tryz.sizeOf214
  t232 := Tryz.underlying235
  a232 := Tryz.isAgg235
  z232 := Tryz.sizeOf235
  v232 := Tryz.zeroValue235
  t233 := Tryz.underlying236
  a233 := Tryz.isAgg236
  z233 := Tryz.sizeOf236
  v233 := Tryz.zeroValue236
  g17 := by kernel_rfl
  g18 := by kernel_rfl
  g19 := by kernel_rfl
  i0 := by kernel_rfl
  i2 := by kernel_rfl
  i3 := by kernel_rfl
  i4 := by kernel_rfl
  i5 := by kernel_rfl
  i9 := by kernel_rfl
  i20 := by kernel_rfl
  i37 := by kernel_rfl
  i46 := by kernel_rfl
  i51 := by kernel_rfl
  i53 := by kernel_rfl
  i171 := by kernel_rfl
  i173 := by kernel_rfl
  i212 := by kernel_rfl
  i232 := by kernel_rfl
  i233 := by kernel_rfl
  m17 := by kernel_rfl
  m18 := by kernel_rfl
  m19 := by kernel_rfl }
open Go.RowKit Go.Sort Go.Lib in
/-- strconv.Itoa: "Itoa is equivalent to FormatInt(int64(i), 10).": i's DECIMAL NUMERAL ('Lib.itoa': a '-' where i is negative, then the digits), FOR EVERY int. The world behind the call: the world before it, new blocks behind the heap (the library's 'var a [24]byte'), draws. (LAID: no walk: one application.) -/
theorem Tryz.strconv_Itoa (n : Int) (h0 : -9223372036854775808 ≤ n) (h1 : n ≤ 9223372036854775807) (w : World) (htab : Lib.TabIs Tryz.prog w "internal/strconv.uint64pow10" .u64 Lib.pow10Tab) :
    Calls Tryz.prog 37 #[.int .i64 n] w fun e w' => e = .returned (.string ⟨(Lib.itoa n).toArray⟩) ∧ ∃ k os, w' = grow (w.drewN k) os := Any.strconv_Itoa Tryz.laysM171 n h0 h1 w htab
def Tryz.lays172_ren : Go.Shelf.Ren := ⟨fun | 172 => 78 | 244 => 105 | 245 => 106 | 247 => 123 | 279 => 124 | 280 => 125 | 281 => 126 | 282 => 127 | 287 => 139 | 316 => 140 | 171 => 37 | 205 => 141 | 321 => 146 | 322 => 147 | 243 => 69 | 246 => 94 | 283 => 109 | 284 => 110 | 285 => 111 | 286 => 112 | 129 => 129 | 317 => 128 | 318 => 130 | 319 => 131 | 320 => 132 | 337 => 142 | 338 => 143 | n => n, fun | 9 => 9 | 3 => 3 | 75 => 139 | 76 => 140 | 4 => 4 | 5 => 5 | 167 => 205 | 37 => 61 | 0 => 0 | 85 => 206 | 2 => 2 | 168 => 208 | 53 => 181 | 175 => 220 | 46 => 161 | 210 => 224 | 127 => 166 | 145 => 234 | 143 => 232 | 21 => 21 | 171 => 180 | 173 => 184 | 212 => 213 | 51 => 172 | 20 => 20 | 213 => 214 | 232 => 235 | 233 => 236 | 80 => 143 | n => n, fun | 15 => 4 | 16 => 5 | 17 => 2 | 18 => 8 | 19 => 9 | n => n⟩
theorem Tryz.lays172 : Go.Proofs.Lays.n172 Tryz.prog Tryz.lays172_ren := {
  mixed := by kernel_rfl
  f129 := Tryz.func129.trans (congrArg some (by kernel_rfl))
  f171 := Tryz.func37.trans (congrArg some (by kernel_rfl))
  f172 := Tryz.func78.trans (congrArg some (by kernel_rfl))
  f205 := Tryz.func141.trans (congrArg some (by kernel_rfl))
  f243 := Tryz.func69.trans (congrArg some (by kernel_rfl))
  f244 := Tryz.func105.trans (congrArg some (by kernel_rfl))
  f245 := Tryz.func106.trans (congrArg some (by kernel_rfl))
  f246 := Tryz.func94.trans (congrArg some (by kernel_rfl))
  f247 := Tryz.func123.trans (congrArg some (by kernel_rfl))
  f279 := Tryz.func124.trans (congrArg some (by kernel_rfl))
  f280 := Tryz.func125.trans (congrArg some (by kernel_rfl))
  f281 := Tryz.func126.trans (congrArg some (by kernel_rfl))
  f282 := Tryz.func127.trans (congrArg some (by kernel_rfl))
  f283 := Tryz.func109.trans (congrArg some (by kernel_rfl))
  f284 := Tryz.func110.trans (congrArg some (by kernel_rfl))
  f285 := Tryz.func111.trans (congrArg some (by kernel_rfl))
  f286 := Tryz.func112.trans (congrArg some (by kernel_rfl))
  f287 := Tryz.func139.trans (congrArg some (by kernel_rfl))
  f316 := Tryz.func140.trans (congrArg some (by kernel_rfl))
  f317 := Tryz.func128.trans (congrArg some (by kernel_rfl))
  f318 := Tryz.func130.trans (congrArg some (by kernel_rfl))
  f319 := Tryz.func131.trans (congrArg some (by kernel_rfl))
  f320 := Tryz.func132.trans (congrArg some (by kernel_rfl))
  f321 := Tryz.func146.trans (congrArg some (by kernel_rfl))
  f322 := Tryz.func147.trans (congrArg some (by kernel_rfl))
  f337 := Tryz.func142.trans (congrArg some (by kernel_rfl))
  f338 := Tryz.func143.trans (congrArg some (by kernel_rfl))
  t0 := Tryz.underlying0
  a0 := Tryz.isAgg0
  z0 := Tryz.sizeOf0
  v0 := Tryz.zeroValue0
  t2 := Tryz.underlying2
  a2 := Tryz.isAgg2
  z2 := Tryz.sizeOf2
  v2 := Tryz.zeroValue2
  t3 := Tryz.underlying3
  a3 := Tryz.isAgg3
  z3 := Tryz.sizeOf3
  v3 := Tryz.zeroValue3
  t4 := Tryz.underlying4
  a4 := Tryz.isAgg4
  z4 := Tryz.sizeOf4
  v4 := Tryz.zeroValue4
  t5 := Tryz.underlying5
  a5 := Tryz.isAgg5
  z5 := Tryz.sizeOf5
  v5 := Tryz.zeroValue5
  t9 := Tryz.underlying9
  a9 := Tryz.isAgg9
  z9 := Tryz.sizeOf9
  v9 := Tryz.zeroValue9
  t20 := Tryz.underlying20
  a20 := Tryz.isAgg20
  z20 := Tryz.sizeOf20
  v20 := Tryz.zeroValue20
  t21 := Tryz.underlying21
  a21 := Tryz.isAgg21
  z21 := Tryz.sizeOf21
  v21 := Tryz.zeroValue21
  t37 := Tryz.underlying61
  a37 := Tryz.isAgg61
  z37 := Tryz.sizeOf61
  v37 := Tryz.zeroValue61
  t46 := Tryz.underlying161
  a46 := Tryz.isAgg161
  z46 := Tryz.sizeOf161
  v46 := Tryz.zeroValue161
  t51 := Tryz.underlying172
  a51 := Tryz.isAgg172
  z51 := Tryz.sizeOf172
  v51 := Tryz.zeroValue172
  t53 := Tryz.underlying181
  a53 := Tryz.isAgg181
  z53 := Tryz.sizeOf181
  v53 := Tryz.zeroValue181
  t75 := Tryz.underlying139
  a75 := Tryz.isAgg139
  z75 := Tryz.sizeOf139
  v75 := Tryz.zeroValue139
  t76 := Tryz.underlying140
  a76 := Tryz.isAgg140
  z76 := Tryz.sizeOf140
  v76 := Tryz.zeroValue140
  t85 := Tryz.underlying206
  a85 := Tryz.isAgg206
  z85 := Tryz.sizeOf206
  v85 := Tryz.zeroValue206
  t127 := Tryz.underlying166
  a127 := Tryz.isAgg166
  z127 := Tryz.sizeOf166
  v127 := Tryz.zeroValue166
  t143 := Tryz.underlying232
  a143 := Tryz.isAgg232
  z143 := Tryz.sizeOf232
  v143 := Tryz.zeroValue232
  t145 := Tryz.underlying234
  a145 := Tryz.isAgg234
  z145 := Tryz.sizeOf234
  v145 := Tryz.zeroValue234
  t167 := Tryz.underlying205
  a167 := Tryz.isAgg205
  z167 := Tryz.sizeOf205
  v167 := Tryz.zeroValue205
  t168 := Tryz.underlying208
  a168 := Tryz.isAgg208
  z168 := Tryz.sizeOf208
  v168 := Tryz.zeroValue208
  t171 := Tryz.underlying180
  a171 := Tryz.isAgg180
  z171 := Tryz.sizeOf180
  v171 := Tryz.zeroValue180
  t173 := Tryz.underlying184
  a173 := Tryz.isAgg184
  z173 := Tryz.sizeOf184
  v173 := Tryz.zeroValue184
  t175 := Tryz.underlying220
  a175 := Tryz.isAgg220
  z175 := Tryz.sizeOf220
  v175 := Tryz.zeroValue220
  t210 := Tryz.underlying224
  a210 := Tryz.isAgg224
  z210 := Tryz.sizeOf224
  v210 := Tryz.zeroValue224
  t212 := Tryz.underlying213
  a212 := Tryz.isAgg213
  z212 := Tryz.sizeOf213
  v212 := Tryz.zeroValue213
  t213 := Tryz.underlying214
  a213 := Tryz.isAgg214
  z213 := Tryz.sizeOf214
  t232 := Tryz.underlying235
  a232 := Tryz.isAgg235
  z232 := Tryz.sizeOf235
  v232 := Tryz.zeroValue235
  t233 := Tryz.underlying236
  a233 := Tryz.isAgg236
  z233 := Tryz.sizeOf236
  v233 := Tryz.zeroValue236
  g15 := by kernel_rfl
  g16 := by kernel_rfl
  g17 := by kernel_rfl
  g18 := by kernel_rfl
  g19 := by kernel_rfl }
open Go.RowKit in
/-- strconv.Atoi: "Atoi is equivalent to ParseInt(s, 10, 0), converted to type int.": AT A DECIMAL NUMERAL OF AT MOST 18 BYTES: its value, and a nil error. The world behind the call: the one new row that the library's '[]byte(s)' lays. (LAID: no walk: one application.) -/
theorem Tryz.strconv_Atoi (s : ByteArray) (n : Int) (hl : s.size ≤ 18) (h : Lib.atoi s.data.toList = some n) (w : World) :
    Calls Tryz.prog 78 #[.string s] w fun e w' => e = .returned (.tuple #[.int .i64 n, .nilIface]) ∧ ∃ t, w' = Lib.bytesWorld w 5 t := Any.strconv_Atoi Tryz.lays172 s n hl h w
open Go.RowKit in
theorem Tryz.Builder_WriteString_k (B b : Nat) (bs : List Value) (s : ByteArray) (w : World) (h : Lib.IsBuilderF 137 5 B b bs w) (hlen : bs.length + s.size ≤ 140737488355328) (hBw : B ≤ w.heap.size) :
    Calls Tryz.prog 70 #[.pointer (some ⟨b, 0, none⟩), .string s] w fun e w' => e = .returned (.tuple #[.int .i64 s.size, .nilIface]) ∧ (Lib.BuilderAtF 137 5 B b (.pointer (some ⟨b, 0, none⟩)) (bs ++ Lib.strCells s) w' ∧ Below B w w' ∧ Lib.OthersKept 5 (some b) w w') := Any.Builder_WriteString_k { Tryz.lays105 with } Tryz.Builder_Extra_105 B b bs s w h hlen hBw
end Go.Proofs

/-
  Layer 9: names of rows, and the ship.
-/
namespace Go.Proofs.YtamnnjdfjffhlaaGreatDoor
open Go.RowKit Bal Bal.Trim Bal.Sheet
set_option linter.unusedVariables false
set_option linter.unusedSimpArgs false
set_option maxHeartbeats 4000000
set_option maxRecDepth 100000

theorem f_capital (i : Int) (b : Int) (w : World) : Calls Tryz.prog 89 #[.int .i64 i, .int .u8 b] w fun e w' => e = .returned (.bool (decide (65 ≤ b) && decide (b ≤ 90))) ∧ w = w' := by
  go_enter Tryz.func89, Tryz.ntmps89
  by_cases h1 : 65 ≤ b
  · have d1 : decide (65 ≤ b) = true := by simp [h1]
    go_wp2
    go_ret
    exact ⟨ret_bool (by simp [h1]), rfl⟩
  · have d1 : decide (65 ≤ b) = false := by simp; omega
    go_wp2
    go_ret
    exact ⟨ret_bool (by simp [h1]), rfl⟩

theorem f_withinL (n lo hi : Int) (w : World) : Calls Tryz.prog 107 #[.int .i64 n, .int .i64 lo, .int .i64 hi] w fun e w' => e = .returned (.bool (decide (lo ≤ n) && decide (n ≤ hi))) ∧ w = w' := by
  go_enter Tryz.func107, Tryz.ntmps107
  by_cases h1 : lo ≤ n
  · have d1 : decide (lo ≤ n) = true := by simp [h1]
    go_wp2
    go_ret
    exact ⟨ret_bool (by simp [h1]), rfl⟩
  · have d1 : decide (lo ≤ n) = false := by simp; omega
    go_wp2
    go_ret
    exact ⟨ret_bool (by simp [h1]), rfl⟩

theorem i64_w {n : Int} (h : -9223372036854775808 ≤ n ∧ n ≤ 9223372036854775807) : IntKind.i64.wrap n = n := by rw [IntKind.wrap_i64]; omega
theorem str_get (s : Bs) (k : Nat) (hp : k < (str s).size) : (str s)[k]'hp = s[k]'(by rw [← str_size]; exact hp) := by
  simp [str, ByteArray.getElem_eq_getElem_data]
def cap (b : UInt8) : Bool := 65 ≤ b.toNat && b.toNat ≤ 90
theorem cap_int {b : UInt8} (h : cap b = true) : 65 ≤ (b.toNat : Int) ∧ (b.toNat : Int) ≤ 90 := by
  simp only [cap, Bool.and_eq_true, decide_eq_true_eq] at h
  omega
/-- a byte that a row's name may have, as the program asks it -/
theorem nb_int {b : UInt8} (h : nb b = true) : (65 ≤ (b.toNat : Int) ∧ (b.toNat : Int) ≤ 90) ∨ (97 ≤ (b.toNat : Int) ∧ (b.toNat : Int) ≤ 122) ∨ (48 ≤ (b.toNat : Int) ∧ (b.toNat : Int) ≤ 57) ∨ (b.toNat : Int) = 45 := by
  simp only [nb, Bool.or_eq_true, Bool.and_eq_true, decide_eq_true_eq, beq_iff_eq] at h
  omega

theorem f_nameByte (i b : Int) (w : World) (h : (65 ≤ b ∧ b ≤ 90) ∨ (97 ≤ b ∧ b ≤ 122) ∨ (48 ≤ b ∧ b ≤ 57) ∨ b = 45) : Calls Tryz.prog 90 #[.int .i64 i, .int .u8 b] w fun e w' => e = .returned (.bool true) ∧ w = w' := by
  go_enter Tryz.func90, Tryz.ntmps90
  rcases h with h | h | h | h
  · have hcap : (decide (65 ≤ b) && decide (b ≤ 90)) = true := by simp; omega
    go_wp2_with (go_at_call 89; (with_reducible refine (f_capital _ _ _).mono ?_); rw [hcap]; rintro e w1 ⟨rfl, rfl⟩)
    go_ret
    exact ⟨rfl, rfl⟩
  · have hcap : (decide (65 ≤ b) && decide (b ≤ 90)) = false := by simp; omega
    have d1 : decide (97 ≤ b) = true := by simp; omega
    have d2 : decide (b ≤ 122) = true := by simp; omega
    go_wp2_with (go_at_call 89; (with_reducible refine (f_capital _ _ _).mono ?_); rw [hcap]; rintro e w1 ⟨rfl, rfl⟩)
    go_ret
    exact ⟨rfl, rfl⟩
  · have hcap : (decide (65 ≤ b) && decide (b ≤ 90)) = false := by simp; omega
    have d1 : decide (97 ≤ b) = false := by simp; omega
    have d2 : decide (48 ≤ b) = true := by simp; omega
    have d3 : decide (b ≤ 57) = true := by simp; omega
    go_wp2_with (go_at_call 89; (with_reducible refine (f_capital _ _ _).mono ?_); rw [hcap]; rintro e w1 ⟨rfl, rfl⟩)
    go_ret
    exact ⟨rfl, rfl⟩
  · subst h
    have hcap : (decide ((65 : Int) ≤ 45) && decide ((45 : Int) ≤ 90)) = false := by decide
    go_wp2_with (go_at_call 89; (with_reducible refine (f_capital _ _ _).mono ?_); rw [hcap]; rintro e w1 ⟨rfl, rfl⟩)
    go_ret
    exact ⟨rfl, rfl⟩

theorem f_shipByte (i b : Int) (w : World) (h : 65 ≤ b ∧ b ≤ 90) : Calls Tryz.prog 88 #[.int .i64 i, .int .u8 b] w fun e w' => e = .returned (.bool true) ∧ w = w' := by
  go_enter Tryz.func88, Tryz.ntmps88
  have hcap : (decide (65 ≤ b) && decide (b ≤ 90)) = true := by simp; omega
  go_wp2_with (go_at_call 89; (with_reducible refine (f_capital _ _ _).mono ?_); rw [hcap]; rintro e w1 ⟨rfl, rfl⟩)
  go_ret
  exact ⟨rfl, rfl⟩

theorem f_madeName (s : Bs) (w : World) (h : ∀ k (hk : k < s.length), nb s[k] = true) (h1 : 1 ≤ s.length) (h2 : s.length ≤ 12) : Calls Tryz.prog 87 #[.string (str s), .int .i64 12, .func (.func 90) #[] #[]] w fun e w' => e = .returned (.bool true) ∧ Kept w w' := by
  have HB := Lib.hid h
  clear h
  have hz : (str s).size = s.length := str_size s
  go_enter Tryz.func87, Tryz.ntmps87
  go_wp2
  go_loopw [10] (fun i wr => ∃ k : Nat, k ≤ s.length ∧ i = .int .i64 k ∧ Kept w wr) (fun i _ => s.length - (intOf i).toNat)
  case atStart => exact ⟨0, Nat.zero_le _, rfl, Below.refl _ _⟩
  case round =>
    obtain ⟨k, hkl, rfl, hkw⟩ := hrel
    by_cases hk : k < s.length
    · have d1 : decide ((k : Int) < (s.length : Int)) = true := by simp; omega
      have wk := i64_w (n := (k : Int) + 1) (by omega)
      have i0 : (0 : Int) ≤ (k : Int) := by omega
      have i1 : (k : Int) < (s.length : Int) := by omega
      have hb : ∀ hp : k < (str s).size, (str s)[k]'hp = s[k] := fun hp => str_get s k hp
      go_wp2_with (go_at_call 90; (with_reducible refine (f_nameByte _ _ _ ?_).mono ?_); (focus ((try rw [hb]); exact nb_int (HB.out k hk))); rintro e w1 ⟨rfl, rfl⟩)
      go_round
      case rel => exact ⟨k + 1, by omega, by go_num, hkw⟩
      case measure => simp [intOf]; omega
    · obtain rfl : k = s.length := by omega
      have d1 : decide ((s.length : Int) < (s.length : Int)) = false := by simp
      go_wp2_with (go_at_call 107; (with_reducible refine (f_withinL _ _ _ _).mono ?_); rw [show (decide ((1 : Int) ≤ (s.length : Int)) && decide ((s.length : Int) ≤ 12)) = true by simp; omega]; rintro e w1 ⟨rfl, rfl⟩)
      go_ret
      exact ⟨rfl, hkw⟩

theorem f_madeShip (s : Bs) (w : World) (h : ∀ k (hk : k < s.length), cap s[k] = true) (h1 : 1 ≤ s.length) (h2 : s.length ≤ 8) : Calls Tryz.prog 87 #[.string (str s), .int .i64 8, .func (.func 88) #[] #[]] w fun e w' => e = .returned (.bool true) ∧ Kept w w' := by
  have HB := Lib.hid h
  clear h
  have hz : (str s).size = s.length := str_size s
  go_enter Tryz.func87, Tryz.ntmps87
  go_wp2
  go_loopw [10] (fun i wr => ∃ k : Nat, k ≤ s.length ∧ i = .int .i64 k ∧ Kept w wr) (fun i _ => s.length - (intOf i).toNat)
  case atStart => exact ⟨0, Nat.zero_le _, rfl, Below.refl _ _⟩
  case round =>
    obtain ⟨k, hkl, rfl, hkw⟩ := hrel
    by_cases hk : k < s.length
    · have d1 : decide ((k : Int) < (s.length : Int)) = true := by simp; omega
      have wk := i64_w (n := (k : Int) + 1) (by omega)
      have i0 : (0 : Int) ≤ (k : Int) := by omega
      have i1 : (k : Int) < (s.length : Int) := by omega
      have hb : ∀ hp : k < (str s).size, (str s)[k]'hp = s[k] := fun hp => str_get s k hp
      go_wp2_with (go_at_call 88; (with_reducible refine (f_shipByte _ _ _ ?_).mono ?_); (focus ((try rw [hb]); exact cap_int (HB.out k hk))); rintro e w1 ⟨rfl, rfl⟩)
      go_round
      case rel => exact ⟨k + 1, by omega, by go_num, hkw⟩
      case measure => simp [intOf]; omega
    · obtain rfl : k = s.length := by omega
      have d1 : decide ((s.length : Int) < (s.length : Int)) = false := by simp
      go_wp2_with (go_at_call 107; (with_reducible refine (f_withinL _ _ _ _).mono ?_); rw [show (decide ((1 : Int) ≤ (s.length : Int)) && decide ((s.length : Int) ≤ 8)) = true by simp; omega]; rintro e w1 ⟨rfl, rfl⟩)
      go_ret
      exact ⟨rfl, hkw⟩

theorem f_named (s : Bs) (w : World) (h : nameB s = true) : Calls Tryz.prog 64 #[.string (str s)] w fun e w' => e = .returned (.bool true) ∧ Kept w w' := by
  simp only [nameB, Bool.and_eq_true, decide_eq_true_eq, List.all_eq_true] at h
  have HB := Lib.hid (fun k (hk : k < s.length) => h.1 s[k] (List.getElem_mem hk))
  obtain ⟨_, h1, h2⟩ := h
  go_enter Tryz.func64, Tryz.ntmps64
  go_wp2_with (go_at_call 87; (with_reducible refine (f_madeName s _ HB.out h1 h2).mono ?_); rintro e w1 ⟨rfl, hb1⟩)
  go_ret
  exact ⟨rfl, hb1⟩

theorem f_shipLZ (w : World) : Calls Tryz.prog 63 #[.string (str lzW)] w fun e w' => e = .returned (.bool true) ∧ Kept w w' := by
  have hs : ∀ k (hk : k < lzW.length), cap lzW[k] = true := by unfold lzW; decide
  go_enter Tryz.func63, Tryz.ntmps63
  go_wp2_with (go_at_call 87; (with_reducible refine (f_madeShip lzW _ hs (by decide) (by decide)).mono ?_); rintro e w1 ⟨rfl, hb1⟩)
  go_ret
  exact ⟨rfl, hb1⟩

end Go.Proofs.YtamnnjdfjffhlaaGreatDoor

/-
  The library's contracts in the words of this proof: what they ask of the world, and that it stays.
-/
namespace Go.Proofs.YtamnnjdfjffhlaaGreatDoor
open Go.RowKit Bal Bal.Trim Bal.Sheet
set_option linter.unusedVariables false
set_option linter.unusedSimpArgs false
/-- the variables of the library that are read -/
structure Tabs (w : World) : Prop where
  pow : Lib.TabIs Tryz.prog w "internal/strconv.uint64pow10" .u64 Lib.pow10Tab
  sps : Lib.TabIs Tryz.prog w "strings.asciiSpace" .u8 Lib.asciiSpaceTab
  mx : ∃ m, w.cell? ⟨3, 0, none⟩ = some (.int .i64 m)
theorem var_kept {w w' : World} {n : String} {cs : Array Value} (h : w.var? Tryz.prog n = some cs) (hb : Kept w w') : w'.var? Tryz.prog n = some cs := by
  unfold World.var? at *
  cases hg : Tryz.prog.globalNamed n with
  | none => rw [hg] at h; cases h
  | some g =>
    rw [hg] at h
    simp only [Option.bind_some] at h ⊢
    have hl : g < w.heap.size := by
      rcases Nat.lt_or_ge g w.heap.size with h1 | h1
      · exact h1
      · rw [Array.getElem?_eq_none (by omega)] at h; cases h
    rw [hb.block g hl]
    exact h
theorem Tabs.keep {w w' : World} (h : Tabs w) (hb : Kept w w') : Tabs w' := by
  refine ⟨var_kept h.pow hb, var_kept h.sps hb, ?_⟩
  obtain ⟨m, hm⟩ := h.mx
  refine ⟨m, ?_⟩
  have hl := World.block_lt_of_cell? _ _ hm
  rw [hb.cell (p := ⟨3, 0, none⟩) hl]
  exact hm
theorem kept_grow (w : World) (q : Nat) (os : Array Obj) : Kept w (Go.Sort.grow (w.drewN q) os) :=
  ⟨rfl, rfl, rfl, by first | (simp [Go.Sort.grow]; done) | (simp [Go.Sort.grow]; omega), fun i hi => by
    show ((w.drewN q).heap ++ os)[i]? = _
    rw [Array.getElem?_append_left (by show i < w.heap.size; omega)]
    rfl⟩
theorem l_Itoa (n : Int) (w : World) (h0 : -9223372036854775808 ≤ n) (h1 : n ≤ 9223372036854775807) (ht : Tabs w) : Calls Tryz.prog 37 #[.int .i64 n] w fun e w' => e = .returned (.string (str (Lib.itoa n))) ∧ Kept w w' := by
  refine (Tryz.strconv_Itoa n h0 h1 w ht.pow).mono ?_
  rintro e w' ⟨he, k, os, rfl⟩
  exact ⟨he, kept_grow w k os⟩
theorem l_Atoi (s : Bs) (n : Int) (w : World) (hl : s.length ≤ 18) (h : Lib.atoi s = some n) : Calls Tryz.prog 78 #[.string (str s)] w fun e w' => e = .returned (.tuple #[.int .i64 n, .nilIface]) ∧ Kept w w' := by
  refine (Tryz.strconv_Atoi (str s) n (by rw [str_size]; exact hl) (by rw [str_list]; exact h) w).mono ?_
  rintro e w' ⟨he, t, rfl⟩
  exact ⟨he, ⟨rfl, rfl, rfl, by rw [Lib.bytesWorld_size]; omega, fun k hk => Lib.bytesWorld_at_old _ _ _ k hk⟩⟩
theorem l_Repeat (n : Nat) (w : World) (h : n ≤ 1000) : Calls Tryz.prog 71 #[.string { data := #[32] }, .int .i64 n] w fun e w' => e = .returned (.string (str (sp n))) ∧ Kept w w' := by
  refine (Tryz.strings_Repeat (str [32]) n w (by omega) (by rw [str_size]; simp; omega)).mono ?_
  rintro e w' ⟨he, hb⟩
  rw [str_list] at he
  exact ⟨he, hb⟩
theorem l_TrimPrefix (s p : Bs) (w : World) : Calls Tryz.prog 45 #[.string (str s), .string (str p)] w fun e w' => e = .returned (.string (str (Lib.trimPrefix s p))) ∧ w = w' := by
  refine (Tryz.strings_TrimPrefix (str s) (str p) w).mono ?_
  rintro e w' ⟨he, rfl⟩
  rw [str_list, str_list] at he
  exact ⟨he, rfl⟩
theorem l_Split (ps : List Bs) (w : World) (hp : ∀ p ∈ ps, (10 : UInt8) ∉ p) (hs : (joined ps []).length ≤ 100000) (ht : Tabs w) :
    Calls Tryz.prog 44 #[.string (str (joined ps [])), .string (str [10])] w fun e w' => e = .returned (.slice (some ⟨w.heap.size, 0, none⟩) (ps.length + 1) (ps.length + 1)) ∧ w' = w.alloc (.cells ((ps ++ [[]]).map fun l => Value.string (str l)).toArray 9) := by
  obtain ⟨m, hm⟩ := ht.mx
  obtain ⟨h1, h2⟩ := split_lines ps [] hp (by simp)
  refine (Any.strings_Split { Tryz.laysM146 with } Tryz.laysM146.i9 (str (joined ps [])) (str [10]) m w (by rw [str_size]; omega) hm (by rw [str_size]; simp)).mono ?_
  rintro e w' ⟨he, hw⟩
  rw [h1] at he
  rw [h1, h2] at hw
  refine ⟨he, ?_⟩
  rw [hw]
  congr 1
  rw [List.map_map]
  rfl
theorem l_Fields (s : Bs) (w : World) (hs : s.length ≤ 100000) (ha : ∀ b ∈ s, b.toNat < 128) (ht : Tabs w) :
    Calls Tryz.prog 46 #[.string (str s)] w fun e w' => e = .returned (.slice (some ⟨w.heap.size, 0, none⟩) (Lib.fields s).length (Lib.fields s).length) ∧ w' = w.alloc (.cells ((Lib.fields s).map fun l => Value.string (str l)).toArray 9) := by
  have h := Tryz.strings_Fields_laid (str s) w (by rw [str_size]; omega) (by rw [str_list]; exact fun j b hb => ha b (List.mem_of_getElem? hb)) ht.sps
  rw [str_list] at h
  exact h
/-- a builder of the call's own that holds these bytes -/
def Bld (B b : Nat) (l : Bs) (w : World) : Prop := Lib.IsBuilderF 137 5 B b (Lib.byteCells l) w
theorem Bld.keep {B b : Nat} {l : Bs} {w w' : World} (h : Bld B b l w) (hb : Kept w w') : Bld B b l w' := by
  have one : ∀ p, Lib.BuilderAtF 137 5 B b p (Lib.byteCells l) w → Lib.BuilderAtF 137 5 B b p (Lib.byteCells l) w' := by
    intro p hp
    have hl := hp.lt
    obtain ⟨h1, v, h2, h3, h4⟩ := hp
    exact ⟨h1, v, by rw [hb.block b hl]; exact h2, h3.kept (row := none) ⟨hb.os, hb.tape, hb.output, hb.size, fun k hk _ => hb.block k hk⟩ (by cases v.ownBlock <;> simp), h4⟩
  exact h.elim (fun x => .inl (one _ x)) (fun x => .inr (one _ x))
theorem Bld.fresh (w : World) : Bld w.heap.size w.heap.size [] (w.alloc (.cells #[.pointer none, .slice none 0 0] 137)) := Lib.IsBuilderF.of (Lib.fresh_isBuilder _ _ w)
theorem Bld.lt {B b : Nat} {l : Bs} {w : World} (h : Bld B b l w) : b < w.heap.size := h.elim (fun x => x.lt) (fun x => x.lt)
theorem kept_others {w w' : World} (h : Kept w w') (e : TypeId) (b : Option Nat) : Lib.OthersKept e b w w' := by
  intro k o hk _ _
  have hl : k < w.heap.size := by
    rcases Nat.lt_or_ge k w.heap.size with h1 | h1
    · exact h1
    · rw [Array.getElem?_eq_none (by omega)] at hk; cases hk
  rw [h.block k hl]
  exact hk
theorem l_WriteString (B b : Nat) (l s : Bs) (w : World) (h : Bld B b l w) (hl : l.length + s.length ≤ 100000) (hB : B ≤ w.heap.size) :
    Calls Tryz.prog 70 #[.pointer (some ⟨b, 0, none⟩), .string (str s)] w fun e w' => e = .returned (.tuple #[.int .i64 s.length, .nilIface]) ∧ Bld B b (l ++ s) w' ∧ Below B w w' ∧ Lib.OthersKept 5 (some b) w w' := by
  refine (Tryz.Builder_WriteString_k B b (Lib.byteCells l) (str s) w h (by rw [str_size]; simp [Lib.byteCells]; omega) hB).mono ?_
  rintro e w' ⟨he, h1, h2, h3⟩
  rw [str_size] at he
  refine ⟨he, .inr ?_, h2, h3⟩
  have e1 : Lib.byteCells l ++ Lib.strCells (str s) = Lib.byteCells (l ++ s) := by simp [Lib.byteCells, Lib.strCells, str_list]
  rw [← e1]
  exact h1
theorem l_WriteNl (B b : Nat) (l : Bs) (w : World) (h : Bld B b l w) (hl : l.length + 1 ≤ 100000) (hB : B ≤ w.heap.size) :
    Calls Tryz.prog 70 #[.pointer (some ⟨b, 0, none⟩), .string { data := #[10] }] w fun e w' => e = .returned (.tuple #[.int .i64 1, .nilIface]) ∧ Bld B b (l ++ [10]) w' ∧ Below B w w' ∧ Lib.OthersKept 5 (some b) w w' := l_WriteString B b l [10] w h hl hB
theorem l_String (B b : Nat) (l : Bs) (w : World) (h : Bld B b l w) (hB : B ≤ w.heap.size) :
    Calls Tryz.prog 72 #[.pointer (some ⟨b, 0, none⟩)] w fun e w' => e = .returned (.string (str l)) ∧ Below B w w' := by
  refine (Tryz.Builder_String_any_k B b l w h hB).mono ?_
  rintro e w' ⟨he, _, hb, _⟩
  exact ⟨he, hb⟩
end Go.Proofs.YtamnnjdfjffhlaaGreatDoor

/-
  A long tactic laid once. No program in sight.
-/
namespace Bal.Sheet
open Go Go.RowKit Bal Bal.Trim
theorem blkx {w : World} {b : Nat} {arr : Array Value} {t : TypeId} (h : Blk w b arr t := by (refine Blk.cast (arr := ?_) ?_ ?_; rotate_left 1; (focus (repeat (first | with_reducible assumption | ((with_reducible refine Blk.new' ?_); first | with_reducible rfl | (simp; done) | (simp [World.drew]; done)) | with_reducible refine Blk.alloc ?_ _ | ((with_reducible refine Blk.set (arr := ?_) ?_ _ _); rotate_left 1) | ((with_reducible refine Blk.other ?_ ?_ _); rotate_left 1; (focus (first | (simp; done) | (simp; omega) | (refine Nat.ne_of_gt (Blk.lt (arr := ?_) (t := ?_) ?_); rotate_left 2; focus (repeat (first | with_reducible assumption | ((with_reducible refine Blk.new' ?_); first | with_reducible rfl | (simp; done) | (simp [World.drew]; done)) | with_reducible refine Blk.alloc ?_ _ | with_reducible refine Blk.keep ?_ (by with_reducible assumption) | with_reducible refine Blk.drew ?_))) | (refine Nat.ne_of_lt (Blk.lt (arr := ?_) (t := ?_) ?_); rotate_left 2; focus (repeat (first | with_reducible assumption | ((with_reducible refine Blk.new' ?_); first | with_reducible rfl | (simp; done) | (simp [World.drew]; done)) | with_reducible refine Blk.alloc ?_ _ | with_reducible refine Blk.keep ?_ (by with_reducible assumption) | with_reducible refine Blk.drew ?_))))); rotate_right 1) | with_reducible refine Blk.keep ?_ (by with_reducible assumption) | with_reducible refine Blk.drew ?_))); (first | rfl | (simp; done)))) : Blk w b arr t := h
theorem blkd {w : World} {b : Nat} {arr : Array Value} {t : TypeId} (h : Blk w b arr t := by (refine Blk.cast (arr := ?_) ?_ ?_; rotate_left 1; (focus (repeat (first | with_reducible assumption | ((with_reducible refine Blk.new' ?_); first | with_reducible rfl | (simp; done) | (simp [World.drew]; done)) | with_reducible refine Blk.alloc ?_ _ | ((with_reducible refine Blk.set (arr := ?_) ?_ _ _); rotate_left 1) | ((with_reducible refine Blk.other ?_ ?_ _); rotate_left 1; (focus (first | (simp; done) | (simp; omega) | (refine Nat.ne_of_gt (Blk.lt (arr := ?_) (t := ?_) ?_); rotate_left 2; focus (repeat (first | with_reducible assumption | ((with_reducible refine Blk.new' ?_); first | with_reducible rfl | (simp; done) | (simp [World.drew]; done)) | with_reducible refine Blk.alloc ?_ _ | with_reducible refine Blk.keep ?_ (by with_reducible assumption) | with_reducible refine Blk.drew ?_))) | (refine Nat.ne_of_lt (Blk.lt (arr := ?_) (t := ?_) ?_); rotate_left 2; focus (repeat (first | with_reducible assumption | ((with_reducible refine Blk.new' ?_); first | with_reducible rfl | (simp; done) | (simp [World.drew]; done)) | with_reducible refine Blk.alloc ?_ _ | with_reducible refine Blk.keep ?_ (by with_reducible assumption) | with_reducible refine Blk.drew ?_)))))) | with_reducible refine Blk.keep ?_ (by with_reducible assumption) | with_reducible refine Blk.drew ?_))); (first | with_reducible rfl | (simp; done) | rfl))) : Blk w b arr t := h
theorem kpta {w w' : World} (h : Kept w w' := by (repeat (first | with_reducible exact Below.refl _ _ | with_reducible assumption | with_reducible refine Kept.drop ?_ (by with_reducible assumption) | with_reducible refine Kept.alloc ?_ _ | ((with_reducible refine Below.setCell ?_ ?_ _); rotate_left 1; (focus (first | exact Nat.le_refl _ | (simp; done) | (simp; omega) | exact Below.size (by with_reducible assumption) | (refine Nat.le_trans (Kept.size ?_) (Nat.le_succ _); (focus (repeat (first | with_reducible exact Below.refl _ _ | with_reducible assumption | with_reducible refine Kept.drop ?_ (by with_reducible assumption) | with_reducible refine Kept.alloc ?_ _ | with_reducible refine Below.drew ?_)))) | (refine Kept.size ?_; (repeat (first | with_reducible exact Below.refl _ _ | with_reducible assumption | with_reducible refine Kept.drop ?_ (by with_reducible assumption) | with_reducible refine Kept.alloc ?_ _ | with_reducible refine Below.drew ?_)))))) | with_reducible refine Below.drew ?_))) : Kept w w' := h
theorem at_worldQ {Q : Exit → Act → World → Prop} {e : Exit} {a : Act} {S : World → Prop} {W : World} (h : S W) (k : ∀ W, S W → Q e a W) : Q e a W := k W h
theorem info_partsW {P : Program} {e : TypeId} {z : Value} {s b : Nat} (h : (P.info? e).map (fun i => (i.zero, i.size, i.bytes)) = some (some z, s, b)) : ∃ i, P.info? e = some i ∧ i.zero = some z ∧ i.size = s ∧ i.bytes = b := by
  cases hi : P.info? e with
  | none => rw [hi] at h; cases h
  | some i =>
    rw [hi] at h
    simp only [Option.map_some, Option.some.injEq, Prod.mk.injEq] at h
    exact ⟨i, rfl, h.1, h.2.1, h.2.2⟩
theorem owns_shapeW {w : World} {base k n : Nat} {e : TypeId} {v : Value} {xs : List Value} (h : w.ownsRow base e k v n xs) : ∃ ad cp, v = .slice ad n cp := by
  obtain ⟨_, ⟨rfl, rfl⟩ | ⟨g, cap, cur, rfl, _⟩⟩ := h
  · exact ⟨none, 0, rfl⟩
  · exact ⟨_, _, rfl⟩
theorem cells_atW {w : World} {n : Nat} (h : n = w.heap.size) (l : List Value) (t : TypeId) : ∀ j u, l[j]? = some u → (w.alloc (.cells l.toArray t)).cell? ((⟨n, 0, none⟩ : Addr).add j) = some u := by
  intro j u hj
  subst h
  have e : (⟨w.heap.size, 0, none⟩ : Addr).add j = ⟨w.heap.size, j, none⟩ := by unfold Addr.add; split <;> simp_all
  rw [e, (Blk.new (w := w) (arr := l.toArray) (t := t)).cell]
  simpa using hj
section
variable {g : Nat} {w w' : World}
/-- nothing but block g has changed -/
structure But (g : Nat) (w w' : World) : Prop where
  below : Below g w w'
  size : w.heap.size ≤ w'.heap.size
  block : ∀ b, b < w.heap.size → b ≠ g → w'.heap[b]? = w.heap[b]?
theorem But.refl (g : Nat) (w : World) : But g w w := ⟨Below.refl _ _, Nat.le_refl _, fun _ _ _ => rfl⟩
theorem But.trans {w'' : World} (h : But g w w') (k : But g w' w'') : But g w w'' :=
  ⟨h.below.trans k.below, Nat.le_trans h.size k.size, fun b hb hg => (k.block b (Nat.lt_of_lt_of_le hb h.size) hg).trans (h.block b hb hg)⟩
theorem But.kept (h : Kept w w') (hg : g ≤ w.heap.size) : But g w w' := ⟨h.mono hg, h.size, fun b hb _ => h.block b hb⟩
theorem But.blk (h : But g w w') {b : Nat} {arr : Array Value} {t : TypeId} (hb : Blk w b arr t) (hne : b ≠ g) : Blk w' b arr t := by
  have := hb.lt
  unfold Blk at *
  rw [h.block b this hne]
  exact hb
theorem But.row {α : Type} {enc : α → List Value} {k : Nat} (h : But g w w') {b o : Nat} {xs : List α} (hr : Row enc k w.heap.size w (some ⟨b, o, none⟩) xs) (hne : b ≠ g) : Row enc k w'.heap.size w' (some ⟨b, o, none⟩) xs := by
  intro i x hx
  obtain ⟨b', off, ha, hlt, hc⟩ := hr i x hx
  cases ha
  refine ⟨_, _, rfl, Nat.lt_of_lt_of_le hlt h.size, fun j v hj => ?_⟩
  have := h.block _ hlt hne
  rw [← hc j v hj]
  simp [World.cell?, this]
theorem But.set (h : But g w w') (i : Nat) (u : Value) : But g w (w'.setCell ⟨g, i, none⟩ u) :=
  ⟨Below.setCell h.below (Nat.le_refl _) _, by simpa using h.size, fun b hb hg => by rw [Below.heap_setCell _ _ _ _ hg]; exact h.block b hb hg⟩
theorem But.drew (h : But g w w') : But g w w'.drew := ⟨h.below.drew, h.size, fun b hb hg => h.block b hb hg⟩
theorem But.alloc (h : But g w w') (hg : g ≤ w.heap.size) (o : Obj) : But g w (w'.alloc o) := h.trans (But.kept ((Below.refl _ _).alloc (Nat.le_refl _) o) (Nat.le_trans hg h.size))
theorem But.drop {w'' : World} (h : But g w w') (hg : g ≤ w.heap.size) (k : Kept w' w'') : But g w w'' := h.trans (But.kept k (Nat.le_trans hg h.size))
theorem But.under {w0 : World} (h0 : Kept w0 w) (h : But g w w') (hg : w0.heap.size ≤ g) : Kept w0 w' := h0.trans (h.below.mono hg)
end
theorem butt {g : Nat} {w w' : World} (h : But g w w' := by (repeat (first | with_reducible assumption | with_reducible exact But.refl _ _ | with_reducible refine But.drew ?_ | with_reducible refine But.set ?_ _ _))) : But g w w' := h
theorem butq {g : Nat} {w w' : World} (h : But g w w' := by (repeat (first | with_reducible assumption | with_reducible exact But.refl _ _ | with_reducible refine But.drew ?_ | with_reducible refine But.set ?_ _ _ | with_reducible refine But.alloc ?_ (by with_reducible assumption) _))) : But g w w' := h
/-- the cells of a row of a sheet -/
def SRow.cells (x : SRow) : List Value := [.string (str x.name), .int .i64 x.ld.alo, .int .i64 x.ld.ahi, .int .i64 x.ld.wlo, .int .i64 x.ld.whi]
theorem SRow.row {B : Nat} {w : World} {a : Option Addr} {xs : List SRow} (h : Row SRow.cells 5 B w a xs) (i : Nat) (hi : i < xs.length) :
    ∃ b off, a = some ⟨b, off, none⟩ ∧ b < B ∧ w.cell? ⟨b, off + i * 5, none⟩ = some (.string (str xs[i].name)) ∧ w.cell? ⟨b, off + i * 5 + 1, none⟩ = some (.int .i64 xs[i].ld.alo) ∧ w.cell? ⟨b, off + i * 5 + 2, none⟩ = some (.int .i64 xs[i].ld.ahi) ∧ w.cell? ⟨b, off + i * 5 + 3, none⟩ = some (.int .i64 xs[i].ld.wlo) ∧ w.cell? ⟨b, off + i * 5 + 4, none⟩ = some (.int .i64 xs[i].ld.whi) := by
  obtain ⟨b, off, ha, hb, hc⟩ := h i xs[i] (by simp [hi])
  exact ⟨b, off, ha, hb, hc 0 _ rfl, hc 1 _ rfl, hc 2 _ rfl, hc 3 _ rfl, hc 4 _ rfl⟩
theorem flat_next {α : Type} (enc : α → List Value) (l : List α) {k : Nat} (h : k < l.length) : (l.take (k + 1)).flatMap enc = (l.take k).flatMap enc ++ enc l[k] := by
  rw [List.take_succ_eq_append_getElem h, List.flatMap_append, List.flatMap_cons, List.flatMap_nil, List.append_nil]
theorem flat_line (w : Nat → Nat) {l : List (List Bs)} {k : Nat} (h : k < l.length) : (l.take (k + 1)).flatMap (line w) = (l.take k).flatMap (line w) ++ line w l[k] := by
  rw [List.take_succ_eq_append_getElem h, List.flatMap_append, List.flatMap_cons, List.flatMap_nil, List.append_nil]
/-- five numbers, five words -/
def nat5 (f : Nat → Nat) : Array Value := #[.int .i64 (f 0 : Int), .int .i64 (f 1 : Int), .int .i64 (f 2 : Int), .int .i64 (f 3 : Int), .int .i64 (f 4 : Int)]
def word5 (r : List Bs) : List Value := [.string (str (r.getD 0 [])), .string (str (r.getD 1 [])), .string (str (r.getD 2 [])), .string (str (r.getD 3 [])), .string (str (r.getD 4 []))]
theorem nat5_get (f : Nat → Nat) {k : Nat} (h : k < 5) : (nat5 f)[k]? = some (.int .i64 (f k : Int)) := by
  match k, h with
  | 0, _ => rfl
  | 1, _ => rfl
  | 2, _ => rfl
  | 3, _ => rfl
  | 4, _ => rfl
theorem word5_get (r : List Bs) {k : Nat} (h : k < 5) : (word5 r).toArray[k]? = some (.string (str (r.getD k []))) := by
  match k, h with
  | 0, _ => rfl
  | 1, _ => rfl
  | 2, _ => rfl
  | 3, _ => rfl
  | 4, _ => rfl
theorem nat5_set (f : Nat → Nat) {k : Nat} (h : k < 5) (v : Nat) : (nat5 f).setIfInBounds k (.int .i64 (v : Int)) = nat5 (fun j => if j = k then v else f j) := by
  match k, h with
  | 0, _ => rfl
  | 1, _ => rfl
  | 2, _ => rfl
  | 3, _ => rfl
  | 4, _ => rfl
theorem nat5_congr {f g : Nat → Nat} (h : ∀ k, k < 5 → f k = g k) : nat5 f = nat5 g := by
  simp only [nat5, h 0 (by decide), h 1 (by decide), h 2 (by decide), h 3 (by decide), h 4 (by decide)]
theorem word5_row {B : Nat} {w : World} {a : Option Addr} {xs : List (List Bs)} (h : Row word5 5 B w a xs) (i : Nat) (hi : i < xs.length) :
    ∃ b off, a = some ⟨b, off, none⟩ ∧ b < B ∧ w.cell? ⟨b, off + i * 5, none⟩ = some (.string (str (xs[i].getD 0 []))) ∧ w.cell? ⟨b, off + i * 5 + 1, none⟩ = some (.string (str (xs[i].getD 1 []))) ∧ w.cell? ⟨b, off + i * 5 + 2, none⟩ = some (.string (str (xs[i].getD 2 []))) ∧ w.cell? ⟨b, off + i * 5 + 3, none⟩ = some (.string (str (xs[i].getD 3 []))) ∧ w.cell? ⟨b, off + i * 5 + 4, none⟩ = some (.string (str (xs[i].getD 4 []))) := by
  obtain ⟨b, off, ha, hb, hc⟩ := h i xs[i] (by simp [hi])
  exact ⟨b, off, ha, hb, hc 0 _ rfl, hc 1 _ rfl, hc 2 _ rfl, hc 3 _ rfl, hc 4 _ rfl⟩
theorem str_app (a b : Bs) : str a ++ str b = str (a ++ b) := by
  apply ByteArray.ext; simp [str]
theorem lit_app (a : Array UInt8) (b : Bs) : ({ data := a } : ByteArray) ++ str b = str (a.toList ++ b) := by
  apply ByteArray.ext; simp [str]
theorem app_lit (a : Bs) (b : Array UInt8) : str a ++ ({ data := b } : ByteArray) = str (a ++ b.toList) := by
  apply ByteArray.ext; simp [str]
/-- a block that is no row of bytes and no builder stands -/
theorem Blk.others {w w' : World} {b n : Nat} {arr : Array Value} {t e : TypeId} (h : Blk w n arr t) (ho : Lib.OthersKept e (some b) w w') (hn : n ≠ b) (ht : t ≠ e) : Blk w' n arr t := by
  unfold Blk at *
  exact ho n _ h (by simp [hn]) (fun c fz e' => by cases e'; exact ht rfl)
theorem blk_off {w w' : World} {b : Nat} {arr : Array Value} {t : TypeId} {v : Value} (h : Blk w b arr t) (hn : v.ownBlock ≠ some b) (hg : w.grownBy w' v.ownBlock) : Blk w' b arr t := by
  have hl := h.lt
  unfold Blk at *
  rw [hg.block b hl fun he => hn he.symm]
  exact h
theorem own_other {w : World} {base k n b : Nat} {e t : TypeId} {v : Value} {xs : List Value} {arr : Array Value} (h : w.ownsRow base e k v n xs) (hb : Blk w b arr t) (ht : t ≠ e) : v.ownBlock ≠ some b := by
  obtain ⟨_, ⟨rfl, _⟩ | ⟨g, cap, cur, rfl, _, hh, _⟩⟩ := h
  · simp [Value.ownBlock]
  · intro he
    simp [Value.ownBlock] at he
    subst he
    unfold Blk at hb
    rw [hb] at hh
    simp at hh
    exact ht hh.2
theorem grownLtS {w w' : World} {b base k n : Nat} {e t : TypeId} {v : Value} {xs : List Value} {arr : Array Value} (h : Blk w b arr t) (hb : b < base) (ho : w.ownsRow base e k v n xs) (hg : w.grownBy w' v.ownBlock) : Blk w' b arr t :=
  blk_off h (fun he => by have := (ho.lt b he).1; omega) hg
theorem owns_setLt8 {w : World} {b base k n i : Nat} {e : TypeId} {v u : Value} {xs : List Value} (hb : b < base) (ho : w.ownsRow base e k v n xs) : (w.setCell ⟨b, i, none⟩ u).ownsRow base e k v n xs := by
  obtain ⟨h1, h2 | ⟨g, cap, cur, rfl, hbg, hh, r⟩⟩ := ho
  · exact ⟨h1, .inl h2⟩
  · exact ⟨h1, .inr ⟨g, cap, cur, rfl, hbg, by rw [Below.heap_setCell _ _ _ _ (show g ≠ b by omega)]; exact hh, r⟩⟩
/-- a table as its text is made -/
structure TabOk (l : List (List Bs)) : Prop where
  few : l.length ≤ 13
  five : ∀ r ∈ l, r.length = 5
  len : ∀ r ∈ l, ∀ w ∈ r, w.length ≤ 21
theorem RowsOk.table {rs : List SRow} (h : RowsOk rs) : TabOk (tableOf rs) := by
  refine ⟨by simp [tableOf]; exact h.few, fun r hr => (words_table h.name r hr).1, table_len h⟩
theorem TabOk.wide {l : List (List Bs)} (h : TabOk l) (k : Nat) : wide l k ≤ 21 := wide_le fun r hr => getD_len (h.len r hr) k
theorem TabOk.wideTo {l : List (List Bs)} (h : TabOk l) (i k : Nat) : Bal.Sheet.wide (l.take i) k ≤ 21 := wide_le fun r hr => getD_len (h.len r (List.mem_of_mem_take hr)) k
theorem TabOk.word {l : List (List Bs)} (h : TabOk l) {r : List Bs} (hr : r ∈ l) (k : Nat) : (r.getD k []).length ≤ 21 := getD_len (h.len r hr) k
theorem TabOk.pre {l : List (List Bs)} (h : TabOk l) (k : Nat) : ((l.take k).flatMap (line (Bal.Sheet.wide l))).length ≤ 1482 := by
  have h1 := flat_len (w := Bal.Sheet.wide l) 114 (l.take k) fun r hr => by
    have := body_len (Bal.Sheet.wide l) r 21 h.wide (getD_len (h.len r (List.mem_of_mem_take hr)))
    simp [line]; omega
  have h2 := h.few
  have h3 : (l.take k).length ≤ 13 := by rw [List.length_take]; omega
  omega
theorem TabOk.name {l : List (List Bs)} (h : TabOk l) {r : List Bs} (hr : r ∈ l) : (name0 (Bal.Sheet.wide l) r).length ≤ 42 := by
  have := h.wide 0; have := h.word hr 0
  simp only [name0, List.length_append, sp_len]; omega
theorem TabOk.cells {l : List (List Bs)} (h : TabOk l) {r : List Bs} (hr : r ∈ l) : ∀ j, ((List.range j).flatMap (cell (Bal.Sheet.wide l) r)).length ≤ 23 * j
  | 0 => by simp
  | j + 1 => by
    have h1 := h.cells hr j
    have h2 := cell_len (Bal.Sheet.wide l) r j 21 (h.wide _) (h.word hr _)
    rw [List.range_succ, List.flatMap_append, List.length_append, List.flatMap_cons, List.flatMap_nil, List.append_nil]
    omega
theorem RowsOk.line {rs : List SRow} (h : RowsOk rs) {x : SRow} (hx : x ∈ rs) : (body (Bal.Sheet.wide (tableOf rs)) (toldR x)).length ≤ 200 := by
  have h1 := line_len h (toldR x) (by simp only [tableOf, List.mem_append, List.mem_map]; exact .inl ⟨x, hx, rfl⟩)
  simp only [Bal.Sheet.line, List.length_append] at h1
  omega
theorem cells_next (w : Nat → Nat) (r : List Bs) (j : Nat) : (List.range (j + 1)).flatMap (cell w r) = (List.range j).flatMap (cell w r) ++ cell w r j := by
  rw [List.range_succ, List.flatMap_append, List.flatMap_cons, List.flatMap_nil, List.append_nil]
end Bal.Sheet

/-
  Layer 9: a row of the table; the loads of a sheet.
-/
namespace Go.Proofs.YtamnnjdfjffhlaaGreatDoor
open Go.RowKit Bal Bal.Trim Bal.Sheet
set_option linter.unusedVariables false
set_option linter.unusedSimpArgs false
set_option maxHeartbeats 8000000
set_option maxRecDepth 100000

theorem at_worldS {S : World → Prop} {Q : Exit → Act → World → Prop} {e : Exit} {a : Act} {W : World} (h : S W) (k : ∀ W, S W → Q e a W) : Q e a W := k W h

theorem f_told (nm : Bs) (p q r s : Int) (w : World) (ht : Tabs w) (hp : (-9223372036854775808 ≤ p ∧ p ≤ 9223372036854775807)) (hq : (-9223372036854775808 ≤ q ∧ q ≤ 9223372036854775807)) (hr : (-9223372036854775808 ≤ r ∧ r ≤ 9223372036854775807)) (hs : (-9223372036854775808 ≤ s ∧ s ≤ 9223372036854775807)) : Calls Tryz.prog 35 #[.string (str nm), .agg #[.int .i64 p, .int .i64 q], .agg #[.int .i64 r, .int .i64 s]] w fun e w' => e = .returned (.agg #[.string (str nm), .string (str (Lib.itoa (p))), .string (str (Lib.itoa (q))), .string (str (Lib.itoa (r))), .string (str (Lib.itoa (s)))]) ∧ Kept w w' := by
  go_enter Tryz.func35, Tryz.ntmps35
  go_upto_region 1 with fail
  refine at_world (S := fun X => Blk X w.heap.size #[.int .i64 p, .int .i64 q] 28 ∧ Blk X (w.heap.size + 1) #[.int .i64 r, .int .i64 s] 28 ∧ Blk X (w.heap.size + 1 + 1) #[.string ByteArray.empty, .string ByteArray.empty, .string ByteArray.empty, .string ByteArray.empty, .string ByteArray.empty] 94 ∧ Kept w X) ⟨by exact blkc, by exact blkc, by exact blkc, by exact kpt⟩ ?_
  rintro X ⟨b1, b2, b3, hk⟩
  have HT := Lib.hid (ht.keep hk)
  clear ht
  have b1c0 := fun g : Later X => (b1.later g).cell 0
  have b1f0 := fun g : Later X => (b1.later g).free 0
  have b1c1 := fun g : Later X => (b1.later g).cell 1
  have b1f1 := fun g : Later X => (b1.later g).free 1
  have b1l := fun g : Later X => (b1.later g).lt
  simp at b1c0 b1c1
  have b2c0 := fun g : Later X => (b2.later g).cell 0
  have b2f0 := fun g : Later X => (b2.later g).free 0
  have b2c1 := fun g : Later X => (b2.later g).cell 1
  have b2f1 := fun g : Later X => (b2.later g).free 1
  have b2l := fun g : Later X => (b2.later g).lt
  simp at b2c0 b2c1
  refine Later.tail 14 (by kernel_rfl) (by kernel_rfl) ?_
  simp only [List.take_succ_cons, List.take_zero, List.drop_succ_cons, List.drop_zero]
  repeat (first | go_big_quiet_skip | (go_big_quiet_want; go_big_quiet_op; first | go_big_quiet_on | (apply Exists.intro; refine ⟨fun g_ => ?_, ?_⟩; (focus (first | (go_at_call 37; with_reducible exact Later.call (l_Itoa p _ hp.1 hp.2 (HT.out.keep g_.ok))) | (go_at_call 37; with_reducible exact Later.call (l_Itoa q _ hq.1 hq.2 (HT.out.keep g_.ok))) | (go_at_call 37; with_reducible exact Later.call (l_Itoa r _ hr.1 hr.2 (HT.out.keep g_.ok))) | (go_at_call 37; with_reducible exact Later.call (l_Itoa s _ hs.1 hs.2 (HT.out.keep g_.ok))))); go_big_quiet_on)))
  refine wpQuiet_nil ?_
  intro gg
  refine wpList_plain rfl fun K1 hK1 => ?_
  have m3 := b3.later gg
  have hkg : Kept w gg.val := Kept.drop hk gg.ok
  have m3c0 := m3.cell 0
  have m3f0 := m3.free 0
  have m3c1 := m3.cell 1
  have m3f1 := m3.free 1
  have m3c2 := m3.cell 2
  have m3f2 := m3.free 2
  have m3c3 := m3.cell 3
  have m3f3 := m3.free 3
  have m3c4 := m3.cell 4
  have m3f4 := m3.free 4
  have m3l := m3.lt
  simp at m3c0 m3c1 m3c2 m3c3 m3c4
  go_wp2
  refine at_worldS (S := fun Z => Blk Z (w.heap.size + 1 + 1) #[.string (str nm), .string (str (Lib.itoa (p))), .string (str (Lib.itoa (q))), .string (str (Lib.itoa (r))), .string (str (Lib.itoa (s)))] 94 ∧ Kept w Z) ⟨by exact blkd, by exact kpt⟩ ?_
  rintro Z ⟨yz, hkz⟩
  have yzc0 := yz.cell 0
  have yzf0 := yz.free 0
  have yzc1 := yz.cell 1
  have yzf1 := yz.free 1
  have yzc2 := yz.cell 2
  have yzf2 := yz.free 2
  have yzc3 := yz.cell 3
  have yzf3 := yz.free 3
  have yzc4 := yz.cell 4
  have yzf4 := yz.free 4
  have yzl := yz.lt
  simp at yzc0 yzc1 yzc2 yzc3 yzc4
  exact bodyPost_ret (v := .agg #[.string (str nm), .string (str (Lib.itoa (p))), .string (str (Lib.itoa (q))), .string (str (Lib.itoa (r))), .string (str (Lib.itoa (s)))]) (by simp [results, Tryz.results35, go_sem, yzc0, yzc1, yzc2, yzc3, yzc4]) rfl ⟨rfl, hkz⟩

theorem infoLd : (Tryz.prog.info? 53).map (fun i => (i.zero, i.size, i.bytes)) = some (some (.agg #[.int .i64 0, .int .i64 0, .int .i64 0, .int .i64 0]), 4, 32) := by kernel_rfl
theorem f_loads (sv : Value) (ad : Option Addr) (cap : Nat) (rs : List SRow) (w : World) (hx : Row SRow.cells 5 w.heap.size w ad rs) (hn : rs.length ≤ 40) : Calls Tryz.prog 34 #[.agg #[sv, .slice ad rs.length cap]] w fun e w' => (∃ al cl, e = .returned (.slice al rs.length cl) ∧ Row Load.cells 4 w'.heap.size w' al (rs.map SRow.ld) ∧ rs.length ≤ cl ∧ cl ≤ maxLen) ∧ Kept w w' := by
  have HX := Lib.hid hx
  clear hx
  go_enter Tryz.func34, Tryz.ntmps34
  go_wp2
  go_loopw [9, 3] (fun i l wr => ∃ k : Nat, k ≤ rs.length ∧ i = .int .i64 k ∧ wr.ownsRow w.heap.size 53 4 l k (((rs.take k).map SRow.ld).flatMap Load.cells) ∧ Kept w wr) (fun i _ _ => rs.length - (intOf i).toNat)
  case atStart => exact ⟨0, Nat.zero_le _, rfl, owns_nil (α := Load) (enc := Load.cells), by exact kpta⟩
  case round =>
    obtain ⟨k, hk, rfl, hown, hkw⟩ := hrel
    by_cases hlt : k < rs.length
    · have d1 : decide ((k : Int) < (rs.length : Int)) = true := by simp; omega
      have wk := i64_w (n := (k : Int) + 1) (by omega)
      have i0 : (0 : Int) ≤ (k : Int) := by omega
      have i1 : (k : Int) < (rs.length : Int) := by omega
      have hsz := hkw.size
      obtain ⟨b1, o1, rfl, hb1_, z0, z1, z2, z3, z4⟩ := SRow.row (HX.out.later hkw (Nat.le_refl _)) k hlt
      obtain ⟨x, hxx⟩ : ∃ x, x = rs[k] := ⟨_, rfl⟩
      rw [← hxx] at z0 z1 z2 z3 z4
      have HXX := Lib.hid hxx
      clear hxx
      obtain ⟨al_, cl_, rfl⟩ := owns_shapeW hown
      go_wp2_with (at_builtin; (obtain ⟨i0, hi, hz0, hz1, hz2⟩ := info_partsW infoLd; refine wpList_append_own _ rfl _ _ 64 rfl w.heap.size 53 i0 (.agg #[.int .i64 0, .int .i64 0, .int .i64 0, .int .i64 0]) 4 32 Tryz.underlying64 hi hz0 hz1 hz2 rfl (by decide) _ _ _ rfl (owns_keep hown (by exact kpta)) ⟨_, 0, none⟩ 1 1 [.int .i64 x.ld.alo, .int .i64 x.ld.ahi, .int .i64 x.ld.wlo, .int .i64 x.ld.whi] rfl rfl (cells_atW (by simp) _ _) (fun x hx => by simp at hx; rcases hx with rfl | rfl | rfl | rfl <;> rfl) (by unfold maxLen; omega) (by omega) (by simp; omega) ?_; intro v9 w8 hown9 hgrow9 hnil9; clear hi hz0 hz1 hz2))
      go_round
      case rel =>
        refine ⟨k + 1, by omega, by go_num, ?_, Kept.grown (show Kept w _ by exact kpta) (owns_keep hown (by exact kpta)) (Nat.le_refl _) hgrow9⟩
        have e := flat_next Load.cells (rs.map SRow.ld) (k := k) (by simpa using hlt)
        rw [List.map_take, e, List.getElem_map, ← HXX.out, ← List.map_take]
        exact hown9
      case measure => simp [intOf]; omega
    · obtain rfl : k = rs.length := by omega
      have d1 : decide ((rs.length : Int) < (rs.length : Int)) = false := by simp
      rw [List.take_length] at hown
      obtain ⟨al, cl, rfl, h1, h2, h3⟩ := owns_row (enc := Load.cells) (k := 4) (xs := rs.map SRow.ld) (fun _ => rfl) (by rw [List.length_map]; exact hown)
      rw [List.length_map] at h2 ⊢
      go_wp2
      go_ret
      exact ⟨⟨al, cl, rfl, h1, h2, h3⟩, hkw⟩

end Go.Proofs.YtamnnjdfjffhlaaGreatDoor

/-
  Layer 9: the check of a sheet.
-/
namespace Go.Proofs.YtamnnjdfjffhlaaGreatDoor
open Go.RowKit Bal Bal.Trim Bal.Sheet Go.Proofs.YtamnnjdfjffhlaaGreatDoor.Trim04
set_option linter.unusedVariables false
set_option linter.unusedSimpArgs false
set_option maxHeartbeats 8000000
set_option maxRecDepth 100000

theorem f_CheckSheet (ad : Option Addr) (cap : Nat) (rs : List SRow) (w : World) (hx : Row SRow.cells 5 w.heap.size w ad rs) (ok : RowsOk rs) : Calls Tryz.prog 32 #[.agg #[.string (str lzW), .slice ad rs.length cap]] w fun e w' => e = .returned (.int .i64 0) ∧ Kept w w' := by
  have HX := Lib.hid hx
  have HL := Lib.hid ok.loads
  have HN := Lib.hid (show rs.length ≤ 40 by have := ok.few; omega)
  have HNA := Lib.hid ok.name
  have n12 := ok.few
  clear hx ok
  go_enter Tryz.func32, Tryz.ntmps32
  go_upto_block 0 with (first | (go_at_call 63; (with_reducible refine (f_shipLZ _).mono ?_); rintro e w1 ⟨rfl, hb1⟩; refine Blk.thru (b := w.heap.size) (arr := ?_) (t := ?_) ?_ hb1 ?_; rotate_left 2; (focus (exact blk)); intro o1; have o1c0 := o1.cell 0; have o1f0 := o1.free 0; have o1c1 := o1.cell 1; have o1f1 := o1.free 1; have o1l := o1.lt; simp at o1c0 o1c1) | (go_at_call 34; (with_reducible refine (f_loads _ ad cap rs _ (HX.out.later (by exact kpta) (Nat.le_refl _)) HN.out).mono ?_); rintro e w2 ⟨⟨al, cl, rfl, hrl, hcl, hcm⟩, hb2⟩; have KC := Lib.hid (show ∀ W, Kept w2 W → Calls Tryz.prog 48 #[.slice al rs.length cl] W fun e w' => e = .returned (.int .i64 0) ∧ Kept W w' from fun W hW => by have k_ := f_CheckLoads al cl (rs.map SRow.ld) W (hrl.later hW (Nat.le_refl _)) (by rw [List.length_map]; exact hcl) hcm; rw [List.length_map, HL.out] at k_; exact k_); refine Blk.thru (b := w.heap.size) (arr := ?_) (t := ?_) ?_ hb2 ?_; rotate_left 2; (focus (exact blk)); intro o2; have o2c0 := o2.cell 0; have o2f0 := o2.free 0; have o2c1 := o2.cell 1; have o2f1 := o2.free 1; have o2l := o2.lt; simp at o2c0 o2c1) | (go_at_call 48; (with_reducible refine (KC.out _ (by exact kpta)).mono ?_); rintro e w3 ⟨rfl, hb3⟩; refine Blk.thru (b := w.heap.size) (arr := ?_) (t := ?_) ?_ hb3 ?_; rotate_left 2; (focus (exact blk)); intro o3; have o3c0 := o3.cell 0; have o3f0 := o3.free 0; have o3c1 := o3.cell 1; have o3f1 := o3.free 1; have o3l := o3.lt; simp at o3c0 o3c1))
  refine at_world (S := fun X => Kept w X) (by exact kpta) ?_
  intro X hkX
  clear hb1 hb2 hb3 KC hrl
  go_wp2
  go_loopw [18] (fun i wr => ∃ k : Nat, k ≤ rs.length ∧ i = .int .i64 k ∧ Kept w wr) (fun i _ => rs.length - (intOf i).toNat)
  case atStart => exact ⟨0, Nat.zero_le _, rfl, hkX⟩
  case round =>
    obtain ⟨k, hk, rfl, hkw⟩ := hrel
    by_cases hlt : k < rs.length
    · have d1 : decide ((k : Int) < (rs.length : Int)) = true := by simp; omega
      have wk := i64_w (n := (k : Int) + 1) (by omega)
      have i0 : (0 : Int) ≤ (k : Int) := by omega
      have i1 : (k : Int) < (rs.length : Int) := by omega
      obtain ⟨b1, o1, rfl, hb1_, z0, z1, z2, z3, z4⟩ := SRow.row (HX.out.later hkw (Nat.le_refl _)) k hlt
      have HNM := Lib.hid (HNA.out _ (List.getElem_mem hlt))
      generalize rs[k] = x at z0 z1 z2 z3 z4 HNM
      go_wp2_with (go_at_call 64; (with_reducible refine (f_named _ _ HNM.out).mono ?_); rintro e w4 ⟨rfl, hb4⟩)
      go_round
      case rel => exact ⟨k + 1, by omega, by go_num, by exact kpta⟩
      case measure => simp [intOf]; omega
    · obtain rfl : k = rs.length := by omega
      have d1 : decide ((rs.length : Int) < (rs.length : Int)) = false := by simp
      go_wp2
      go_ret
      exact ⟨rfl, hkw⟩

end Go.Proofs.YtamnnjdfjffhlaaGreatDoor

/-
  Layer 9: a table as a text: its regions.
-/
namespace Go.Proofs.YtamnnjdfjffhlaaGreatDoor
open Go.RowKit Bal Bal.Trim Bal.Sheet Go.Proofs.YtamnnjdfjffhlaaGreatDoor.Trim04
set_option linter.unusedVariables false
set_option linter.unusedSimpArgs false
set_option maxHeartbeats 8000000
set_option maxRecDepth 100000
attribute [local go_sem] str_app lit_app app_lit str_size ite_max

/-- the region of a number, in a code -/
def regOf : Code → Nat → Option Code
  | .region id ops d, n => if id = n then some (.region id ops d) else none
  | .seq a b, n => (regOf a n).or (regOf b n)
  | .cond _ a b, n => (regOf a n).or (regOf b n)
  | .block _ b, n => regOf b n
  | .loop b, n => regOf b n
  | .scope b, n => regOf b n
  | .rangeFunc _ _ a b, n => (regOf a n).or (regOf b n)
  | _, _ => none
/-- the block of a number, in a code -/
def blkOf : Code → Nat → Option Code
  | .seq a b, n => (blkOf a n).or (blkOf b n)
  | .cond _ a b, n => (blkOf a n).or (blkOf b n)
  | .block id b, n => if id = n then some (.block id b) else blkOf b n
  | .loop b, n => blkOf b n
  | .scope b, n => blkOf b n
  | .rangeFunc _ _ a b, n => (blkOf a n).or (blkOf b n)
  | _, _ => none
/-- the 'if' on a slot, in a code -/
def cndOf : Code → Nat → Option Code
  | .seq a b, n => (cndOf a n).or (cndOf b n)
  | .cond (.tmp t) a b, n => if t = n then some (.cond (.tmp t) a b) else (cndOf a n).or (cndOf b n)
  | .cond _ a b, n => (cndOf a n).or (cndOf b n)
  | .block _ b, n => cndOf b n
  | .loop b, n => cndOf b n
  | .scope b, n => cndOf b n
  | .rangeFunc _ _ a b, n => (cndOf a n).or (cndOf b n)
  | _, _ => none

theorem la_8 {s0 s1 s2 s4 s7 s8 s9 s10 s11 s12 s13 s14 s15 s16 s17 s18 s19 s20 s21 s22 s23 s24 s25 s26 s27 s28 s29 s30 s31 s32 s33 s34 s35 s36 s37 s38 s39 s40 s41 s42 s43 s44 s45 s46 s47 s48 s49 s50 s51 s52 s53 s54 s55 s56 s57 s58 s59 s60 s61 s62 s63 s64 s65 s66 s67 s68 s69 s70 s71 s72 s73 : Value} {n3 n5 k : Nat} {g : Nat → Nat} {r : List Bs} {w9 : World} (C : Code) (hC : (Tryz.f38.body.bind fun c => regOf c 8) = some C) (Q : Exit → Act → World → Prop) (b3 : Blk w9 n3 (nat5 (g)) 134) (b5 : Blk w9 n5 (word5 (r)).toArray 94) (hk : k < 5) (hg : g k ≤ 1000) (hr : (r.getD k []).length ≤ 1000)
    (hK : ∀  (u20 u21 u22 u23 u24 u25 u26 u27 u28 u29 : Value) (wc : World), (Blk wc n3 (nat5 (fun j => if j = k then max (g j) (r.getD j []).length else g j)) 134 ∧ But n3 w9 wc) → Q .normal ⟨#[s0, s1, s2, .pointer (some ⟨n3, 0, none⟩), s4, .pointer (some ⟨n5, 0, none⟩), .int .i64 ((k : Int)), s7, s8, s9, s10, s11, s12, s13, s14, s15, s16, s17, s18, s19, u20, u21, u22, u23, u24, u25, u26, u27, u28, u29, s30, s31, s32, s33, s34, s35, s36, s37, s38, s39, s40, s41, s42, s43, s44, s45, s46, s47, s48, s49, s50, s51, s52, s53, s54, s55, s56, s57, s58, s59, s60, s61, s62, s63, s64, s65, s66, s67, s68, s69, s70, s71, s72, s73], []⟩ wc) : C.wp Tryz.prog Q ⟨#[s0, s1, s2, .pointer (some ⟨n3, 0, none⟩), s4, .pointer (some ⟨n5, 0, none⟩), .int .i64 ((k : Int)), s7, s8, s9, s10, s11, s12, s13, s14, s15, s16, s17, s18, s19, s20, s21, s22, s23, s24, s25, s26, s27, s28, s29, s30, s31, s32, s33, s34, s35, s36, s37, s38, s39, s40, s41, s42, s43, s44, s45, s46, s47, s48, s49, s50, s51, s52, s53, s54, s55, s56, s57, s58, s59, s60, s61, s62, s63, s64, s65, s66, s67, s68, s69, s70, s71, s72, s73], []⟩ w9 := by
  have e0 : (Tryz.f38.body.bind fun c => regOf c 8) = some (.region 8 _ _) := rfl
  rw [e0] at hC
  cases hC
  clear e0
  try dsimp only at hK ⊢
  have HK := Lib.hid hK
  clear hK
  have e3 := (b3.cell k).trans (nat5_get g hk)
  have f3 := b3.free k
  have l3 := b3.lt
  have e5 := (b5.cell k).trans (word5_get r hk)
  have i0 : (0 : Int) ≤ (k : Int) := by omega
  have i1 : (k : Int) < 5 := by omega
  have hz := str_size (r.getD k [])
  have hv : max ((g k : Nat) : Int) (((r[k]?.getD []).length : Nat) : Int) = ((max (g k) (r.getD k []).length : Nat) : Int) := by rw [List.getD_eq_getElem?_getD]; omega
  go_region
  refine HK.out _ _ _ _ _ _ _ _ _ _ _ ⟨?_, by exact butt⟩
  refine (Blk.set (Blk.drew b3) k _).cast ?_
  rw [nat5_set _ hk]
  exact nat5_congr fun j hj => by by_cases e : j = k <;> simp [e]
  
theorem la_15 {s0 s1 s2 s4 s5 s6 s8 s10 s11 s12 s13 s14 s15 s16 s17 s18 s19 s20 s21 s22 s23 s24 s25 s26 s27 s28 s29 s30 s31 s32 s33 s34 s35 s36 s37 s38 s39 s40 s41 s42 s43 s44 s45 s46 s47 s48 s49 s50 s51 s52 s53 s54 s55 s56 s57 s58 s59 s60 s61 s62 s63 s64 s65 s66 s67 s68 s69 s70 s71 s72 s73 : Value} {B n3 n7 n9 : Nat} {g : Nat → Nat} {r : List Bs} {pre : Bs} {w9 : World} (C : Code) (hC : (Tryz.f38.body.bind fun c => regOf c 15) = some C) (Q : Exit → Act → World → Prop) (hQ : ∀ c a d v w, Q (.panic c) (Act.put a d v) w → Q (.panic c) a w) (b3 : Blk w9 n3 (nat5 (g)) 134) (b9 : Blk w9 n9 (word5 (r)).toArray 94) (hb : Bld B n7 (pre) w9) (hB : B ≤ w9.heap.size) (hp : pre.length ≤ 10000) (hg : ∀ k, g k ≤ 100) (hr : ∀ k, (r.getD k []).length ≤ g k)
    (hK : ∀  (u38 u39 u40 u41 u42 u43 u44 u45 u46 u47 u48 : Value) (wc : World), (Bld B n7 (pre ++ name0 g r) wc ∧ Below B w9 wc ∧ Lib.OthersKept 5 (some n7) w9 wc) → Q .normal ⟨#[s0, s1, s2, .pointer (some ⟨n3, 0, none⟩), s4, s5, s6, .pointer (some ⟨n7, 0, none⟩), s8, .pointer (some ⟨n9, 0, none⟩), s10, s11, s12, s13, s14, s15, s16, s17, s18, s19, s20, s21, s22, s23, s24, s25, s26, s27, s28, s29, s30, s31, s32, s33, s34, s35, s36, s37, u38, u39, u40, u41, u42, u43, u44, u45, u46, u47, u48, s49, s50, s51, s52, s53, s54, s55, s56, s57, s58, s59, s60, s61, s62, s63, s64, s65, s66, s67, s68, s69, s70, s71, s72, s73], []⟩ wc) : C.wp Tryz.prog Q ⟨#[s0, s1, s2, .pointer (some ⟨n3, 0, none⟩), s4, s5, s6, .pointer (some ⟨n7, 0, none⟩), s8, .pointer (some ⟨n9, 0, none⟩), s10, s11, s12, s13, s14, s15, s16, s17, s18, s19, s20, s21, s22, s23, s24, s25, s26, s27, s28, s29, s30, s31, s32, s33, s34, s35, s36, s37, s38, s39, s40, s41, s42, s43, s44, s45, s46, s47, s48, s49, s50, s51, s52, s53, s54, s55, s56, s57, s58, s59, s60, s61, s62, s63, s64, s65, s66, s67, s68, s69, s70, s71, s72, s73], []⟩ w9 := by
  have e0 : (Tryz.f38.body.bind fun c => regOf c 15) = some (.region 15 _ _) := rfl
  rw [e0] at hC
  cases hC
  clear e0
  try dsimp only at hK ⊢
  have HK := Lib.hid hK
  clear hK
  have h0 : (r[0]?.getD []).length ≤ g (0) := by simpa using hr (0)
  have hg0 := hg (0)
  have wz := i64_w (n := ((g (0) : Nat) : Int) - (((r[0]?.getD []).length : Nat) : Int)) (by omega)
  have ws : ((g (0) : Nat) : Int) - (((r[0]?.getD []).length : Nat) : Int) = ((g (0) - (r[0]?.getD []).length : Nat) : Int) := by omega
  refine held_walk (fun w' => Blk w' n3 (nat5 (g)) 134 ∧ Blk w' n9 (word5 (r)).toArray 94 ∧ Bld B n7 (pre) w') [(true, 0), (true, 1), (true, 2), (true, 3), (true, 4), (true, 5), (true, 6), (true, 7), (false, 8), (true, 9), (false, 10)] 10 (by kernel_rfl) (by kernel_rfl) hQ ⟨b3.drew, b9.drew, hb.keep (by exact kpta)⟩ ?_
  simp only [List.filterMap_cons, List.filterMap_nil, List.getElem?_cons_zero, List.getElem?_cons_succ, Option.map_some]
  iterate 8 ((first | (refine held_take ?_ ?_ (fun w' hS => ?_) ?_; rotate_left 1; (focus rfl); (focus (first | (go_simp; done) | (go_simp; with_reducible rfl) | (obtain ⟨S1, S2, S3⟩ := hS; have S1c := (S1.cell 0).trans (nat5_get g (show 0 < 5 by decide)); have S2c := (S2.cell 0).trans (word5_get r (show 0 < 5 by decide)); first | (go_simp; done) | (go_simp; with_reducible rfl))))) | (refine held_pass ?_ ?_; (focus rfl))); simp only [Act.put, List.setIfInBounds_toArray, List.set_cons_zero, List.set_cons_succ])
  refine held_one ?_
  refine wpList_plain rfl fun K1 hK1 => ?_
  go_wp2_with (go_at_call 71; (with_reducible refine (l_Repeat (g (0) - (r[0]?.getD []).length) _ (by omega)).mono ?_); rintro e w1 ⟨rfl, hb1⟩; obtain ⟨q, hq⟩ : ∃ q, q = sp (g (0) - (r[0]?.getD []).length) := ⟨_, rfl⟩; rw [← hq]; have hql : q.length ≤ 100 := (by (rw [hq, sp_len]; omega)); have HQ := Lib.hid hq; clear hq; have hc0 : ¬ (9223372036854775807 < (r[0]?.getD []).length + q.length) := (by omega))
  refine held_on ⟨b3.keep (by exact kpta), b9.keep (by exact kpta), hb.keep (by exact kpta)⟩ ?_
  iterate 1 ((first | (refine held_take ?_ ?_ (fun w' hS => ?_) ?_; rotate_left 1; (focus rfl); (focus (first | (go_simp; done) | (go_simp; with_reducible rfl) | (obtain ⟨S1, S2, S3⟩ := hS; have S1c := (S1.cell 0).trans (nat5_get g (show 0 < 5 by decide)); have S2c := (S2.cell 0).trans (word5_get r (show 0 < 5 by decide)); first | (go_simp; done) | (go_simp; with_reducible rfl))))) | (refine held_pass ?_ ?_; (focus rfl))); simp only [Act.put, List.setIfInBounds_toArray, List.set_cons_zero, List.set_cons_succ])
  refine held_one ?_
  refine wpList_plain rfl fun K1 hK1 => ?_
  go_wp2_with (go_at_call 70; (with_reducible refine (l_WriteString B n7 pre _ _ ?_ ?_ ?_).mono ?_); (focus (exact hb.keep (by exact kpta))); (focus (simp; omega)); (focus (exact Nat.le_trans hB (Kept.size (by exact kpta)))); rintro e w2 ⟨rfl, hw2, hbe2, ho2⟩)
  (first | refine held_end ?_ | (refine onward_on ?_; first | refine held_nil ?_ | refine ⟨.inl trivial, held_nil ?_⟩ | refine ⟨.inl rfl, held_nil ?_⟩))
  have hbe : Below B w9 w2 := ((show Kept w9 w1 by exact kpta).mono hB).trans hbe2
  have hot := (kept_others (show Kept w9 w1 by exact kpta) 5 (some n7)).trans ho2
  exact HK.out _ _ _ _ _ _ _ _ _ _ _ _ ⟨by (rw [HQ.out] at hw2; simpa [name0] using hw2), hbe, hot⟩

theorem la_19 {s0 s1 s2 s4 s5 s6 s8 s11 s12 s13 s14 s15 s16 s17 s18 s19 s20 s21 s22 s23 s24 s25 s26 s27 s28 s29 s30 s31 s32 s33 s34 s35 s36 s37 s38 s39 s40 s41 s42 s43 s44 s45 s46 s47 s48 s49 s50 s51 s52 s53 s54 s55 s56 s57 s58 s59 s60 s61 s62 s63 s64 s65 s66 s67 s68 s69 s70 s71 s72 s73 : Value} {B n3 n7 n9 j : Nat} {g : Nat → Nat} {r : List Bs} {pre : Bs} {w9 : World} (C : Code) (hC : (Tryz.f38.body.bind fun c => regOf c 19) = some C) (Q : Exit → Act → World → Prop) (hQ : ∀ c a d v w, Q (.panic c) (Act.put a d v) w → Q (.panic c) a w) (b3 : Blk w9 n3 (nat5 (g)) 134) (b9 : Blk w9 n9 (word5 (r)).toArray 94) (hb : Bld B n7 (pre) w9) (hB : B ≤ w9.heap.size) (hp : pre.length ≤ 10000) (hg : ∀ k, g k ≤ 100) (hr : ∀ k, (r.getD k []).length ≤ g k) (hj : j < 4)
    (hK : ∀  (u52 u53 u54 u55 u56 u57 u58 u59 u60 u61 u62 u63 u64 u65 u66 u67 u68 u69 : Value) (wc : World), (Bld B n7 (pre ++ cell g r j) wc ∧ Below B w9 wc ∧ Lib.OthersKept 5 (some n7) w9 wc) → Q .normal ⟨#[s0, s1, s2, .pointer (some ⟨n3, 0, none⟩), s4, s5, s6, .pointer (some ⟨n7, 0, none⟩), s8, .pointer (some ⟨n9, 0, none⟩), .int .i64 ((j : Int)), s11, s12, s13, s14, s15, s16, s17, s18, s19, s20, s21, s22, s23, s24, s25, s26, s27, s28, s29, s30, s31, s32, s33, s34, s35, s36, s37, s38, s39, s40, s41, s42, s43, s44, s45, s46, s47, s48, s49, s50, s51, u52, u53, u54, u55, u56, u57, u58, u59, u60, u61, u62, u63, u64, u65, u66, u67, u68, u69, s70, s71, s72, s73], []⟩ wc) : C.wp Tryz.prog Q ⟨#[s0, s1, s2, .pointer (some ⟨n3, 0, none⟩), s4, s5, s6, .pointer (some ⟨n7, 0, none⟩), s8, .pointer (some ⟨n9, 0, none⟩), .int .i64 ((j : Int)), s11, s12, s13, s14, s15, s16, s17, s18, s19, s20, s21, s22, s23, s24, s25, s26, s27, s28, s29, s30, s31, s32, s33, s34, s35, s36, s37, s38, s39, s40, s41, s42, s43, s44, s45, s46, s47, s48, s49, s50, s51, s52, s53, s54, s55, s56, s57, s58, s59, s60, s61, s62, s63, s64, s65, s66, s67, s68, s69, s70, s71, s72, s73], []⟩ w9 := by
  have e0 : (Tryz.f38.body.bind fun c => regOf c 19) = some (.region 19 _ _) := rfl
  rw [e0] at hC
  cases hC
  clear e0
  try dsimp only at hK ⊢
  have HK := Lib.hid hK
  clear hK
  have h0 : (r[j + 1]?.getD []).length ≤ g (j + 1) := by simpa using hr (j + 1)
  have hg0 := hg (j + 1)
  have wz := i64_w (n := ((g (j + 1) : Nat) : Int) - (((r[j + 1]?.getD []).length : Nat) : Int)) (by omega)
  have ws : ((g (j + 1) : Nat) : Int) - (((r[j + 1]?.getD []).length : Nat) : Int) = ((g (j + 1) - (r[j + 1]?.getD []).length : Nat) : Int) := by omega
  have wj := i64_w (n := (j : Int) + 1) (by omega)
  have j0 : (0 : Int) ≤ (j : Int) + 1 := by omega
  have j1 : (j : Int) + 1 < 5 := by omega
  refine held_walk (fun w' => Blk w' n3 (nat5 (g)) 134 ∧ Blk w' n9 (word5 (r)).toArray 94 ∧ Bld B n7 (pre) w') [(true, 0), (true, 1), (true, 2), (true, 3), (true, 4), (true, 5), (true, 6), (true, 7), (true, 8), (true, 9), (true, 12), (true, 13), (true, 14), (true, 15), (false, 10), (true, 11), (true, 16), (false, 17)] 17 (by kernel_rfl) (by kernel_rfl) hQ ⟨b3.drew, b9.drew, hb.keep (by exact kpta)⟩ ?_
  simp only [List.filterMap_cons, List.filterMap_nil, List.getElem?_cons_zero, List.getElem?_cons_succ, Option.map_some]
  iterate 14 ((first | (refine held_take ?_ ?_ (fun w' hS => ?_) ?_; rotate_left 1; (focus rfl); (focus (first | (go_simp; done) | (go_simp; with_reducible rfl) | (obtain ⟨S1, S2, S3⟩ := hS; have S1c := (S1.cell (j + 1)).trans (nat5_get g (show j + 1 < 5 by omega)); have S2c := (S2.cell (j + 1)).trans (word5_get r (show j + 1 < 5 by omega)); first | (go_simp; done) | (go_simp; with_reducible rfl))))) | (refine held_pass ?_ ?_; (focus rfl))); simp only [Act.put, List.setIfInBounds_toArray, List.set_cons_zero, List.set_cons_succ])
  refine held_one ?_
  refine wpList_plain rfl fun K1 hK1 => ?_
  go_wp2_with (go_at_call 71; (with_reducible refine (l_Repeat (g (j + 1) - (r[j + 1]?.getD []).length) _ (by omega)).mono ?_); rintro e w1 ⟨rfl, hb1⟩; obtain ⟨q, hq⟩ : ∃ q, q = sp (g (j + 1) - (r[j + 1]?.getD []).length) := ⟨_, rfl⟩; rw [← hq]; have hql : q.length ≤ 100 := (by (rw [hq, sp_len]; omega)); have HQ := Lib.hid hq; clear hq; have hc0 : ¬ (9223372036854775807 < 2 + q.length) := (by omega); have hc1 : ¬ (9223372036854775807 < q.length + 1 + 1 + (r[j + 1]?.getD []).length) := (by omega))
  refine held_on ⟨b3.keep (by exact kpta), b9.keep (by exact kpta), hb.keep (by exact kpta)⟩ ?_
  iterate 2 ((first | (refine held_take ?_ ?_ (fun w' hS => ?_) ?_; rotate_left 1; (focus rfl); (focus (first | (go_simp; done) | (go_simp; with_reducible rfl) | (obtain ⟨S1, S2, S3⟩ := hS; have S1c := (S1.cell (j + 1)).trans (nat5_get g (show j + 1 < 5 by omega)); have S2c := (S2.cell (j + 1)).trans (word5_get r (show j + 1 < 5 by omega)); first | (go_simp; done) | (go_simp; with_reducible rfl))))) | (refine held_pass ?_ ?_; (focus rfl))); simp only [Act.put, List.setIfInBounds_toArray, List.set_cons_zero, List.set_cons_succ])
  refine held_one ?_
  refine wpList_plain rfl fun K1 hK1 => ?_
  go_wp2_with (go_at_call 70; (with_reducible refine (l_WriteString B n7 pre _ _ ?_ ?_ ?_).mono ?_); (focus (exact hb.keep (by exact kpta))); (focus (simp; omega)); (focus (exact Nat.le_trans hB (Kept.size (by exact kpta)))); rintro e w2 ⟨rfl, hw2, hbe2, ho2⟩)
  (first | refine held_end ?_ | (refine onward_on ?_; first | refine held_nil ?_ | refine ⟨.inl trivial, held_nil ?_⟩ | refine ⟨.inl rfl, held_nil ?_⟩))
  have hbe : Below B w9 w2 := ((show Kept w9 w1 by exact kpta).mono hB).trans hbe2
  have hot := (kept_others (show Kept w9 w1 by exact kpta) 5 (some n7)).trans ho2
  exact HK.out _ _ _ _ _ _ _ _ _ _ _ _ _ _ _ _ _ _ _ ⟨by (rw [HQ.out] at hw2; simpa [cell] using hw2), hbe, hot⟩

end Go.Proofs.YtamnnjdfjffhlaaGreatDoor

/-
  Layer 9: a table as a text.
-/
namespace Go.Proofs.YtamnnjdfjffhlaaGreatDoor
open Go.RowKit Bal Bal.Trim Bal.Sheet Go.Proofs.YtamnnjdfjffhlaaGreatDoor.Trim04
set_option linter.unusedVariables false
set_option linter.unusedSimpArgs false
set_option maxHeartbeats 8000000
set_option maxRecDepth 100000

theorem f_laid (ad : Option Addr) (cap : Nat) (l : List (List Bs)) (w : World) (hx : Row word5 5 w.heap.size w ad l) (ok : TabOk l) : Calls Tryz.prog 38 #[.slice ad l.length cap] w fun e w' => e = .returned (.string (str (laid l))) ∧ Kept w w' := by
  have HX := Lib.hid hx
  have OK := Lib.hid ok
  have n13 := ok.few
  clear hx ok
  go_enter Tryz.func38, Tryz.ntmps38
  go_upto_block 0 with fail
  refine at_world (S := fun X => Blk X w.heap.size (nat5 (wide (l.take 0))) 134 ∧ Kept w X) ⟨by exact blkd, by exact kpta⟩ ?_
  rintro X ⟨b3X, hkX⟩
  obtain ⟨n3, hn3⟩ : ∃ n3, n3 = w.heap.size := ⟨_, rfl⟩
  rw [← hn3] at b3X ⊢
  have HN3 := Lib.hid (Nat.le_of_eq hn3.symm)
  clear hn3
  go_wp2
  go_loopw [13] (fun i wr => ∃ k : Nat, k ≤ l.length ∧ i = .int .i64 k ∧ Blk wr n3 (nat5 (wide (l.take k))) 134 ∧ Kept w wr) (fun i _ => l.length - (intOf i).toNat)
  case atStart => exact ⟨0, Nat.zero_le _, rfl, b3X, hkX⟩
  case round =>
    clear b3X hkX
    obtain ⟨k, hk, rfl, b3, hkw⟩ := hrel
    by_cases hlt : k < l.length
    · have d1 : decide ((k : Int) < (l.length : Int)) = true := by simp; omega
      have wk := i64_w (n := (k : Int) + 1) (by omega)
      have i0 : (0 : Int) ≤ (k : Int) := by omega
      have i1 : (k : Int) < (l.length : Int) := by omega
      obtain ⟨b1, o1, rfl, hb1_, z0, z1, z2, z3, z4⟩ := word5_row (HX.out.later hkw (Nat.le_refl _)) k hlt
      have HTK := Lib.hid (List.take_succ_eq_append_getElem hlt)
      have HRL := Lib.hid (fun q => OK.out.word (List.getElem_mem hlt) q)
      generalize l[k] = r at z0 z1 z2 z3 z4 HTK HRL
      have l3 := b3.lt
      go_upto_block 2 with fail
      refine at_world (S := fun Y => Blk Y wr.heap.size (word5 r).toArray 94 ∧ Blk Y n3 (nat5 (wide (l.take k))) 134 ∧ Kept w Y) ⟨by exact blkd, by exact blkd, by exact kpta⟩ ?_
      rintro Y ⟨b5Y, b3Y, hkY⟩
      obtain ⟨n5, hn5⟩ : ∃ n5, n5 = wr.heap.size := ⟨_, rfl⟩
      have hne : n5 ≠ n3 := by omega
      rw [← hn5] at b5Y ⊢
      clear hn5 b3 hkw l3 z0 z1 z2 z3 z4
      go_wp2
      go_loopw [17] (fun i wq => ∃ j : Nat, j ≤ 5 ∧ i = .int .i64 j ∧ Blk wq n3 (nat5 (fun q => if q < j then wide (l.take (k + 1)) q else wide (l.take k) q)) 134 ∧ Blk wq n5 (word5 r).toArray 94 ∧ Kept w wq) (fun i _ => 5 - (intOf i).toNat)
      case atStart => exact ⟨0, Nat.zero_le _, rfl, b3Y.cast (nat5_congr fun q hq => by simp), b5Y, hkY⟩
      case round =>
        clear b3Y b5Y hkY
        obtain ⟨j, hj, rfl, b3q, b5q, hkq⟩ := hrel
        by_cases hj5 : j < 5
        · have d2 : decide ((j : Int) < 5) = true := by simp; omega
          have wj := i64_w (n := (j : Int) + 1) (by omega)
          go_upto_region 8 with fail
          refine la_8 _ rfl _ b3q b5q hj5 (by have := OK.out.wideTo k j; simp; omega) (by have := HRL.out j; omega) ?_
          rintro _ _ _ _ _ _ _ _ _ _ wc ⟨b3c, hbt⟩
          have b5c := hbt.blk b5q hne
          have hkc : Kept w wc := But.under hkq hbt HN3.out
          have b3d := b3c.cast (nat5_congr (g := fun q => if q < j + 1 then wide (l.take (k + 1)) q else wide (l.take k) q) fun q hq => by
            by_cases e : q = j
            · subst e
              simp only [if_true, Nat.lt_irrefl, if_false, Nat.lt_succ_self]
              rw [HTK.out, wide_next]
            · have : q < j ↔ q < j + 1 := by omega
              simp [e, this])
          clear b3c b3q b5q hkq hbt
          go_wp2
          go_round
          case rel => exact ⟨j + 1, by omega, by go_num, b3d, b5c, hkc⟩
          case measure => simp [intOf]; omega
        · obtain rfl : j = 5 := by omega
          have d2 : decide ((5 : Int) < 5) = false := by decide
          have b3e := b3q.cast (nat5_congr (g := wide (l.take (k + 1))) fun q hq => by simp [hq])
          clear b3q b5q
          go_wp2
          go_round
          case rel => exact ⟨k + 1, by omega, by go_num, b3e, hkq⟩
          case measure => simp [intOf]; omega
    · obtain rfl : k = l.length := by omega
      have d1 : decide ((l.length : Int) < (l.length : Int)) = false := by simp
      rw [List.take_length] at b3
      refine at_world (S := fun V => Blk V n3 (nat5 (wide l)) 134 ∧ Kept w V) ⟨b3, hkw⟩ ?_
      rintro V ⟨b3V, hkV⟩
      clear b3 hkw
      have HG := Lib.hid (fun q => (show wide l q ≤ 100 by have := OK.out.wide q; omega))
      have B3V := Lib.hid b3V
      have HK3 := Lib.hid (show ∀ Z, Kept V Z → Blk Z n3 (nat5 (wide l)) 134 from fun Z hZ => b3V.keep hZ)
      clear b3V
      go_upto_block 4 with fail
      refine at_world (S := fun Z => Bld V.heap.size V.heap.size [] Z ∧ Kept V Z) ⟨Bld.fresh V, by exact kpta⟩ ?_
      rintro Z ⟨hbZ, hkZ⟩
      go_wp2
      go_loopw [34] (fun i wr => ∃ k : Nat, k ≤ l.length ∧ i = .int .i64 k ∧ Bld V.heap.size V.heap.size ((l.take k).flatMap (line (wide l))) wr ∧ Kept V wr) (fun i _ => l.length - (intOf i).toNat)
      case atStart => exact ⟨0, Nat.zero_le _, rfl, hbZ, hkZ⟩
      case round =>
        clear hbZ hkZ
        obtain ⟨k, hk, rfl, hb3, hk3⟩ := hrel
        by_cases hlt : k < l.length
        · have d1 : decide ((k : Int) < (l.length : Int)) = true := by simp; omega
          have wk := i64_w (n := (k : Int) + 1) (by omega)
          have i0 : (0 : Int) ≤ (k : Int) := by omega
          have i1 : (k : Int) < (l.length : Int) := by omega
          have hsV := hk3.size
          obtain ⟨b1, o1, rfl, hb1_, z0, z1, z2, z3, z4⟩ := word5_row ((HX.out.later hkV (Nat.le_refl _)).later hk3 (Nat.le_refl _)) k hlt
          have HTK := Lib.hid (flat_line (wide l) hlt)
          have HRL := Lib.hid (fun q => wide_ge (List.getElem_mem hlt) q)
          have HNM := Lib.hid (OK.out.name (List.getElem_mem hlt))
          have HCL := Lib.hid (fun j => OK.out.cells (List.getElem_mem hlt) j)
          have HPR := Lib.hid (OK.out.pre k)
          generalize l[k] = r at z0 z1 z2 z3 z4 HTK HRL HNM HCL
          obtain ⟨pre, hpre⟩ : ∃ pre, pre = (l.take k).flatMap (line (wide l)) := ⟨_, rfl⟩
          rw [← hpre] at hb3 HPR HTK
          clear hpre
          go_upto_region 15 with fail
          refine at_world (S := fun Y => Blk Y wr.heap.size (word5 r).toArray 94 ∧ Bld V.heap.size V.heap.size pre Y ∧ Kept V Y) ⟨by exact blkd, hb3.keep (by exact kpta), by exact kpta⟩ ?_
          rintro Y ⟨b9Y, hbY, hkY⟩
          obtain ⟨n9, hn9⟩ : ∃ n9, n9 = wr.heap.size := ⟨_, rfl⟩
          have hn9' : n9 ≠ V.heap.size := by
            have := hb3.lt
            omega
          rw [← hn9] at b9Y ⊢
          clear hn9 hb3 hk3 z0 z1 z2 z3 z4
          refine la_15 _ rfl _ (fun c a d v w h => by cases d <;> exact h) (HK3.out _ hkY) b9Y hbY hkY.size (by have := HPR.out; omega) HG.out HRL.out ?_
          rintro _ _ _ _ _ _ _ _ _ _ _ Y2 ⟨hb2, hbe2, ho2⟩
          have b92 := Blk.others b9Y ho2 hn9' (by decide)
          have hk2 : Kept V Y2 := hkY.trans hbe2
          clear b9Y hbY hkY hbe2 ho2
          go_upto_block 6 with fail
          go_wp2
          go_loopw [49] (fun i wq => ∃ j : Nat, j ≤ 4 ∧ i = .int .i64 j ∧ Bld V.heap.size V.heap.size (pre ++ name0 (wide l) r ++ (List.range j).flatMap (cell (wide l) r)) wq ∧ Blk wq n9 (word5 r).toArray 94 ∧ Kept V wq) (fun i _ => 4 - (intOf i).toNat)
          case atStart => exact ⟨0, Nat.zero_le _, rfl, by simpa using hb2, b92, hk2⟩
          case round =>
            clear hb2 b92 hk2
            obtain ⟨j, hj, rfl, hb4, b94, hk4⟩ := hrel
            have hpl := HPR.out
            have hnl := HNM.out
            have hcl := HCL.out j
            by_cases hj4 : j < 4
            · have d2 : decide ((j : Int) < 4) = true := by simp; omega
              have wj := i64_w (n := (j : Int) + 1) (by omega)
              go_upto_region 19 with fail
              refine la_19 _ rfl _ (fun c a d v w h => by cases d <;> exact h) (HK3.out _ hk4) b94 hb4 hk4.size (by simp only [List.length_append]; omega) HG.out HRL.out hj4 ?_
              rintro _ _ _ _ _ _ _ _ _ _ _ _ _ _ _ _ _ _ Y4 ⟨hb5, hbe5, ho5⟩
              have b95 := Blk.others b94 ho5 hn9' (by decide)
              have hk5 : Kept V Y4 := hk4.trans hbe5
              rw [List.append_assoc, ← cells_next] at hb5
              have HB5 := Lib.hid hb5
              clear hb4 b94 hk4 hbe5 ho5 hb5
              go_wp2
              go_round
              case rel => exact ⟨j + 1, by omega, by go_num, HB5.out, b95, hk5⟩
              case measure => simp [intOf]; omega
            · obtain rfl : j = 4 := by omega
              have d2 : decide ((4 : Int) < 4) = false := by decide
              have HB4 := Lib.hid hb4
              have HLEN := Lib.hid (show (pre ++ name0 (wide l) r ++ (List.range 4).flatMap (cell (wide l) r)).length + 1 ≤ 100000 by simp only [List.length_append]; omega)
              clear hb4 b94
              go_wp2_with (go_at_call 70; (with_reducible refine (l_WriteNl V.heap.size V.heap.size (pre ++ name0 (wide l) r ++ (List.range 4).flatMap (cell (wide l) r)) _ ?_ ?_ ?_).mono ?_); (focus (exact HB4.out)); (focus (exact HLEN.out)); (focus (exact Kept.size hk4)); rintro e w5 ⟨rfl, hb5, hbe5, _⟩)
              have hk6 : Kept V w5 := hk4.trans hbe5
              have hb6 : Bld V.heap.size V.heap.size ((l.take (k + 1)).flatMap (line (wide l))) w5 := by
                rw [HTK.out]
                simpa [line, body] using hb5
              clear hb5
              have HB6 := Lib.hid hb6
              clear hb6
              go_wp2
              go_round
              case rel => exact ⟨k + 1, by omega, by go_num, HB6.out, hk6⟩
              case measure => simp [intOf]; omega
        · obtain rfl : k = l.length := by omega
          have d1 : decide ((l.length : Int) < (l.length : Int)) = false := by simp
          rw [List.take_length] at hb3
          have HB3 := Lib.hid (show Bld V.heap.size V.heap.size (laid l) _ from hb3)
          clear hb3
          go_wp2_with (go_at_call 72; (with_reducible refine (l_String V.heap.size V.heap.size (laid l) _ ?_ ?_).mono ?_); (focus (exact HB3.out)); (focus (exact Kept.size hk3)); rintro e w6 ⟨rfl, hbe6⟩)
          go_ret
          exact ⟨rfl, Kept.drop hkV (hk3.trans hbe6)⟩

end Go.Proofs.YtamnnjdfjffhlaaGreatDoor

/-
  Layer 9: a sheet is written: what its last region makes.
-/
namespace Go.Proofs.YtamnnjdfjffhlaaGreatDoor
open Go.RowKit Bal Bal.Trim Bal.Sheet Go.Proofs.YtamnnjdfjffhlaaGreatDoor.Trim04
set_option linter.unusedVariables false
set_option linter.unusedSimpArgs false
set_option maxHeartbeats 8000000
set_option maxRecDepth 100000
attribute [local go_sem] str_app lit_app app_lit str_size ite_max

theorem infoRow : (Tryz.prog.info? 94).map (fun i => (i.zero, i.size, i.bytes)) = some (some (.agg #[.string ByteArray.empty, .string ByteArray.empty, .string ByteArray.empty, .string ByteArray.empty, .string ByteArray.empty]), 5, 80) := by kernel_rfl
theorem l_CheckLimits0 (w : World) : Calls Tryz.prog 33 #[.slice none 0 0] w fun e w' => e = .returned (.int .i64 0) ∧ Kept w w' := f_CheckLimits none 0 [] w Row.nil (Nat.le_refl _) (by simp [maxLen])
theorem l_Balance (al : Option Addr) (cl n : Nat) (L : List Load) (hn : L.length = n) (w : World) (hr : Row Load.cells 4 w.heap.size w al L) (hc : n ≤ cl) (hm : cl ≤ maxLen) (h0 : checkLoads L = 0) :
    Calls Tryz.prog 17 #[.slice al n cl] w fun e w' => e = .returned (.tuple #[.agg #[.int .i64 (sumBy Load.wlo L), .int .i64 (sumBy Load.whi L)], .agg #[.int .i64 (sumBy mLo L), .int .i64 (sumBy mHi L)], .int .i64 0]) ∧ Kept w w' := by
  subst hn
  have h := f_Balance al cl L w hr hc hm
  rw [h0] at h
  exact h
theorem l_Breach (al : Option Addr) (cl n : Nat) (L : List Load) (hn : L.length = n) (w : World) (hr : Row Load.cells 4 w.heap.size w al L) (hc : n ≤ cl) (hm : cl ≤ maxLen) (h0 : checkLoads L = 0) :
    Calls Tryz.prog 36 #[.slice al n cl, .slice none 0 0] w fun e w' => (∃ x ad m c, e = .returned (.tuple #[.agg #[.int .i64 x, .slice ad m c], .int .i64 6])) ∧ Kept w w' := by
  subst hn
  refine (f_Breach al cl L none 0 [] w hr hc hm Row.nil (Nat.le_refl _) (by simp [maxLen])).mono ?_
  rintro e w' ⟨v, rfl, ho, hk⟩
  obtain ⟨ad, c, rfl⟩ := owns_shapeW ho
  have hb : both L [] = 0 := by unfold both; rw [if_pos h0]; rfl
  have hE : breachE L [] = 6 := by unfold breachE; rw [if_pos hb]; rfl
  rw [hE]
  exact ⟨⟨_, _, _, _, rfl⟩, hk⟩

theorem l_total (x y p q : Int) (w : World) (ht : Tabs w) (hx : (-9223372036854775808 ≤ x ∧ x ≤ 9223372036854775807)) (hy : (-9223372036854775808 ≤ y ∧ y ≤ 9223372036854775807)) (hp : (-9223372036854775808 ≤ p ∧ p ≤ 9223372036854775807)) (hq : (-9223372036854775808 ≤ q ∧ q ≤ 9223372036854775807)) : Calls Tryz.prog 35 #[.string { data := #[84, 79, 84, 65, 76] }, .agg #[.int .i64 x, .int .i64 y], .agg #[.int .i64 p, .int .i64 q]] w fun e w' => e = .returned (.agg #[.string (str totalW), .string (str (Lib.itoa x)), .string (str (Lib.itoa y)), .string (str (Lib.itoa p)), .string (str (Lib.itoa q))]) ∧ Kept w w' := f_told totalW x y p q w ht hx hy hp hq

theorem wr_19 {s0 s1 s3 s4 s5 s6 s7 s8 s11 s13 s14 s16 s17 s18 s19 s20 s21 s22 s23 s24 s25 s26 s27 s28 s29 s30 s31 s32 s33 s34 s35 s36 s37 s38 s39 s40 s41 s42 s43 s44 s45 s46 s47 s48 s49 s50 s51 s52 s53 s54 s55 s56 s57 s58 s59 s60 s61 s62 s63 s64 s65 s66 s67 s68 s69 s70 s71 s72 s73 s74 s75 s76 s77 s78 s79 s80 s81 s82 : Value} {V : World} {n2 n9 n10 cp : Nat} {ad av : Option Addr} {N cap m : Nat} {x y p q : Int} {T : List (List Bs)} {w9 : World} (C : Code) (hC : (Tryz.f13.body.bind fun c => regOf c 19) = some C) (Q : Exit → Act → World → Prop) (hQ : ∀ c a d v w, Q (.panic c) (Act.put a d v) w → Q (.panic c) a w) (b2 : Blk V n2 #[.string (str lzW), .slice ad N cap] 58) (b9 : Blk V n9 #[.int .i64 x, .int .i64 y] 28) (b10 : Blk V n10 #[.int .i64 p, .int .i64 q] 28) (hkV : Kept V w9) (ht : Tabs w9) (hm : T.length = m) (hown : w9.ownsRow V.heap.size 94 5 (.slice av m cp) m (T.flatMap word5)) (hx : (-9223372036854775808 ≤ x ∧ x ≤ 9223372036854775807)) (hy : (-9223372036854775808 ≤ y ∧ y ≤ 9223372036854775807)) (hp : (-9223372036854775808 ≤ p ∧ p ≤ 9223372036854775807)) (hq : (-9223372036854775808 ≤ q ∧ q ≤ 9223372036854775807)) (ok : TabOk (T ++ [[totalW, Lib.itoa x, Lib.itoa y, Lib.itoa p, Lib.itoa q]])) (hlen : (laid (T ++ [[totalW, Lib.itoa x, Lib.itoa y, Lib.itoa p, Lib.itoa q]])).length ≤ 90000)
    (hK : ∀  (u68 u69 u70 u71 u72 u73 u74 u75 u76 u77 u78 u79 u80 u81 u82 : Value) (wc : World), (Kept V wc) → Q .normal ⟨#[s0, s1, .pointer (some ⟨n2, 0, none⟩), s3, .string (str (sheetT lzW (T ++ [[totalW, Lib.itoa x, Lib.itoa y, Lib.itoa p, Lib.itoa q]]) keptW)), .int .i64 (0), s6, s7, s8, .pointer (some ⟨n9, 0, none⟩), .pointer (some ⟨n10, 0, none⟩), s11, .slice av m cp, s13, s14, .string { data := #[75, 69, 80, 84] }, s16, s17, s18, s19, s20, s21, s22, s23, s24, s25, s26, s27, s28, s29, s30, s31, s32, s33, s34, s35, s36, s37, s38, s39, s40, s41, s42, s43, s44, s45, s46, s47, s48, s49, s50, s51, s52, s53, s54, s55, s56, s57, s58, s59, s60, s61, s62, s63, s64, s65, s66, s67, u68, u69, u70, u71, u72, u73, u74, u75, u76, u77, u78, u79, u80, u81, u82], []⟩ wc) : C.wp Tryz.prog Q ⟨#[s0, s1, .pointer (some ⟨n2, 0, none⟩), s3, s4, s5, s6, s7, s8, .pointer (some ⟨n9, 0, none⟩), .pointer (some ⟨n10, 0, none⟩), s11, .slice av m cp, s13, s14, .string { data := #[75, 69, 80, 84] }, s16, s17, s18, s19, s20, s21, s22, s23, s24, s25, s26, s27, s28, s29, s30, s31, s32, s33, s34, s35, s36, s37, s38, s39, s40, s41, s42, s43, s44, s45, s46, s47, s48, s49, s50, s51, s52, s53, s54, s55, s56, s57, s58, s59, s60, s61, s62, s63, s64, s65, s66, s67, s68, s69, s70, s71, s72, s73, s74, s75, s76, s77, s78, s79, s80, s81, s82], []⟩ w9 := by
  have e0 : (Tryz.f13.body.bind fun c => regOf c 19) = some (.region 19 _ _) := rfl
  rw [e0] at hC
  cases hC
  clear e0
  try dsimp only at hK ⊢
  subst hm
  have HK := Lib.hid hK
  clear hK
  have K2 := Lib.hid (show ∀ Z, Kept V Z → Blk Z n2 #[.string (str lzW), .slice ad N cap] 58 from fun Z hZ => b2.keep hZ)
  have K9 := Lib.hid (show ∀ Z, Kept V Z → Blk Z n9 #[.int .i64 x, .int .i64 y] 28 from fun Z hZ => b9.keep hZ)
  have K10 := Lib.hid (show ∀ Z, Kept V Z → Blk Z n10 #[.int .i64 p, .int .i64 q] 28 from fun Z hZ => b10.keep hZ)
  have HT := Lib.hid ht
  have HX := Lib.hid hx
  have HY := Lib.hid hy
  have HP := Lib.hid hp
  have HQ := Lib.hid hq
  have OK := Lib.hid ok
  have HLEN := Lib.hid hlen
  have HLZ := Lib.hid (show lzW.length = 2 from rfl)
  have hcA : ¬ (9223372036854775807 < 6 + lzW.length) := by (have := HLZ.out; omega)
  have hcB : ¬ (9223372036854775807 < lzW.length + 1 + 1 + 1 + 1 + 1 + 1 + 1) := by (have := HLZ.out; omega)
  have h13 : T.length ≤ 12 := by have := ok.few; simp at this; omega
  clear b2 b9 b10 ht hx hy hp hq ok hlen
  refine held_walk (fun w' => Blk w' n2 #[.string (str lzW), .slice ad N cap] 58 ∧ Blk w' n9 #[.int .i64 x, .int .i64 y] 28 ∧ Blk w' n10 #[.int .i64 p, .int .i64 q] 28) [(true, 0), (true, 1), (true, 2), (true, 3), (true, 4), (true, 5), (true, 6), (true, 12), (false, 7), (false, 8), (false, 9), (false, 10), (true, 11), (true, 13), (true, 14), (false, 15), (false, 16)] 16 (by kernel_rfl) (by kernel_rfl) hQ ⟨K2.out _ (by exact kpta), K9.out _ (by exact kpta), K10.out _ (by exact kpta)⟩ ?_
  simp only [List.filterMap_cons, List.filterMap_nil, List.getElem?_cons_zero, List.getElem?_cons_succ, Option.map_some]
  iterate 8 ((first | (refine held_take ?_ ?_ (fun w' hS => ?_) ?_; rotate_left 1; (focus rfl); (focus (first | (go_simp; done) | (go_simp; with_reducible rfl) | (obtain ⟨S1, S2, S3⟩ := hS; have S1c0 := S1.cell 0; have S1f0 := S1.free 0; have S1c1 := S1.cell 1; have S1f1 := S1.free 1; have S1l := S1.lt; simp at S1c0 S1c1; have S2c0 := S2.cell 0; have S2f0 := S2.free 0; have S2c1 := S2.cell 1; have S2f1 := S2.free 1; have S2l := S2.lt; simp at S2c0 S2c1; have S3c0 := S3.cell 0; have S3f0 := S3.free 0; have S3c1 := S3.cell 1; have S3f1 := S3.free 1; have S3l := S3.lt; simp at S3c0 S3c1; first | (go_simp; done) | (go_simp; with_reducible rfl))))) | (refine held_pass ?_ ?_; (focus rfl))); simp only [Act.put, List.setIfInBounds_toArray, List.set_cons_zero, List.set_cons_succ])
  refine held_one ?_
  refine wpList_plain rfl fun K1 hK1 => ?_
  go_wp2_with (go_at_call 35; (with_reducible refine (l_total x y p q _ (HT.out.keep (by exact kpta)) HX.out HY.out HP.out HQ.out).mono ?_); rintro e w1 ⟨rfl, hb1⟩)
  refine held_on ⟨(K2.out _ (by exact kpta)), (K9.out _ (by exact kpta)), (K10.out _ (by exact kpta))⟩ ?_
  refine held_one ?_
  refine wpList_plain rfl fun K1 hK1 => ?_
  go_wp2
  refine held_on ⟨(K2.out _ (by exact kpta)), (K9.out _ (by exact kpta)), (K10.out _ (by exact kpta))⟩ ?_
  refine held_one ?_
  go_wp2_with (at_builtin; (obtain ⟨i0, hi, hz0, hz1, hz2⟩ := info_partsW infoRow; refine wpList_append_own _ rfl _ _ 92 rfl V.heap.size 94 i0 (.agg #[.string ByteArray.empty, .string ByteArray.empty, .string ByteArray.empty, .string ByteArray.empty, .string ByteArray.empty]) 5 80 Tryz.underlying92 hi hz0 hz1 hz2 rfl (by decide) _ _ _ rfl (owns_keep hown (by exact kpta)) ⟨_, 0, none⟩ 1 1 [.string (str totalW), .string (str (Lib.itoa x)), .string (str (Lib.itoa y)), .string (str (Lib.itoa p)), .string (str (Lib.itoa q))] rfl rfl (cells_atW (by simp) _ _) (fun x hx => by simp at hx; rcases hx with rfl | rfl | rfl | rfl | rfl <;> rfl) (by unfold maxLen; omega) (by omega) (by simp; have := hkV.size; have := hb1.size; (try simp at this); omega) ?_; intro v9 w8 hown9 hgrow9 hnil9; clear hi hz0 hz1 hz2; have hkg : Kept V w8 := Kept.grown (show Kept V _ by exact kpta) (owns_keep hown (by exact kpta)) (Nat.le_refl _) hgrow9; obtain ⟨aw, cw, rfl, hrw, hcw, hmw⟩ := owns_row (enc := word5) (k := 5) (xs := (T ++ [[totalW, Lib.itoa x, Lib.itoa y, Lib.itoa p, Lib.itoa q]])) (fun _ => rfl) (by rw [List.length_append, List.flatMap_append]; exact hown9); have KL := Lib.hid (show ∀ Z, Kept w8 Z → Calls Tryz.prog 38 #[.slice aw (T.length + 1) cw] Z fun e w' => e = .returned (.string (str (laid (T ++ [[totalW, Lib.itoa x, Lib.itoa y, Lib.itoa p, Lib.itoa q]])))) ∧ Kept Z w' from fun Z hZ => by have k_ := f_laid aw cw (T ++ [[totalW, Lib.itoa x, Lib.itoa y, Lib.itoa p, Lib.itoa q]]) Z (hrw.later hZ (Nat.le_refl _)) OK.out; rw [List.length_append] at k_; exact k_)))
  first | refine held_on ⟨K2.out _ hkg, K9.out _ hkg, K10.out _ hkg⟩ ?_ | (refine onward_on ?_; refine ⟨⟨K2.out _ hkg, K9.out _ hkg, K10.out _ hkg⟩, ?_⟩)
  refine held_one ?_
  refine wpList_plain rfl fun K1 hK1 => ?_
  go_wp2_with (go_at_call 38; (with_reducible refine (KL.out _ (by exact kpta)).mono ?_); rintro e w2 ⟨rfl, hb2⟩; obtain ⟨z, hz⟩ : ∃ z, z = laid (T ++ [[totalW, Lib.itoa x, Lib.itoa y, Lib.itoa p, Lib.itoa q]]) := ⟨_, rfl⟩; rw [← hz]; have hzl : z.length ≤ 90000 := (by (rw [hz]; exact HLEN.out)); have HZ := Lib.hid hz; clear hz; have hcC : ¬ (9223372036854775807 < lzW.length + 1 + 1 + 1 + 1 + 1 + 1 + 1 + z.length) := (by have := HLZ.out; omega); have hcD : ¬ (9223372036854775807 < lzW.length + (z.length + 1) + 1 + 1 + 1 + 1 + 1 + 1 + 4) := (by have := HLZ.out; omega); have hcE : ¬ (9223372036854775807 < lzW.length + (z.length + 4 + 1) + 1 + 1 + 1 + 1 + 1 + 1 + 1) := (by have := HLZ.out; omega))
  refine held_on ⟨(K2.out _ (by exact kpta)), (K9.out _ (by exact kpta)), (K10.out _ (by exact kpta))⟩ ?_
  iterate 3 ((first | (refine held_take ?_ ?_ (fun w' hS => ?_) ?_; rotate_left 1; (focus rfl); (focus (first | (go_simp; done) | (go_simp; with_reducible rfl) | (obtain ⟨S1, S2, S3⟩ := hS; have S1c0 := S1.cell 0; have S1f0 := S1.free 0; have S1c1 := S1.cell 1; have S1f1 := S1.free 1; have S1l := S1.lt; simp at S1c0 S1c1; have S2c0 := S2.cell 0; have S2f0 := S2.free 0; have S2c1 := S2.cell 1; have S2f1 := S2.free 1; have S2l := S2.lt; simp at S2c0 S2c1; have S3c0 := S3.cell 0; have S3f0 := S3.free 0; have S3c1 := S3.cell 1; have S3f1 := S3.free 1; have S3l := S3.lt; simp at S3c0 S3c1; first | (go_simp; done) | (go_simp; with_reducible rfl))))) | (refine held_pass ?_ ?_; (focus rfl))); simp only [Act.put, List.setIfInBounds_toArray, List.set_cons_zero, List.set_cons_succ])
  refine held_one ?_
  refine wpList_plain rfl fun K1 hK1 => ?_
  go_wp2
  refine held_on ⟨(K2.out _ (by exact kpta)), (K9.out _ (by exact kpta)), (K10.out _ (by exact kpta))⟩ ?_
  refine held_one ?_
  refine wpList_plain rfl fun K1 hK1 => ?_
  go_wp2
  (first | refine held_end ?_ | (refine onward_on ?_; first | refine held_nil ?_ | refine ⟨.inl trivial, held_nil ?_⟩ | refine ⟨.inl rfl, held_nil ?_⟩))
  have hs : (83 :: 72 :: 69 :: 69 :: 84 :: 32 :: (lzW ++ 10 :: (z ++ [75, 69, 80, 84, 10])) : Bs) = sheetT lzW (T ++ [[totalW, Lib.itoa x, Lib.itoa y, Lib.itoa p, Lib.itoa q]]) keptW := by
    rw [HZ.out]
    simp [sheetT, keptW]
  rw [hs]
  exact HK.out _ _ _ _ _ _ _ _ _ _ _ _ _ _ _ _ (Kept.drop hkg hb2)
  
end Go.Proofs.YtamnnjdfjffhlaaGreatDoor

/-
  Layer 9: a sheet is written.
-/
namespace Go.Proofs.YtamnnjdfjffhlaaGreatDoor
open Go.RowKit Bal Bal.Trim Bal.Sheet Go.Proofs.YtamnnjdfjffhlaaGreatDoor.Trim04
set_option linter.unusedVariables false
set_option linter.unusedSimpArgs false
set_option maxHeartbeats 8000000
set_option maxRecDepth 100000
attribute [local go_sem] str_app lit_app app_lit str_size ite_max

theorem f_WriteSheet (ad : Option Addr) (cap : Nat) (rs : List SRow) (w : World) (hx : Row SRow.cells 5 w.heap.size w ad rs) (ok : RowsOk rs) (ht : Tabs w) : Calls Tryz.prog 13 #[.agg #[.string (str lzW), .slice ad rs.length cap], .slice none 0 0] w fun e w' => e = .returned (.tuple #[.string (str (sheetOf rs)), .int .i64 0]) ∧ Kept w w' := by
  have HX := Lib.hid hx
  have OK := Lib.hid ok
  have HT0 := Lib.hid ht
  have HL := Lib.hid ok.loads
  have HN := Lib.hid (show rs.length ≤ 40 by have := ok.few; omega)
  have n12 := ok.few
  have htb := tot_bd (l := rs.map SRow.ld) (by rw [List.length_map]; omega) (fun x hx_ => by obtain ⟨r, hr, rfl⟩ := List.mem_map.1 hx_; exact load_ok (ok.load r hr))
  obtain ⟨HLO, hLO⟩ : ∃ z, z = sumBy Load.wlo (rs.map SRow.ld) := ⟨_, rfl⟩
  obtain ⟨HHI, hHI⟩ : ∃ z, z = sumBy Load.whi (rs.map SRow.ld) := ⟨_, rfl⟩
  obtain ⟨MLO, hMLO⟩ : ∃ z, z = sumBy mLo (rs.map SRow.ld) := ⟨_, rfl⟩
  obtain ⟨MHI, hMHI⟩ : ∃ z, z = sumBy mHi (rs.map SRow.ld) := ⟨_, rfl⟩
  rw [← hLO, ← hHI, ← hMLO, ← hMHI] at htb
  have HTB := Lib.hid htb
  have HTOT := Lib.hid (show tableOf rs = rs.map toldR ++ [[totalW, Lib.itoa HLO, Lib.itoa HHI, Lib.itoa MLO, Lib.itoa MHI]] by rw [hLO, hHI, hMLO, hMHI]; rfl)
  have HBAL := Lib.hid (show ∀ al cl W, Row Load.cells 4 W.heap.size W al (rs.map SRow.ld) → rs.length ≤ cl → cl ≤ maxLen → Calls Tryz.prog 17 #[.slice al rs.length cl] W fun e w' => e = .returned (.tuple #[.agg #[.int .i64 HLO, .int .i64 HHI], .agg #[.int .i64 MLO, .int .i64 MHI], .int .i64 0]) ∧ Kept W w' from fun al cl W h1 h2 h3 => by
    rw [hLO, hHI, hMLO, hMHI]
    exact l_Balance al cl rs.length (rs.map SRow.ld) (List.length_map _) W h1 h2 h3 HL.out)
  clear hx ok ht htb hLO hHI hMLO hMHI
  go_enter Tryz.func13, Tryz.ntmps13
  go_upto_block 0 with (first | (go_at_call 32; (with_reducible refine (f_CheckSheet ad cap rs _ (HX.out.later (by exact kpta) (Nat.le_refl _)) OK.out).mono ?_); rintro e w1 ⟨rfl, hb1⟩; refine Blk.thru (b := w.heap.size) (arr := ?_) (t := ?_) ?_ hb1 ?_; rotate_left 2; (focus (exact blk)); intro o1; have o1c0 := o1.cell 0; have o1f0 := o1.free 0; have o1c1 := o1.cell 1; have o1f1 := o1.free 1; have o1l := o1.lt; simp at o1c0 o1c1) | (go_at_call 33; (with_reducible refine (l_CheckLimits0 _).mono ?_); rintro e w2 ⟨rfl, hb2⟩; refine Blk.thru (b := w.heap.size) (arr := ?_) (t := ?_) ?_ hb2 ?_; rotate_left 2; (focus (exact blk)); intro o2; have o2c0 := o2.cell 0; have o2f0 := o2.free 0; have o2c1 := o2.cell 1; have o2f1 := o2.free 1; have o2l := o2.lt; simp at o2c0 o2c1) | (go_at_call 34; (with_reducible refine (f_loads _ ad cap rs _ (HX.out.later (by exact kpta) (Nat.le_refl _)) HN.out).mono ?_); rintro e w3 ⟨⟨al, cl, rfl, hrl, hcl, hcm⟩, hb3⟩; refine Blk.thru (b := w.heap.size) (arr := ?_) (t := ?_) ?_ hb3 ?_; rotate_left 2; (focus (exact blk)); intro o3; have o3c0 := o3.cell 0; have o3f0 := o3.free 0; have o3c1 := o3.cell 1; have o3f1 := o3.free 1; have o3l := o3.lt; simp at o3c0 o3c1) | (go_at_call 17; (with_reducible refine (HBAL.out al cl _ (hrl.later (by exact kpta) (Nat.le_refl _)) hcl hcm).mono ?_); rintro e w4 ⟨rfl, hb4⟩; refine Blk.thru (b := w.heap.size) (arr := ?_) (t := ?_) ?_ hb4 ?_; rotate_left 2; (focus (exact blk)); intro o4; have o4c0 := o4.cell 0; have o4f0 := o4.free 0; have o4c1 := o4.cell 1; have o4f1 := o4.free 1; have o4l := o4.lt; simp at o4c0 o4c1))
  obtain ⟨n9, hn9⟩ : ∃ n, n = w4.heap.size := ⟨_, rfl⟩
  refine at_world (S := fun V => Blk V w.heap.size #[.string (str lzW), .slice ad rs.length cap] 58 ∧ Blk V w4.heap.size #[.int .i64 HLO, .int .i64 HHI] 28 ∧ Blk V (w4.heap.size + 1) #[.int .i64 MLO, .int .i64 MHI] 28 ∧ Row Load.cells 4 V.heap.size V al (rs.map SRow.ld) ∧ Kept w V) ⟨by exact blkd, by exact blkd, by exact blkd, hrl.later (by exact kpta) (Nat.le_refl _), by exact kpta⟩ ?_
  rintro V ⟨b2, b9, b10, hrlV, hkV⟩
  rw [← hn9] at b9 b10 ⊢
  clear hn9 hb1 hb2 hb3 hb4 hrl
  have HRL := Lib.hid (show ∀ Z, Kept V Z → Row Load.cells 4 Z.heap.size Z al (rs.map SRow.ld) from fun Z hZ => hrlV.later hZ (Nat.le_refl _))
  have HXV := Lib.hid (HX.out.later hkV (Nat.le_refl _))
  have HTV := Lib.hid (HT0.out.keep hkV)
  have K2 := Lib.hid b2
  have K9 := Lib.hid b9
  have K10 := Lib.hid b10
  clear b2 b9 b10 hrlV
  go_wp2
  go_loopw [39, 12] (fun i v wr => ∃ k : Nat, k ≤ rs.length ∧ i = .int .i64 k ∧ wr.ownsRow V.heap.size 94 5 v k (((rs.take k).map toldR).flatMap word5) ∧ Kept V wr) (fun i _ _ => rs.length - (intOf i).toNat)
  case atStart => exact ⟨0, Nat.zero_le _, rfl, owns_nil (α := List Bs) (enc := word5), Below.refl _ _⟩
  case round =>
    obtain ⟨k, hk, rfl, hown, hkw⟩ := hrel
    by_cases hlt : k < rs.length
    · have d1 : decide ((k : Int) < (rs.length : Int)) = true := by simp; omega
      have wk := i64_w (n := (k : Int) + 1) (by omega)
      have i0 : (0 : Int) ≤ (k : Int) := by omega
      have i1 : (k : Int) < (rs.length : Int) := by omega
      obtain ⟨b1, o1, rfl, hb1_, z0, z1, z2, z3, z4⟩ := SRow.row (HXV.out.later hkw (Nat.le_refl _)) k hlt
      have HXB := Lib.hid (show (-9223372036854775808 ≤ rs[k].ld.alo ∧ rs[k].ld.alo ≤ 9223372036854775807) ∧ (-9223372036854775808 ≤ rs[k].ld.ahi ∧ rs[k].ld.ahi ≤ 9223372036854775807) ∧ (-9223372036854775808 ≤ rs[k].ld.wlo ∧ rs[k].ld.wlo ≤ 9223372036854775807) ∧ (-9223372036854775808 ≤ rs[k].ld.whi ∧ rs[k].ld.whi ≤ 9223372036854775807) by have := OK.out.load _ (List.getElem_mem hlt); omega)
      have HFL := Lib.hid (flat_next word5 (rs.map toldR) (k := k) (by simpa using hlt))
      rw [List.getElem_map] at HFL
      generalize rs[k] = x at z0 z1 z2 z3 z4 HXB HFL
      have HT := Lib.hid (HTV.out.keep hkw)
      obtain ⟨al_, cl_, rfl⟩ := owns_shapeW hown
      go_wp2_with (first | (go_at_call 35; (with_reducible refine (f_told x.name x.ld.alo x.ld.ahi x.ld.wlo x.ld.whi _ (HT.out.keep (by exact kpta)) HXB.out.1 HXB.out.2.1 HXB.out.2.2.1 HXB.out.2.2.2).mono ?_); rintro e w1 ⟨rfl, hb1⟩) | (at_builtin; (obtain ⟨i0, hi, hz0, hz1, hz2⟩ := info_partsW infoRow; refine wpList_append_own _ rfl _ _ 92 rfl V.heap.size 94 i0 (.agg #[.string ByteArray.empty, .string ByteArray.empty, .string ByteArray.empty, .string ByteArray.empty, .string ByteArray.empty]) 5 80 Tryz.underlying92 hi hz0 hz1 hz2 rfl (by decide) _ _ _ rfl (owns_keep hown (by exact kpta)) ⟨_, 0, none⟩ 1 1 [.string (str x.name), .string (str (Lib.itoa (x.ld.alo))), .string (str (Lib.itoa (x.ld.ahi))), .string (str (Lib.itoa (x.ld.wlo))), .string (str (Lib.itoa (x.ld.whi)))] rfl rfl (cells_atW (by simp) _ _) (fun x hx => by simp at hx; rcases hx with rfl | rfl | rfl | rfl | rfl <;> rfl) (by unfold maxLen; omega) (by omega) (by simp; have := hkw.size; have := hb1.size; (try simp at this); omega) ?_; intro v9 w8 hown9 hgrow9 hnil9; clear hi hz0 hz1 hz2)))
      go_round
      case rel =>
        refine ⟨k + 1, by omega, by go_num, ?_, Kept.grown (show Kept V _ by exact kpta) (owns_keep hown (by exact kpta)) (Nat.le_refl _) hgrow9⟩
        have e := HFL.out
        rw [List.map_take, e, ← List.map_take]
        exact hown9
      case measure => simp [intOf]; omega
    · obtain rfl : k = rs.length := by omega
      have d1 : decide ((rs.length : Int) < (rs.length : Int)) = false := by simp
      rw [List.take_length] at hown
      have HOWN := Lib.hid hown
      obtain ⟨av, cp, rfl⟩ := owns_shapeW hown
      clear hown
      go_upto_region 19 with (go_at_call 36; (with_reducible refine (l_Breach al cl rs.length (rs.map SRow.ld) (List.length_map _) _ (HRL.out _ (by exact kpta)) hcl hcm HL.out).mono ?_); rintro e w5 ⟨⟨bx, bd, bm, bc, rfl⟩, hb5⟩)
      refine at_world (S := fun Z => Kept wr Z) (by exact kpta) ?_
      intro Z hkZ
      have hZ : Kept V Z := Kept.drop hkw hkZ
      refine wr_19 _ rfl _ (fun c a d v w h => by cases d <;> exact h) (T := rs.map toldR) K2.out K9.out K10.out hZ (HTV.out.keep hZ) (List.length_map _) (owns_keep HOWN.out hkZ) HTB.out.1 HTB.out.2.1 HTB.out.2.2.1 HTB.out.2.2.2 (by rw [← HTOT.out]; exact OK.out.table) (by rw [← HTOT.out]; have := laid_len OK.out; omega) ?_
      rintro _ _ _ _ _ _ _ _ _ _ _ _ _ _ _ Z2 hZ2
      rw [← HTOT.out]
      go_wp2
      exact bodyPost_ret (v := .tuple #[.string (str (sheetOf rs)), .int .i64 0]) (by simp [results, Tryz.results13, go_sem, sheetOf]) rfl ⟨rfl, Kept.drop hkV hZ2⟩

end Go.Proofs.YtamnnjdfjffhlaaGreatDoor

/-
  Layer 9: a sheet is read: what it calls, and its append.
-/
namespace Go.Proofs.YtamnnjdfjffhlaaGreatDoor
open Go.RowKit Bal Bal.Trim Bal.Sheet Go.Proofs.YtamnnjdfjffhlaaGreatDoor.Trim04
set_option linter.unusedVariables false
set_option linter.unusedSimpArgs false
set_option maxHeartbeats 8000000
set_option maxRecDepth 100000
attribute [local go_sem] str_app lit_app app_lit str_size ite_max

theorem infoSR : (Tryz.prog.info? 55).map (fun i => (i.zero, i.size, i.bytes)) = some (some (.agg #[.string ByteArray.empty, .int .i64 0, .int .i64 0, .int .i64 0, .int .i64 0]), 5, 48) := by kernel_rfl
theorem f_number (s : Bs) (n : Int) (w : World) (hl : s.length ≤ 18) (h : Lib.atoi s = some n) : Calls Tryz.prog 47 #[.string (str s)] w fun e w' => e = .returned (.int .i64 n) ∧ Kept w w' := by
  go_enter Tryz.func47, Tryz.ntmps47
  go_wp2_with (go_at_call 78; (with_reducible refine (l_Atoi s n _ hl h).mono ?_); rintro e w1 ⟨rfl, hb1⟩)
  go_ret
  exact ⟨rfl, hb1⟩

theorem l_SplitT (rs : List SRow) (w : World) (ok : RowsOk rs) (ht : Tabs w) :
    Calls Tryz.prog 44 #[.string (str (sheetOf rs)), .string { data := #[10] }] w fun e w' => e = .returned (.slice (some ⟨w.heap.size, 0, none⟩) (rs.length + 4) (rs.length + 4)) ∧ Blk w' w.heap.size (((linesOf rs ++ [[]]).map fun l => Value.string (str l)).toArray) 9 ∧ Kept w w' := by
  have h := l_Split (linesOf rs) w (linesOf_no ok.name) (by rw [← sheetOf_lines]; have := sheet_len ok; omega) ht
  rw [← sheetOf_lines, linesOf_len] at h
  refine h.mono ?_
  rintro e w' ⟨he, rfl⟩
  exact ⟨he, Blk.new' rfl, (Below.refl _ _).alloc (Nat.le_refl _) _⟩
theorem l_TrimLZ (w : World) : Calls Tryz.prog 45 #[.string (str (83 :: 72 :: 69 :: 69 :: 84 :: 32 :: lzW)), .string { data := #[83, 72, 69, 69, 84, 32] }] w fun e w' => e = .returned (.string (str lzW)) ∧ w = w' := by
  have h := l_TrimPrefix (83 :: 72 :: 69 :: 69 :: 84 :: 32 :: lzW) [83, 72, 69, 69, 84, 32] w
  rw [show Lib.trimPrefix (83 :: 72 :: 69 :: 69 :: 84 :: 32 :: lzW) [83, 72, 69, 69, 84, 32] = lzW by unfold lzW; decide] at h
  exact h
theorem l_FieldsR (W : Nat → Nat) (x : SRow) (w : World) (hn : nameB x.name = true) (hl : (body W (toldR x)).length ≤ 100000) (ht : Tabs w) :
    Calls Tryz.prog 46 #[.string (str (body W (toldR x)))] w fun e w' => e = .returned (.slice (some ⟨w.heap.size, 0, none⟩) 5 5) ∧ Blk w' w.heap.size (word5 (toldR x)).toArray 9 ∧ Kept w w' := by
  have h := l_Fields (body W (toldR x)) w hl (fun b hb => by have := body_lb (words_told hn) b hb; simp only [lb, Bool.and_eq_true, decide_eq_true_eq] at this; omega) ht
  rw [fields_body (words_told hn)] at h
  refine h.mono ?_
  rintro e w' ⟨he, rfl⟩
  exact ⟨he, Blk.new' rfl, (Below.refl _ _).alloc (Nat.le_refl _) _⟩

theorem rd_16 {s0 s1 s2 s3 s4 s5 s6 s7 s9 s10 s12 s13 s14 s15 s16 s17 s18 s19 s20 s21 s22 s23 s24 s25 s26 s27 s28 s29 s30 s31 s32 s33 s34 s35 s36 s37 s38 s39 s40 s41 s42 s43 s44 s45 s46 s47 s48 s49 s50 s51 s52 s53 s54 s55 s56 s57 s58 s59 s60 s61 s62 s63 s64 s65 s66 s67 s68 s69 s70 s71 s72 s73 s74 s75 s76 s77 s78 s79 s80 s81 s82 s83 s84 s85 s86 s87 s88 s89 s90 s91 s92 s93 s94 s95 s96 s97 s98 s99 : Value} {w : World} {n8 nf B n : Nat} {v : Value} {x : SRow} {L : List SRow} {w9 : World} (C : Code) (hC : (Tryz.f16.body.bind fun c => regOf c 16) = some C) (Q : Exit → Act → World → Prop) (hQ : ∀ c a d v w, Q (.panic c) (Act.put a d v) w → Q (.panic c) a w) (b8 : Blk w9 n8 #[.string (str lzW), v] 58) (bf : Blk w9 nf (word5 (toldR x)).toArray 9) (hm : L.length = n) (hown : w9.ownsRow B 55 5 v n (L.flatMap SRow.cells)) (hB : n8 < B ∧ B ≤ w9.heap.size) (hkw : Kept w w9) (hw8 : w.heap.size ≤ n8) (hn : n ≤ 12) (hl : (Lib.itoa x.ld.alo).length ≤ 17 ∧ (Lib.itoa x.ld.ahi).length ≤ 17 ∧ (Lib.itoa x.ld.wlo).length ≤ 17 ∧ (Lib.itoa x.ld.whi).length ≤ 17)
    (hK : ∀ (v2 : Value) (u56 u57 u58 u59 u60 u61 u62 u63 u64 u65 u66 u67 u68 u69 u70 u71 u72 u73 u74 u75 u76 u77 u78 u79 u80 u81 u82 u83 : Value) (wc : World), (Blk wc n8 #[.string (str lzW), v2] 58 ∧ wc.ownsRow B 55 5 v2 (n + 1) ((L ++ [x]).flatMap SRow.cells) ∧ (∀ b arr t, b ≠ n8 → b < B → Blk w9 b arr t → Blk wc b arr t) ∧ Kept w wc ∧ w9.heap.size ≤ wc.heap.size) → Q .normal ⟨#[s0, s1, s2, s3, s4, s5, s6, s7, .pointer (some ⟨n8, 0, none⟩), s9, s10, .slice (some ⟨nf, 0, none⟩) 5 5, s12, s13, s14, s15, s16, s17, s18, s19, s20, s21, s22, s23, s24, s25, s26, s27, s28, s29, s30, s31, s32, s33, s34, s35, s36, s37, s38, s39, s40, s41, s42, s43, s44, s45, s46, s47, s48, s49, s50, s51, s52, s53, s54, s55, u56, u57, u58, u59, u60, u61, u62, u63, u64, u65, u66, u67, u68, u69, u70, u71, u72, u73, u74, u75, u76, u77, u78, u79, u80, u81, u82, u83, s84, s85, s86, s87, s88, s89, s90, s91, s92, s93, s94, s95, s96, s97, s98, s99], []⟩ wc) : C.wp Tryz.prog Q ⟨#[s0, s1, s2, s3, s4, s5, s6, s7, .pointer (some ⟨n8, 0, none⟩), s9, s10, .slice (some ⟨nf, 0, none⟩) 5 5, s12, s13, s14, s15, s16, s17, s18, s19, s20, s21, s22, s23, s24, s25, s26, s27, s28, s29, s30, s31, s32, s33, s34, s35, s36, s37, s38, s39, s40, s41, s42, s43, s44, s45, s46, s47, s48, s49, s50, s51, s52, s53, s54, s55, s56, s57, s58, s59, s60, s61, s62, s63, s64, s65, s66, s67, s68, s69, s70, s71, s72, s73, s74, s75, s76, s77, s78, s79, s80, s81, s82, s83, s84, s85, s86, s87, s88, s89, s90, s91, s92, s93, s94, s95, s96, s97, s98, s99], []⟩ w9 := by
  have e0 : (Tryz.f16.body.bind fun c => regOf c 16) = some (.region 16 _ _) := rfl
  rw [e0] at hC
  cases hC
  clear e0
  try dsimp only at hK ⊢
  have HK := Lib.hid hK
  clear hK
  have HOFF := Lib.hid (own_other hown bf (by decide))
  obtain ⟨av, cp, rfl⟩ := owns_shapeW hown
  have hm_ := Lib.hid hm
  clear hm
  refine held_walk (fun w' => Blk w' n8 #[.string (str lzW), .slice av n cp] 58 ∧ Blk w' nf (word5 (toldR x)).toArray 9) [(true, 0), (true, 1), (true, 2), (true, 3), (true, 4), (true, 5), (true, 6), (true, 7), (true, 9), (true, 10), (true, 11), (true, 14), (true, 15), (true, 16), (true, 18), (true, 19), (true, 20), (false, 8), (false, 12), (true, 13), (false, 17), (false, 21), (true, 22), (true, 23), (true, 24), (false, 25), (false, 26), (true, 27), (false, 28)] 28 (by kernel_rfl) (by kernel_rfl) hQ ⟨b8.drew, bf.drew⟩ ?_
  simp only [List.filterMap_cons, List.filterMap_nil, List.getElem?_cons_zero, List.getElem?_cons_succ, Option.map_some]
  iterate 17 ((first | (refine held_take ?_ ?_ (fun w' hS => ?_) ?_; rotate_left 1; (focus rfl); (focus (first | (go_simp; done) | (go_simp; with_reducible rfl) | (obtain ⟨S1, S2⟩ := hS; have S1c0 := S1.cell 0; have S1f0 := S1.free 0; have S1c1 := S1.cell 1; have S1f1 := S1.free 1; have S1l := S1.lt; simp at S1c0 S1c1; have S2c0 : w'.cell? ⟨nf, 0, none⟩ = some (.string (str x.name)) := S2.cell 0; have S2c1 : w'.cell? ⟨nf, 1, none⟩ = some (.string (str (Lib.itoa x.ld.alo))) := S2.cell 1; have S2c2 : w'.cell? ⟨nf, 2, none⟩ = some (.string (str (Lib.itoa x.ld.ahi))) := S2.cell 2; have S2c3 : w'.cell? ⟨nf, 3, none⟩ = some (.string (str (Lib.itoa x.ld.wlo))) := S2.cell 3; have S2c4 : w'.cell? ⟨nf, 4, none⟩ = some (.string (str (Lib.itoa x.ld.whi))) := S2.cell 4; first | (go_simp; done) | (go_simp; with_reducible rfl))))) | (refine held_pass ?_ ?_; (focus rfl))); simp only [Act.put, List.setIfInBounds_toArray, List.set_cons_zero, List.set_cons_succ])
  refine held_one ?_
  refine wpList_plain rfl fun K1 hK1 => ?_
  go_wp2_with (go_at_call 47; (with_reducible refine (f_number (Lib.itoa x.ld.alo) x.ld.alo _ (by omega) (itoa_atoi _)).mono ?_); rintro e w1 ⟨rfl, hb1⟩)
  refine held_on ⟨b8.keep (by exact kpta), bf.keep (by exact kpta)⟩ ?_
  refine held_one ?_
  refine wpList_plain rfl fun K1 hK1 => ?_
  go_wp2_with (go_at_call 47; (with_reducible refine (f_number (Lib.itoa x.ld.ahi) x.ld.ahi _ (by omega) (itoa_atoi _)).mono ?_); rintro e w2 ⟨rfl, hb2⟩)
  refine held_on ⟨b8.keep (by exact kpta), bf.keep (by exact kpta)⟩ ?_
  iterate 1 ((first | (refine held_take ?_ ?_ (fun w' hS => ?_) ?_; rotate_left 1; (focus rfl); (focus (first | (go_simp; done) | (go_simp; with_reducible rfl) | (obtain ⟨S1, S2⟩ := hS; have S1c0 := S1.cell 0; have S1f0 := S1.free 0; have S1c1 := S1.cell 1; have S1f1 := S1.free 1; have S1l := S1.lt; simp at S1c0 S1c1; have S2c0 : w'.cell? ⟨nf, 0, none⟩ = some (.string (str x.name)) := S2.cell 0; have S2c1 : w'.cell? ⟨nf, 1, none⟩ = some (.string (str (Lib.itoa x.ld.alo))) := S2.cell 1; have S2c2 : w'.cell? ⟨nf, 2, none⟩ = some (.string (str (Lib.itoa x.ld.ahi))) := S2.cell 2; have S2c3 : w'.cell? ⟨nf, 3, none⟩ = some (.string (str (Lib.itoa x.ld.wlo))) := S2.cell 3; have S2c4 : w'.cell? ⟨nf, 4, none⟩ = some (.string (str (Lib.itoa x.ld.whi))) := S2.cell 4; first | (go_simp; done) | (go_simp; with_reducible rfl))))) | (refine held_pass ?_ ?_; (focus rfl))); simp only [Act.put, List.setIfInBounds_toArray, List.set_cons_zero, List.set_cons_succ])
  refine held_one ?_
  refine wpList_plain rfl fun K1 hK1 => ?_
  go_wp2_with (go_at_call 47; (with_reducible refine (f_number (Lib.itoa x.ld.wlo) x.ld.wlo _ (by omega) (itoa_atoi _)).mono ?_); rintro e w3 ⟨rfl, hb3⟩)
  refine held_on ⟨b8.keep (by exact kpta), bf.keep (by exact kpta)⟩ ?_
  refine held_one ?_
  refine wpList_plain rfl fun K1 hK1 => ?_
  go_wp2_with (go_at_call 47; (with_reducible refine (f_number (Lib.itoa x.ld.whi) x.ld.whi _ (by omega) (itoa_atoi _)).mono ?_); rintro e w4 ⟨rfl, hb4⟩)
  refine held_on ⟨b8.keep (by exact kpta), bf.keep (by exact kpta)⟩ ?_
  iterate 3 ((first | (refine held_take ?_ ?_ (fun w' hS => ?_) ?_; rotate_left 1; (focus rfl); (focus (first | (go_simp; done) | (go_simp; with_reducible rfl) | (obtain ⟨S1, S2⟩ := hS; have S1c0 := S1.cell 0; have S1f0 := S1.free 0; have S1c1 := S1.cell 1; have S1f1 := S1.free 1; have S1l := S1.lt; simp at S1c0 S1c1; have S2c0 : w'.cell? ⟨nf, 0, none⟩ = some (.string (str x.name)) := S2.cell 0; have S2c1 : w'.cell? ⟨nf, 1, none⟩ = some (.string (str (Lib.itoa x.ld.alo))) := S2.cell 1; have S2c2 : w'.cell? ⟨nf, 2, none⟩ = some (.string (str (Lib.itoa x.ld.ahi))) := S2.cell 2; have S2c3 : w'.cell? ⟨nf, 3, none⟩ = some (.string (str (Lib.itoa x.ld.wlo))) := S2.cell 3; have S2c4 : w'.cell? ⟨nf, 4, none⟩ = some (.string (str (Lib.itoa x.ld.whi))) := S2.cell 4; first | (go_simp; done) | (go_simp; with_reducible rfl))))) | (refine held_pass ?_ ?_; (focus rfl))); simp only [Act.put, List.setIfInBounds_toArray, List.set_cons_zero, List.set_cons_succ])
  refine held_one ?_
  refine wpList_plain rfl fun K1 hK1 => ?_
  go_wp2
  refine held_on ⟨b8.keep (by exact kpta), bf.keep (by exact kpta)⟩ ?_
  refine held_one ?_
  go_wp2_with (at_builtin; (obtain ⟨i0, hi, hz0, hz1, hz2⟩ := info_partsW infoSR; refine wpList_append_own _ rfl _ _ 56 rfl B 55 i0 (.agg #[.string ByteArray.empty, .int .i64 0, .int .i64 0, .int .i64 0, .int .i64 0]) 5 48 Tryz.underlying56 hi hz0 hz1 hz2 rfl (by decide) _ _ _ rfl (owns_keep hown (by exact kpta)) ⟨_, 0, none⟩ 1 1 [.string (str x.name), .int .i64 x.ld.alo, .int .i64 x.ld.ahi, .int .i64 x.ld.wlo, .int .i64 x.ld.whi] rfl rfl (cells_atW (by simp) _ _) (fun x hx => by simp at hx; rcases hx with rfl | rfl | rfl | rfl | rfl <;> rfl) (by unfold maxLen; omega) (by omega) (by have h1 := (show Kept w9 w4 by exact kpta).size; simp; omega) ?_; intro v9 w8 hown9 hgrow9 hnil9; clear hi hz0 hz1 hz2; obtain ⟨ad9, cp9, rfl⟩ := owns_shapeW hown9; have m8 := grownLtS (show Blk _ n8 #[.string (str lzW), .slice av n cp] 58 by exact blkx) hB.1 (owns_keep hown (by exact kpta)) hgrow9; have mf := blk_off (show Blk _ nf (word5 (toldR x)).toArray 9 by exact blkx) HOFF.out hgrow9; have m8c0 := m8.cell 0; have m8f0 := m8.free 0; have m8c1 := m8.cell 1; have m8f1 := m8.free 1; have m8l := m8.lt; simp at m8c0 m8c1))
  first | refine held_on ⟨m8, mf⟩ ?_ | (refine onward_on ?_; refine ⟨⟨m8, mf⟩, ?_⟩)
  iterate 1 ((first | (refine held_take ?_ ?_ (fun w' hS => ?_) ?_; rotate_left 1; (focus rfl); (focus (first | (go_simp; done) | (go_simp; with_reducible rfl) | (obtain ⟨S1, S2⟩ := hS; have S1c0 := S1.cell 0; have S1f0 := S1.free 0; have S1c1 := S1.cell 1; have S1f1 := S1.free 1; have S1l := S1.lt; simp at S1c0 S1c1; have S2c0 : w'.cell? ⟨nf, 0, none⟩ = some (.string (str x.name)) := S2.cell 0; have S2c1 : w'.cell? ⟨nf, 1, none⟩ = some (.string (str (Lib.itoa x.ld.alo))) := S2.cell 1; have S2c2 : w'.cell? ⟨nf, 2, none⟩ = some (.string (str (Lib.itoa x.ld.ahi))) := S2.cell 2; have S2c3 : w'.cell? ⟨nf, 3, none⟩ = some (.string (str (Lib.itoa x.ld.wlo))) := S2.cell 3; have S2c4 : w'.cell? ⟨nf, 4, none⟩ = some (.string (str (Lib.itoa x.ld.whi))) := S2.cell 4; first | (go_simp; done) | (go_simp; with_reducible rfl))))) | (refine held_pass ?_ ?_; (focus rfl))); simp only [Act.put, List.setIfInBounds_toArray, List.set_cons_zero, List.set_cons_succ])
  refine held_one ?_
  refine wpList_plain rfl fun K1 hK1 => ?_
  go_wp2
  (first | refine held_end ?_ | (refine onward_on ?_; first | refine held_nil ?_ | refine ⟨.inl trivial, held_nil ?_⟩ | refine ⟨.inl rfl, held_nil ?_⟩))
  have hk9 : Kept w9 w4 := by exact kpta
  have hkA : Kept w w4 := Kept.drop hkw hk9
  have hkB := Kept.grown (show Kept w (w4.alloc (Obj.cells #[.string (str x.name), .int .i64 x.ld.alo, .int .i64 x.ld.ahi, .int .i64 x.ld.wlo, .int .i64 x.ld.whi] 55)) by exact kpta) (owns_keep hown (by exact kpta)) (by omega) hgrow9
  refine HK.out _ _ _ _ _ _ _ _ _ _ _ _ _ _ _ _ _ _ _ _ _ _ _ _ _ _ _ _ _ _ ⟨m8.set 1 _, ?_, ?_, hkB.setCell hw8 _, ?_⟩
  · rw [List.flatMap_append]
    exact owns_setLt8 hB.1 hown9
  · intro b arr t hb1_ hb2_ hbb
    exact (grownLtS (Blk.keep hbb (by exact kpta)) hb2_ (owns_keep hown (by exact kpta)) hgrow9).other (Ne.symm hb1_) _
  · have h1 := hk9.size
    have h2 := hgrow9.size
    simp at h2 ⊢
    omega
  
end Go.Proofs.YtamnnjdfjffhlaaGreatDoor

/-
  Layer 9: a sheet is read.
-/
namespace Go.Proofs.YtamnnjdfjffhlaaGreatDoor
open Go.RowKit Bal Bal.Trim Bal.Sheet Go.Proofs.YtamnnjdfjffhlaaGreatDoor.Trim04
set_option linter.unusedVariables false
set_option linter.unusedSimpArgs false
set_option maxHeartbeats 8000000
set_option maxRecDepth 100000
attribute [local go_sem] str_app lit_app app_lit str_size ite_max

theorem f_ReadSheet (rs : List SRow) (w : World) (ok : RowsOk rs) (ht : Tabs w) : Calls Tryz.prog 16 #[.string (str (sheetOf rs)), .slice none 0 0] w fun e w' => (∃ ar cr, e = .returned (.tuple #[.agg #[.string (str lzW), .slice ar rs.length cr], .int .i64 0]) ∧ Row SRow.cells 5 w'.heap.size w' ar rs ∧ rs.length ≤ cr ∧ cr ≤ maxLen) ∧ Kept w w' := by
  have OK := Lib.hid ok
  have HT0 := Lib.hid ht
  have n12 := ok.few
  have hlt4 : (sheetOf rs).length ≤ 2000 := sheet_len ok
  have KS := Lib.hid (show ∀ Z, Kept w Z → Calls Tryz.prog 44 #[.string (str (sheetOf rs)), .string { data := #[10] }] Z fun e w' => e = .returned (.slice (some ⟨Z.heap.size, 0, none⟩) (rs.length + 4) (rs.length + 4)) ∧ Blk w' Z.heap.size (((linesOf rs ++ [[]]).map fun l => Value.string (str l)).toArray) 9 ∧ Kept Z w' from fun Z hZ => l_SplitT rs Z ok (ht.keep hZ))
  have HLG := Lib.hid (fun k (hk : k < rs.length) => linesOf_get rs hk)
  have HWR := Lib.hid (fun ad cap W (h1 : Row SRow.cells 5 W.heap.size W ad rs) (h2 : Tabs W) => f_WriteSheet ad cap rs W h1 ok h2)
  clear ok ht
  have d0 : decide ((40000 : Int) < ((sheetOf rs).length : Int)) = false := by simp; omega
  have d1 : decide (((rs.length : Int) + 4) < 4) = false := by simp; omega
  have d2 : decide ((44 : Int) < (rs.length : Int) + 4) = false := by simp; omega
  have d1' : decide (((rs.length + 4 : Nat) : Int) < 4) = false := by simp; omega
  have d2' : decide ((44 : Int) < ((rs.length + 4 : Nat) : Int)) = false := by simp; omega
  have dn : ¬ 40000 < (sheetOf rs).length := by omega
  go_enter Tryz.func16, Tryz.ntmps16
  go_upto_region 10 with (first | (go_at_call 33; (with_reducible refine (l_CheckLimits0 _).mono ?_); rintro e w1 ⟨rfl, hb1⟩; refine Blk.thru (b := w.heap.size) (arr := ?_) (t := ?_) ?_ hb1 ?_; rotate_left 2; (focus (exact blk)); intro o1; have o1c0 := o1.cell 0; have o1f0 := o1.free 0; have o1c1 := o1.cell 1; have o1f1 := o1.free 1; have o1l := o1.lt; simp at o1c0 o1c1) | (go_at_call 44; (with_reducible refine (KS.out _ (by exact kpta)).mono ?_); rintro e w2 ⟨rfl, hbs, hb2⟩; have hsl := hbs.lt; have hs0 : w2.cell? ⟨_, 0, none⟩ = some (.string (str ([83, 72, 69, 69, 84, 32] ++ lzW))) := (hbs.cell 0).trans rfl; refine Blk.thru (b := w.heap.size) (arr := ?_) (t := ?_) ?_ hb2 ?_; rotate_left 2; (focus (exact blk)); intro o2; have o2c0 := o2.cell 0; have o2f0 := o2.free 0; have o2c1 := o2.cell 1; have o2f1 := o2.free 1; have o2l := o2.lt; simp at o2c0 o2c1) | (go_at_call 45; (with_reducible refine (l_TrimLZ _).mono ?_); rintro e w3 ⟨rfl, rfl⟩))
  obtain ⟨ns, hns⟩ : ∃ n, n = w1.heap.size := ⟨_, rfl⟩
  obtain ⟨n8, hn8⟩ : ∃ n, n = w2.heap.size := ⟨_, rfl⟩
  have e1 : w.heap.size < ns := by rw [hns]; exact o1l
  have e2 : ns < n8 := by rw [hns, hn8]; exact hsl
  refine at_world (S := fun X => Blk X w.heap.size #[.string ByteArray.empty, .slice none 0 0] 58 ∧ Blk X w1.heap.size (((linesOf rs ++ [[]]).map fun l => Value.string (str l)).toArray) 9 ∧ Blk X w2.heap.size #[.string (str lzW), .slice none 0 0] 58 ∧ Kept w X) ⟨by exact blkd, by exact blkd, by exact blkd, by exact kpta⟩ ?_
  rintro X ⟨b4, bs, b8, hkX⟩
  rw [← hns, ← hn8] at *
  clear hns hn8 hb1 hb2 hbs
  have w43 := i64_w (n := (rs.length : Int) + 4 - 3) (by omega)
  have e3 := b8.lt
  go_upto_block 0 with fail
  rw [show rs.length + 4 - 3 - 1 = rs.length by omega]
  obtain ⟨B, hBX⟩ : ∃ B, B = X.heap.size := ⟨_, rfl⟩
  have HBX := Lib.hid (Nat.le_of_eq hBX)
  rw [← hBX] at e3
  clear hBX
  go_wp2
  go_loopw [46] (fun i wr => ∃ (k : Nat) (v : Value), k ≤ rs.length ∧ i = .int .i64 k ∧ Blk wr n8 #[.string (str lzW), v] 58 ∧ wr.ownsRow B 55 5 v k ((rs.take k).flatMap SRow.cells) ∧ Blk wr w.heap.size #[.string ByteArray.empty, .slice none 0 0] 58 ∧ Blk wr ns (((linesOf rs ++ [[]]).map fun l => Value.string (str l)).toArray) 9 ∧ Kept w wr ∧ B ≤ wr.heap.size) (fun i _ => rs.length - (intOf i).toNat)
  case atStart => exact ⟨0, _, Nat.zero_le _, rfl, b8, owns_nil (α := SRow) (enc := SRow.cells), b4, bs, hkX, HBX.out⟩
  case round =>
    clear b8 b4 bs hkX
    obtain ⟨k, v, hk, rfl, b8, hown, b4, bs, hkw, hB⟩ := hrel
    by_cases hlt : k < rs.length
    · have d5 : decide ((k : Int) < (rs.length : Int)) = true := by simp; omega
      have wk := i64_w (n := (k : Int) + 1) (by omega)
      have i0 : (0 : Int) ≤ (k : Int) := by omega
      have i1 : (k : Int) < (rs.length : Int) := by omega
      have hmem := List.getElem_mem hlt
      have HTK := Lib.hid (List.take_succ_eq_append_getElem hlt)
      have hln : wr.cell? ⟨ns, 1 + k, none⟩ = some (.string (str (body (wide (tableOf rs)) (toldR rs[k])))) := by
        rw [Nat.add_comm 1 k]
        refine (bs.cell (k + 1)).trans ?_
        have h1 := HLG.out k hlt
        simp only [List.getElem?_toArray, List.getElem?_map]
        rw [List.getElem?_append_left (by rw [linesOf_len]; omega), h1]
        rfl
      have KF := Lib.hid (show ∀ Z, Kept wr Z → Calls Tryz.prog 46 #[.string (str (body (wide (tableOf rs)) (toldR rs[k])))] Z fun e w' => e = .returned (.slice (some ⟨Z.heap.size, 0, none⟩) 5 5) ∧ Blk w' Z.heap.size (word5 (toldR rs[k])).toArray 9 ∧ Kept Z w' from fun Z hZ => l_FieldsR _ rs[k] Z (OK.out.name _ hmem) (by have := OK.out.line hmem; omega) (HT0.out.keep (Kept.drop hkw hZ)))
      have HAT := Lib.hid (words_atoi (OK.out.load _ hmem))
      generalize rs[k] = x at hln KF HTK HAT
      have HOWN := Lib.hid hown
      have HBS := Lib.hid bs
      clear hown hmem bs
      go_upto_region 16 with (go_at_call 46; (with_reducible refine (KF.out _ (by exact kpta)).mono ?_); rintro e w4 ⟨rfl, hbf, hb4⟩)
      have hsz4 := Kept.size hb4
      refine rd_16 _ rfl _ (fun c a d v w h => by cases d <;> exact h) (L := rs.take k) (b8.keep hb4) hbf (by rw [List.length_take]; omega) (owns_keep HOWN.out hb4) ⟨e3, by omega⟩ (Kept.drop hkw hb4) (by omega) (by omega) HAT.out ?_
      rintro v2 _ _ _ _ _ _ _ _ _ _ _ _ _ _ _ _ _ _ _ _ _ _ _ _ _ _ _ _ wc ⟨b8c, hownc, hkeep, hkc, hszc⟩
      have b4c := hkeep _ _ _ (by omega) (by omega) (b4.keep hb4)
      have bsc := hkeep _ _ _ (by omega) (by omega) (HBS.out.keep hb4)
      rw [← HTK.out] at hownc
      have HBC := Lib.hid bsc
      have HOC := Lib.hid hownc
      clear bsc hownc hkeep b8 b4 hbf hln
      go_wp2
      go_round
      case rel => exact ⟨k + 1, v2, by omega, by go_num, b8c, HOC.out, b4c, HBC.out, hkc, by omega⟩
      case measure => simp [intOf]; omega
    · obtain rfl : k = rs.length := by omega
      have d5 : decide ((rs.length : Int) < (rs.length : Int)) = false := by simp
      rw [List.take_length] at hown
      obtain ⟨ar, cr, rfl, hra, hca, hma⟩ := owns_row (enc := SRow.cells) (k := 5) (xs := rs) (fun _ => rfl) hown
      have KW := Lib.hid (show ∀ Z, Kept wr Z → Calls Tryz.prog 13 #[.agg #[.string (str lzW), .slice ar rs.length cr], .slice none 0 0] Z fun e w' => e = .returned (.tuple #[.string (str (sheetOf rs)), .int .i64 0]) ∧ Kept Z w' from fun Z hZ => HWR.out ar cr Z (hra.later hZ (Nat.le_refl _)) (HT0.out.keep (Kept.drop hkw hZ)))
      have HOWN := Lib.hid hown
      clear hown bs hra
      have b8c0 := b8.cell 0
      have b8f0 := b8.free 0
      have b8c1 := b8.cell 1
      have b8f1 := b8.free 1
      have b8l := b8.lt
      simp at b8c0 b8c1
      have b4c0 := b4.cell 0
      have b4f0 := b4.free 0
      have b4c1 := b4.cell 1
      have b4f1 := b4.free 1
      have b4l := b4.lt
      simp at b4c0 b4c1
      go_wp2_with (go_at_call 13; (with_reducible refine (KW.out _ (by exact kpta)).mono ?_); rintro e w5 ⟨rfl, hb5⟩; refine Blk.thru (b := n8) (arr := ?_) (t := ?_) ?_ hb5 ?_; rotate_left 2; (focus (exact blk)); intro o5; have o5c0 := o5.cell 0; have o5f0 := o5.free 0; have o5c1 := o5.cell 1; have o5f1 := o5.free 1; have o5l := o5.lt; simp at o5c0 o5c1; refine Blk.thru (b := w.heap.size) (arr := ?_) (t := ?_) ?_ hb5 ?_; rotate_left 2; (focus (exact blk)); intro p5; have p5c0 := p5.cell 0; have p5f0 := p5.free 0; have p5c1 := p5.cell 1; have p5f1 := p5.free 1; have p5l := p5.lt; simp at p5c0 p5c1)
      have hkr : Kept wr w5 := hb5
      refine at_worldS (S := fun Z => Blk Z w.heap.size #[.string (str lzW), .slice ar rs.length cr] 58 ∧ Z.ownsRow B 55 5 (.slice ar rs.length cr) rs.length (rs.flatMap SRow.cells) ∧ Kept w Z) ⟨by exact blkd, ?_, by exact kpta⟩ ?_
      · repeat (refine owns_setLt8 (by omega) ?_)
        exact owns_keep HOWN.out (by exact kpta)
      · rintro Z ⟨yz, hoz, hkz⟩
        obtain ⟨ar2, cr2, he2, hrz, hca2, hma2⟩ := owns_row (enc := SRow.cells) (k := 5) (xs := rs) (fun _ => rfl) hoz
        cases he2
        have yzc0 := yz.cell 0
        have yzf0 := yz.free 0
        have yzc1 := yz.cell 1
        have yzf1 := yz.free 1
        have yzl := yz.lt
        simp at yzc0 yzc1
        exact bodyPost_ret (v := .tuple #[.agg #[.string (str lzW), .slice ar rs.length cr], .int .i64 0]) (by simp [results, Tryz.results16, go_sem, yzc0, yzc1]) rfl ⟨⟨ar, cr, rfl, hrz, hca2, hma2⟩, hkz⟩

end Go.Proofs.YtamnnjdfjffhlaaGreatDoor

/-
  A region that draws its order, walked once, where two operations may come up side by side once. No program in sight.
-/
namespace Bal
open Go Go.RowKit
section
variable {P : Program} {ops : Array Oper} {md : Region.Mode} {S : World → Prop} {Q : Exit → Act → World → Prop}
/-- the operations that are taken ahead of the two -/
def TakenF (P : Program) (ops : Array Oper) (S : World → Prop) (K : Act → World → Prop) : List (Bool × Oper) → Act → World → Prop
  | [], a, w => K a w
  | (_, o) :: r, a, w => ∃ v, YieldsIf P ops S o v a ∧ TakenF P ops S K r (a.put o.dst v) w
def listedByF (is : List (Bool × Nat)) (listed : Array Bool) : Array Bool := is.foldl (fun l x => l.setIfInBounds x.2 true) listed
def takenFB (md : Region.Mode) (ops : Array Oper) (n : Nat) : List (Bool × Nat) → Array Bool → Bool
  | [], _ => true
  | (_, i) :: r, listed => (Region.ready md ops listed).contains i && Region.free md ops listed i && decide (i ≠ n) && takenFB md ops n r (listed.setIfInBounds i true)
theorem wpAnyE_of_takenF {n f : Nat} {K : Act → World → Prop} (hl : LastOk md ops n) (hsel : Region.noSelect ops = true) (hQ : ∀ c a d v w, Q (.panic c) (Act.put a d v) w → Q (.panic c) a w) :
    ∀ (is : List (Bool × Nat)) (l : List (Bool × Oper)) (listed : Array Bool) (a : Act) (w : World), is.map (fun x => (x.1, ops[x.2]?)) = l.map (fun x => (x.1, some x.2)) → LastInv md ops n listed → takenFB md ops n is listed = true →
    S w → (∀ a', LastInv md ops n (listedByF is listed) → K a' w → wpAnyE P md ops Q S n f (listedByF is listed) a' w) → TakenF P ops S K l a w → wpAnyE P md ops Q S n (l.length + f) listed a w
  | [], [], listed, a, w, _, inv, _, _, hK, h => by
    rw [List.length_nil, Nat.zero_add]
    exact hK a inv h
  | [], _ :: _, _, _, _, hm, _, _, _, _, _ => by simp at hm
  | _ :: _, [], _, _, _, hm, _, _, _, _, _ => by simp at hm
  | (c, i) :: is, (b, o) :: l, listed, a, w, hm, inv, hB, hS, hK, h => by
    simp only [List.map_cons, List.cons.injEq, Prod.mk.injEq] at hm
    obtain ⟨⟨rfl, h0⟩, hm'⟩ := hm
    simp only [takenFB, Bool.and_eq_true, decide_eq_true_eq] at hB
    obtain ⟨⟨⟨hr, hf⟩, hin⟩, hB'⟩ := hB
    obtain ⟨v, hy, hT⟩ := h
    have hr' : i ∈ Region.ready md ops listed := by simpa using hr
    have hi := wpAnyE_of_takenF (f := f) (K := K) hl hsel hQ is l _ _ w hm' (inv.set hl hr' hin) hB' hS hK hT
    rw [List.length_cons, Nat.add_right_comm]
    exact wpAnyE_first hl hin h0 (Region.noSelect_spec hsel) (fun c a w => hQ c a _ _ w) _ listed a w inv (Region.free_spec h0 hf) hr' hy hS hi
theorem wpAnyE_imp {S' : World → Prop} (hS : ∀ w, S' w → S w) {n : Nat} : ∀ (f : Nat) (listed : Array Bool) (a : Act) (w : World), wpAnyE P md ops Q S' n f listed a w → wpAnyE P md ops Q S n f listed a w
  | 0, _, _, _, h => h
  | f + 1, _, _, _, h => ⟨h.1, fun i hi => wpOp_mono (fun a' w' h' => ⟨h'.1.imp id (hS _), wpAnyE_imp hS f _ a' w' h'.2⟩) (h.2 i hi)⟩
/-- THE THEOREM: held_walk, but behind the operations of 'pre' (which yield) two may come up; each has its own walk behind it -/
theorem held_fork {P : Program} {id : Nat} {Q : Exit → Act → World → Prop} {a : Act} {w : World} {l : List Oper} (S SA SB : World → Prop) (iA : ∀ w, SA w → S w) (iB : ∀ w, SB w → S w) (pre : List (Bool × Nat)) (i j : Nat) (oi oj : Oper) (isA isB : List (Bool × Nat)) (n : Nat) (hm : P.follows .mixedOrders = true)
    (hoi : l[i]? = some oi) (hoj : l[j]? = some oj)
    (hB : (Region.noSelect l.toArray && takenFB .any l.toArray n pre (Array.replicate l.toArray.size false) && decide (Region.ready .any l.toArray (listedByF pre (Array.replicate l.toArray.size false)) = [i, j]) &&
      (decide (i ≠ n) && decide (j ≠ n) && !isA.isEmpty && !isB.isEmpty) &&
      heldB .any l.toArray n isA ((listedByF pre (Array.replicate l.toArray.size false)).setIfInBounds i true) && heldB .any l.toArray n isB ((listedByF pre (Array.replicate l.toArray.size false)).setIfInBounds j true) &&
      (pre.all (fun i => decide (i.2 < l.length)) && isA.all (fun i => decide (i.2 < l.length)) && isB.all (fun i => decide (i.2 < l.length))) && (decide (pre.length + (isA.length + 1) = l.length) && decide (isB.length = isA.length)) &&
      (decide (l.toArray.size ≤ n) || (Region.sinkB .any l.toArray n && Region.chainB .any l.toArray n && decide (n + 1 = l.toArray.size)))) = true)
    (hQ : ∀ c a d v w, Q (.panic c) (Act.put a d v) w → Q (.panic c) a w) (hS : S w.drew)
    (h : TakenF P l.toArray S (fun a w => wpList P l.toArray (onward (fun a' w' => SA w' ∧ Held P l.toArray Q SA (isA.filterMap fun x => (l[x.2]?).map fun o => (x.1, o)) a' w') Q) [oi] a w ∧
      wpList P l.toArray (onward (fun a' w' => SB w' ∧ Held P l.toArray Q SB (isB.filterMap fun x => (l[x.2]?).map fun o => (x.1, o)) a' w') Q) [oj] a w) (pre.filterMap fun x => (l[x.2]?).map fun o => (x.1, o)) a w.drew) : (Code.region id l.toArray true).wp P Q a w := by
  simp only [Bool.and_eq_true, decide_eq_true_eq, List.all_eq_true, Bool.or_eq_true, Bool.not_eq_true', List.isEmpty_eq_false_iff] at hB
  obtain ⟨⟨⟨⟨⟨⟨⟨⟨hsel, htk⟩, hrd⟩, ⟨⟨hin, hjn⟩, hneA⟩, hneB⟩, hhA⟩, hhB⟩, ⟨hltP, hltA⟩, hltB⟩, hlen, hlenB⟩, hlast⟩ := hB
  obtain ⟨p1, p2⟩ := filterMap_ok2 pre hltP
  obtain ⟨q1, q2⟩ := filterMap_ok2 isA hltA
  obtain ⟨r1, r2⟩ := filterMap_ok2 isB hltB
  have hl : LastOk .any l.toArray n := by
    rcases hlast with h1 | ⟨⟨h1, h2⟩, h3⟩
    · exact ⟨fun h => by omega, fun h => by omega, fun h => by omega⟩
    · exact ⟨fun _ => h1, fun _ => h2, fun _ => h3⟩
  have inv0 : LastInv .any l.toArray n (Array.replicate l.toArray.size false) := fun _ =>
    ⟨by simp, fun j oj _ hl => (by rw [getD_replicate_false] at hl; cases hl), fun t _ ht => getD_in (by simpa using ht) (getD_replicate_false _ _)⟩
  refine wp_region_any hm (wpAny_of_E (S := S) (n := n) _ _ _ _ ?_)
  have key := wpAnyE_of_takenF (P := P) (S := S) (md := .any) (Q := Q) (f := isA.length + 1) hl hsel hQ pre _ _ a w.drew p1 inv0 htk hS (fun a' inv hk => ?_) h
  · rw [p2, hlen] at key
    simpa using key
  · refine ⟨fun h1 => (by rw [hrd] at h1; cases h1), fun k hk' => ?_⟩
    have hri : i ∈ Region.ready .any l.toArray (listedByF pre (Array.replicate l.toArray.size false)) := by rw [hrd]; simp
    have hrj : j ∈ Region.ready .any l.toArray (listedByF pre (Array.replicate l.toArray.size false)) := by rw [hrd]; simp
    rw [hrd] at hk'
    have hk2 : k = i ∨ k = j := by simpa using hk'
    rcases hk2 with rfl | rfl
    · refine wpOp_mono (fun a2 w2 hh => ?_) (wpOp_onward (K := fun a' w' => SA w' ∧ Held P l.toArray Q SA (isA.filterMap fun x => (l[x.2]?).map fun o => (x.1, o)) a' w') (by
        unfold wpOp
        simp only [List.getElem?_toArray, hoi]
        exact hk.1))
      have k2 := wpAnyE_of_held (S := SA) hl hsel hQ isA _ _ a2 w2 q1 (.inl (inv.set hl hri hin)) hhA (.inr hh.1) hh.2
      rw [q2] at k2
      exact ⟨.inr (iA _ hh.1), wpAnyE_imp iA _ _ _ _ k2⟩
    · refine wpOp_mono (fun a2 w2 hh => ?_) (wpOp_onward (K := fun a' w' => SB w' ∧ Held P l.toArray Q SB (isB.filterMap fun x => (l[x.2]?).map fun o => (x.1, o)) a' w') (by
        unfold wpOp
        simp only [List.getElem?_toArray, hoj]
        exact hk.2))
      have k2 := wpAnyE_of_held (S := SB) hl hsel hQ isB _ _ a2 w2 r1 (.inl (inv.set hl hrj hjn)) hhB (.inr hh.1) hh.2
      rw [r2, hlenB] at k2
      exact ⟨.inr (iB _ hh.1), wpAnyE_imp iB _ _ _ _ k2⟩
theorem takenF_take {K : Act → World → Prop} {b : Bool} {o : Oper} {r : List (Bool × Oper)} {a : Act} {w : World} (v : Value) (hw : Region.wanted o (yielded ops a.tmps) = true) (hy : ∀ w', S w' → (execOp a.eval o).run P w' = .ok (.value v) w') (h : TakenF P ops S K r (a.put o.dst v) w) :
    TakenF P ops S K ((b, o) :: r) a w := ⟨v, .inl ⟨hw, hy⟩, h⟩
theorem takenF_pass {K : Act → World → Prop} {b : Bool} {o : Oper} {r : List (Bool × Oper)} {a : Act} {w : World} (hw : Region.wanted o (yielded ops a.tmps) = false) (h : TakenF P ops S K r (a.put o.dst undef) w) :
    TakenF P ops S K ((b, o) :: r) a w := ⟨undef, .inr ⟨hw, rfl⟩, h⟩
theorem fork_on {r : List (Bool × Oper)} {a : Act} {w : World} (hS : S w) (h : Held P ops Q S r a w) : onward (fun a' w' => S w' ∧ Held P ops Q S r a' w') Q .normal a w := ⟨hS, h⟩
end
end Bal

/-
  TopSheeted: a row is laid on a sheet.
-/
namespace Go.Proofs.YtamnnjdfjffhlaaGreatDoor
open Go.RowKit Bal Bal.Trim Bal.Sheet Go.Proofs.YtamnnjdfjffhlaaGreatDoor.Trim04 Bal.Top
set_option linter.unusedVariables false
set_option linter.unusedSimpArgs false
set_option maxHeartbeats 8000000
set_option maxRecDepth 100000
attribute [local go_sem] str_app lit_app app_lit str_size ite_max

theorem conv_one {w : World} {b n c : Nat} {bt : UInt8} (hb : Hid (bt = UInt8.ofNat n)) (h : Blk w b #[.int .u8 (n : Int)] 5) : (convert 61 9 (.slice (some ⟨b, 0, none⟩) 1 c)).run Tryz.prog w = .ok (.string (str [bt])) w := by
  rw [hb.out]
  have k := run_convert_bytes_arg (P := Tryz.prog) w 61 5 Tryz.underlying61 Tryz.underlying5 b 0 1 c [(n : Int)] rfl (fun i hi => by
    obtain rfl : i = 0 := by omega
    exact (h.cell 0).trans rfl) 9 Tryz.underlying9
  exact k
theorem at_worldH {P : Program} {ops : Array Oper} {Q : Exit → Act → World → Prop} {S0 : World → Prop} {r : List (Bool × Oper)} {a : Act} {S : World → Prop} {W : World} (h : S W) (k : ∀ Z, S Z → Held P ops Q S0 r a Z) : Held P ops Q S0 r a W := k W h

theorem sh_8 {s0 s1 s2 s3 s4 s5 s8 s10 s11 s12 s13 s14 s15 s16 s17 s18 s19 s20 s21 s22 s23 s24 s25 s26 s27 s28 s29 s30 s31 s32 s33 s34 s35 s36 s37 s38 s39 s40 s41 s42 s43 s44 s45 s46 s47 s48 s49 s50 s51 s52 s53 s54 s55 s56 s57 s58 s59 s60 s61 s62 s63 s64 s65 s66 s67 s68 s69 s70 s71 s72 s73 s74 s75 s76 s77 s78 s79 s80 s81 s82 s83 s84 s85 s86 s87 s88 s89 s90 s91 s92 s93 s94 s95 s96 s97 s98 s99 s100 s101 s102 s103 s104 s105 s106 s107 s108 s109 s110 s111 s112 s113 s114 s115 s116 s117 s118 s119 : Value} {w : World} {n6 n9 B n k : Nat} {v : Value} {lo hi : Int} {L : List SRow} {bt : UInt8} {w9 : World} (C : Code) (hC : (Tryz.f8.body.bind fun c => regOf c 8) = some C) (Q : Exit → Act → World → Prop) (hQ : ∀ c a d v w, Q (.panic c) (Act.put a d v) w → Q (.panic c) a w) (hbt : Hid (bt = UInt8.ofNat (65 + k))) (b6 : Blk w9 n6 #[.string (str lzW), v] 58) (b9 : Blk w9 n9 #[.int .i64 lo, .int .i64 hi] 28) (hm : L.length = n) (hown : w9.ownsRow B 55 5 v n (L.flatMap SRow.cells)) (hB : n6 < B ∧ B ≤ w9.heap.size) (hkw : Kept w w9) (hw6 : w.heap.size ≤ n6) (hn : n ≤ 12) (hk : k ≤ 12) (hl : -1000000000000 ≤ lo ∧ lo ≤ 1000000000000) (hh : -1000000000000 ≤ hi ∧ hi ≤ 1000000000000)
    (hK : ∀ (v2 : Value) (u39 u40 u41 u42 u43 u44 u45 u46 u47 u48 u49 u50 u51 u52 u53 u54 u55 u56 u57 u58 u59 u60 u61 : Value) (wc : World), (Blk wc n6 #[.string (str lzW), v2] 58 ∧ wc.ownsRow B 55 5 v2 (n + 1) ((L ++ [(⟨[71, 97, 115, 45, bt], ⟨10 * (k : Int), 10 * (k : Int), -hi, -lo⟩⟩ : SRow)]).flatMap SRow.cells) ∧ (∀ b arr t, b ≠ n6 → b < B → Blk w9 b arr t → Blk wc b arr t) ∧ Kept w wc ∧ w9.heap.size ≤ wc.heap.size) → Q .normal ⟨#[s0, s1, s2, s3, s4, s5, .pointer (some ⟨n6, 0, none⟩), .int .i64 (k : Int), s8, .pointer (some ⟨n9, 0, none⟩), s10, s11, s12, s13, s14, s15, s16, s17, s18, s19, s20, s21, s22, s23, s24, s25, s26, s27, s28, s29, s30, s31, s32, s33, s34, s35, s36, s37, s38, u39, u40, u41, u42, u43, u44, u45, u46, u47, u48, u49, u50, u51, u52, u53, u54, u55, u56, u57, u58, u59, u60, u61, s62, s63, s64, s65, s66, s67, s68, s69, s70, s71, s72, s73, s74, s75, s76, s77, s78, s79, s80, s81, s82, s83, s84, s85, s86, s87, s88, s89, s90, s91, s92, s93, s94, s95, s96, s97, s98, s99, s100, s101, s102, s103, s104, s105, s106, s107, s108, s109, s110, s111, s112, s113, s114, s115, s116, s117, s118, s119], []⟩ wc) : C.wp Tryz.prog Q ⟨#[s0, s1, s2, s3, s4, s5, .pointer (some ⟨n6, 0, none⟩), .int .i64 (k : Int), s8, .pointer (some ⟨n9, 0, none⟩), s10, s11, s12, s13, s14, s15, s16, s17, s18, s19, s20, s21, s22, s23, s24, s25, s26, s27, s28, s29, s30, s31, s32, s33, s34, s35, s36, s37, s38, s39, s40, s41, s42, s43, s44, s45, s46, s47, s48, s49, s50, s51, s52, s53, s54, s55, s56, s57, s58, s59, s60, s61, s62, s63, s64, s65, s66, s67, s68, s69, s70, s71, s72, s73, s74, s75, s76, s77, s78, s79, s80, s81, s82, s83, s84, s85, s86, s87, s88, s89, s90, s91, s92, s93, s94, s95, s96, s97, s98, s99, s100, s101, s102, s103, s104, s105, s106, s107, s108, s109, s110, s111, s112, s113, s114, s115, s116, s117, s118, s119], []⟩ w9 := by
  have e0 : (Tryz.f8.body.bind fun c => regOf c 8) = some (.region 8 _ _) := rfl
  rw [e0] at hC
  cases hC
  clear e0
  try dsimp only at hK ⊢
  have HK := Lib.hid hK
  clear hK
  have HOFF := Lib.hid (own_other hown b9 (by decide))
  obtain ⟨av, cp, rfl⟩ := owns_shapeW hown
  have hm_ := Lib.hid hm
  clear hm
  have w65 := i64_w (n := 65 + (k : Int)) (by omega)
  have u65 : IntKind.u8.wrap (65 + (k : Int)) = ((65 + k : Nat) : Int) := by rw [IntKind.wrap_u8]; omega
  have w10 := i64_w (n := 10 * (k : Int)) (by omega)
  have wl := i64_w (n := -lo) (by omega)
  have wh := i64_w (n := -hi) (by omega)
  have MB := Lib.hid (show ∀ Z Z2, Blk Z w9.heap.size #[.int .u8 ((65 + k : Nat) : Int)] 5 → Z.grownBy Z2 (Value.slice av n cp).ownBlock → Blk Z2 w9.heap.size #[.int .u8 ((65 + k : Nat) : Int)] 5 from fun Z Z2 h1 h2 => blk_off h1 (fun he => by have := (hown.lt _ he).2; omega) h2)
  refine held_fork (fun w' => Blk w' n6 #[.string (str lzW), .slice av n cp] 58 ∧ Blk w' n9 #[.int .i64 lo, .int .i64 hi] 28) (fun w' => (Blk w' n6 #[.string (str lzW), .slice av n cp] 58 ∧ Blk w' n9 #[.int .i64 lo, .int .i64 hi] 28) ∧ Blk w' w9.heap.size #[.int .u8 ((65 + k : Nat) : Int)] 5) (fun w' => Blk w' n6 #[.string (str lzW), .slice av n cp] 58 ∧ Blk w' n9 #[.int .i64 lo, .int .i64 hi] 28) (fun w h => h.1) (fun w h => h) [(true, 0), (true, 1), (true, 2), (true, 3), (true, 4), (true, 8), (true, 9), (true, 11), (true, 12), (true, 13), (true, 14), (true, 15), (true, 16), (true, 17)] 5 10 _ _ [(true, 6), (true, 7), (false, 10), (true, 18), (true, 19), (false, 20), (false, 21), (true, 22), (false, 23)] [(true, 18), (false, 5), (false, 6), (true, 7), (true, 19), (false, 20), (false, 21), (true, 22), (false, 23)] 23 (by kernel_rfl) rfl rfl (by kernel_rfl) hQ ⟨b6.drew, b9.drew⟩ ?_
  simp only [List.filterMap_cons, List.filterMap_nil, List.getElem?_cons_zero, List.getElem?_cons_succ, Option.map_some]
  iterate 14 ((first | (refine takenF_take ?_ ?_ (fun w' hS => ?_) ?_; rotate_left 1; (focus rfl); (focus (first | (go_simp; done) | (go_simp; with_reducible rfl) | (obtain ⟨S1, S2⟩ := hS; have S1c0 := S1.cell 0; have S1f0 := S1.free 0; have S1c1 := S1.cell 1; have S1f1 := S1.free 1; have S1l := S1.lt; simp at S1c0 S1c1; have S2c0 := S2.cell 0; have S2f0 := S2.free 0; have S2c1 := S2.cell 1; have S2f1 := S2.free 1; have S2l := S2.lt; simp at S2c0 S2c1; first | (go_simp; done) | (go_simp; with_reducible rfl))))) | (refine takenF_pass ?_ ?_; (focus rfl))); simp only [Act.put, List.setIfInBounds_toArray, List.set_cons_zero, List.set_cons_succ])
  refine ⟨?_, ?_⟩
  · refine wpList_plain rfl fun K1 hK1 => ?_
    go_wp2
    refine fork_on ⟨⟨by exact blkx, by exact blkx⟩, by exact blkx⟩ ?_
    iterate 2 ((first | (refine held_take ?_ ?_ (fun w' hS => ?_) ?_; rotate_left 1; (focus rfl); (focus (first | (go_simp; done) | (go_simp; with_reducible rfl) | (obtain ⟨⟨S1, S2⟩, S3⟩ := hS; have S1c0 := S1.cell 0; have S1f0 := S1.free 0; have S1c1 := S1.cell 1; have S1f1 := S1.free 1; have S1l := S1.lt; simp at S1c0 S1c1; have S2c0 := S2.cell 0; have S2f0 := S2.free 0; have S2c1 := S2.cell 1; have S2f1 := S2.free 1; have S2l := S2.lt; simp at S2c0 S2c1; have hcv := conv_one (c := 1) hbt S3; first | (go_simp; done) | (go_simp; with_reducible rfl))))) | (refine held_pass ?_ ?_; (focus rfl))); simp only [Act.put, List.setIfInBounds_toArray, List.set_cons_zero, List.set_cons_succ])
    refine held_one ?_
    refine wpList_plain rfl fun K1 hK1 => ?_
    go_wp2_with (go_at_call 10; (with_reducible refine (t_one (10 * (k : Int)) _).mono ?_); rintro e w2 ⟨rfl, hb2⟩)
    refine held_on ⟨⟨by exact blkx, by exact blkx⟩, by exact blkx⟩ ?_
    iterate 2 ((first | (refine held_take ?_ ?_ (fun w' hS => ?_) ?_; rotate_left 1; (focus rfl); (focus (first | (go_simp; done) | (go_simp; with_reducible rfl) | (obtain ⟨⟨S1, S2⟩, S3⟩ := hS; have S1c0 := S1.cell 0; have S1f0 := S1.free 0; have S1c1 := S1.cell 1; have S1f1 := S1.free 1; have S1l := S1.lt; simp at S1c0 S1c1; have S2c0 := S2.cell 0; have S2f0 := S2.free 0; have S2c1 := S2.cell 1; have S2f1 := S2.free 1; have S2l := S2.lt; simp at S2c0 S2c1; have hcv := conv_one (c := 1) hbt S3; first | (go_simp; done) | (go_simp; with_reducible rfl))))) | (refine held_pass ?_ ?_; (focus rfl))); simp only [Act.put, List.setIfInBounds_toArray, List.set_cons_zero, List.set_cons_succ])
    refine held_one ?_
    refine wpList_plain rfl fun K1 hK1 => ?_
    go_wp2
    refine held_on ⟨⟨by exact blkx, by exact blkx⟩, by exact blkx⟩ ?_
    refine held_one ?_
    go_wp2_with (at_builtin; (obtain ⟨i0, hi_, hz0, hz1, hz2⟩ := info_partsW infoSR; refine wpList_append_own _ rfl _ _ 56 rfl B 55 i0 (.agg #[.string ByteArray.empty, .int .i64 0, .int .i64 0, .int .i64 0, .int .i64 0]) 5 48 Tryz.underlying56 hi_ hz0 hz1 hz2 rfl (by decide) _ _ _ rfl (owns_keep hown (by exact kpta)) ⟨_, 0, none⟩ 1 1 [.string (str [71, 97, 115, 45, bt]), .int .i64 (10 * (k : Int)), .int .i64 (10 * (k : Int)), .int .i64 (-hi), .int .i64 (-lo)] rfl rfl (cells_atW (by simp) _ _) (fun x hx => by simp at hx; rcases hx with rfl | rfl | rfl | rfl | rfl <;> rfl) (by unfold maxLen; omega) (by omega) (by have h1 := (show Kept w9 w2 by exact kpta).size; (try simp at h1); (try simp); omega) ?_; intro v9 w8 hown9 hgrow9 hnil9; clear hi_ hz0 hz1 hz2; obtain ⟨ad9, cp9, rfl⟩ := owns_shapeW hown9; have m8 := grownLtS (show Blk _ n6 #[.string (str lzW), .slice av n cp] 58 by exact blkx) hB.1 (owns_keep hown (by exact kpta)) hgrow9; have mf := blk_off (show Blk _ n9 #[.int .i64 lo, .int .i64 hi] 28 by exact blkx) HOFF.out hgrow9; have mb := MB.out _ _ (by exact blkx) hgrow9; have m8c0 := m8.cell 0; have m8f0 := m8.free 0; have m8c1 := m8.cell 1; have m8f1 := m8.free 1; have m8l := m8.lt; simp at m8c0 m8c1))
    first | refine held_on ⟨⟨m8, mf⟩, mb⟩ ?_ | (refine onward_on ?_; refine ⟨⟨⟨m8, mf⟩, mb⟩, ?_⟩)
    iterate 1 ((first | (refine held_take ?_ ?_ (fun w' hS => ?_) ?_; rotate_left 1; (focus rfl); (focus (first | (go_simp; done) | (go_simp; with_reducible rfl) | (obtain ⟨⟨S1, S2⟩, S3⟩ := hS; have S1c0 := S1.cell 0; have S1f0 := S1.free 0; have S1c1 := S1.cell 1; have S1f1 := S1.free 1; have S1l := S1.lt; simp at S1c0 S1c1; have S2c0 := S2.cell 0; have S2f0 := S2.free 0; have S2c1 := S2.cell 1; have S2f1 := S2.free 1; have S2l := S2.lt; simp at S2c0 S2c1; have hcv := conv_one (c := 1) hbt S3; first | (go_simp; done) | (go_simp; with_reducible rfl))))) | (refine held_pass ?_ ?_; (focus rfl))); simp only [Act.put, List.setIfInBounds_toArray, List.set_cons_zero, List.set_cons_succ])
    refine held_one ?_
    refine wpList_plain rfl fun K1 hK1 => ?_
    go_wp2
    (first | refine held_end ?_ | (refine onward_on ?_; first | refine held_nil ?_ | refine ⟨.inl trivial, held_nil ?_⟩ | refine ⟨.inl rfl, held_nil ?_⟩))
    have hk9 : Kept w9 w2 := by exact kpta
    have hkA : Kept w w2 := Kept.drop hkw hk9
    have hkB := Kept.grown (show Kept w (World.alloc w2 (Obj.cells #[.string (str [71, 97, 115, 45, bt]), .int .i64 (10 * (k : Int)), .int .i64 (10 * (k : Int)), .int .i64 (-hi), .int .i64 (-lo)] 55)) by exact kpta) (owns_keep hown (by exact kpta)) (by omega) hgrow9
    refine HK.out _ _ _ _ _ _ _ _ _ _ _ _ _ _ _ _ _ _ _ _ _ _ _ _ _ ⟨m8.set 1 _, ?_, ?_, hkB.setCell hw6 _, ?_⟩
    · rw [List.flatMap_append]
      exact owns_setLt8 hB.1 hown9
    · intro b arr t hb1_ hb2_ hbb
      exact (grownLtS (Blk.keep hbb (by exact kpta)) hb2_ (owns_keep hown (by exact kpta)) hgrow9).other (Ne.symm hb1_) _
    · have h1 := hk9.size
      have h2 := hgrow9.size
      simp at h1 h2 ⊢
      omega
  · refine wpList_plain rfl fun K1 hK1 => ?_
    go_wp2_with (go_at_call 10; (with_reducible refine (t_one (10 * (k : Int)) _).mono ?_); rintro e w2 ⟨rfl, hb2⟩)
    refine fork_on ⟨by exact blkx, by exact blkx⟩ ?_
    iterate 1 ((first | (refine held_take ?_ ?_ (fun w' hS => ?_) ?_; rotate_left 1; (focus rfl); (focus (first | (go_simp; done) | (go_simp; with_reducible rfl) | (obtain ⟨S1, S2⟩ := hS; have S1c0 := S1.cell 0; have S1f0 := S1.free 0; have S1c1 := S1.cell 1; have S1f1 := S1.free 1; have S1l := S1.lt; simp at S1c0 S1c1; have S2c0 := S2.cell 0; have S2f0 := S2.free 0; have S2c1 := S2.cell 1; have S2f1 := S2.free 1; have S2l := S2.lt; simp at S2c0 S2c1; first | (go_simp; done) | (go_simp; with_reducible rfl))))) | (refine held_pass ?_ ?_; (focus rfl))); simp only [Act.put, List.setIfInBounds_toArray, List.set_cons_zero, List.set_cons_succ])
    refine held_one ?_
    refine wpList_plain rfl fun K1 hK1 => ?_
    go_wp2
    refine held_on ⟨by exact blkx, by exact blkx⟩ ?_
    refine at_worldH (S := fun Z => Blk Z w2.heap.size #[.int .u8 ((65 + k : Nat) : Int)] 5 ∧ Kept w9 Z ∧ Blk Z n6 #[.string (str lzW), .slice av n cp] 58 ∧ Blk Z n9 #[.int .i64 lo, .int .i64 hi] 28) ⟨by exact blkx, by exact kpta, by exact blkx, by exact blkx⟩ ?_
    rintro Z ⟨z5, hkZ, b6z, b9z⟩
    have hcv := conv_one (c := 1) hbt z5
    refine held_one ?_
    refine wpList_plain rfl fun K1 hK1 => ?_
    go_wp2
    refine held_on ⟨by exact blkx, by exact blkx⟩ ?_
    iterate 2 ((first | (refine held_take ?_ ?_ (fun w' hS => ?_) ?_; rotate_left 1; (focus rfl); (focus (first | (go_simp; done) | (go_simp; with_reducible rfl) | (obtain ⟨S1, S2⟩ := hS; have S1c0 := S1.cell 0; have S1f0 := S1.free 0; have S1c1 := S1.cell 1; have S1f1 := S1.free 1; have S1l := S1.lt; simp at S1c0 S1c1; have S2c0 := S2.cell 0; have S2f0 := S2.free 0; have S2c1 := S2.cell 1; have S2f1 := S2.free 1; have S2l := S2.lt; simp at S2c0 S2c1; first | (go_simp; done) | (go_simp; with_reducible rfl))))) | (refine held_pass ?_ ?_; (focus rfl))); simp only [Act.put, List.setIfInBounds_toArray, List.set_cons_zero, List.set_cons_succ])
    refine held_one ?_
    refine wpList_plain rfl fun K1 hK1 => ?_
    go_wp2
    refine held_on ⟨by exact blkx, by exact blkx⟩ ?_
    refine held_one ?_
    go_wp2_with (at_builtin; (obtain ⟨i0, hi_, hz0, hz1, hz2⟩ := info_partsW infoSR; refine wpList_append_own _ rfl _ _ 56 rfl B 55 i0 (.agg #[.string ByteArray.empty, .int .i64 0, .int .i64 0, .int .i64 0, .int .i64 0]) 5 48 Tryz.underlying56 hi_ hz0 hz1 hz2 rfl (by decide) _ _ _ rfl (owns_keep hown (by exact kpta)) ⟨_, 0, none⟩ 1 1 [.string (str [71, 97, 115, 45, bt]), .int .i64 (10 * (k : Int)), .int .i64 (10 * (k : Int)), .int .i64 (-hi), .int .i64 (-lo)] rfl rfl (cells_atW (by simp) _ _) (fun x hx => by simp at hx; rcases hx with rfl | rfl | rfl | rfl | rfl <;> rfl) (by unfold maxLen; omega) (by omega) (by have h1 := (show Kept w9 Z by exact kpta).size; (try simp at h1); (try simp); omega) ?_; intro v9 w8 hown9 hgrow9 hnil9; clear hi_ hz0 hz1 hz2; obtain ⟨ad9, cp9, rfl⟩ := owns_shapeW hown9; have m8 := grownLtS (show Blk _ n6 #[.string (str lzW), .slice av n cp] 58 by exact blkx) hB.1 (owns_keep hown (by exact kpta)) hgrow9; have mf := blk_off (show Blk _ n9 #[.int .i64 lo, .int .i64 hi] 28 by exact blkx) HOFF.out hgrow9; have m8c0 := m8.cell 0; have m8f0 := m8.free 0; have m8c1 := m8.cell 1; have m8f1 := m8.free 1; have m8l := m8.lt; simp at m8c0 m8c1))
    first | refine held_on ⟨m8, mf⟩ ?_ | (refine onward_on ?_; refine ⟨⟨m8, mf⟩, ?_⟩)
    iterate 1 ((first | (refine held_take ?_ ?_ (fun w' hS => ?_) ?_; rotate_left 1; (focus rfl); (focus (first | (go_simp; done) | (go_simp; with_reducible rfl) | (obtain ⟨S1, S2⟩ := hS; have S1c0 := S1.cell 0; have S1f0 := S1.free 0; have S1c1 := S1.cell 1; have S1f1 := S1.free 1; have S1l := S1.lt; simp at S1c0 S1c1; have S2c0 := S2.cell 0; have S2f0 := S2.free 0; have S2c1 := S2.cell 1; have S2f1 := S2.free 1; have S2l := S2.lt; simp at S2c0 S2c1; first | (go_simp; done) | (go_simp; with_reducible rfl))))) | (refine held_pass ?_ ?_; (focus rfl))); simp only [Act.put, List.setIfInBounds_toArray, List.set_cons_zero, List.set_cons_succ])
    refine held_one ?_
    refine wpList_plain rfl fun K1 hK1 => ?_
    go_wp2
    (first | refine held_end ?_ | (refine onward_on ?_; first | refine held_nil ?_ | refine ⟨.inl trivial, held_nil ?_⟩ | refine ⟨.inl rfl, held_nil ?_⟩))
    have hk9 : Kept w9 Z := by exact kpta
    have hkA : Kept w Z := Kept.drop hkw hk9
    have hkB := Kept.grown (show Kept w (World.alloc Z (Obj.cells #[.string (str [71, 97, 115, 45, bt]), .int .i64 (10 * (k : Int)), .int .i64 (10 * (k : Int)), .int .i64 (-hi), .int .i64 (-lo)] 55)) by exact kpta) (owns_keep hown (by exact kpta)) (by omega) hgrow9
    refine HK.out _ _ _ _ _ _ _ _ _ _ _ _ _ _ _ _ _ _ _ _ _ _ _ _ _ ⟨m8.set 1 _, ?_, ?_, hkB.setCell hw6 _, ?_⟩
    · rw [List.flatMap_append]
      exact owns_setLt8 hB.1 hown9
    · intro b arr t hb1_ hb2_ hbb
      exact (grownLtS (Blk.keep hbb (by exact kpta)) hb2_ (owns_keep hown (by exact kpta)) hgrow9).other (Ne.symm hb1_) _
    · have h1 := hk9.size
      have h2 := hgrow9.size
      simp at h1 h2 ⊢
      omega
  
end Go.Proofs.YtamnnjdfjffhlaaGreatDoor

/-
  TopSheeted: the sheet of a plant, written and read.
-/
namespace Go.Proofs.YtamnnjdfjffhlaaGreatDoor
open Go.RowKit Bal Bal.Trim Bal.Sheet Go.Proofs.YtamnnjdfjffhlaaGreatDoor.Trim04 Bal.Top Bal.Gas
set_option linter.unusedVariables false
set_option linter.unusedSimpArgs false
set_option maxHeartbeats 8000000
set_option maxRecDepth 100000
attribute [local go_sem] str_app lit_app app_lit str_size ite_max

theorem f_sheeted (p : Plant) (a : Air) (ad : Option Addr) (cap : Nat) (w : World) (hx : Row Cell.cells 7 w.heap.size w ad p.cells) (h12 : p.cells.length ≤ 12) (hc : ∀ i, i < p.cells.length → cellB (p.cells.getD i default) = true) (ha : airB a = true) (ht : Tabs w) : Calls Tryz.prog 8 #[.agg #[.slice ad p.cells.length cap, .int .i64 p.bottles, .int .i64 p.inH, .int .i64 p.inA, .int .i64 p.vH, .int .i64 p.vA, .int .i64 p.lH, .int .i64 p.lA, .int .i64 p.pH, .int .i64 p.pA], .agg #[.int .i64 a.plo, .int .i64 a.phi, .int .i64 a.tlo, .int .i64 a.thi]] w fun e w' => e = .returned (.tuple #[.agg #[.int .i64 (heavyLo a p.cells), .int .i64 (heavyHi a p.cells)], .bool true]) ∧ Kept w w' := by
  have HX := Lib.hid hx
  have HC := Lib.hid hc
  have HA := Lib.hid ha
  have HT0 := Lib.hid ht
  clear hx hc ha ht
  go_enter Tryz.func8, Tryz.ntmps8
  go_upto_block 0 with fail
  obtain ⟨n3, hn3⟩ : ∃ n, n = w.heap.size + 1 := ⟨_, rfl⟩
  obtain ⟨n4, hn4⟩ : ∃ n, n = n3 + 1 := ⟨_, rfl⟩
  obtain ⟨n6, hn6⟩ : ∃ n, n = n4 + 1 := ⟨_, rfl⟩
  refine at_world (S := fun X => Blk X (w.heap.size + 1) #[.int .i64 a.plo, .int .i64 a.phi, .int .i64 a.tlo, .int .i64 a.thi] 30 ∧ Blk X (w.heap.size + 1 + 1) #[.int .i64 0, .int .i64 0] 28 ∧ Blk X (w.heap.size + 1 + 1 + 1) #[.string (str lzW), .slice none 0 0] 58 ∧ Kept w X) ⟨by exact blkd, by exact blkd, by exact blkd, by exact kpta⟩ ?_
  rintro X ⟨b3, b4, b6, hkX⟩
  have e1 : w.heap.size < n3 := by omega
  have e2 : n3 < n4 := by omega
  have e3 : n4 < n6 := by omega
  have e4 : n6 < X.heap.size := by rw [hn6, hn4, hn3]; exact b6.lt
  simp only [← hn3, ← hn4, ← hn6] at b3 b4 b6 ⊢
  clear hn3 hn4 hn6
  obtain ⟨B, hBX⟩ : ∃ B, B = X.heap.size := ⟨_, rfl⟩
  have HBX := Lib.hid (Nat.le_of_eq hBX)
  rw [← hBX] at e4
  clear hBX
  go_wp2
  go_loopw [25] (fun i wr => ∃ (k : Nat) (v : Value), k ≤ p.cells.length ∧ i = .int .i64 k ∧ Blk wr n6 #[.string (str lzW), v] 58 ∧ wr.ownsRow B 55 5 v k ((rowsTo a p.cells k).flatMap SRow.cells) ∧ Blk wr n3 #[.int .i64 a.plo, .int .i64 a.phi, .int .i64 a.tlo, .int .i64 a.thi] 30 ∧ Blk wr n4 #[.int .i64 0, .int .i64 0] 28 ∧ Kept w wr ∧ B ≤ wr.heap.size) (fun i _ => p.cells.length - (intOf i).toNat)
  case atStart => exact ⟨0, _, Nat.zero_le _, rfl, b6, owns_nil (α := SRow) (enc := SRow.cells), b3, b4, hkX, HBX.out⟩
  case round =>
    clear b6 b3 b4 hkX
    obtain ⟨k, v, hk, rfl, b6, hown, b3, b4, hkw, hB⟩ := hrel
    by_cases hlt : k < p.cells.length
    · have d5 : decide ((k : Int) < (p.cells.length : Int)) = true := by simp; omega
      have wk := i64_w (n := (k : Int) + 1) (by omega)
      have i0 : (0 : Int) ≤ (k : Int) := by omega
      have i1 : (k : Int) < (p.cells.length : Int) := by omega
      have HTK := Lib.hid (rowsTo_succ a p.cells k)
      have HRL := Lib.hid (rowsTo_len a p.cells k)
      obtain ⟨b1, o1, rfl, hb1_, z0, z1, z2, z3, z4, z5, z6⟩ := Cell.row (HX.out.later hkw (Nat.le_refl _)) k hlt
      have hce : p.cells.getD k default = p.cells[k] := by simp [hlt]
      have hcB := HC.out k hlt
      rw [hce] at HTK hcB
      generalize p.cells[k] = c at z0 z1 z2 z3 z4 z5 z6 HTK hcB
      have KL := Lib.hid (fun Z => f_Lift_ok c a Z hcB HA.out)
      have hbd := lift_bd hcB HA.out
      have hd : rowC a k c = ⟨nameC k, ⟨10 * (k : Int), 10 * (k : Int), -liftHi c a, -liftLo c a⟩⟩ := rfl
      have hTK := HTK.out
      rw [hd] at hTK
      have HTK2 := Lib.hid hTK
      clear HTK hTK hd hcB hce
      obtain ⟨lo, hlo⟩ : ∃ z, z = liftLo c a := ⟨_, rfl⟩
      obtain ⟨hi, hhi⟩ : ∃ z, z = liftHi c a := ⟨_, rfl⟩
      rw [← hlo, ← hhi] at KL hbd HTK2
      clear hlo hhi
      have hlo_ : -1000000000000 ≤ lo ∧ lo ≤ 1000000000000 := by omega
      have hhi_ : -1000000000000 ≤ hi ∧ hi ≤ 1000000000000 := by omega
      have HLO := Lib.hid hlo_
      have HHI := Lib.hid hhi_
      have HOWN := Lib.hid hown
      clear hown hlo_ hhi_ hbd
      have b3c0 := b3.cell 0
      have b3f0 := b3.free 0
      have b3c1 := b3.cell 1
      have b3f1 := b3.free 1
      have b3c2 := b3.cell 2
      have b3f2 := b3.free 2
      have b3c3 := b3.cell 3
      have b3f3 := b3.free 3
      have b3l := b3.lt
      simp at b3c0 b3c1 b3c2 b3c3
      go_upto_region 8 with (go_at_call 11; (with_reducible refine (KL.out _).mono ?_); rintro e w2 ⟨rfl, hb2⟩)
      refine at_world (S := fun Z => Blk Z w2.heap.size #[.int .i64 lo, .int .i64 hi] 28 ∧ Kept wr Z) ⟨by exact blkd, by exact kpta⟩ ?_
      rintro Z ⟨b9, hkZ⟩
      have hszZ := Kept.size hkZ
      refine sh_8 _ rfl _ (fun c a d v w h => by cases d <;> exact h) (bt := UInt8.ofNat (65 + k)) (Lib.hid rfl) (b6.keep hkZ) b9 HRL.out (owns_keep HOWN.out hkZ) ⟨e4, by omega⟩ (Kept.drop hkw hkZ) (by omega) (by omega) (by omega) HLO.out HHI.out ?_
      rintro v2 _ _ _ _ _ _ _ _ _ _ _ _ _ _ _ _ _ _ _ _ _ _ _ wc ⟨b6c, hownc, hkeep, hkc, hszc⟩
      have b3c := hkeep _ _ _ (by omega) (by omega) (b3.keep hkZ)
      have b4c := hkeep _ _ _ (by omega) (by omega) (b4.keep hkZ)
      have hown2 : wc.ownsRow B 55 5 v2 (k + 1) ((rowsTo a p.cells (k + 1)).flatMap SRow.cells) := by rw [HTK2.out]; exact hownc
      have HOC := Lib.hid hown2
      clear hownc hkeep b6 b3 b4 b9 hown2
      go_wp2
      go_round
      case rel => exact ⟨k + 1, v2, by omega, by go_num, b6c, HOC.out, b3c, b4c, hkc, by omega⟩
      case measure => simp [intOf]; omega
    · obtain rfl : k = p.cells.length := by omega
      have d5 : decide ((p.cells.length : Int) < (p.cells.length : Int)) = false := by simp
      have OK := Lib.hid (rowsTo_ok HA.out h12 HC.out (Nat.le_refl p.cells.length))
      have HHL := Lib.hid (show heavyLo a p.cells = sumBy Load.wlo ((rowsTo a p.cells p.cells.length).map SRow.ld) from rfl)
      have HHH := Lib.hid (show heavyHi a p.cells = sumBy Load.whi ((rowsTo a p.cells p.cells.length).map SRow.ld) from rfl)
      have HRN := Lib.hid (rowsTo_len a p.cells p.cells.length)
      obtain ⟨LO, hLO⟩ : ∃ z, z = heavyLo a p.cells := ⟨_, rfl⟩
      obtain ⟨HI, hHI⟩ : ∃ z, z = heavyHi a p.cells := ⟨_, rfl⟩
      obtain ⟨rs, hrs⟩ : ∃ r, r = rowsTo a p.cells p.cells.length := ⟨_, rfl⟩
      have HLOq := Lib.hid hLO
      have HHIq := Lib.hid hHI
      rw [← hLO, ← hrs] at HHL
      rw [← hHI, ← hrs] at HHH
      rw [← hrs] at OK HRN hown
      clear hLO hHI hrs HX HC
      clear b3
      generalize p.cells.length = N at *
      obtain rfl : N = rs.length := HRN.out.symm
      obtain ⟨ar, cr, rfl, hra, hca, hma⟩ := owns_row (enc := SRow.cells) (k := 5) (xs := rs) (fun _ => rfl) hown
      have HRA := Lib.hid (show ∀ Z, Kept wr Z → Row SRow.cells 5 Z.heap.size Z ar rs from fun Z hZ => hra.later hZ (Nat.le_refl _))
      have HW := Lib.hid (fun ar cap W (h1 : Row SRow.cells 5 W.heap.size W ar rs) (h2 : Tabs W) => f_WriteSheet ar cap rs W h1 OK.out h2)
      have HRD := Lib.hid (fun W (h2 : Tabs W) => f_ReadSheet rs W OK.out h2)
      have HBAL := Lib.hid (show ∀ al cl W, Row Load.cells 4 W.heap.size W al (rs.map SRow.ld) → rs.length ≤ cl → cl ≤ maxLen → Calls Tryz.prog 17 #[.slice al rs.length cl] W fun e w' => ∃ m1 m2, e = .returned (.tuple #[.agg #[.int .i64 LO, .int .i64 HI], .agg #[.int .i64 m1, .int .i64 m2], .int .i64 0]) ∧ Kept W w' from fun al cl W h1 h2 h3 => by
        rw [HHL.out, HHH.out]
        refine (l_Balance al cl rs.length (rs.map SRow.ld) (List.length_map _) W h1 h2 h3 OK.out.loads).mono ?_
        rintro e w' ⟨he, hk⟩
        exact ⟨_, _, he, hk⟩)
      have HRN1 := Lib.hid HRN
      clear hown hra HRN OK HHL HHH
      have b4c0 := b4.cell 0
      have b4f0 := b4.free 0
      have b4c1 := b4.cell 1
      have b4f1 := b4.free 1
      have b4l := b4.lt
      simp at b4c0 b4c1
      have b6c0 := b6.cell 0
      have b6f0 := b6.free 0
      have b6c1 := b6.cell 1
      have b6f1 := b6.free 1
      have b6l := b6.lt
      simp at b6c0 b6c1
      go_upto_block 2 with (first | (go_at_call 13; (with_reducible refine (HW.out ar cr _ (HRA.out _ (by exact kpta)) (HT0.out.keep (Kept.drop hkw (by exact kpta)))).mono ?_); rintro e w5 ⟨rfl, hb5⟩; refine Blk.thru (b := n6) (arr := ?_) (t := ?_) ?_ hb5 ?_; rotate_left 2; (focus (exact blk)); intro o5; have o5c0 := o5.cell 0; have o5f0 := o5.free 0; have o5c1 := o5.cell 1; have o5f1 := o5.free 1; have o5l := o5.lt; simp at o5c0 o5c1) | (go_at_call 16; (with_reducible refine (HRD.out _ (HT0.out.keep (Kept.drop hkw (by exact kpta)))).mono ?_); rintro e w7 ⟨⟨ar2, cr2, rfl, hr2, hc2, hm2⟩, hb7⟩; refine Blk.thru (b := n6) (arr := ?_) (t := ?_) ?_ hb7 ?_; rotate_left 2; (focus (exact blk)); intro o7; have o7c0 := o7.cell 0; have o7f0 := o7.free 0; have o7c1 := o7.cell 1; have o7f1 := o7.free 1; have o7l := o7.lt; simp at o7c0 o7c1))
      refine at_world (S := fun V => Blk V n4 #[.int .i64 0, .int .i64 0] 28 ∧ Blk V n6 #[.string (str lzW), .slice ar rs.length cr] 58 ∧ Row SRow.cells 5 V.heap.size V ar rs ∧ Row SRow.cells 5 V.heap.size V ar2 rs ∧ Kept w V) ⟨by exact blkd, by exact blkd, HRA.out _ (by exact kpta), hr2.later (by exact kpta) (Nat.le_refl _), Kept.drop hkw (by exact kpta)⟩ ?_
      rintro V ⟨b4v, b6v, hrv, hr2v, hkV⟩
      have HRV := Lib.hid hrv
      have HR2V := Lib.hid hr2v
      have e5 := b4v.lt
      clear b4 b6 hrv hr2v hr2 hb5 hb7
      have B4V := Lib.hid b4v
      have B6V := Lib.hid b6v
      clear b4v b6v
      go_wp2
      go_loopw [92, 15] (fun i l wq => ∃ k : Nat, k ≤ rs.length ∧ i = .int .i64 k ∧ wq.ownsRow V.heap.size 53 4 l k (((rs.take k).map SRow.ld).flatMap Load.cells) ∧ Kept V wq) (fun i _ _ => rs.length - (intOf i).toNat)
      case atStart => exact ⟨0, Nat.zero_le _, rfl, owns_nil (α := Load) (enc := Load.cells), Below.refl _ _⟩
      case round =>
        obtain ⟨k, hk, rfl, hown, hkq⟩ := hrel
        by_cases hlt : k < rs.length
        · have d6 : decide ((k : Int) < (rs.length : Int)) = true := by simp; omega
          have wk := i64_w (n := (k : Int) + 1) (by omega)
          have i0 : (0 : Int) ≤ (k : Int) := by omega
          have i1 : (k : Int) < (rs.length : Int) := by omega
          have hsz := hkq.size
          have b6q := B6V.out.keep hkq
          obtain ⟨b1, o1, rfl, hb1_, z0, z1, z2, z3, z4⟩ := SRow.row (HR2V.out.later hkq (Nat.le_refl _)) k hlt
          obtain ⟨b2, o2, rfl, hb2_, y0, y1, y2, y3, y4⟩ := SRow.row (HRV.out.later hkq (Nat.le_refl _)) k hlt
          obtain ⟨x, hxx⟩ : ∃ x, x = rs[k] := ⟨_, rfl⟩
          rw [← hxx] at z0 z1 z2 z3 z4 y0 y1 y2 y3 y4
          have HXX := Lib.hid hxx
          clear hxx
          obtain ⟨al_, cl_, rfl⟩ := owns_shapeW hown
          have b6qc0 := b6q.cell 0
          have b6qf0 := b6q.free 0
          have b6qc1 := b6q.cell 1
          have b6qf1 := b6q.free 1
          have b6ql := b6q.lt
          simp at b6qc0 b6qc1
          go_upto_region 18 with fail
          go_quiet (fail)
          refine at_worldQ (S := fun Z => Blk Z wr.heap.size #[.string (str x.name), .int .i64 x.ld.alo, .int .i64 x.ld.ahi, .int .i64 x.ld.wlo, .int .i64 x.ld.whi] 55 ∧ Kept wr Z) ⟨show Blk (World.alloc wr _) _ _ _ from Blk.new, Below.trans ((Below.refl _ _).alloc (Nat.le_refl _) _) ⟨rfl, rfl, rfl, Nat.le_refl _, fun _ _ => rfl⟩⟩ ?_
          rintro Z ⟨b17, hkZ⟩
          have b17c0 := b17.cell 0
          have b17f0 := b17.free 0
          have b17c1 := b17.cell 1
          have b17f1 := b17.free 1
          have b17c2 := b17.cell 2
          have b17f2 := b17.free 2
          have b17c3 := b17.cell 3
          have b17f3 := b17.free 3
          have b17c4 := b17.cell 4
          have b17f4 := b17.free 4
          have b17l := b17.lt
          simp at b17c0 b17c1 b17c2 b17c3 b17c4
          have hszZ := Kept.size hkZ
          go_wp2_with (at_builtin; (obtain ⟨i0, hi, hz0, hz1, hz2⟩ := info_partsW infoLd; refine wpList_append_own _ rfl _ _ 64 rfl V.heap.size 53 i0 (.agg #[.int .i64 0, .int .i64 0, .int .i64 0, .int .i64 0]) 4 32 Tryz.underlying64 hi hz0 hz1 hz2 rfl (by decide) _ _ _ rfl (owns_keep hown (by exact kpta)) ⟨_, 0, none⟩ 1 1 [.int .i64 x.ld.alo, .int .i64 x.ld.ahi, .int .i64 x.ld.wlo, .int .i64 x.ld.whi] rfl rfl (cells_atW (by simp) _ _) (fun x hx => by simp at hx; rcases hx with rfl | rfl | rfl | rfl <;> rfl) (by unfold maxLen; omega) (by omega) (by (try simp); omega) ?_; intro v9 w8 hown9 hgrow9 hnil9; clear hi hz0 hz1 hz2))
          go_round
          case rel =>
            refine ⟨k + 1, by omega, by go_num, ?_, Kept.grown (show Kept V _ by exact kpta) (owns_keep hown (by exact kpta)) (Nat.le_refl _) hgrow9⟩
            have e := flat_next Load.cells (rs.map SRow.ld) (k := k) (by simpa using hlt)
            rw [List.map_take, e, List.getElem_map, ← HXX.out, ← List.map_take]
            exact hown9
          case measure => simp [intOf]; omega
        · obtain rfl : k = rs.length := by omega
          have d6 : decide ((rs.length : Int) < (rs.length : Int)) = false := by simp
          rw [List.take_length] at hown
          obtain ⟨al, cl, rfl, hrl, hcl, hcm⟩ := owns_row (enc := Load.cells) (k := 4) (xs := rs.map SRow.ld) (fun _ => rfl) (by rw [List.length_map]; exact hown)
          rw [List.length_map] at hcl ⊢
          have b4q := B4V.out.keep hkq
          have b4qc0 := b4q.cell 0
          have b4qf0 := b4q.free 0
          have b4qc1 := b4q.cell 1
          have b4qf1 := b4q.free 1
          have b4ql := b4q.lt
          simp at b4qc0 b4qc1
          go_wp2_with (go_at_call 17; (with_reducible refine (HBAL.out al cl _ (hrl.later (by exact kpta) (Nat.le_refl _)) hcl hcm).mono ?_); rintro e w9 ⟨m1, m2, rfl, hb9⟩; refine Blk.thru (b := n4) (arr := ?_) (t := ?_) ?_ hb9 ?_; rotate_left 2; (focus (exact blk)); intro o9; have o9c0 := o9.cell 0; have o9f0 := o9.free 0; have o9c1 := o9.cell 1; have o9f1 := o9.free 1; have o9l := o9.lt; simp at o9c0 o9c1)
          refine at_worldS (S := fun Z => Blk Z n4 #[.int .i64 LO, .int .i64 HI] 28 ∧ Kept w Z) ⟨by exact blkd, Kept.alloc (Kept.alloc (((Kept.drop (Kept.drop hkV hkq) hb9).setCell (show w.heap.size ≤ n4 by omega) _).setCell (show w.heap.size ≤ n4 by omega) _) _) _⟩ ?_
          rintro Z ⟨yz, hkz⟩
          have yzc0 := yz.cell 0
          have yzf0 := yz.free 0
          have yzc1 := yz.cell 1
          have yzf1 := yz.free 1
          have yzl := yz.lt
          simp at yzc0 yzc1
          exact bodyPost_ret (v := .tuple #[.agg #[.int .i64 LO, .int .i64 HI], .bool true]) (by simp [results, Tryz.results8, go_sem, yzc0, yzc1]) rfl ⟨by rw [HLOq.out, HHIq.out], hkz⟩

end Go.Proofs.YtamnnjdfjffhlaaGreatDoor

/-
  TopSheeted: the program lives.
-/
namespace Go.Proofs.YtamnnjdfjffhlaaGreatDoor
open Go.RowKit Bal Bal.Trim Bal.Sheet Go.Proofs.YtamnnjdfjffhlaaGreatDoor.Trim04 Bal.Top Bal.Gas
set_option linter.unusedVariables false
set_option linter.unusedSimpArgs false
set_option maxHeartbeats 8000000
set_option maxRecDepth 100000

theorem ito0 : Lib.itoa 0 = [48] := by simp [Lib.itoa, Lib.decDigits]
theorem ito1 : Lib.itoa (-22500) = [45, 50, 50, 53, 48, 48] := by simp [Lib.itoa, Lib.decDigits]
theorem gas_table : tableOf [(⟨[71, 97, 115], ⟨0, 0, -22500, -22500⟩⟩ : SRow)] = [[[71, 97, 115], [48], [48], [45, 50, 50, 53, 48, 48], [45, 50, 50, 53, 48, 48]], [totalW, [45, 50, 50, 53, 48, 48], [45, 50, 50, 53, 48, 48], [48], [48]]] := by
  simp only [tableOf, List.map_cons, List.map_nil, toldR, totalR, List.cons_append, List.nil_append]
  rw [show sumBy Load.wlo [(⟨0, 0, -22500, -22500⟩ : Load)] = -22500 by decide, show sumBy Load.whi [(⟨0, 0, -22500, -22500⟩ : Load)] = -22500 by decide, show sumBy mLo [(⟨0, 0, -22500, -22500⟩ : Load)] = 0 by decide, show sumBy mHi [(⟨0, 0, -22500, -22500⟩ : Load)] = 0 by decide, ito0, ito1]
theorem gas_sheet : sheetOf [(⟨[71, 97, 115], ⟨0, 0, -22500, -22500⟩⟩ : SRow)] = [83, 72, 69, 69, 84, 32, 76, 90, 10, 71, 97, 115, 32, 32, 32, 32, 32, 32, 32, 32, 32, 48, 32, 32, 32, 32, 32, 32, 32, 48, 32, 32, 45, 50, 50, 53, 48, 48, 32, 32, 45, 50, 50, 53, 48, 48, 10, 84, 79, 84, 65, 76, 32, 32, 45, 50, 50, 53, 48, 48, 32, 32, 45, 50, 50, 53, 48, 48, 32, 32, 32, 32, 32, 32, 32, 48, 32, 32, 32, 32, 32, 32, 32, 48, 10, 75, 69, 80, 84, 10] := by
  unfold sheetOf
  rw [gas_table]
  decide +kernel
theorem gas_ok : RowsOk [(⟨[71, 97, 115], ⟨0, 0, -22500, -22500⟩⟩ : SRow)] := by
  refine ⟨by decide, fun r hr => ?_, fun r hr => ?_⟩
  · rw [List.mem_singleton.1 hr]; decide
  · rw [List.mem_singleton.1 hr]; decide
theorem gas_lift : liftLo ⟨300, 900, 100, 0, 0, 0, 0⟩ ⟨10000, 10000, 2900, 2900⟩ = 22500 ∧ liftHi ⟨300, 900, 100, 0, 0, 0, 0⟩ ⟨10000, 10000, 2900, 2900⟩ = 22500 := by decide

theorem f_alive09 (w : World) (ht : Tabs w) : Calls Tryz.prog 4 #[] w fun e w' => e = .returned (.bool true) ∧ Kept w w' := by
  have HT0 := Lib.hid ht
  clear ht
  have KL := Lib.hid (show ∀ Z, Calls Tryz.prog 11 #[.agg #[.int .i64 300, .int .i64 900, .int .i64 100, .int .i64 0, .int .i64 0, .int .i64 0, .int .i64 0], .agg #[.int .i64 10000, .int .i64 10000, .int .i64 2900, .int .i64 2900]] Z fun e w' => e = .returned (.tuple #[.agg #[.int .i64 22500, .int .i64 22500], .int .i64 0]) ∧ Kept Z w' from fun Z => by
    have h := f_Lift_ok ⟨300, 900, 100, 0, 0, 0, 0⟩ ⟨10000, 10000, 2900, 2900⟩ Z (by decide) (by decide)
    rw [gas_lift.1, gas_lift.2] at h
    exact h)
  have KW := Lib.hid (show ∀ (Z : World) (n : Nat), Blk Z n #[.string { data := #[71, 97, 115] }, .int .i64 0, .int .i64 0, .int .i64 (-22500), .int .i64 (-22500)] 55 → Tabs Z → Calls Tryz.prog 13 #[.agg #[.string { data := #[76, 90] }, .slice (some ⟨n, 0, none⟩) 1 1], .slice none 0 0] Z fun e w' => e = .returned (.tuple #[.string { data := #[83, 72, 69, 69, 84, 32, 76, 90, 10, 71, 97, 115, 32, 32, 32, 32, 32, 32, 32, 32, 32, 48, 32, 32, 32, 32, 32, 32, 32, 48, 32, 32, 45, 50, 50, 53, 48, 48, 32, 32, 45, 50, 50, 53, 48, 48, 10, 84, 79, 84, 65, 76, 32, 32, 45, 50, 50, 53, 48, 48, 32, 32, 45, 50, 50, 53, 48, 48, 32, 32, 32, 32, 32, 32, 32, 48, 32, 32, 32, 32, 32, 32, 32, 48, 10, 75, 69, 80, 84, 10] }, .int .i64 0]) ∧ Kept Z w' from fun Z n hb hT => by
    have h := f_WriteSheet (some ⟨n, 0, none⟩) 1 [(⟨[71, 97, 115], ⟨0, 0, -22500, -22500⟩⟩ : SRow)] Z (Row.block (fun _ => rfl) hb rfl) gas_ok hT
    rw [gas_sheet] at h
    exact h)
  go_enter Tryz.func4, Tryz.ntmps4
  go_wp2_with (first | (go_at_call 12; (with_reducible refine (t_still _).mono ?_); rintro e w1 ⟨rfl, hb1⟩) | (go_at_call 11; (with_reducible refine (KL.out _).mono ?_); rintro e w2 ⟨rfl, hb2⟩) | (go_at_call 13; (with_reducible refine (KW.out _ _ (by exact blkx) (HT0.out.keep (by exact kpta))).mono ?_); rintro e w3 ⟨rfl, hb3⟩))
  exact bodyPost_ret (v := .bool true) (by simp [results, Tryz.results4, go_sem]) rfl ⟨rfl, by exact kpta⟩

end Go.Proofs.YtamnnjdfjffhlaaGreatDoor

/-
  A plant whose superheat is taken away. No program in sight.
-/
namespace Bal.Sheet
open Go Bal.Trim Bal.Gas Bal.Top
def coolC (c : Cell) : Cell := { c with wlo := 0, whi := 0 }
def coolTo (l : List Cell) (k : Nat) : List Cell := (l.take k).map coolC ++ l.drop k
def coolP (p : Plant) : Plant := { p with cells := p.cells.map coolC }
theorem coolTo_zero (l : List Cell) : coolTo l 0 = l := by simp [coolTo]
theorem coolTo_all (l : List Cell) : coolTo l l.length = l.map coolC := by simp [coolTo]
theorem coolTo_len (l : List Cell) (k : Nat) : (coolTo l k).length = l.length := by simp [coolTo]; omega
theorem coolTo_get {l : List Cell} {k : Nat} (h : k < l.length) : (coolTo l k)[k]? = some l[k] := by
  have e : ((l.take k).map coolC).length = k := by simp; omega
  rw [coolTo, List.getElem?_append_right (by omega), e, Nat.sub_self, List.getElem?_drop]
  simp [h]
theorem coolTo_succ {l : List Cell} {k : Nat} (h : k < l.length) : coolTo l (k + 1) = (coolTo l k).set k (coolC l[k]) := by
  have e : ((l.take k).map coolC).length = k := by simp; omega
  rw [coolTo, coolTo, List.set_append_right _ _ (by omega), e, Nat.sub_self, List.take_succ_eq_append_getElem h, List.map_append, List.drop_eq_getElem_cons h, List.set_cons_zero, List.append_assoc]
  rfl
theorem sumBy_cool (g : Cell → Int) (hg : ∀ c, g (coolC c) = g c) (l : List Cell) : sumBy g (l.map coolC) = sumBy g l := by
  induction l with
  | nil => rfl
  | cons c l ih => rw [List.map_cons, sumBy_cons, sumBy_cons, ih, hg]
theorem cool_sumH (l : List Cell) : sumH (l.map coolC) = sumH l := sumBy_cool _ (fun _ => rfl) l
theorem coolC_ok {c : Cell} (h : cellB c = true) : cellB (coolC c) = true := by
  rw [cellB_iff] at *
  obtain ⟨h1, h2, h3, h4, h5, h6⟩ := h
  exact ⟨h1, h2, h3, h4, h5, by simp [coolC]⟩
theorem coolP_ok {p : Plant} (h : plantB p = true) : plantB (coolP p) = true := by
  rw [plantB_iff] at *
  obtain ⟨h1, h2, h3, h4, h5, h6, h7, h8, h9⟩ := h
  refine ⟨by simpa [coolP] using h1, h2, h3, h4, h5, h6, ?_, ?_, ?_⟩
  · intro c hc
    obtain ⟨d, hd, rfl⟩ := List.mem_map.1 hc
    exact coolC_ok (h7 d hd)
  · show allH (coolP p) = p.inH
    rw [← h8]; simp only [allH, coolP, cool_sumH]
  · show allA (coolP p) = p.inA
    rw [← h9]; simp only [allA, coolP, sumA, sumBy_cool Cell.air (fun _ => rfl)]
theorem coolP_cold (p : Plant) : Cold (coolP p).cells := by
  intro i hi
  have hi2 : i < p.cells.length := by simpa [coolP] using hi
  simp [coolP, List.getD, hi2, coolC]
theorem plant_cell {p : Plant} (h : plantB p = true) : ∀ i, i < p.cells.length → cellB (p.cells.getD i default) = true := by
  intro i hi
  have : p.cells.getD i default = p.cells[i] := by simp [hi]
  rw [this]
  exact (plantB_iff.1 h).2.2.2.2.2.2.1 _ (List.getElem_mem hi)
theorem sumH_bd {l : List Cell} (hn : l.length ≤ 12) (h : ∀ c ∈ l, cellB c = true) (k : Nat) : -120000000 ≤ sumH (l.take k) ∧ sumH (l.take k) ≤ 120000000 := by
  refine sumBy_take_bd Cell.helium 10000000 120000000 l 12 hn (by decide) (by decide) (fun c hc => ?_) k
  have := (cellB_iff.1 (h c hc)).2.1
  omega
/-- what the program compares, all told -/
theorem sheet_sums {p : Plant} {a : Air} {k : Nat} {v : Int} (hp : plantB p = true) (ha : airB a = true) (he : doE (coolP p) ⟨3, k, 0, v⟩ = 0) :
    ∃ G H : Int, G = (doQ (coolP p) ⟨3, k, 0, v⟩).vH - p.vH ∧ H = sumH p.cells ∧ heavyLo a (coolP p).cells = -25 * H ∧ heavyHi a (coolP p).cells = -25 * H ∧
      heavyLo a (doQ (coolP p) ⟨3, k, 0, v⟩).cells = -25 * H + 25 * G ∧ heavyHi a (doQ (coolP p) ⟨3, k, 0, v⟩).cells = -25 * H + 25 * G ∧ heavyLo a p.cells ≤ heavyHi a p.cells ∧
      (-1000000000000 ≤ G ∧ G ≤ 1000000000000) ∧ (-120000000 ≤ H ∧ H ≤ 120000000) ∧ plantB (doQ (coolP p) ⟨3, k, 0, v⟩) = true ∧ (doQ (coolP p) ⟨3, k, 0, v⟩).cells.length = p.cells.length := by
  have hc := coolP_ok hp
  obtain ⟨h1, h2, h3, h4⟩ := valve_sum hc he
  have hb1 := plantB_iff.1 hp
  have hb2 := plantB_iff.1 h2
  have c1 := heavy_cold (a := a) (coolP_cold p)
  have c2 := heavy_cold (a := a) (h3 (coolP_cold p))
  have e1 : sumH (coolP p).cells = sumH p.cells := cool_sumH _
  have e2 : (coolP p).vH = p.vH := rfl
  rw [e1] at c1 h4
  rw [h4, e2] at c2
  have hs := sumH_bd hb1.1 hb1.2.2.2.2.2.2.1 p.cells.length
  rw [List.take_length] at hs
  refine ⟨_, _, rfl, rfl, c1.1, c1.2, by rw [c2.1]; omega, by rw [c2.2]; omega, heavy_le ha hb1.1 (plant_cell hp), ?_, hs, h2, by rw [h1]; simp [coolP]⟩
  have g1 := hb1.2.2.2.1.1
  have g2 := hb2.2.2.2.1.1
  omega
end Bal.Sheet

/-
  TopSheeted: the walk.
-/
namespace Go.Proofs.YtamnnjdfjffhlaaGreatDoor
open Go.RowKit Bal Bal.Trim Bal.Sheet Go.Proofs.YtamnnjdfjffhlaaGreatDoor.Trim04 Bal.Top Bal.Gas
set_option linter.unusedVariables false
set_option linter.unusedSimpArgs false
set_option maxHeartbeats 8000000
set_option maxRecDepth 100000

theorem law_TopSheeted (p : Plant) (ad0 : Option Addr) (cap : Nat) (x : Air) (k0 v0 : Nat) (w : World) (hx : Row Cell.cells 7 w.heap.size w ad0 p.cells) (hc : p.cells.length ≤ cap) (hM : cap ≤ maxLen) (hz : ad0 = none → cap = 0) (hk0 : k0 < 256) (hv0 : v0 < 65536) (ht : Tabs w) : Calls Tryz.prog 3 #[.agg #[.slice ad0 p.cells.length cap, .int .i64 p.bottles, .int .i64 p.inH, .int .i64 p.inA, .int .i64 p.vH, .int .i64 p.vA, .int .i64 p.lH, .int .i64 p.lA, .int .i64 p.pH, .int .i64 p.pA], .agg #[.int .i64 x.plo, .int .i64 x.phi, .int .i64 x.tlo, .int .i64 x.thi], .int .u8 (k0 : Int), .int .u16 (v0 : Int)] w fun e w' => e = .returned (.bool true) ∧ Kept w w' := by
  have HX0 := Lib.hid hx
  have HT0 := Lib.hid ht
  clear hx ht
  go_enter Tryz.func3, Tryz.ntmps3
  go_upto_region 4 with (go_at_call 4; (with_reducible refine (f_alive09 _ (HT0.out.keep (by exact kpta))).mono ?_); rintro e w1 ⟨rfl, hb1⟩; refine Blk.thru (b := w.heap.size) (arr := ?_) (t := ?_) ?_ hb1 ?_; rotate_left 2; (focus (exact blk)); intro o4; have o4c0 := o4.cell 0; have o4f0 := o4.free 0; have o4c1 := o4.cell 1; have o4f1 := o4.free 1; have o4c2 := o4.cell 2; have o4f2 := o4.free 2; have o4c3 := o4.cell 3; have o4f3 := o4.free 3; have o4c4 := o4.cell 4; have o4f4 := o4.free 4; have o4c5 := o4.cell 5; have o4f5 := o4.free 5; have o4c6 := o4.cell 6; have o4f6 := o4.free 6; have o4c7 := o4.cell 7; have o4f7 := o4.free 7; have o4c8 := o4.cell 8; have o4f8 := o4.free 8; have o4c9 := o4.cell 9; have o4f9 := o4.free 9; have o4l := o4.lt; simp at o4c0 o4c1 o4c2 o4c3 o4c4 o4c5 o4c6 o4c7 o4c8 o4c9; refine Blk.thru (b := (w.heap.size + 1)) (arr := ?_) (t := ?_) ?_ hb1 ?_; rotate_left 2; (focus (exact blk)); intro o5; have o5c0 := o5.cell 0; have o5f0 := o5.free 0; have o5c1 := o5.cell 1; have o5f1 := o5.free 1; have o5c2 := o5.cell 2; have o5f2 := o5.free 2; have o5c3 := o5.cell 3; have o5f3 := o5.free 3; have o5l := o5.lt; simp at o5c0 o5c1 o5c2 o5c3)
  obtain ⟨n4, hn4⟩ : ∃ n, n = w.heap.size := ⟨_, rfl⟩
  obtain ⟨n5, hn5⟩ : ∃ n, n = n4 + 1 := ⟨_, rfl⟩
  refine at_world (S := fun X => Blk X w.heap.size #[.slice ad0 p.cells.length cap, .int .i64 p.bottles, .int .i64 p.inH, .int .i64 p.inA, .int .i64 p.vH, .int .i64 p.vA, .int .i64 p.lH, .int .i64 p.lA, .int .i64 p.pH, .int .i64 p.pA] 26 ∧ Blk X (w.heap.size + 1) #[.int .i64 x.plo, .int .i64 x.phi, .int .i64 x.tlo, .int .i64 x.thi] 30 ∧ Kept w X) ⟨by exact blkd, by exact blkd, by exact kpta⟩ ?_
  rintro X ⟨b4, b5, hkX⟩
  clear hb1
  have e1 : w.heap.size ≤ n4 := by omega
  have e2 : n4 < n5 := by omega
  have e3 : n5 < X.heap.size := by rw [hn5, hn4]; exact b5.lt
  simp only [← hn4, ← hn5] at b4 b5 ⊢
  clear hn4 hn5
  have HX := Lib.hid (HX0.out.later hkX (Nat.le_refl _))
  have HC := Lib.hid hc
  have HM := Lib.hid hM
  unfold maxLen at hM
  have b4c0 := b4.cell 0
  have b4f0 := b4.free 0
  have b4c1 := b4.cell 1
  have b4f1 := b4.free 1
  have b4c2 := b4.cell 2
  have b4f2 := b4.free 2
  have b4c3 := b4.cell 3
  have b4f3 := b4.free 3
  have b4c4 := b4.cell 4
  have b4f4 := b4.free 4
  have b4c5 := b4.cell 5
  have b4f5 := b4.free 5
  have b4c6 := b4.cell 6
  have b4f6 := b4.free 6
  have b4c7 := b4.cell 7
  have b4f7 := b4.free 7
  have b4c8 := b4.cell 8
  have b4f8 := b4.free 8
  have b4c9 := b4.cell 9
  have b4f9 := b4.free 9
  have b4l := b4.lt
  simp at b4c0 b4c1 b4c2 b4c3 b4c4 b4c5 b4c6 b4c7 b4c8 b4c9
  have b5c0 := b5.cell 0
  have b5f0 := b5.free 0
  have b5c1 := b5.cell 1
  have b5f1 := b5.free 1
  have b5c2 := b5.cell 2
  have b5f2 := b5.free 2
  have b5c3 := b5.cell 3
  have b5f3 := b5.free 3
  have b5l := b5.lt
  simp at b5c0 b5c1 b5c2 b5c3
  cases hp : plantB p
  · replace hM := HM.out
    have KC := Lib.hid (show ∀ W, Kept X W → Calls Tryz.prog 5 #[.agg #[.slice ad0 p.cells.length cap, .int .i64 p.bottles, .int .i64 p.inH, .int .i64 p.inA, .int .i64 p.vH, .int .i64 p.vA, .int .i64 p.lH, .int .i64 p.lA, .int .i64 p.pH, .int .i64 p.pA]] W fun e w' => e = .returned (.int .i64 32) ∧ Kept W w' from fun W hW => by
      have k_ := r_Check p ad0 cap W (HX.out.later hW (Nat.le_refl _)) hc hM
      rw [show plantE p = 32 by simp [plantE, hp]] at k_
      exact k_)
    clear hp hM
    go_wp2_with (go_at_call 5; (with_reducible refine (KC.out _ (by exact kpta)).mono ?_); rintro e w2 ⟨rfl, hb2⟩; refine Blk.thru (b := n4) (arr := ?_) (t := ?_) ?_ hb2 ?_; rotate_left 2; (focus (exact blk)); intro c2; have c2c0 := c2.cell 0; have c2f0 := c2.free 0; have c2c1 := c2.cell 1; have c2f1 := c2.free 1; have c2c2 := c2.cell 2; have c2f2 := c2.free 2; have c2c3 := c2.cell 3; have c2f3 := c2.free 3; have c2c4 := c2.cell 4; have c2f4 := c2.free 4; have c2c5 := c2.cell 5; have c2f5 := c2.free 5; have c2c6 := c2.cell 6; have c2f6 := c2.free 6; have c2c7 := c2.cell 7; have c2f7 := c2.free 7; have c2c8 := c2.cell 8; have c2f8 := c2.free 8; have c2c9 := c2.cell 9; have c2f9 := c2.free 9; have c2l := c2.lt; simp at c2c0 c2c1 c2c2 c2c3 c2c4 c2c5 c2c6 c2c7 c2c8 c2c9; refine Blk.thru (b := n5) (arr := ?_) (t := ?_) ?_ hb2 ?_; rotate_left 2; (focus (exact blk)); intro d2; have d2c0 := d2.cell 0; have d2f0 := d2.free 0; have d2c1 := d2.cell 1; have d2f1 := d2.free 1; have d2c2 := d2.cell 2; have d2f2 := d2.free 2; have d2c3 := d2.cell 3; have d2f3 := d2.free 3; have d2l := d2.lt; simp at d2c0 d2c1 d2c2 d2c3)
    exact bodyPost_ret (v := .bool true) (by simp [results, Tryz.results3, go_sem]) rfl ⟨rfl, by exact kpta⟩
  replace hM := HM.out
  have KC := Lib.hid (show ∀ W, Kept X W → Calls Tryz.prog 5 #[.agg #[.slice ad0 p.cells.length cap, .int .i64 p.bottles, .int .i64 p.inH, .int .i64 p.inA, .int .i64 p.vH, .int .i64 p.vA, .int .i64 p.lH, .int .i64 p.lA, .int .i64 p.pH, .int .i64 p.pA]] W fun e w' => e = .returned (.int .i64 0) ∧ Kept W w' from fun W hW => by
      have k_ := r_Check p ad0 cap W (HX.out.later hW (Nat.le_refl _)) hc hM
      rw [show plantE p = 0 by simp [plantE, hp]] at k_
      exact k_)
  have HP := Lib.hid hp
  clear hp hM
  by_cases h0 : p.cells.length = 0
  · have d0 : decide ((p.cells.length : Int) = 0) = true := by simp [h0]
    have d0_ : ((p.cells.length : Int) == 0) = true := by simp [h0]
    clear h0
    go_wp2_with (go_at_call 5; (with_reducible refine (KC.out _ (by exact kpta)).mono ?_); rintro e w2 ⟨rfl, hb2⟩; refine Blk.thru (b := n4) (arr := ?_) (t := ?_) ?_ hb2 ?_; rotate_left 2; (focus (exact blk)); intro c2; have c2c0 := c2.cell 0; have c2f0 := c2.free 0; have c2c1 := c2.cell 1; have c2f1 := c2.free 1; have c2c2 := c2.cell 2; have c2f2 := c2.free 2; have c2c3 := c2.cell 3; have c2f3 := c2.free 3; have c2c4 := c2.cell 4; have c2f4 := c2.free 4; have c2c5 := c2.cell 5; have c2f5 := c2.free 5; have c2c6 := c2.cell 6; have c2f6 := c2.free 6; have c2c7 := c2.cell 7; have c2f7 := c2.free 7; have c2c8 := c2.cell 8; have c2f8 := c2.free 8; have c2c9 := c2.cell 9; have c2f9 := c2.free 9; have c2l := c2.lt; simp at c2c0 c2c1 c2c2 c2c3 c2c4 c2c5 c2c6 c2c7 c2c8 c2c9; refine Blk.thru (b := n5) (arr := ?_) (t := ?_) ?_ hb2 ?_; rotate_left 2; (focus (exact blk)); intro d2; have d2c0 := d2.cell 0; have d2f0 := d2.free 0; have d2c1 := d2.cell 1; have d2f1 := d2.free 1; have d2c2 := d2.cell 2; have d2f2 := d2.free 2; have d2c3 := d2.cell 3; have d2f3 := d2.free 3; have d2l := d2.lt; simp at d2c0 d2c1 d2c2 d2c3)
    exact bodyPost_ret (v := .bool true) (by simp [results, Tryz.results3, go_sem]) rfl ⟨rfl, by exact kpta⟩
  have d0 : decide ((p.cells.length : Int) = 0) = false := by rw [decide_eq_false_iff_not]; omega
  have d0_ : ((p.cells.length : Int) == 0) = false := by rw [beq_eq_false_iff_ne]; omega
  have H0 := Lib.hid (show 0 < p.cells.length by omega)
  clear h0
  cases ha : airB x
  · have KA := Lib.hid (show ∀ W, Calls Tryz.prog 6 #[.agg #[.int .i64 x.plo, .int .i64 x.phi, .int .i64 x.tlo, .int .i64 x.thi]] W fun e w' => e = .returned (.int .i64 30) ∧ Kept W w' from fun W => by
      have k_ := r_CheckAir x W
      rw [show checkAir x = 30 by simp [checkAir, ha]] at k_
      exact k_)
    clear ha
    go_wp2_with (first | (go_at_call 5; (with_reducible refine (KC.out _ (by exact kpta)).mono ?_); rintro e w2 ⟨rfl, hb2⟩; refine Blk.thru (b := n4) (arr := ?_) (t := ?_) ?_ hb2 ?_; rotate_left 2; (focus (exact blk)); intro c2; have c2c0 := c2.cell 0; have c2f0 := c2.free 0; have c2c1 := c2.cell 1; have c2f1 := c2.free 1; have c2c2 := c2.cell 2; have c2f2 := c2.free 2; have c2c3 := c2.cell 3; have c2f3 := c2.free 3; have c2c4 := c2.cell 4; have c2f4 := c2.free 4; have c2c5 := c2.cell 5; have c2f5 := c2.free 5; have c2c6 := c2.cell 6; have c2f6 := c2.free 6; have c2c7 := c2.cell 7; have c2f7 := c2.free 7; have c2c8 := c2.cell 8; have c2f8 := c2.free 8; have c2c9 := c2.cell 9; have c2f9 := c2.free 9; have c2l := c2.lt; simp at c2c0 c2c1 c2c2 c2c3 c2c4 c2c5 c2c6 c2c7 c2c8 c2c9; refine Blk.thru (b := n5) (arr := ?_) (t := ?_) ?_ hb2 ?_; rotate_left 2; (focus (exact blk)); intro d2; have d2c0 := d2.cell 0; have d2f0 := d2.free 0; have d2c1 := d2.cell 1; have d2f1 := d2.free 1; have d2c2 := d2.cell 2; have d2f2 := d2.free 2; have d2c3 := d2.cell 3; have d2f3 := d2.free 3; have d2l := d2.lt; simp at d2c0 d2c1 d2c2 d2c3) | (go_at_call 6; (with_reducible refine (KA.out _).mono ?_); rintro e w3 ⟨rfl, hb3⟩; refine Blk.thru (b := n4) (arr := ?_) (t := ?_) ?_ hb3 ?_; rotate_left 2; (focus (exact blk)); intro c3; have c3c0 := c3.cell 0; have c3f0 := c3.free 0; have c3c1 := c3.cell 1; have c3f1 := c3.free 1; have c3c2 := c3.cell 2; have c3f2 := c3.free 2; have c3c3 := c3.cell 3; have c3f3 := c3.free 3; have c3c4 := c3.cell 4; have c3f4 := c3.free 4; have c3c5 := c3.cell 5; have c3f5 := c3.free 5; have c3c6 := c3.cell 6; have c3f6 := c3.free 6; have c3c7 := c3.cell 7; have c3f7 := c3.free 7; have c3c8 := c3.cell 8; have c3f8 := c3.free 8; have c3c9 := c3.cell 9; have c3f9 := c3.free 9; have c3l := c3.lt; simp at c3c0 c3c1 c3c2 c3c3 c3c4 c3c5 c3c6 c3c7 c3c8 c3c9; refine Blk.thru (b := n5) (arr := ?_) (t := ?_) ?_ hb3 ?_; rotate_left 2; (focus (exact blk)); intro d3; have d3c0 := d3.cell 0; have d3f0 := d3.free 0; have d3c1 := d3.cell 1; have d3f1 := d3.free 1; have d3c2 := d3.cell 2; have d3f2 := d3.free 2; have d3c3 := d3.cell 3; have d3f3 := d3.free 3; have d3l := d3.lt; simp at d3c0 d3c1 d3c2 d3c3))
    exact bodyPost_ret (v := .bool true) (by simp [results, Tryz.results3, go_sem]) rfl ⟨rfl, by exact kpta⟩
  have KA := Lib.hid (show ∀ W, Calls Tryz.prog 6 #[.agg #[.int .i64 x.plo, .int .i64 x.phi, .int .i64 x.tlo, .int .i64 x.thi]] W fun e w' => e = .returned (.int .i64 0) ∧ Kept W w' from fun W => by
      have k_ := r_CheckAir x W
      rw [show checkAir x = 0 by simp [checkAir, ha]] at k_
      exact k_)
  have HA := Lib.hid ha
  clear ha
  have n12 : p.cells.length ≤ 12 := (plantB_iff.1 HP.out).1
  have KT := Lib.hid (show ∀ W, Kept X W → Calls Tryz.prog 7 #[.agg #[.slice ad0 p.cells.length cap, .int .i64 p.bottles, .int .i64 p.inH, .int .i64 p.inA, .int .i64 p.vH, .int .i64 p.vA, .int .i64 p.lH, .int .i64 p.lA, .int .i64 p.pH, .int .i64 p.pA]] W fun e w' => ∃ ad cp, e = .returned (.agg #[.slice ad p.cells.length cp, .int .i64 p.bottles, .int .i64 p.inH, .int .i64 p.inA, .int .i64 p.vH, .int .i64 p.vA, .int .i64 p.lH, .int .i64 p.lA, .int .i64 p.pH, .int .i64 p.pA]) ∧ Mine 37 W.heap.size w' (.slice ad p.cells.length cp) p.cells ∧ Kept W w' from fun W hW => r_Twin p ad0 cap W (HX.out.later hW (Nat.le_refl _)) (by omega) hz)
  go_upto_region 7 with (first | (go_at_call 5; (with_reducible refine (KC.out _ (by exact kpta)).mono ?_); rintro e w2 ⟨rfl, hb2⟩; refine Blk.thru (b := n4) (arr := ?_) (t := ?_) ?_ hb2 ?_; rotate_left 2; (focus (exact blk)); intro c2; have c2c0 := c2.cell 0; have c2f0 := c2.free 0; have c2c1 := c2.cell 1; have c2f1 := c2.free 1; have c2c2 := c2.cell 2; have c2f2 := c2.free 2; have c2c3 := c2.cell 3; have c2f3 := c2.free 3; have c2c4 := c2.cell 4; have c2f4 := c2.free 4; have c2c5 := c2.cell 5; have c2f5 := c2.free 5; have c2c6 := c2.cell 6; have c2f6 := c2.free 6; have c2c7 := c2.cell 7; have c2f7 := c2.free 7; have c2c8 := c2.cell 8; have c2f8 := c2.free 8; have c2c9 := c2.cell 9; have c2f9 := c2.free 9; have c2l := c2.lt; simp at c2c0 c2c1 c2c2 c2c3 c2c4 c2c5 c2c6 c2c7 c2c8 c2c9; refine Blk.thru (b := n5) (arr := ?_) (t := ?_) ?_ hb2 ?_; rotate_left 2; (focus (exact blk)); intro d2; have d2c0 := d2.cell 0; have d2f0 := d2.free 0; have d2c1 := d2.cell 1; have d2f1 := d2.free 1; have d2c2 := d2.cell 2; have d2f2 := d2.free 2; have d2c3 := d2.cell 3; have d2f3 := d2.free 3; have d2l := d2.lt; simp at d2c0 d2c1 d2c2 d2c3) | (go_at_call 6; (with_reducible refine (KA.out _).mono ?_); rintro e w3 ⟨rfl, hb3⟩; refine Blk.thru (b := n4) (arr := ?_) (t := ?_) ?_ hb3 ?_; rotate_left 2; (focus (exact blk)); intro c3; have c3c0 := c3.cell 0; have c3f0 := c3.free 0; have c3c1 := c3.cell 1; have c3f1 := c3.free 1; have c3c2 := c3.cell 2; have c3f2 := c3.free 2; have c3c3 := c3.cell 3; have c3f3 := c3.free 3; have c3c4 := c3.cell 4; have c3f4 := c3.free 4; have c3c5 := c3.cell 5; have c3f5 := c3.free 5; have c3c6 := c3.cell 6; have c3f6 := c3.free 6; have c3c7 := c3.cell 7; have c3f7 := c3.free 7; have c3c8 := c3.cell 8; have c3f8 := c3.free 8; have c3c9 := c3.cell 9; have c3f9 := c3.free 9; have c3l := c3.lt; simp at c3c0 c3c1 c3c2 c3c3 c3c4 c3c5 c3c6 c3c7 c3c8 c3c9; refine Blk.thru (b := n5) (arr := ?_) (t := ?_) ?_ hb3 ?_; rotate_left 2; (focus (exact blk)); intro d3; have d3c0 := d3.cell 0; have d3f0 := d3.free 0; have d3c1 := d3.cell 1; have d3f1 := d3.free 1; have d3c2 := d3.cell 2; have d3f2 := d3.free 2; have d3c3 := d3.cell 3; have d3f3 := d3.free 3; have d3l := d3.lt; simp at d3c0 d3c1 d3c2 d3c3) | (go_at_call 7; (with_reducible refine (KT.out _ (by exact kpta)).mono ?_); rintro e wt ⟨ad, cp, rfl, hmn, hbt⟩))
  obtain ⟨g, cur, rfl, hBg, _⟩ := hmn.at H0.out
  refine at_world (S := fun Y => ∃ B n10, Blk Y n4 #[.slice ad0 p.cells.length cap, .int .i64 p.bottles, .int .i64 p.inH, .int .i64 p.inA, .int .i64 p.vH, .int .i64 p.vA, .int .i64 p.lH, .int .i64 p.lA, .int .i64 p.pH, .int .i64 p.pA] 26 ∧ Blk Y n5 #[.int .i64 x.plo, .int .i64 x.phi, .int .i64 x.tlo, .int .i64 x.thi] 30 ∧ Blk Y n10 #[.slice (some ⟨g, 0, none⟩) p.cells.length cp, .int .i64 p.bottles, .int .i64 p.inH, .int .i64 p.inA, .int .i64 p.vH, .int .i64 p.vA, .int .i64 p.lH, .int .i64 p.lA, .int .i64 p.pH, .int .i64 p.pA] 26 ∧ Mine 37 B Y (.slice (some ⟨g, 0, none⟩) p.cells.length cp) p.cells ∧ B ≤ g ∧ n5 < B ∧ B ≤ n10 ∧ n10 = wt.heap.size ∧ Kept w Y) ⟨_, _, by exact blkd, by exact blkd, by exact blkd, hmn.keep (by exact kpta), hBg, ?_, by have := hbt.size; (try simp at this); (try simp); omega, rfl, Kept.drop hkX (by exact kpta)⟩ ?_
  · have := hb3.size
    have := hb2.size
    (try simp at *)
    omega
  rintro Y ⟨B, n10, y4, y5, b10, hmY, hBg2, hB5, hB10, h10, hkY⟩
  rw [← h10]
  clear h10 hmn hbt hb2 hb3 KC KA KT
  have g4 : n4 < B := by omega
  have hwg : w.heap.size ≤ g := by omega
  have b10c0 := b10.cell 0
  have b10f0 := b10.free 0
  have b10c1 := b10.cell 1
  have b10f1 := b10.free 1
  have b10c2 := b10.cell 2
  have b10f2 := b10.free 2
  have b10c3 := b10.cell 3
  have b10f3 := b10.free 3
  have b10c4 := b10.cell 4
  have b10f4 := b10.free 4
  have b10c5 := b10.cell 5
  have b10f5 := b10.free 5
  have b10c6 := b10.cell 6
  have b10f6 := b10.free 6
  have b10c7 := b10.cell 7
  have b10f7 := b10.free 7
  have b10c8 := b10.cell 8
  have b10f8 := b10.free 8
  have b10c9 := b10.cell 9
  have b10f9 := b10.free 9
  have b10l := b10.lt
  simp at b10c0 b10c1 b10c2 b10c3 b10c4 b10c5 b10c6 b10c7 b10c8 b10c9
  go_upto_block 0 with fail
  have HN12 := Lib.hid n12
  go_wp2
  go_loopw [48] (fun i wr => ∃ k : Nat, k ≤ p.cells.length ∧ i = .int .i64 k ∧ Mine 37 B wr (.slice (some ⟨g, 0, none⟩) p.cells.length cp) (coolTo p.cells k) ∧ Blk wr n4 #[.slice ad0 p.cells.length cap, .int .i64 p.bottles, .int .i64 p.inH, .int .i64 p.inA, .int .i64 p.vH, .int .i64 p.vA, .int .i64 p.lH, .int .i64 p.lA, .int .i64 p.pH, .int .i64 p.pA] 26 ∧ Blk wr n5 #[.int .i64 x.plo, .int .i64 x.phi, .int .i64 x.tlo, .int .i64 x.thi] 30 ∧ Blk wr n10 #[.slice (some ⟨g, 0, none⟩) p.cells.length cp, .int .i64 p.bottles, .int .i64 p.inH, .int .i64 p.inA, .int .i64 p.vH, .int .i64 p.vA, .int .i64 p.lH, .int .i64 p.lA, .int .i64 p.pH, .int .i64 p.pA] 26 ∧ Kept w wr) (fun i _ => p.cells.length - (intOf i).toNat)
  case atStart => exact ⟨0, Nat.zero_le _, rfl, by rw [coolTo_zero]; exact hmY, y4, y5, b10, hkY⟩
  case round =>
    clear hmY y4 y5 b10 hkY b10c0 b10f0 b10c1 b10f1 b10c2 b10f2 b10c3 b10f3 b10c4 b10f4 b10c5 b10f5 b10c6 b10f6 b10c7 b10f7 b10c8 b10f8 b10c9 b10f9 b10l b4c0 b4f0 b4c1 b4f1 b4c2 b4f2 b4c3 b4f3 b4c4 b4f4 b4c5 b4f5 b4c6 b4f6 b4c7 b4f7 b4c8 b4f8 b4c9 b4f9 b5c0 b5f0 b5c1 b5f1 b5c2 b5f2 b5c3 b5f3 b4l b5l
    obtain ⟨k, hk, rfl, hm, y4, y5, b10, hkw⟩ := hrel
    by_cases hlt : k < p.cells.length
    · have d5 : decide ((k : Int) < (p.cells.length : Int)) = true := by simp; omega
      have wk := i64_w (n := (k : Int) + 1) (by omega)
      have i0 : (0 : Int) ≤ (k : Int) := by omega
      have i1 : (k : Int) < (p.cells.length : Int) := by omega
      obtain ⟨g_, cur_, he_, hBg_, hbk, hz⟩ := hm.at (i := k) (by rw [coolTo_len]; exact hlt)
      cases he_
      have HCG := Lib.hid (coolTo_get hlt)
      have HCS := Lib.hid (coolTo_succ hlt)
      have hze : (coolTo p.cells k)[k]'(by rw [coolTo_len]; exact hlt) = p.cells[k] := by
        have h1 := coolTo_get hlt
        rw [List.getElem?_eq_getElem (by rw [coolTo_len]; exact hlt)] at h1
        exact Option.some.inj h1
      rw [hze] at hz
      generalize p.cells[k] = c at hz HCG HCS
      obtain ⟨z0, z1, z2, z3, z4, z5, z6⟩ := hz
      have gf3 := hbk.free (k * 7 + 3)
      have gf4 := hbk.free (k * 7 + 3 + 1)
      have gf4_ := hbk.free (k * 7 + 4)
      have hg10 : g ≠ n10 := by
        rcases hm.ne b10 (by decide) with h | h
        · have := coolTo_len p.cells k; rw [h] at this; simp at this; omega
        · exact h g rfl
      have hgl := hbk.lt
      clear hze hBg_
      have hk3 : k * 7 + 3 + 1 = k * 7 + 4 := rfl
      have b10c0 := b10.cell 0
      have b10f0 := b10.free 0
      have b10c1 := b10.cell 1
      have b10f1 := b10.free 1
      have b10c2 := b10.cell 2
      have b10f2 := b10.free 2
      have b10c3 := b10.cell 3
      have b10f3 := b10.free 3
      have b10c4 := b10.cell 4
      have b10f4 := b10.free 4
      have b10c5 := b10.cell 5
      have b10f5 := b10.free 5
      have b10c6 := b10.cell 6
      have b10f6 := b10.free 6
      have b10c7 := b10.cell 7
      have b10f7 := b10.free 7
      have b10c8 := b10.cell 8
      have b10f8 := b10.free 8
      have b10c9 := b10.cell 9
      have b10f9 := b10.free 9
      have b10l := b10.lt
      simp at b10c0 b10c1 b10c2 b10c3 b10c4 b10c5 b10c6 b10c7 b10c8 b10c9
      go_wp2
      go_round
      case rel =>
        refine ⟨k + 1, by omega, by go_num, ?_, Blk.other (Blk.other y4 (show ¬ g = n4 by omega) _) (show ¬ g = n4 by omega) _, Blk.other (Blk.other y5 (show ¬ g = n5 by omega) _) (show ¬ g = n5 by omega) _, Blk.other (Blk.other b10 hg10 _) hg10 _, (hkw.setCell hwg _).setCell hwg _⟩
        have q1 := hm.put (j := 3) { c with wlo := 0 } HCG.out (by decide) (u := .int .i64 0) rfl
        have q2 := q1.put (i := k) (j := 4) (c := { c with wlo := 0 }) { c with wlo := 0, whi := 0 } (by rw [List.getElem?_set_self (by rw [coolTo_len]; exact hlt)]) (by decide) (u := .int .i64 0) rfl
        rw [List.set_set] at q2
        rw [HCS.out]
        exact q2
      case measure => simp [intOf]; omega
    · obtain rfl : k = p.cells.length := by omega
      have d5 : decide ((p.cells.length : Int) < (p.cells.length : Int)) = false := by simp
      rw [coolTo_all] at hm
      clear HN12 hlt hk
      have hrow := hm.row
      obtain ⟨hrow1, hrow2, hcp1, hcp2, hcp3⟩ := hrow
      clear hrow1
      rw [List.length_map] at hcp1
      obtain ⟨H, hH⟩ : ∃ z, z = sumH p.cells := ⟨_, rfl⟩
      have c1 := heavy_cold (a := x) (coolP_cold p)
      rw [show sumH (coolP p).cells = sumH p.cells from cool_sumH _, ← hH] at c1
      obtain ⟨LO, hLO⟩ : ∃ z, z = heavyLo x p.cells := ⟨_, rfl⟩
      obtain ⟨HI, hHI⟩ : ∃ z, z = heavyHi x p.cells := ⟨_, rfl⟩
      have HLE := Lib.hid (show LO ≤ HI by rw [hLO, hHI]; exact heavy_le HA.out n12 (plant_cell HP.out))
      have elen : (coolP p).cells.length = p.cells.length := by simp [coolP]
      have KS := Lib.hid (show ∀ Z, Kept w Z → Calls Tryz.prog 8 #[.agg #[.slice ad0 p.cells.length cap, .int .i64 p.bottles, .int .i64 p.inH, .int .i64 p.inA, .int .i64 p.vH, .int .i64 p.vA, .int .i64 p.lH, .int .i64 p.lA, .int .i64 p.pH, .int .i64 p.pA], .agg #[.int .i64 x.plo, .int .i64 x.phi, .int .i64 x.tlo, .int .i64 x.thi]] Z fun e w' => e = .returned (.tuple #[.agg #[.int .i64 LO, .int .i64 HI], .bool true]) ∧ Kept Z w' from fun Z hZ => by
        rw [hLO, hHI]
        exact f_sheeted p x ad0 cap Z (HX0.out.later hZ (Nat.le_refl _)) n12 (plant_cell HP.out) HA.out (HT0.out.keep hZ))
      have KS2 := Lib.hid (show ∀ Z, Kept wr Z → Calls Tryz.prog 8 #[.agg #[.slice (some ⟨g, 0, none⟩) p.cells.length cp, .int .i64 p.bottles, .int .i64 p.inH, .int .i64 p.inA, .int .i64 p.vH, .int .i64 p.vA, .int .i64 p.lH, .int .i64 p.lA, .int .i64 p.pH, .int .i64 p.pA], .agg #[.int .i64 x.plo, .int .i64 x.phi, .int .i64 x.tlo, .int .i64 x.thi]] Z fun e w' => e = .returned (.tuple #[.agg #[.int .i64 (-25 * H), .int .i64 (-25 * H)], .bool true]) ∧ Kept Z w' from fun Z hZ => by
        have h := f_sheeted (coolP p) x (some ⟨g, 0, none⟩) cp Z (hrow2.later hZ (Nat.le_refl _)) (by rw [elen]; exact n12) (plant_cell (coolP_ok HP.out)) HA.out (HT0.out.keep (Kept.drop hkw hZ))
        rw [elen, c1.1, c1.2] at h
        exact h)
      obtain ⟨kk, hkk⟩ : ∃ n, n = k0 % p.cells.length := ⟨_, rfl⟩
      obtain ⟨E, hE⟩ : ∃ e, e = doE (coolP p) ⟨3, (kk : Nat), 0, v0⟩ := ⟨_, rfl⟩
      obtain ⟨q, hq⟩ : ∃ e, e = doQ (coolP p) ⟨3, (kk : Nat), 0, v0⟩ := ⟨_, rfl⟩
      have KD := Lib.hid (show ∀ Z, Kept wr Z → Calls Tryz.prog 9 #[.agg #[.slice (some ⟨g, 0, none⟩) p.cells.length cp, .int .i64 p.bottles, .int .i64 p.inH, .int .i64 p.inA, .int .i64 p.vH, .int .i64 p.vA, .int .i64 p.lH, .int .i64 p.lA, .int .i64 p.pH, .int .i64 p.pA], .agg #[.int .u8 3, .int .i64 ((kk : Nat) : Int), .int .i64 0, .int .i64 (v0 : Int)]] Z fun e w' => ∃ ad2 cp2, e = .returned (.tuple #[.agg #[.slice ad2 q.cells.length cp2, .int .i64 q.bottles, .int .i64 q.inH, .int .i64 q.inA, .int .i64 q.vH, .int .i64 q.vA, .int .i64 q.lH, .int .i64 q.lA, .int .i64 q.pH, .int .i64 q.pA], .int .i64 E]) ∧ Mine 37 Z.heap.size w' (.slice ad2 q.cells.length cp2) q.cells ∧ Kept Z w' from fun Z hZ => by
        have k_ := f_Do (coolP p) ⟨3, (kk : Nat), 0, v0⟩ (some ⟨g, 0, none⟩) cp Z (hrow2.later hZ (Nat.le_refl _)) (by rw [elen]; exact hcp1) hcp2 (fun h => by cases h) ⟨(by decide : (0 : Int) ≤ 3), (by decide : (3 : Int) ≤ 255)⟩
        rw [← hE, ← hq, elen] at k_
        refine k_.mono ?_
        rintro e w' ⟨v, rfl, hm2, hk2⟩
        obtain ⟨ad2, cp2, rfl, _⟩ := hm2.slice
        exact ⟨ad2, cp2, rfl, hm2, hk2⟩)
      have HH := Lib.hid hH
      have HSS := Lib.hid (fun he => sheet_sums (p := p) (a := x) (k := kk) (v := v0) HP.out HA.out he)
      rw [← hE, ← hq] at HSS
      clear hrow2 hcp1 hcp2 hcp3 hH hLO hHI c1 elen hE hq hm
      have hn0 : 0 < p.cells.length := H0.out
      have wk0 := i64_w (n := (k0 : Int)) (by omega)
      have wv0 := i64_w (n := (v0 : Int)) (by omega)
      have mc : (k0 : Int) % (p.cells.length : Int) = (kk : Int) := by rw [hkk]; exact (Int.natCast_emod _ _).symm
      have HZ := Lib.hid (show ¬ (p.cells.length : Int) = 0 ∧ ¬ p.cells.length = 0 ∧ ¬ p.cells = [] by refine ⟨by omega, by omega, fun h => by rw [h] at hn0; cases hn0⟩)
      have HMC := Lib.hid mc
      have HWK := Lib.hid wk0
      have HWV := Lib.hid wv0
      clear mc wk0 wv0 hkk hn0
      have y4c0 := y4.cell 0
      have y4f0 := y4.free 0
      have y4c1 := y4.cell 1
      have y4f1 := y4.free 1
      have y4c2 := y4.cell 2
      have y4f2 := y4.free 2
      have y4c3 := y4.cell 3
      have y4f3 := y4.free 3
      have y4c4 := y4.cell 4
      have y4f4 := y4.free 4
      have y4c5 := y4.cell 5
      have y4f5 := y4.free 5
      have y4c6 := y4.cell 6
      have y4f6 := y4.free 6
      have y4c7 := y4.cell 7
      have y4f7 := y4.free 7
      have y4c8 := y4.cell 8
      have y4f8 := y4.free 8
      have y4c9 := y4.cell 9
      have y4f9 := y4.free 9
      have y4l := y4.lt
      simp at y4c0 y4c1 y4c2 y4c3 y4c4 y4c5 y4c6 y4c7 y4c8 y4c9
      have y5c0 := y5.cell 0
      have y5f0 := y5.free 0
      have y5c1 := y5.cell 1
      have y5f1 := y5.free 1
      have y5c2 := y5.cell 2
      have y5f2 := y5.free 2
      have y5c3 := y5.cell 3
      have y5f3 := y5.free 3
      have y5l := y5.lt
      simp at y5c0 y5c1 y5c2 y5c3
      have b10c0 := b10.cell 0
      have b10f0 := b10.free 0
      have b10c1 := b10.cell 1
      have b10f1 := b10.free 1
      have b10c2 := b10.cell 2
      have b10f2 := b10.free 2
      have b10c3 := b10.cell 3
      have b10f3 := b10.free 3
      have b10c4 := b10.cell 4
      have b10f4 := b10.free 4
      have b10c5 := b10.cell 5
      have b10f5 := b10.free 5
      have b10c6 := b10.cell 6
      have b10f6 := b10.free 6
      have b10c7 := b10.cell 7
      have b10f7 := b10.free 7
      have b10c8 := b10.cell 8
      have b10f8 := b10.free 8
      have b10c9 := b10.cell 9
      have b10f9 := b10.free 9
      have b10l := b10.lt
      simp at b10c0 b10c1 b10c2 b10c3 b10c4 b10c5 b10c6 b10c7 b10c8 b10c9
      go_upto_region 13 with (go_at_call 8; (with_reducible refine (KS.out _ (Kept.drop hkw (by exact kpta))).mono ?_); rintro e s1 ⟨rfl, hs1⟩)
      refine at_world (S := fun Y => ∃ m12, Blk Y n4 #[.slice ad0 p.cells.length cap, .int .i64 p.bottles, .int .i64 p.inH, .int .i64 p.inA, .int .i64 p.vH, .int .i64 p.vA, .int .i64 p.lH, .int .i64 p.lA, .int .i64 p.pH, .int .i64 p.pA] 26 ∧ Blk Y n5 #[.int .i64 x.plo, .int .i64 x.phi, .int .i64 x.tlo, .int .i64 x.thi] 30 ∧ Blk Y n10 #[.slice (some ⟨g, 0, none⟩) p.cells.length cp, .int .i64 p.bottles, .int .i64 p.inH, .int .i64 p.inA, .int .i64 p.vH, .int .i64 p.vA, .int .i64 p.lH, .int .i64 p.lA, .int .i64 p.pH, .int .i64 p.pA] 26 ∧ Blk Y m12 #[.int .i64 LO, .int .i64 HI] 28 ∧ m12 = s1.heap.size ∧ Kept wr Y) ⟨_, by exact blkd, by exact blkd, by exact blkd, by exact blkd, rfl, by exact kpta⟩ ?_
      rintro Y ⟨m12, y4, y5, b10, y12, h12, hkY⟩
      rw [← h12]
      clear h12 hs1 y4c0 y4f0 y4c1 y4f1 y4c2 y4f2 y4c3 y4f3 y4c4 y4f4 y4c5 y4f5 y4c6 y4f6 y4c7 y4f7 y4c8 y4f8 y4c9 y4f9 y5c0 y5f0 y5c1 y5f1 y5c2 y5f2 y5c3 y5f3 b10c0 b10f0 b10c1 b10f1 b10c2 b10f2 b10c3 b10f3 b10c4 b10f4 b10c5 b10f5 b10c6 b10f6 b10c7 b10f7 b10c8 b10f8 b10c9 b10f9 y4l y5l b10l
      have y4c0 := y4.cell 0
      have y4f0 := y4.free 0
      have y4c1 := y4.cell 1
      have y4f1 := y4.free 1
      have y4c2 := y4.cell 2
      have y4f2 := y4.free 2
      have y4c3 := y4.cell 3
      have y4f3 := y4.free 3
      have y4c4 := y4.cell 4
      have y4f4 := y4.free 4
      have y4c5 := y4.cell 5
      have y4f5 := y4.free 5
      have y4c6 := y4.cell 6
      have y4f6 := y4.free 6
      have y4c7 := y4.cell 7
      have y4f7 := y4.free 7
      have y4c8 := y4.cell 8
      have y4f8 := y4.free 8
      have y4c9 := y4.cell 9
      have y4f9 := y4.free 9
      have y4l := y4.lt
      simp at y4c0 y4c1 y4c2 y4c3 y4c4 y4c5 y4c6 y4c7 y4c8 y4c9
      have y5c0 := y5.cell 0
      have y5f0 := y5.free 0
      have y5c1 := y5.cell 1
      have y5f1 := y5.free 1
      have y5c2 := y5.cell 2
      have y5f2 := y5.free 2
      have y5c3 := y5.cell 3
      have y5f3 := y5.free 3
      have y5l := y5.lt
      simp at y5c0 y5c1 y5c2 y5c3
      have b10c0 := b10.cell 0
      have b10f0 := b10.free 0
      have b10c1 := b10.cell 1
      have b10f1 := b10.free 1
      have b10c2 := b10.cell 2
      have b10f2 := b10.free 2
      have b10c3 := b10.cell 3
      have b10f3 := b10.free 3
      have b10c4 := b10.cell 4
      have b10f4 := b10.free 4
      have b10c5 := b10.cell 5
      have b10f5 := b10.free 5
      have b10c6 := b10.cell 6
      have b10f6 := b10.free 6
      have b10c7 := b10.cell 7
      have b10f7 := b10.free 7
      have b10c8 := b10.cell 8
      have b10f8 := b10.free 8
      have b10c9 := b10.cell 9
      have b10f9 := b10.free 9
      have b10l := b10.lt
      simp at b10c0 b10c1 b10c2 b10c3 b10c4 b10c5 b10c6 b10c7 b10c8 b10c9
      go_upto_region 16 with (go_at_call 8; (with_reducible refine (KS2.out _ (Kept.drop hkY (by exact kpta))).mono ?_); rintro e s2 ⟨rfl, hs2⟩)
      refine at_world (S := fun Z => ∃ m14, Blk Z n4 #[.slice ad0 p.cells.length cap, .int .i64 p.bottles, .int .i64 p.inH, .int .i64 p.inA, .int .i64 p.vH, .int .i64 p.vA, .int .i64 p.lH, .int .i64 p.lA, .int .i64 p.pH, .int .i64 p.pA] 26 ∧ Blk Z n5 #[.int .i64 x.plo, .int .i64 x.phi, .int .i64 x.tlo, .int .i64 x.thi] 30 ∧ Blk Z n10 #[.slice (some ⟨g, 0, none⟩) p.cells.length cp, .int .i64 p.bottles, .int .i64 p.inH, .int .i64 p.inA, .int .i64 p.vH, .int .i64 p.vA, .int .i64 p.lH, .int .i64 p.lA, .int .i64 p.pH, .int .i64 p.pA] 26 ∧ Blk Z m12 #[.int .i64 LO, .int .i64 HI] 28 ∧ Blk Z m14 #[.int .i64 (-25 * H), .int .i64 (-25 * H)] 28 ∧ m14 = s2.heap.size ∧ Kept wr Z) ⟨_, by exact blkd, by exact blkd, by exact blkd, by exact blkd, by exact blkd, rfl, Kept.drop hkY (by exact kpta)⟩ ?_
      clear y4c0 y4f0 y4c1 y4f1 y4c2 y4f2 y4c3 y4f3 y4c4 y4f4 y4c5 y4f5 y4c6 y4f6 y4c7 y4f7 y4c8 y4f8 y4c9 y4f9 y5c0 y5f0 y5c1 y5f1 y5c2 y5f2 y5c3 y5f3 b10c0 b10f0 b10c1 b10f1 b10c2 b10f2 b10c3 b10f3 b10c4 b10f4 b10c5 b10f5 b10c6 b10f6 b10c7 b10f7 b10c8 b10f8 b10c9 b10f9 y4l y5l b10l
      rintro Z ⟨m14, y4, y5, b10, y12, y14, h14, hkZ⟩
      rw [← h14]
      clear h14 hs2 hkY
      have hkwZ : Kept w Z := Kept.drop hkw hkZ
      have y4c0 := y4.cell 0
      have y4f0 := y4.free 0
      have y4c1 := y4.cell 1
      have y4f1 := y4.free 1
      have y4c2 := y4.cell 2
      have y4f2 := y4.free 2
      have y4c3 := y4.cell 3
      have y4f3 := y4.free 3
      have y4c4 := y4.cell 4
      have y4f4 := y4.free 4
      have y4c5 := y4.cell 5
      have y4f5 := y4.free 5
      have y4c6 := y4.cell 6
      have y4f6 := y4.free 6
      have y4c7 := y4.cell 7
      have y4f7 := y4.free 7
      have y4c8 := y4.cell 8
      have y4f8 := y4.free 8
      have y4c9 := y4.cell 9
      have y4f9 := y4.free 9
      have y4l := y4.lt
      simp at y4c0 y4c1 y4c2 y4c3 y4c4 y4c5 y4c6 y4c7 y4c8 y4c9
      have y5c0 := y5.cell 0
      have y5f0 := y5.free 0
      have y5c1 := y5.cell 1
      have y5f1 := y5.free 1
      have y5c2 := y5.cell 2
      have y5f2 := y5.free 2
      have y5c3 := y5.cell 3
      have y5f3 := y5.free 3
      have y5l := y5.lt
      simp at y5c0 y5c1 y5c2 y5c3
      have b10c0 := b10.cell 0
      have b10f0 := b10.free 0
      have b10c1 := b10.cell 1
      have b10f1 := b10.free 1
      have b10c2 := b10.cell 2
      have b10f2 := b10.free 2
      have b10c3 := b10.cell 3
      have b10f3 := b10.free 3
      have b10c4 := b10.cell 4
      have b10f4 := b10.free 4
      have b10c5 := b10.cell 5
      have b10f5 := b10.free 5
      have b10c6 := b10.cell 6
      have b10f6 := b10.free 6
      have b10c7 := b10.cell 7
      have b10f7 := b10.free 7
      have b10c8 := b10.cell 8
      have b10f8 := b10.free 8
      have b10c9 := b10.cell 9
      have b10f9 := b10.free 9
      have b10l := b10.lt
      simp at b10c0 b10c1 b10c2 b10c3 b10c4 b10c5 b10c6 b10c7 b10c8 b10c9
      by_cases hE0 : E = 0
      case neg =>
        have d2 : decide (E = 0) = false := by simp [hE0]
        have d2_ : decide (E ≠ 0) = true := by simp [hE0]
        have mc := HMC.out
        have wk0 := HWK.out
        have wv0 := HWV.out
        obtain ⟨hz1, hz2, hz3⟩ := HZ.out
        go_wp2_with (go_at_call 9; (with_reducible refine (KD.out _ (Kept.drop hkZ (by exact kpta))).mono ?_); rintro e s3 ⟨ad2, cp2, rfl, hm2, hs3⟩)
        exact bodyPost_ret (v := .bool true) (by simp [results, Tryz.results3, go_sem]) rfl ⟨rfl, by exact kpta⟩
      subst hE0
      obtain ⟨G, H', hG, hH', _, _, hq1, hq2, _, bG, bH, hqB, hqL⟩ := HSS.out rfl
      obtain rfl : H' = H := by rw [hH', HH.out]
      clear hH'
      have wG : IntKind.i64.wrap (q.vH - p.vH) = G := by rw [hG]; exact i64_w (by rw [← hG]; omega)
      have HG := Lib.hid hG
      clear hG
      have HWG := Lib.hid wG
      have HQ1 := Lib.hid hq1
      have HQ2 := Lib.hid hq2
      have HQL := Lib.hid hqL
      clear wG hq1 hq2 hqL
      have mc := HMC.out
      have wk0 := HWK.out
      have wv0 := HWV.out
      obtain ⟨hz1, hz2, hz3⟩ := HZ.out
      go_upto_region 20 with (go_at_call 9; (with_reducible refine (KD.out _ (Kept.drop hkZ (by exact kpta))).mono ?_); rintro e s3 ⟨ad2, cp2, rfl, hm2, hs3⟩)
      refine at_world (S := fun U => ∃ m17, Blk U n4 #[.slice ad0 p.cells.length cap, .int .i64 p.bottles, .int .i64 p.inH, .int .i64 p.inA, .int .i64 p.vH, .int .i64 p.vA, .int .i64 p.lH, .int .i64 p.lA, .int .i64 p.pH, .int .i64 p.pA] 26 ∧ Blk U n5 #[.int .i64 x.plo, .int .i64 x.phi, .int .i64 x.tlo, .int .i64 x.thi] 30 ∧ Blk U n10 #[.slice (some ⟨g, 0, none⟩) p.cells.length cp, .int .i64 p.bottles, .int .i64 p.inH, .int .i64 p.inA, .int .i64 p.vH, .int .i64 p.vA, .int .i64 p.lH, .int .i64 p.lA, .int .i64 p.pH, .int .i64 p.pA] 26 ∧ Blk U m12 #[.int .i64 LO, .int .i64 HI] 28 ∧ Blk U m14 #[.int .i64 (-25 * H'), .int .i64 (-25 * H')] 28 ∧ Blk U m17 #[.slice ad2 q.cells.length cp2, .int .i64 q.bottles, .int .i64 q.inH, .int .i64 q.inA, .int .i64 q.vH, .int .i64 q.vA, .int .i64 q.lH, .int .i64 q.lA, .int .i64 q.pH, .int .i64 q.pA] 26 ∧ Row Cell.cells 7 U.heap.size U ad2 q.cells ∧ m17 = s3.heap.size ∧ Kept w U) ⟨_, by exact blkd, by exact blkd, by exact blkd, by exact blkd, by exact blkd, by exact blkd, hm2.row.2.1.later (by exact kpta) (Nat.le_refl _), rfl, by exact kpta⟩ ?_
      clear y4c0 y4f0 y4c1 y4f1 y4c2 y4f2 y4c3 y4f3 y4c4 y4f4 y4c5 y4f5 y4c6 y4f6 y4c7 y4f7 y4c8 y4f8 y4c9 y4f9 y5c0 y5f0 y5c1 y5f1 y5c2 y5f2 y5c3 y5f3 b10c0 b10f0 b10c1 b10f1 b10c2 b10f2 b10c3 b10f3 b10c4 b10f4 b10c5 b10f5 b10c6 b10f6 b10c7 b10f7 b10c8 b10f8 b10c9 b10f9 y4l y5l b10l mc wk0 wv0 y4 y5 b10 y12 y14 hz1 hz2 hz3
      rintro U ⟨m17, y4, y5, b10, y12, y14, y17, hr2, h17, hkU⟩
      rw [← h17]
      clear h17 hs3 hm2
      have KS3 := Lib.hid (show ∀ Z, Kept U Z → Calls Tryz.prog 8 #[.agg #[.slice ad2 q.cells.length cp2, .int .i64 q.bottles, .int .i64 q.inH, .int .i64 q.inA, .int .i64 q.vH, .int .i64 q.vA, .int .i64 q.lH, .int .i64 q.lA, .int .i64 q.pH, .int .i64 q.pA], .agg #[.int .i64 x.plo, .int .i64 x.phi, .int .i64 x.tlo, .int .i64 x.thi]] Z fun e w' => e = .returned (.tuple #[.agg #[.int .i64 (-25 * H' + 25 * G), .int .i64 (-25 * H' + 25 * G)], .bool true]) ∧ Kept Z w' from fun Z hZ => by
        have h := f_sheeted q x ad2 cp2 Z (hr2.later hZ (Nat.le_refl _)) (by rw [HQL.out]; exact n12) (plant_cell hqB) HA.out (HT0.out.keep (Kept.drop hkU hZ))
        rw [HQ1.out, HQ2.out] at h
        exact h)
      have wG := HWG.out
      clear hr2 hqB
      have y4c0 := y4.cell 0
      have y4f0 := y4.free 0
      have y4c1 := y4.cell 1
      have y4f1 := y4.free 1
      have y4c2 := y4.cell 2
      have y4f2 := y4.free 2
      have y4c3 := y4.cell 3
      have y4f3 := y4.free 3
      have y4c4 := y4.cell 4
      have y4f4 := y4.free 4
      have y4c5 := y4.cell 5
      have y4f5 := y4.free 5
      have y4c6 := y4.cell 6
      have y4f6 := y4.free 6
      have y4c7 := y4.cell 7
      have y4f7 := y4.free 7
      have y4c8 := y4.cell 8
      have y4f8 := y4.free 8
      have y4c9 := y4.cell 9
      have y4f9 := y4.free 9
      have y4l := y4.lt
      simp at y4c0 y4c1 y4c2 y4c3 y4c4 y4c5 y4c6 y4c7 y4c8 y4c9
      have y5c0 := y5.cell 0
      have y5f0 := y5.free 0
      have y5c1 := y5.cell 1
      have y5f1 := y5.free 1
      have y5c2 := y5.cell 2
      have y5f2 := y5.free 2
      have y5c3 := y5.cell 3
      have y5f3 := y5.free 3
      have y5l := y5.lt
      simp at y5c0 y5c1 y5c2 y5c3
      have b10c0 := b10.cell 0
      have b10f0 := b10.free 0
      have b10c1 := b10.cell 1
      have b10f1 := b10.free 1
      have b10c2 := b10.cell 2
      have b10f2 := b10.free 2
      have b10c3 := b10.cell 3
      have b10f3 := b10.free 3
      have b10c4 := b10.cell 4
      have b10f4 := b10.free 4
      have b10c5 := b10.cell 5
      have b10f5 := b10.free 5
      have b10c6 := b10.cell 6
      have b10f6 := b10.free 6
      have b10c7 := b10.cell 7
      have b10f7 := b10.free 7
      have b10c8 := b10.cell 8
      have b10f8 := b10.free 8
      have b10c9 := b10.cell 9
      have b10f9 := b10.free 9
      have b10l := b10.lt
      simp at b10c0 b10c1 b10c2 b10c3 b10c4 b10c5 b10c6 b10c7 b10c8 b10c9
      have y17c0 := y17.cell 0
      have y17f0 := y17.free 0
      have y17c1 := y17.cell 1
      have y17f1 := y17.free 1
      have y17c2 := y17.cell 2
      have y17f2 := y17.free 2
      have y17c3 := y17.cell 3
      have y17f3 := y17.free 3
      have y17c4 := y17.cell 4
      have y17f4 := y17.free 4
      have y17c5 := y17.cell 5
      have y17f5 := y17.free 5
      have y17c6 := y17.cell 6
      have y17f6 := y17.free 6
      have y17c7 := y17.cell 7
      have y17f7 := y17.free 7
      have y17c8 := y17.cell 8
      have y17f8 := y17.free 8
      have y17c9 := y17.cell 9
      have y17f9 := y17.free 9
      have y17l := y17.lt
      simp at y17c0 y17c1 y17c2 y17c3 y17c4 y17c5 y17c6 y17c7 y17c8 y17c9
      go_upto_block 2 with (go_at_call 8; (with_reducible refine (KS3.out _ (by exact kpta)).mono ?_); rintro e s4 ⟨rfl, hs4⟩; refine Blk.thru (b := n4) (arr := ?_) (t := ?_) ?_ hs4 ?_; rotate_left 2; (focus (exact blk)); intro c4; have c4c0 := c4.cell 0; have c4f0 := c4.free 0; have c4c1 := c4.cell 1; have c4f1 := c4.free 1; have c4c2 := c4.cell 2; have c4f2 := c4.free 2; have c4c3 := c4.cell 3; have c4f3 := c4.free 3; have c4c4 := c4.cell 4; have c4f4 := c4.free 4; have c4c5 := c4.cell 5; have c4f5 := c4.free 5; have c4c6 := c4.cell 6; have c4f6 := c4.free 6; have c4c7 := c4.cell 7; have c4f7 := c4.free 7; have c4c8 := c4.cell 8; have c4f8 := c4.free 8; have c4c9 := c4.cell 9; have c4f9 := c4.free 9; have c4l := c4.lt; simp at c4c0 c4c1 c4c2 c4c3 c4c4 c4c5 c4c6 c4c7 c4c8 c4c9; refine Blk.thru (b := n10) (arr := ?_) (t := ?_) ?_ hs4 ?_; rotate_left 2; (focus (exact blk)); intro c10; have c10c0 := c10.cell 0; have c10f0 := c10.free 0; have c10c1 := c10.cell 1; have c10f1 := c10.free 1; have c10c2 := c10.cell 2; have c10f2 := c10.free 2; have c10c3 := c10.cell 3; have c10f3 := c10.free 3; have c10c4 := c10.cell 4; have c10f4 := c10.free 4; have c10c5 := c10.cell 5; have c10f5 := c10.free 5; have c10c6 := c10.cell 6; have c10f6 := c10.free 6; have c10c7 := c10.cell 7; have c10f7 := c10.free 7; have c10c8 := c10.cell 8; have c10f8 := c10.free 8; have c10c9 := c10.cell 9; have c10f9 := c10.free 9; have c10l := c10.lt; simp at c10c0 c10c1 c10c2 c10c3 c10c4 c10c5 c10c6 c10c7 c10c8 c10c9; refine Blk.thru (b := m17) (arr := ?_) (t := ?_) ?_ hs4 ?_; rotate_left 2; (focus (exact blk)); intro c17; have c17c0 := c17.cell 0; have c17f0 := c17.free 0; have c17c1 := c17.cell 1; have c17f1 := c17.free 1; have c17c2 := c17.cell 2; have c17f2 := c17.free 2; have c17c3 := c17.cell 3; have c17f3 := c17.free 3; have c17c4 := c17.cell 4; have c17f4 := c17.free 4; have c17c5 := c17.cell 5; have c17f5 := c17.free 5; have c17c6 := c17.cell 6; have c17f6 := c17.free 6; have c17c7 := c17.cell 7; have c17f7 := c17.free 7; have c17c8 := c17.cell 8; have c17f8 := c17.free 8; have c17c9 := c17.cell 9; have c17f9 := c17.free 9; have c17l := c17.lt; simp at c17c0 c17c1 c17c2 c17c3 c17c4 c17c5 c17c6 c17c7 c17c8 c17c9)
      refine at_world (S := fun T => ∃ m19, Blk T m12 #[.int .i64 LO, .int .i64 HI] 28 ∧ Blk T m14 #[.int .i64 (-25 * H'), .int .i64 (-25 * H')] 28 ∧ Blk T m19 #[.int .i64 (-25 * H' + 25 * G), .int .i64 (-25 * H' + 25 * G)] 28 ∧ m19 = s4.heap.size ∧ Kept w T) ⟨_, by exact blkd, by exact blkd, by exact blkd, rfl, Kept.drop hkU (by exact kpta)⟩ ?_
      clear y4c0 y4f0 y4c1 y4f1 y4c2 y4f2 y4c3 y4f3 y4c4 y4f4 y4c5 y4f5 y4c6 y4f6 y4c7 y4f7 y4c8 y4f8 y4c9 y4f9 y5c0 y5f0 y5c1 y5f1 y5c2 y5f2 y5c3 y5f3 b10c0 b10f0 b10c1 b10f1 b10c2 b10f2 b10c3 b10f3 b10c4 b10f4 b10c5 b10f5 b10c6 b10f6 b10c7 b10f7 b10c8 b10f8 b10c9 b10f9 y4l y5l b10l y17c0 y17f0 y17c1 y17f1 y17c2 y17f2 y17c3 y17f3 y17c4 y17f4 y17c5 y17f5 y17c6 y17f6 y17c7 y17f7 y17c8 y17f8 y17c9 y17f9 y17l y4 y5 b10 y12 y14 y17 wG
      rintro T ⟨m19, y12, y14, y19, h19, hkT⟩
      rw [← h19]
      clear h19 hs4
      go_wp2
      go_loopw [110, 22] (fun i h wq => ∃ k : Nat, k ≤ p.cells.length ∧ i = .int .i64 k ∧ h = .int .i64 (sumH (p.cells.take k)) ∧ Kept T wq) (fun i _ _ => p.cells.length - (intOf i).toNat)
      case atStart => exact ⟨0, Nat.zero_le _, rfl, rfl, Below.refl _ _⟩
      case round =>
        obtain ⟨k, hk, rfl, rfl, hkq⟩ := hrel
        by_cases hlt : k < p.cells.length
        · have d5_ : decide ((k : Int) < (p.cells.length : Int)) = true := by simp; omega
          have wk := i64_w (n := (k : Int) + 1) (by omega)
          have i0 : (0 : Int) ≤ (k : Int) := by omega
          have i1 : (k : Int) < (p.cells.length : Int) := by omega
          have hsum := sumBy_take Cell.helium p.cells k hlt
          have hbd := sumH_bd n12 (plantB_iff.1 HP.out).2.2.2.2.2.2.1 k
          have hbd2 := sumH_bd n12 (plantB_iff.1 HP.out).2.2.2.2.2.2.1 (k + 1)
          have hsum2 : sumH (p.cells.take (k + 1)) = sumH (p.cells.take k) + p.cells[k].helium := hsum
          clear hsum
          rw [hsum2] at hbd2
          obtain ⟨b1, o1, rfl, hb1_, z0, z1, z2, z3, z4, z5, z6⟩ := Cell.row (HX0.out.later (Kept.drop hkT hkq) (Nat.le_refl _)) k hlt
          have HSM := Lib.hid hsum2
          clear hsum2
          generalize p.cells[k] = c at z0 z1 z2 z3 z4 z5 z6 HSM hbd2
          have ws := i64_w (n := sumH (p.cells.take k) + c.helium) (by omega)
          go_wp2
          go_round
          case rel => exact ⟨k + 1, by omega, by go_num, by rw [HSM.out], by exact kpta⟩
          case measure => simp [intOf]; omega
        · obtain rfl : k = p.cells.length := by omega
          have d5_ : decide ((p.cells.length : Int) < (p.cells.length : Int)) = false := by simp
          have hs : sumH (p.cells.take p.cells.length) = H' := by rw [List.take_length, ← HH.out]
          rw [hs]
          clear hs
          have hkwq : Kept w wr := Kept.drop hkT hkq
          have w25 := i64_w (n := -25 * H') (by omega)
          have wG25 := i64_w (n := 25 * G) (by omega)
          have wsG := i64_w (n := -25 * H' + 25 * G) (by omega)
          have dLE : decide (LO ≤ HI) = true := by rw [decide_eq_true_eq]; exact HLE.out
          have y12k0 : ∀ w', Kept wr w' → w'.cell? ⟨m12, 0, none⟩ = _ := fun w' h => ((y12.keep hkq).keep h).cell 0
          have y12k1 : ∀ w', Kept wr w' → w'.cell? ⟨m12, 1, none⟩ = _ := fun w' h => ((y12.keep hkq).keep h).cell 1
          simp at y12k0 y12k1
          have y12l_ := (y12.keep hkq).lt
          have y14k0 : ∀ w', Kept wr w' → w'.cell? ⟨m14, 0, none⟩ = _ := fun w' h => ((y14.keep hkq).keep h).cell 0
          have y14k1 : ∀ w', Kept wr w' → w'.cell? ⟨m14, 1, none⟩ = _ := fun w' h => ((y14.keep hkq).keep h).cell 1
          simp at y14k0 y14k1
          have y14l_ := (y14.keep hkq).lt
          have y19k0 : ∀ w', Kept wr w' → w'.cell? ⟨m19, 0, none⟩ = _ := fun w' h => ((y19.keep hkq).keep h).cell 0
          have y19k1 : ∀ w', Kept wr w' → w'.cell? ⟨m19, 1, none⟩ = _ := fun w' h => ((y19.keep hkq).keep h).cell 1
          simp at y19k0 y19k1
          have y19l_ := (y19.keep hkq).lt
          go_upto_region 28 with fail
          go_region_held3 (fun w' => Kept wr w') (exact kpta) (first | (go_at_call 10; (with_reducible refine (t_one _ _).mono ?_); rintro e wo ⟨rfl, hbo⟩) | fail)
          all_goals (go_wp2_with fail)
          all_goals exact bodyPost_ret (v := .bool true) (by simp [results, Tryz.results3, go_sem]) rfl ⟨rfl, by exact kpta⟩

end Go.Proofs.YtamnnjdfjffhlaaGreatDoor

/-
  The plain wrap of a change law whose contract is handed both a fact of the world that the row's domain gives, and the world's shape. No program in sight.
-/
namespace Bal
open Go
variable {H : Type} {enc : TypeId × Value → H}
theorem handed_and_shaped {a : Assume} {C : Checked} {os : Os} {f : FuncId} {fn : Func} {s : ChangeSpec} {conds : List PathCond} {apart fresh handsOn again : Bool} {X : World → Array Value → Prop}
    (hX : ∀ (w w' : World) (args : Array Value), w.heap = w'.heap → X w args → X w' args)
    (own : ownKnob C.prog.godebug = none) (started : os.Started) (noInit : C.prog.inits.idxOf? f = none) (hfn : C.prog.funcs[f]? = some fn)
    (witness : ∃ (w : World) (tape : Tape) (i : Input), w.os = os ∧ (w.forCall tape i).Shaped C.prog ∧ i.vars = [] ∧ Input.okWide C.prog (w.forCall tape i) .any w.heap.size f i ∧
      ((s.pre enc C.prog fn conds apart (w.forCall tape i).memory i.args ∧ X (w.forCall tape i).memory i.args) ∧ sizedMet enc C.prog fn (OpenSpec.ofChange s) apart (w.forCall tape i).memory i.args) ∧ a.holds C.prog (lone (Frame.enter C.prog f i.args .normal) [] (w.forCall tape i)))
    (contract : ∀ (W : World) (base : Nat) (args : Array Value) (ds gs : List (DataW H)) (before : List MemPlace),
      (∀ (j : Nat) t v, fn.params[j]? = some t → args[j]? = some v → Value.okWide C.prog W .any base t v) →
      DataW.Whole enc C.prog fn.params.toList s.vars apart W args.toList ds gs before → X W args → W.ShapedOpen C.prog →
      Calls C.prog f args W fun e W' => ∃ v, e = .returned v ∧ s.post enc C.prog fn apart fresh handsOn again W args v W') :
    ReturnsInHanded a C os f .any (fun w args => (s.pre enc C.prog fn conds apart w args ∧ X w args) ∧ sizedMet enc C.prog fn (OpenSpec.ofChange s) apart w args) (s.post enc C.prog fn apart fresh handsOn again) := by
  refine returnsInHanded_of_calls own started noInit witness fun w tape i _ hsh _ hok hpre _ => ?_
  obtain ⟨_, _, _, fn', hfn', _, _, _, _, hval⟩ := hok
  cases hfn'.symm.trans hfn
  obtain ⟨⟨⟨ds, gs, before, hw, _⟩, hx⟩, _⟩ := hpre
  have h := contract (w.forCall tape i) w.heap.size i.args ds gs before hval (DataW.Whole.of_heap (w' := w.forCall tape i) (by rfl) hw) (hX _ _ _ (by rfl) hx) hsh
  refine h.mono fun e W' he => ?_
  obtain ⟨v, rfl, hp⟩ := he
  exact ChangeSpec.post_blind hp
end Bal

/-
  TopSheeted, the statement: for every input the call returns true and leaves the input alone.
-/
namespace Go.Proofs.YtamnnjdfjffhlaaGreatDoor.topSheeted
open Bal.Gas Bal.Top Bal.Sheet
open Go.ChangeShapes Go.WideShapes Go.ChangeAt Go.RowKit Bal Bal.Trim
open Go.ChangeMaps (open_string shut_string)
set_option linter.unusedVariables false

theorem own : ownKnob Tryz.prog.godebug = none := by kernel_rfl
theorem laidOut : laidOutB Tryz.prog = true := by kernel_rfl

theorem tab_of_reads {P : Program} {W : World} {name : String} {k : IntKind} {zs : List Int} {g : Nat} {t e : TypeId} {n : Nat}
    (hg : P.globalNamed name = some g) (hty : (P.globals[g]?).map (·.type) = some t) (ht : P.underlying t = some (.array n e)) (he : P.underlying e = some (.int k)) (hce : P.cellsOf e = 1) (hct : P.cellsOf t = n)
    (h : Lib.VarReads P W name (Lib.tabData k zs)) : Lib.TabIs P W name k zs := by
  obtain ⟨g', t', cs, fuel, p, hg', ht', hvar, hd⟩ := h
  obtain rfl := Option.some.inj (hg.symm.trans hg')
  obtain rfl := Option.some.inj (hty.symm.trans ht')
  unfold Lib.TabIs
  rw [hvar, ← Lib.cells_of_tab ht he hce hct hd]
theorem law_TopSheetedI (p : Plant) (ad0 : Option Addr) (cap : Nat) (x : Air) (k v : Int) (w : World) (hx : Row Cell.cells 7 w.heap.size w ad0 p.cells) (hc : p.cells.length ≤ cap) (hM : cap ≤ maxLen) (hz : ad0 = none → cap = 0) (hk : 0 ≤ k ∧ k < 256) (hv : 0 ≤ v ∧ v < 65536) (ht : Tabs w) :
    Calls Tryz.prog 3 #[.agg #[.slice ad0 p.cells.length cap, .int .i64 p.bottles, .int .i64 p.inH, .int .i64 p.inA, .int .i64 p.vH, .int .i64 p.vA, .int .i64 p.lH, .int .i64 p.lA, .int .i64 p.pH, .int .i64 p.pA], .agg #[.int .i64 x.plo, .int .i64 x.phi, .int .i64 x.tlo, .int .i64 x.thi], .int .u8 k, .int .u16 v] w fun e w' => e = .returned (.bool true) ∧ Kept w w' := by
  obtain ⟨k, rfl⟩ := Int.eq_ofNat_of_zero_le hk.1
  obtain ⟨v, rfl⟩ := Int.eq_ofNat_of_zero_le hv.1
  exact law_TopSheeted p ad0 cap x k v w hx hc hM hz (by omega) (by omega) ht
set_option maxRecDepth 100000 in
theorem tabs_of {W : World} (hL : laidMet Tryz.prog Rows.topSheetedRow.laid W) (hsh : W.ShapedOpen Tryz.prog) : Tabs W := by
  have e1 : (Rows.laid_internal_strconv_uint64pow10 : DataW Unit) = Lib.tabData .u64 Lib.pow10Tab := by kernel_rfl
  have e2 : (Rows.laid_strings_asciiSpace : DataW Unit) = Lib.tabData .u8 Lib.asciiSpaceTab := by kernel_rfl
  refine ⟨?_, ?_, ?_⟩
  · exact tab_of_reads (g := 2) (by kernel_rfl) (by kernel_rfl) Tryz.underlying213 Tryz.underlying181 (by kernel_rfl) (by kernel_rfl) (e1 ▸ Lib.laidMet.reads hL (.tail _ (.tail _ (.head _))))
  · exact tab_of_reads (g := 0) (by kernel_rfl) (by kernel_rfl) Tryz.underlying145 Tryz.underlying5 (by kernel_rfl) (by kernel_rfl) (e2 ▸ Lib.laidMet.reads hL (.tail _ (.tail _ (.tail _ (.tail _ (.tail _ (.tail _ (.tail _ (.head _)))))))))
  · exact Go.Proofs.cell_of_shapedOpen_int (zero := #[.int .i64 0]) (t := 3) hsh (of_decide_eq_true (by kernel_rfl)) (by kernel_rfl) rfl (by kernel_rfl) (by kernel_rfl) Tryz.underlying3
set_option maxRecDepth 100000 in
theorem lifted (os : Os) (started : os.Started) (H : Type) (enc : TypeId × Value → H) :
    ReturnsInHanded {} Tryz.checked os 3 .any (fun w args => (Rows.topSheetedSpec.pre enc Tryz.prog Tryz.f3 [] false w args ∧ laidMetH Tryz.prog Rows.topSheetedRow.laid w) ∧ sizedMet enc Tryz.prog Tryz.f3 (OpenSpec.ofChange Rows.topSheetedSpec) false w args)
      (Rows.topSheetedSpec.post enc Tryz.prog Tryz.f3 false true false false) := by
  refine handed_and_shaped (C := Tryz.checked) (X := fun w _ => laidMetH Tryz.prog Rows.topSheetedRow.laid w) (fun _ _ _ hh h => h.of_heap hh) own started (by kernel_rfl) Tryz.func3
    (ChangeSpec.witness_shaped (enc := enc) (C := Tryz.checked) (os := os) (X := fun w _ => laidMetH Tryz.prog Rows.topSheetedRow.laid w) false (World.laidAll Tryz.prog os Rows.topSheetedRow.laid) #[.agg #[.slice none 0 0, .int .i64 0, .int .i64 0, .int .i64 0, .int .i64 0, .int .i64 0, .int .i64 0, .int .i64 0, .int .i64 0, .int .i64 0], .agg #[.int .i64 0, .int .i64 0, .int .i64 0, .int .i64 0], .int .u8 0, .int .u16 0] 8 (World.laidAll_os _ _ _)
      (World.shaped_of_ZipB (by kernel_rfl) (by kernel_rfl)) (by kernel_rfl) (by kernel_rfl) (by kernel_rfl)
      (by rw [MakeChecks.laidMetH_plain _ _ _ (by kernel_rfl)]; exact laidMet_laidAll _ (by kernel_rfl) (by kernel_rfl))) ?_
  intro W base args ds gs before hval0 hW hL hsh
  rw [MakeChecks.laidMetH_plain _ _ _ (by kernel_rfl)] at hL
  have hT : Tabs W := tabs_of hL hsh
  have hval : ∀ (j : Nat) t v, Tryz.f3.params[j]? = some t → args[j]? = some v → Value.okWide Tryz.prog W .any base t v := hval0
  have hW' := hW
  obtain ⟨p, q, hA0, hV, rfl, hfz, hnd⟩ := hW
  have hA : DataW.TrodAll enc Tryz.prog W 0 (fun _ => true) true Tryz.f3.params.toList args.toList ds p := hA0
  rw [Tryz.params3] at hA hval
  obtain ⟨v0, vs0, d0, ds0, p0, q0, hargs, rfl, rfl, h0, r0⟩ := trodAll_cons hA
  obtain ⟨v1, vs1, d1, ds1, p1, q1, rfl, rfl, rfl, h1, r1⟩ := trodAll_cons r0
  obtain ⟨v2, vs2, d2, ds2, p2, q2, rfl, rfl, rfl, h2, r2⟩ := trodAll_cons r1
  obtain ⟨v3, vs3, d3, ds3, p3, q3, rfl, rfl, rfl, h3, r3⟩ := trodAll_cons r2
  obtain ⟨rfl, rfl, rfl⟩ := trodAll_nil r3
  obtain rfl : args = #[v0, v1, v2, v3] := by cases args; simp_all
  obtain ⟨rfl, rfl⟩ := trodVars_none hV
  have k0 := h0
  have lt0 : ∀ x ∈ p0, x.block < W.heap.size := by obtain ⟨m, hm⟩ := k0; exact DataW.trod_lt m _ _ _ hm
  obtain ⟨a0, c0, pl0, rfl, row0, hl0, hm0, z0⟩ := open_plant (hval 0 26 v0 rfl rfl) h0
  have k1 := h1
  have lt1 : ∀ x ∈ p1, x.block < W.heap.size := by obtain ⟨m, hm⟩ := k1; exact DataW.trod_lt m _ _ _ hm
  obtain ⟨a1, rfl, wf1⟩ := open_agg (n := 5) (fun _ h => Air.of_leaves h) Tryz.underlying30 (by kernel_rfl) (hval 1 30 v1 rfl rfl) h1
  obtain ⟨a2, rfl, rfl, rfl, w2⟩ := open_int Tryz.underlying5 (hval 2 5 v2 rfl rfl) h2
  obtain ⟨a3, rfl, rfl, rfl, w3⟩ := open_int Tryz.underlying31 (hval 3 31 v3 rfl rfl) h3
  clear hA0 hval0
  refine (law_TopSheetedI pl0 a0 c0 a1 a2 a3 W row0 hl0 hm0 z0 ⟨(wf_u8o w2).1, by have := (wf_u8o w2).2; omega⟩ ⟨(wf_u16 w3).1, by have := (wf_u16 w3).2; omega⟩ hT).mono fun e W' ⟨he, bel⟩ => ?_
  subst he
  exact ⟨_, rfl, _, _, _, [], _, [], hW', trodAll_mk1 (shut_bool Tryz.underlying4 _), (trodAll_cons_mk (Below.trod laidOut (by kernel_rfl) (of_decide_eq_true (by kernel_rfl)) k0 bel lt0) (trodAll_cons_mk (Below.trod laidOut (by kernel_rfl) (of_decide_eq_true (by kernel_rfl)) k1 bel lt1) (trodAll_cons_mk (shut_int Tryz.underlying5 w2) (trodAll_cons_mk (shut_int Tryz.underlying31 w3) trodAll_mk0)))), rfl, bel.frame _, fun h => by cases h⟩

theorem joined : joinedFacts Tryz.prog 3 Tryz.f3 Rows.topSheetedSpec Rows.topSheetedRow = true := by
  unfold joinedFacts
  rw [mayEnter_is, liftsFinal_is, make_is]
  kernel_rfl
theorem over : Rows.topSheetedRow.holds Tryz.pinned (OpenSpec.ofChange Rows.topSheetedSpec) :=
  OpenClaim.holds_of_wide 3 Tryz.f3 rfl rfl rfl rfl rfl rfl rfl ⟨rfl, rfl, rfl, rfl, rfl⟩ rfl rfl rfl rfl rfl (by kernel_rfl) Tryz.func3 joined
    (of_decide_eq_true (by kernel_rfl)) (by unfold Func.isWrapper; first | (rw [if_pos (by decide +kernel)]; kernel_rfl) | (rw [if_neg (by decide +kernel)]; exact ⟨rfl, rfl⟩))
    (fun os started H enc _ => lifted os started H enc)
end Go.Proofs.YtamnnjdfjffhlaaGreatDoor.topSheeted

namespace Go.Proofs.YtamnnjdfjffhlaaGreatDoor
set_option maxRecDepth 100000 in
theorem topSheeted_card : Rows.TopSheetedCardSaid :=
  Claim7.holds_tied_plain_at .later [] [.data, .data, .data, .data, .sentinel, .sentinel, .listed, .data, .pinned] true (true, "779f670006691d2bbb3113eb301d70e190152bb7c903e8d95188dfe525460797") true topSheeted.over (fun _ h => by cases h) (by kernel_rfl) (fun _ h => by cases h) topSheeted_row_tie rfl ⟨rfl, rfl⟩ (by kernel_rfl) rfl
    (fun f fn hf hfn => by
      obtain rfl : f = 3 := Option.some.inj ((show Tryz.prog.funcNamed "ballonet/ballonettop.TopSheeted" = some 3 by kernel_rfl).symm.trans hf) |>.symm
      obtain rfl : fn = Tryz.f3 := (Option.some.inj (Tryz.func3.symm.trans hfn)).symm
      exact ⟨by kernel_rfl, fun j t ht => by
        rw [Tryz.params3] at ht
        have hm : t ∈ [26, 30, 5, 31] := by simpa using Array.mem_of_getElem? ht
        have hall : ([26, 30, 5, 31].all fun u => !Tryz.prog.wantsStandIn u) = true := by kernel_rfl
        exact (show Tryz.prog.wantsStandIn t = false by simpa using List.all_eq_true.1 hall t hm)⟩)
    (by kernel_rfl)
#print axioms topSheeted_card
end Go.Proofs.YtamnnjdfjffhlaaGreatDoor
