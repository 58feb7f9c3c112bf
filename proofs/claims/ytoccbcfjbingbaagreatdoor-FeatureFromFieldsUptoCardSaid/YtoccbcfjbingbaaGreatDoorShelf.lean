/-
  DERIVED: THE SHELF's CONTRACTS AT THIS DUMP, IN PLAIN WORDS (tools/lay-plain.mjs out of 'TryzShelf.lean', which tools/lay-shelf.mjs wrote): THE SAME DECLARATIONS UNDER THE SAME NAMES: 'import', 'namespace', 'open', 'def', 'theorem' AND NOTHING ELSE: no command of the shelf's: FOR A HAND-IN. Each laying: the table of numbers ('.._ren') and one theorem, a field a fact of the dump's own or the kernel's comparison; each contract: ONE APPLICATION.
-/
import Derived.Shelf.Strings.SlTrimAscii
import Derived.Shelf.Strings.Builder1
import Derived.Shelf.Strings.Builder2
import Derived.Shelf.Strings.OnBuilder
import Derived.Shelf.Strings.Trim
import Derived.Shelf.Small.Utf8
import Derived.Shelf.Small.Strs
import Derived.Shelf.Small.Wraps
import Derived.Shelf.Strconv.Atoi
import Derived.Shelf.Strconv.Itoa0
import Derived.Shelf.Strconv.Itoa1
import Derived.Shelf.LaysM
import Derived.Shelf.Strconv.Itoa2
import Derived.Shelf.Strconv.Itoa3
import Derived.Shelf.Strconv.AtoiErrFast
import Derived.Shelf.Strconv.ParseIntEmpty
import Derived.Shelf.Strconv.AtoiFail
import Derived.Shelf.Strconv.Clone
import Derived.Shelf.Strconv.SyntaxError
import Derived.Shelf.LaysC
import Derived.Shelf.Strconv.ToError
import Derived.Shelf.Strconv.Lower
import Derived.Shelf.Strconv.ParseUint10
import Derived.Shelf.Strconv.ParseUint10Empty
import Derived.Shelf.Strconv.ParseUint10Any
import Derived.Shelf.Strconv.ParseInt10
import Derived.Shelf.Strconv.AtoiLong
import Derived.Shelf.Strconv.AtoiInnerAll
import Derived.Shelf.Strconv.RangeError
import Derived.Shelf.Strconv.ToErrorRange
import Derived.Shelf.Strconv.AtoiAll
import Derived.Shelf.Strconv.ErrVarAll
import Derived.Shelf.Strings.Search1
import Derived.Shelf.Strings.Search2
import Derived.Shelf.Strings.Search3
import Derived.Shelf.Strings.Cut
import Derived.Shelf.Strings.Count
import Derived.Shelf.Strings.Shaped
import Derived.Shelf.Strings.Prefix
import Derived.Shelf.Strings.Split
import Derived.Shelf.Strings.SplitShaped
import Derived.Shelf.Strings.Runes
import Derived.Shelf.Strings.AsciiSet
import Derived.Shelf.Unicode.DecodeSlow
import Derived.Test.YtoccbcfjbingbaaGreatDoorProg
namespace Go.Proofs
def Tryz.lays156_ren : Go.Shelf.Ren := ⟨fun | 156 => 54 | 165 => 66 | 166 => 67 | 169 => 68 | 240 => 84 | 241 => 85 | 276 => 101 | 277 => 102 | n => n, fun | 31 => 25 | 9 => 9 | 3 => 3 | 4 => 4 | 0 => 0 | 20 => 20 | 72 => 95 | 76 => 99 | 70 => 93 | 37 => 91 | 75 => 98 | 127 => 113 | 164 => 128 | 5 => 5 | 80 => 68 | n => n, fun | n => n⟩
theorem Tryz.lays156 : Go.Proofs.Lays.n156 Tryz.prog Tryz.lays156_ren := {
 mixed := by kernel_rfl
 f156 := Tryz.func54.trans (congrArg some (by kernel_rfl))
 f165 := Tryz.func66.trans (congrArg some (by kernel_rfl))
 f166 := Tryz.func67.trans (congrArg some (by kernel_rfl))
 f169 := Tryz.func68.trans (congrArg some (by kernel_rfl))
 f240 := Tryz.func84.trans (congrArg some (by kernel_rfl))
 f241 := Tryz.func85.trans (congrArg some (by kernel_rfl))
 f276 := Tryz.func101.trans (congrArg some (by kernel_rfl))
 f277 := Tryz.func102.trans (congrArg some (by kernel_rfl))
 t0 := Tryz.underlying0
 a0 := Tryz.isAgg0
 z0 := Tryz.sizeOf0
 v0 := Tryz.zeroValue0
 t3 := Tryz.underlying3
 a3 := Tryz.isAgg3
 z3 := Tryz.sizeOf3
 v3 := Tryz.zeroValue3
 t4 := Tryz.underlying4
 a4 := Tryz.isAgg4
 z4 := Tryz.sizeOf4
 v4 := Tryz.zeroValue4
 t9 := Tryz.underlying9
 a9 := Tryz.isAgg9
 z9 := Tryz.sizeOf9
 v9 := Tryz.zeroValue9
 t20 := Tryz.underlying20
 a20 := Tryz.isAgg20
 z20 := Tryz.sizeOf20
 v20 := Tryz.zeroValue20
 t31 := Tryz.underlying25
 a31 := Tryz.isAgg25
 z31 := Tryz.sizeOf25
 v31 := Tryz.zeroValue25
 t37 := Tryz.underlying91
 a37 := Tryz.isAgg91
 z37 := Tryz.sizeOf91
 v37 := Tryz.zeroValue91
 t70 := Tryz.underlying93
 a70 := Tryz.isAgg93
 z70 := Tryz.sizeOf93
 v70 := Tryz.zeroValue93
 t72 := Tryz.underlying95
 a72 := Tryz.isAgg95
 z72 := Tryz.sizeOf95
 v72 := Tryz.zeroValue95
 t75 := Tryz.underlying98
 a75 := Tryz.isAgg98
 z75 := Tryz.sizeOf98
 v75 := Tryz.zeroValue98
 t76 := Tryz.underlying99
 a76 := Tryz.isAgg99
 z76 := Tryz.sizeOf99
 v76 := Tryz.zeroValue99
 t127 := Tryz.underlying113
 a127 := Tryz.isAgg113
 z127 := Tryz.sizeOf113
 v127 := Tryz.zeroValue113
 t164 := Tryz.underlying128
 a164 := Tryz.isAgg128
 z164 := Tryz.sizeOf128
 v164 := Tryz.zeroValue128 }
theorem Tryz.Builder_Extra_156 : Builder.Extra Tryz.prog Tryz.lays156_ren := {
 sizeBuilder := by kernel_rfl
 liesBuilder := by kernel_rfl
 t5 := Tryz.underlying5
 a5 := Tryz.isAgg5
 z5 := Tryz.sizeOf5
 v5 := Tryz.zeroValue5
 infoByte := by kernel_rfl
 cellsByte := by kernel_rfl
 sizeByte := by kernel_rfl
 neB5 := by decide }
open Go.RowKit in
theorem Tryz.strings_Join_none (a : Option Addr) (c : Nat) (sep : ByteArray) (w : World) :
 Calls Tryz.prog 54 #[.slice a 0 c, .string sep] w fun e w' => e = .returned (.string ⟨#[]⟩) ∧ w' = w := Any.strings_Join_none Tryz.lays156 Tryz.Builder_Extra_156 a c sep w
open Go.RowKit in
theorem Tryz.strings_Join (bk o c : Nat) (xs : List ByteArray) (sep : ByteArray) (w : World) (hcells : ∀ (j : Nat) x, xs[j]? = some x → w.cell? ⟨bk, o + j, none⟩ = some (.string x)) (hbk : bk < w.heap.size) (hN : xs.length ≤ 140737488355328) (hcap : xs.length ≤ c) (hlen : (Lib.join (xs.map (·.data.toList)) sep.data.toList).length ≤ 140737488355328) :
 Calls Tryz.prog 54 #[.slice (some ⟨bk, o, none⟩) xs.length c, .string sep] w fun e w' => e = .returned (.string ⟨(Lib.join (xs.map (·.data.toList)) sep.data.toList).toArray⟩) ∧ Below w.heap.size w w' := Any.strings_Join Tryz.lays156 Tryz.Builder_Extra_156 bk o c xs sep w hcells hbk hN hcap hlen
def Tryz.lays162_ren : Go.Shelf.Ren := ⟨fun | 162 => 120 | 232 => 71 | 227 => 72 | 234 => 74 | 236 => 76 | 228 => 87 | 271 => 90 | 151 => 89 | 120 => 109 | 197 => 88 | 152 => 108 | 260 => 107 | 137 => 124 | 119 => 125 | 224 => 105 | 225 => 104 | 217 => 103 | 266 => 122 | n => n, fun | 9 => 9 | 4 => 4 | 3 => 3 | 5 => 5 | 117 => 104 | 116 => 103 | 0 => 0 | 124 => 107 | 21 => 21 | 105 => 114 | 46 => 132 | 119 => 148 | 139 => 151 | 138 => 150 | n => n, fun | 3 => 3 | 4 => 4 | n => n⟩
theorem Tryz.lays162 : Go.Proofs.Lays.n162 Tryz.prog Tryz.lays162_ren := {
 mixed := by kernel_rfl
 f119 := Tryz.func125.trans (congrArg some (by kernel_rfl))
 f120 := Tryz.func109.trans (congrArg some (by kernel_rfl))
 f137 := Tryz.func124.trans (congrArg some (by kernel_rfl))
 f151 := Tryz.func89.trans (congrArg some (by kernel_rfl))
 f152 := Tryz.func108.trans (congrArg some (by kernel_rfl))
 f162 := Tryz.func120.trans (congrArg some (by kernel_rfl))
 f197 := Tryz.func88.trans (congrArg some (by kernel_rfl))
 f217 := Tryz.func103.trans (congrArg some (by kernel_rfl))
 f224 := Tryz.func105.trans (congrArg some (by kernel_rfl))
 f225 := Tryz.func104.trans (congrArg some (by kernel_rfl))
 f227 := Tryz.func72.trans (congrArg some (by kernel_rfl))
 f228 := Tryz.func87.trans (congrArg some (by kernel_rfl))
 f232 := Tryz.func71.trans (congrArg some (by kernel_rfl))
 f234 := Tryz.func74.trans (congrArg some (by kernel_rfl))
 f236 := Tryz.func76.trans (congrArg some (by kernel_rfl))
 f260 := Tryz.func107.trans (congrArg some (by kernel_rfl))
 f266 := Tryz.func122.trans (congrArg some (by kernel_rfl))
 f271 := Tryz.func90.trans (congrArg some (by kernel_rfl))
 t0 := Tryz.underlying0
 a0 := Tryz.isAgg0
 z0 := Tryz.sizeOf0
 v0 := Tryz.zeroValue0
 t3 := Tryz.underlying3
 a3 := Tryz.isAgg3
 z3 := Tryz.sizeOf3
 v3 := Tryz.zeroValue3
 t4 := Tryz.underlying4
 a4 := Tryz.isAgg4
 z4 := Tryz.sizeOf4
 v4 := Tryz.zeroValue4
 t5 := Tryz.underlying5
 a5 := Tryz.isAgg5
 z5 := Tryz.sizeOf5
 v5 := Tryz.zeroValue5
 t9 := Tryz.underlying9
 a9 := Tryz.isAgg9
 z9 := Tryz.sizeOf9
 v9 := Tryz.zeroValue9
 t21 := Tryz.underlying21
 a21 := Tryz.isAgg21
 z21 := Tryz.sizeOf21
 v21 := Tryz.zeroValue21
 t46 := Tryz.underlying132
 a46 := Tryz.isAgg132
 z46 := Tryz.sizeOf132
 v46 := Tryz.zeroValue132
 t105 := Tryz.underlying114
 a105 := Tryz.isAgg114
 z105 := Tryz.sizeOf114
 v105 := Tryz.zeroValue114
 t116 := Tryz.underlying103
 a116 := Tryz.isAgg103
 z116 := Tryz.sizeOf103
 t117 := Tryz.underlying104
 a117 := Tryz.isAgg104
 z117 := Tryz.sizeOf104
 v117 := Tryz.zeroValue104
 t119 := Tryz.underlying148
 a119 := Tryz.isAgg148
 z119 := Tryz.sizeOf148
 t124 := Tryz.underlying107
 a124 := Tryz.isAgg107
 z124 := Tryz.sizeOf107
 v124 := Tryz.zeroValue107
 t138 := Tryz.underlying150
 a138 := Tryz.isAgg150
 z138 := Tryz.sizeOf150
 v138 := Tryz.zeroValue150
 t139 := Tryz.underlying151
 a139 := Tryz.isAgg151
 z139 := Tryz.sizeOf151
 v139 := Tryz.zeroValue151
 g3 := by kernel_rfl
 g4 := by kernel_rfl }
def Tryz.lays160_ren : Go.Shelf.Ren := ⟨fun | 160 => 57 | 232 => 71 | 231 => 70 | 227 => 72 | 234 => 74 | 233 => 73 | 236 => 76 | 235 => 75 | 228 => 87 | 271 => 90 | 151 => 89 | 197 => 88 | 120 => 109 | 152 => 108 | 260 => 107 | 137 => 124 | 119 => 125 | 224 => 105 | 225 => 104 | 217 => 103 | 266 => 122 | n => n, fun | 9 => 9 | 4 => 4 | 3 => 3 | 5 => 5 | 117 => 104 | 116 => 103 | 0 => 0 | 124 => 107 | 21 => 21 | 105 => 114 | 46 => 132 | 119 => 148 | 139 => 151 | 138 => 150 | n => n, fun | 3 => 3 | 4 => 4 | n => n⟩
theorem Tryz.lays160 : Go.Proofs.Lays.n160 Tryz.prog Tryz.lays160_ren := {
 mixed := by kernel_rfl
 f119 := Tryz.func125.trans (congrArg some (by kernel_rfl))
 f120 := Tryz.func109.trans (congrArg some (by kernel_rfl))
 f137 := Tryz.func124.trans (congrArg some (by kernel_rfl))
 f151 := Tryz.func89.trans (congrArg some (by kernel_rfl))
 f152 := Tryz.func108.trans (congrArg some (by kernel_rfl))
 f160 := Tryz.func57.trans (congrArg some (by kernel_rfl))
 f197 := Tryz.func88.trans (congrArg some (by kernel_rfl))
 f217 := Tryz.func103.trans (congrArg some (by kernel_rfl))
 f224 := Tryz.func105.trans (congrArg some (by kernel_rfl))
 f225 := Tryz.func104.trans (congrArg some (by kernel_rfl))
 f227 := Tryz.func72.trans (congrArg some (by kernel_rfl))
 f228 := Tryz.func87.trans (congrArg some (by kernel_rfl))
 f231 := Tryz.func70.trans (congrArg some (by kernel_rfl))
 f232 := Tryz.func71.trans (congrArg some (by kernel_rfl))
 f233 := Tryz.func73.trans (congrArg some (by kernel_rfl))
 f234 := Tryz.func74.trans (congrArg some (by kernel_rfl))
 f235 := Tryz.func75.trans (congrArg some (by kernel_rfl))
 f236 := Tryz.func76.trans (congrArg some (by kernel_rfl))
 f260 := Tryz.func107.trans (congrArg some (by kernel_rfl))
 f266 := Tryz.func122.trans (congrArg some (by kernel_rfl))
 f271 := Tryz.func90.trans (congrArg some (by kernel_rfl))
 t0 := Tryz.underlying0
 a0 := Tryz.isAgg0
 z0 := Tryz.sizeOf0
 v0 := Tryz.zeroValue0
 t3 := Tryz.underlying3
 a3 := Tryz.isAgg3
 z3 := Tryz.sizeOf3
 v3 := Tryz.zeroValue3
 t4 := Tryz.underlying4
 a4 := Tryz.isAgg4
 z4 := Tryz.sizeOf4
 v4 := Tryz.zeroValue4
 t5 := Tryz.underlying5
 a5 := Tryz.isAgg5
 z5 := Tryz.sizeOf5
 v5 := Tryz.zeroValue5
 t9 := Tryz.underlying9
 a9 := Tryz.isAgg9
 z9 := Tryz.sizeOf9
 v9 := Tryz.zeroValue9
 t21 := Tryz.underlying21
 a21 := Tryz.isAgg21
 z21 := Tryz.sizeOf21
 v21 := Tryz.zeroValue21
 t46 := Tryz.underlying132
 a46 := Tryz.isAgg132
 z46 := Tryz.sizeOf132
 v46 := Tryz.zeroValue132
 t105 := Tryz.underlying114
 a105 := Tryz.isAgg114
 z105 := Tryz.sizeOf114
 v105 := Tryz.zeroValue114
 t116 := Tryz.underlying103
 a116 := Tryz.isAgg103
 z116 := Tryz.sizeOf103
 t117 := Tryz.underlying104
 a117 := Tryz.isAgg104
 z117 := Tryz.sizeOf104
 v117 := Tryz.zeroValue104
 t119 := Tryz.underlying148
 a119 := Tryz.isAgg148
 z119 := Tryz.sizeOf148
 t124 := Tryz.underlying107
 a124 := Tryz.isAgg107
 z124 := Tryz.sizeOf107
 v124 := Tryz.zeroValue107
 t138 := Tryz.underlying150
 a138 := Tryz.isAgg150
 z138 := Tryz.sizeOf150
 v138 := Tryz.zeroValue150
 t139 := Tryz.underlying151
 a139 := Tryz.isAgg151
 z139 := Tryz.sizeOf151
 v139 := Tryz.zeroValue151
 g3 := by kernel_rfl
 g4 := by kernel_rfl }
def Tryz.lays104_ren : Go.Shelf.Ren := ⟨fun | 104 => 100 | 211 => 121 | 207 => 131 | n => n, fun | 9 => 9 | 4 => 4 | 24 => 126 | 3 => 3 | n => n, fun | n => n⟩
theorem Tryz.lays104 : Go.Proofs.Lays.n104 Tryz.prog Tryz.lays104_ren := {
 mixed := by kernel_rfl
 f104 := Tryz.func100.trans (congrArg some (by kernel_rfl))
 f207 := Tryz.func131.trans (congrArg some (by kernel_rfl))
 f211 := Tryz.func121.trans (congrArg some (by kernel_rfl))
 t3 := Tryz.underlying3
 a3 := Tryz.isAgg3
 z3 := Tryz.sizeOf3
 v3 := Tryz.zeroValue3
 t4 := Tryz.underlying4
 a4 := Tryz.isAgg4
 z4 := Tryz.sizeOf4
 v4 := Tryz.zeroValue4
 t9 := Tryz.underlying9
 a9 := Tryz.isAgg9
 z9 := Tryz.sizeOf9
 v9 := Tryz.zeroValue9
 t24 := Tryz.underlying126
 a24 := Tryz.isAgg126
 z24 := Tryz.sizeOf126
 v24 := Tryz.zeroValue126 }
open Go.RowKit in
theorem Tryz.strings_CutSuffix (s p : ByteArray) (w : World) (hs : s.size ≤ 9223372036854775807) :
 Calls Tryz.prog 100 #[.string s, .string p] w fun e w' => e = .returned (.tuple #[.string ⟨(Lib.trimSuffix s.data.toList p.data.toList).toArray⟩, .bool (Lib.hasSuffix s.data.toList p.data.toList)]) ∧ w' = w := Any.strings_CutSuffix Tryz.lays104 s p w hs
def Tryz.laysM171_ren : Go.Shelf.Ren := ⟨fun | 171 => 46 | 243 => 59 | 246 => 78 | 283 => 93 | 284 => 94 | 285 => 95 | 286 => 96 | 129 => 116 | 317 => 115 | 318 => 117 | 319 => 118 | 320 => 119 | 337 => 129 | 338 => 130 | n => n, fun | 3 => 3 | 9 => 9 | 2 => 2 | 4 => 4 | 171 => 118 | 0 => 0 | 53 => 119 | 37 => 91 | 5 => 5 | 173 => 122 | 212 => 141 | 51 => 142 | 20 => 20 | 213 => 143 | 46 => 132 | 232 => 165 | 233 => 166 | n => n, fun | 17 => 2 | 18 => 7 | 19 => 8 | n => n⟩
theorem Tryz.laysM171 : Go.Proofs.LaysM.n171 Tryz.prog Tryz.laysM171_ren := {
 mixed := by kernel_rfl
 f129 := Tryz.func116.trans (congrArg some (by kernel_rfl))
 f171 := Tryz.func46.trans (congrArg some (by kernel_rfl))
 f243 := Tryz.func59.trans (congrArg some (by kernel_rfl))
 f246 := Tryz.func78.trans (congrArg some (by kernel_rfl))
 f283 := Tryz.func93.trans (congrArg some (by kernel_rfl))
 f284 := Tryz.func94.trans (congrArg some (by kernel_rfl))
 f285 := Tryz.func95.trans (congrArg some (by kernel_rfl))
 f286 := Tryz.func96.trans (congrArg some (by kernel_rfl))
 f317 := Tryz.func115.trans (congrArg some (by kernel_rfl))
 f318 := Tryz.func117.trans (congrArg some (by kernel_rfl))
 f319 := Tryz.func118.trans (congrArg some (by kernel_rfl))
 f320 := Tryz.func119.trans (congrArg some (by kernel_rfl))
 f337 := Tryz.func129.trans (congrArg some (by kernel_rfl))
 f338 := Tryz.func130.trans (congrArg some (by kernel_rfl))
 t0 := Tryz.underlying0
 a0 := Tryz.isAgg0
 z0 := Tryz.sizeOf0
 v0 := Tryz.zeroValue0
 t2 := Tryz.underlying2
 a2 := Tryz.isAgg2
 z2 := Tryz.sizeOf2
 v2 := Tryz.zeroValue2
 t3 := Tryz.underlying3
 a3 := Tryz.isAgg3
 z3 := Tryz.sizeOf3
 v3 := Tryz.zeroValue3
 t4 := Tryz.underlying4
 a4 := Tryz.isAgg4
 z4 := Tryz.sizeOf4
 v4 := Tryz.zeroValue4
 t5 := Tryz.underlying5
 a5 := Tryz.isAgg5
 z5 := Tryz.sizeOf5
 v5 := Tryz.zeroValue5
 t9 := Tryz.underlying9
 a9 := Tryz.isAgg9
 z9 := Tryz.sizeOf9
 v9 := Tryz.zeroValue9
 t20 := Tryz.underlying20
 a20 := Tryz.isAgg20
 z20 := Tryz.sizeOf20
 v20 := Tryz.zeroValue20
 t37 := Tryz.underlying91
 a37 := Tryz.isAgg91
 z37 := Tryz.sizeOf91
 v37 := Tryz.zeroValue91
 t46 := Tryz.underlying132
 a46 := Tryz.isAgg132
 z46 := Tryz.sizeOf132
 v46 := Tryz.zeroValue132
 t51 := Tryz.underlying142
 a51 := Tryz.isAgg142
 z51 := Tryz.sizeOf142
 v51 := Tryz.zeroValue142
 t53 := Tryz.underlying119
 a53 := Tryz.isAgg119
 z53 := Tryz.sizeOf119
 v53 := Tryz.zeroValue119
 t171 := Tryz.underlying118
 a171 := Tryz.isAgg118
 z171 := Tryz.sizeOf118
 v171 := Tryz.zeroValue118
 t173 := Tryz.underlying122
 a173 := Tryz.isAgg122
 z173 := Tryz.sizeOf122
 v173 := Tryz.zeroValue122
 t212 := Tryz.underlying141
 a212 := Tryz.isAgg141
 z212 := Tryz.sizeOf141
 v212 := Tryz.zeroValue141
 t213 := Tryz.underlying143
 a213 := Tryz.isAgg143
 z213 := Tryz.sizeOf143
 t232 := Tryz.underlying165
 a232 := Tryz.isAgg165
 z232 := Tryz.sizeOf165
 v232 := Tryz.zeroValue165
 t233 := Tryz.underlying166
 a233 := Tryz.isAgg166
 z233 := Tryz.sizeOf166
 v233 := Tryz.zeroValue166
 g17 := by kernel_rfl
 g18 := by kernel_rfl
 g19 := by kernel_rfl
 i0 := by kernel_rfl
 i2 := by kernel_rfl
 i3 := by kernel_rfl
 i4 := by kernel_rfl
 i5 := by kernel_rfl
 i9 := by kernel_rfl
 i20 := by kernel_rfl
 i37 := by kernel_rfl
 i46 := by kernel_rfl
 i51 := by kernel_rfl
 i53 := by kernel_rfl
 i171 := by kernel_rfl
 i173 := by kernel_rfl
 i212 := by kernel_rfl
 i232 := by kernel_rfl
 i233 := by kernel_rfl
 m17 := by kernel_rfl
 m18 := by kernel_rfl
 m19 := by kernel_rfl }
open Go.RowKit Go.Sort Go.Lib in
theorem Tryz.strconv_Itoa (n : Int) (h0 : -9223372036854775808 ≤ n) (h1 : n ≤ 9223372036854775807) (w : World) (htab : Lib.TabIs Tryz.prog w "internal/strconv.uint64pow10" .u64 Lib.pow10Tab) :
 Calls Tryz.prog 46 #[.int .i64 n] w fun e w' => e = .returned (.string ⟨(Lib.itoa n).toArray⟩) ∧ ∃ k os, w' = grow (w.drewN k) os := Any.strconv_Itoa Tryz.laysM171 n h0 h1 w htab
def Tryz.laysC172_ren : Go.Shelf.Ren := ⟨fun | 172 => 77 | 244 => 91 | 245 => 92 | 247 => 110 | 279 => 111 | 280 => 112 | 281 => 113 | 282 => 114 | 287 => 126 | 316 => 127 | 171 => 46 | 205 => 128 | 321 => 132 | 322 => 133 | 243 => 59 | 246 => 78 | 283 => 93 | 284 => 94 | 285 => 95 | 286 => 96 | 129 => 116 | 317 => 115 | 318 => 117 | 319 => 118 | 320 => 119 | 337 => 129 | 338 => 130 | n => n, fun | 9 => 9 | 3 => 3 | 75 => 98 | 76 => 99 | 4 => 4 | 5 => 5 | 167 => 134 | 37 => 91 | 0 => 0 | 85 => 135 | 2 => 2 | 168 => 137 | 53 => 119 | 175 => 153 | 46 => 132 | 210 => 157 | 127 => 113 | 145 => 164 | 143 => 162 | 21 => 21 | 171 => 118 | 173 => 122 | 212 => 141 | 51 => 142 | 20 => 20 | 213 => 143 | 232 => 165 | 233 => 166 | 80 => 68 | n => n, fun | 15 => 5 | 16 => 6 | 17 => 2 | 18 => 7 | 19 => 8 | n => n⟩
theorem Tryz.laysC172 : Go.Proofs.LaysC.n172 Tryz.prog Tryz.laysC172_ren := {
 mixed := by kernel_rfl
 f129 := Tryz.func116.trans (congrArg some (by kernel_rfl))
 f171 := Tryz.func46.trans (congrArg some (by kernel_rfl))
 f172 := Tryz.func77.trans (congrArg some (by kernel_rfl))
 f205 := Tryz.func128.trans (congrArg some (by kernel_rfl))
 f243 := Tryz.func59.trans (congrArg some (by kernel_rfl))
 f244 := Tryz.func91.trans (congrArg some (by kernel_rfl))
 f245 := Tryz.func92.trans (congrArg some (by kernel_rfl))
 f246 := Tryz.func78.trans (congrArg some (by kernel_rfl))
 f247 := Tryz.func110.trans (congrArg some (by kernel_rfl))
 f279 := Tryz.func111.trans (congrArg some (by kernel_rfl))
 f280 := Tryz.func112.trans (congrArg some (by kernel_rfl))
 f281 := Tryz.func113.trans (congrArg some (by kernel_rfl))
 f282 := Tryz.func114.trans (congrArg some (by kernel_rfl))
 f283 := Tryz.func93.trans (congrArg some (by kernel_rfl))
 f284 := Tryz.func94.trans (congrArg some (by kernel_rfl))
 f285 := Tryz.func95.trans (congrArg some (by kernel_rfl))
 f286 := Tryz.func96.trans (congrArg some (by kernel_rfl))
 f287 := Tryz.func126.trans (congrArg some (by kernel_rfl))
 f316 := Tryz.func127.trans (congrArg some (by kernel_rfl))
 f317 := Tryz.func115.trans (congrArg some (by kernel_rfl))
 f318 := Tryz.func117.trans (congrArg some (by kernel_rfl))
 f319 := Tryz.func118.trans (congrArg some (by kernel_rfl))
 f320 := Tryz.func119.trans (congrArg some (by kernel_rfl))
 f321 := Tryz.func132.trans (congrArg some (by kernel_rfl))
 f322 := Tryz.func133.trans (congrArg some (by kernel_rfl))
 f337 := Tryz.func129.trans (congrArg some (by kernel_rfl))
 f338 := Tryz.func130.trans (congrArg some (by kernel_rfl))
 t0 := Tryz.underlying0
 a0 := Tryz.isAgg0
 z0 := Tryz.sizeOf0
 v0 := Tryz.zeroValue0
 t2 := Tryz.underlying2
 a2 := Tryz.isAgg2
 z2 := Tryz.sizeOf2
 v2 := Tryz.zeroValue2
 t3 := Tryz.underlying3
 a3 := Tryz.isAgg3
 z3 := Tryz.sizeOf3
 v3 := Tryz.zeroValue3
 t4 := Tryz.underlying4
 a4 := Tryz.isAgg4
 z4 := Tryz.sizeOf4
 v4 := Tryz.zeroValue4
 t5 := Tryz.underlying5
 a5 := Tryz.isAgg5
 z5 := Tryz.sizeOf5
 v5 := Tryz.zeroValue5
 t9 := Tryz.underlying9
 a9 := Tryz.isAgg9
 z9 := Tryz.sizeOf9
 v9 := Tryz.zeroValue9
 t20 := Tryz.underlying20
 a20 := Tryz.isAgg20
 z20 := Tryz.sizeOf20
 v20 := Tryz.zeroValue20
 t21 := Tryz.underlying21
 a21 := Tryz.isAgg21
 z21 := Tryz.sizeOf21
 v21 := Tryz.zeroValue21
 t37 := Tryz.underlying91
 a37 := Tryz.isAgg91
 z37 := Tryz.sizeOf91
 v37 := Tryz.zeroValue91
 t46 := Tryz.underlying132
 a46 := Tryz.isAgg132
 z46 := Tryz.sizeOf132
 v46 := Tryz.zeroValue132
 t51 := Tryz.underlying142
 a51 := Tryz.isAgg142
 z51 := Tryz.sizeOf142
 v51 := Tryz.zeroValue142
 t53 := Tryz.underlying119
 a53 := Tryz.isAgg119
 z53 := Tryz.sizeOf119
 v53 := Tryz.zeroValue119
 t75 := Tryz.underlying98
 a75 := Tryz.isAgg98
 z75 := Tryz.sizeOf98
 v75 := Tryz.zeroValue98
 t76 := Tryz.underlying99
 a76 := Tryz.isAgg99
 z76 := Tryz.sizeOf99
 v76 := Tryz.zeroValue99
 t85 := Tryz.underlying135
 a85 := Tryz.isAgg135
 z85 := Tryz.sizeOf135
 v85 := Tryz.zeroValue135
 t127 := Tryz.underlying113
 a127 := Tryz.isAgg113
 z127 := Tryz.sizeOf113
 v127 := Tryz.zeroValue113
 t143 := Tryz.underlying162
 a143 := Tryz.isAgg162
 z143 := Tryz.sizeOf162
 v143 := Tryz.zeroValue162
 t145 := Tryz.underlying164
 a145 := Tryz.isAgg164
 z145 := Tryz.sizeOf164
 v145 := Tryz.zeroValue164
 t167 := Tryz.underlying134
 a167 := Tryz.isAgg134
 z167 := Tryz.sizeOf134
 v167 := Tryz.zeroValue134
 t168 := Tryz.underlying137
 a168 := Tryz.isAgg137
 z168 := Tryz.sizeOf137
 v168 := Tryz.zeroValue137
 t171 := Tryz.underlying118
 a171 := Tryz.isAgg118
 z171 := Tryz.sizeOf118
 v171 := Tryz.zeroValue118
 t173 := Tryz.underlying122
 a173 := Tryz.isAgg122
 z173 := Tryz.sizeOf122
 v173 := Tryz.zeroValue122
 t175 := Tryz.underlying153
 a175 := Tryz.isAgg153
 z175 := Tryz.sizeOf153
 v175 := Tryz.zeroValue153
 t210 := Tryz.underlying157
 a210 := Tryz.isAgg157
 z210 := Tryz.sizeOf157
 v210 := Tryz.zeroValue157
 t212 := Tryz.underlying141
 a212 := Tryz.isAgg141
 z212 := Tryz.sizeOf141
 v212 := Tryz.zeroValue141
 t213 := Tryz.underlying143
 a213 := Tryz.isAgg143
 z213 := Tryz.sizeOf143
 t232 := Tryz.underlying165
 a232 := Tryz.isAgg165
 z232 := Tryz.sizeOf165
 v232 := Tryz.zeroValue165
 t233 := Tryz.underlying166
 a233 := Tryz.isAgg166
 z233 := Tryz.sizeOf166
 v233 := Tryz.zeroValue166
 g15 := by kernel_rfl
 g16 := by kernel_rfl
 g17 := by kernel_rfl
 g18 := by kernel_rfl
 g19 := by kernel_rfl
 t80 := Tryz.underlying68
 a80 := Tryz.isAgg68
 z80 := Tryz.sizeOf68
 v80 := Tryz.zeroValue68
 i0 := by kernel_rfl
 i2 := by kernel_rfl
 i3 := by kernel_rfl
 i4 := by kernel_rfl
 i5 := by kernel_rfl
 i9 := by kernel_rfl
 i20 := by kernel_rfl
 i21 := by kernel_rfl
 i37 := by kernel_rfl
 i46 := by kernel_rfl
 i51 := by kernel_rfl
 i53 := by kernel_rfl
 i75 := by kernel_rfl
 i76 := by kernel_rfl
 i80 := by kernel_rfl
 i85 := by kernel_rfl
 i127 := by kernel_rfl
 i143 := by kernel_rfl
 i145 := by kernel_rfl
 i167 := by kernel_rfl
 i168 := by kernel_rfl
 i171 := by kernel_rfl
 i173 := by kernel_rfl
 i175 := by kernel_rfl
 i210 := by kernel_rfl
 i212 := by kernel_rfl
 i232 := by kernel_rfl
 i233 := by kernel_rfl
 m15 := by kernel_rfl
 m16 := by kernel_rfl
 m17 := by kernel_rfl
 m18 := by kernel_rfl
 m19 := by kernel_rfl
 c0 := by kernel_rfl
 c2 := by kernel_rfl
 c3 := by kernel_rfl
 c4 := by kernel_rfl
 c5 := by kernel_rfl
 c9 := by kernel_rfl
 c20 := by kernel_rfl
 c21 := by kernel_rfl
 c37 := by kernel_rfl
 c46 := by kernel_rfl
 c51 := by kernel_rfl
 c53 := by kernel_rfl
 c75 := by kernel_rfl
 c76 := by kernel_rfl
 c80 := by kernel_rfl
 c85 := by kernel_rfl
 c127 := by kernel_rfl
 c143 := by kernel_rfl
 c145 := by kernel_rfl
 c167 := by kernel_rfl
 c168 := by kernel_rfl
 c171 := by kernel_rfl
 c173 := by kernel_rfl
 c175 := by kernel_rfl
 c210 := by kernel_rfl
 c212 := by kernel_rfl
 c213 := by kernel_rfl
 c232 := by kernel_rfl
 c233 := by kernel_rfl }
open Go.RowKit in
theorem Tryz.strconv_Atoi_ok (s : ByteArray) (hmax : s.size ≤ 9223372036854775806) (v : Int) (h : Lib.atoiAll s.data.toList = .ok v) (w : World) :
 Calls Tryz.prog 77 #[.string s] w fun e w' => e = .returned (.tuple #[.int .i64 v, .nilIface]) ∧ (w' = w ∨ ∃ t, w' = Lib.bytesWorld w 5 t) := Any.strconv_Atoi_ok Tryz.laysC172 s hmax v h w
open Go.RowKit in
theorem Tryz.strconv_Atoi_syntax_var (s : ByteArray) (hlim : s.size ≤ 281474976710656) (h0 : ∀ v, Lib.atoiAll s.data.toList ≠ .ok v) (h1 : Lib.atoiAll s.data.toList ≠ .range) (tp : TypeId) (p : Value) (w : World) (hvar : w.var? Tryz.prog "strconv.ErrSyntax" = some #[.iface tp p]) :
 Calls Tryz.prog 77 #[.string s] w fun e w' => ∃ N, e = .returned (.tuple #[.int .i64 0, .iface 137 (.pointer (some ⟨N, 0, none⟩))]) ∧ w.heap.size ≤ N ∧ w'.heap[N]? = some (.cells #[.string ⟨#[65, 116, 111, 105]⟩, .string s, .iface tp p] 157 (0, 0)) ∧ Below w.heap.size w w' := by
 cases h : Lib.atoiAll s.data.toList
 · exact absurd h (h0 _)
 · exact Any.strconv_Atoi_syntax_var Tryz.laysC172 s hlim h tp p w hvar
 · exact absurd h h1
open Go.RowKit in
theorem Tryz.strconv_Atoi_range_var (s : ByteArray) (hlim : s.size ≤ 281474976710656) (h : Lib.atoiAll s.data.toList = .range) (tp : TypeId) (p : Value) (w : World) (hvar : w.var? Tryz.prog "strconv.ErrRange" = some #[.iface tp p]) :
 Calls Tryz.prog 77 #[.string s] w fun e w' => ∃ N, e = .returned (.tuple #[.int .i64 (Lib.atoiSat s.data.toList), .iface 137 (.pointer (some ⟨N, 0, none⟩))]) ∧ w.heap.size ≤ N ∧ w'.heap[N]? = some (.cells #[.string ⟨#[65, 116, 111, 105]⟩, .string s, .iface tp p] 157 (0, 0)) ∧ Below w.heap.size w w' := Any.strconv_Atoi_range_var Tryz.laysC172 s hlim h tp p w hvar
def Tryz.lays145_ren : Go.Shelf.Ren := ⟨fun | 145 => 55 | 220 => 69 | 219 => 86 | 217 => 103 | 225 => 104 | 224 => 105 | 267 => 106 | 266 => 122 | 314 => 123 | n => n, fun | 9 => 9 | 4 => 4 | 59 => 84 | 3 => 3 | 5 => 5 | 46 => 132 | 146 => 146 | 51 => 142 | n => n, fun | 1 => 1 | n => n⟩
theorem Tryz.lays145 : Go.Proofs.Lays.n145 Tryz.prog Tryz.lays145_ren := {
 mixed := by kernel_rfl
 f145 := Tryz.func55.trans (congrArg some (by kernel_rfl))
 f217 := Tryz.func103.trans (congrArg some (by kernel_rfl))
 f219 := Tryz.func86.trans (congrArg some (by kernel_rfl))
 f220 := Tryz.func69.trans (congrArg some (by kernel_rfl))
 f224 := Tryz.func105.trans (congrArg some (by kernel_rfl))
 f225 := Tryz.func104.trans (congrArg some (by kernel_rfl))
 f266 := Tryz.func122.trans (congrArg some (by kernel_rfl))
 f267 := Tryz.func106.trans (congrArg some (by kernel_rfl))
 f314 := Tryz.func123.trans (congrArg some (by kernel_rfl))
 t3 := Tryz.underlying3
 a3 := Tryz.isAgg3
 z3 := Tryz.sizeOf3
 v3 := Tryz.zeroValue3
 t4 := Tryz.underlying4
 a4 := Tryz.isAgg4
 z4 := Tryz.sizeOf4
 v4 := Tryz.zeroValue4
 t5 := Tryz.underlying5
 a5 := Tryz.isAgg5
 z5 := Tryz.sizeOf5
 v5 := Tryz.zeroValue5
 t9 := Tryz.underlying9
 a9 := Tryz.isAgg9
 z9 := Tryz.sizeOf9
 v9 := Tryz.zeroValue9
 t46 := Tryz.underlying132
 a46 := Tryz.isAgg132
 z46 := Tryz.sizeOf132
 v46 := Tryz.zeroValue132
 t51 := Tryz.underlying142
 a51 := Tryz.isAgg142
 z51 := Tryz.sizeOf142
 v51 := Tryz.zeroValue142
 t59 := Tryz.underlying84
 a59 := Tryz.isAgg84
 z59 := Tryz.sizeOf84
 v59 := Tryz.zeroValue84
 t146 := Tryz.underlying146
 a146 := Tryz.isAgg146
 z146 := Tryz.sizeOf146
 v146 := Tryz.zeroValue146
 g1 := by kernel_rfl }
open Go.RowKit Go.Lib in
theorem Tryz.strings_Cut (s sep : ByteArray) (m : Int) (w : World) (hs : s.size < 4294967281) (hm : w.cell? ⟨1, 0, none⟩ = some (.int .i64 m)) :
 Calls Tryz.prog 55 #[.string s, .string sep] w fun e w' => e = .returned (.tuple #[.string ⟨(Lib.cut s.data.toList sep.data.toList).1.toArray⟩, .string ⟨(Lib.cut s.data.toList sep.data.toList).2.1.toArray⟩, .bool (Lib.cut s.data.toList sep.data.toList).2.2]) ∧ ∃ n, w' = w.drewN n := Any.strings_Cut Tryz.lays145 s sep m w hs hm
def Tryz.laysM145_ren : Go.Shelf.Ren := ⟨fun | 145 => 55 | 220 => 69 | 219 => 86 | 217 => 103 | 225 => 104 | 224 => 105 | 267 => 106 | 266 => 122 | 314 => 123 | n => n, fun | 9 => 9 | 4 => 4 | 59 => 84 | 3 => 3 | 5 => 5 | 46 => 132 | 146 => 146 | 51 => 142 | n => n, fun | 1 => 1 | n => n⟩
theorem Tryz.laysM145 : Go.Proofs.LaysM.n145 Tryz.prog Tryz.laysM145_ren := {
 mixed := by kernel_rfl
 f145 := Tryz.func55.trans (congrArg some (by kernel_rfl))
 f217 := Tryz.func103.trans (congrArg some (by kernel_rfl))
 f219 := Tryz.func86.trans (congrArg some (by kernel_rfl))
 f220 := Tryz.func69.trans (congrArg some (by kernel_rfl))
 f224 := Tryz.func105.trans (congrArg some (by kernel_rfl))
 f225 := Tryz.func104.trans (congrArg some (by kernel_rfl))
 f266 := Tryz.func122.trans (congrArg some (by kernel_rfl))
 f267 := Tryz.func106.trans (congrArg some (by kernel_rfl))
 f314 := Tryz.func123.trans (congrArg some (by kernel_rfl))
 t3 := Tryz.underlying3
 a3 := Tryz.isAgg3
 z3 := Tryz.sizeOf3
 v3 := Tryz.zeroValue3
 t4 := Tryz.underlying4
 a4 := Tryz.isAgg4
 z4 := Tryz.sizeOf4
 v4 := Tryz.zeroValue4
 t5 := Tryz.underlying5
 a5 := Tryz.isAgg5
 z5 := Tryz.sizeOf5
 v5 := Tryz.zeroValue5
 t9 := Tryz.underlying9
 a9 := Tryz.isAgg9
 z9 := Tryz.sizeOf9
 v9 := Tryz.zeroValue9
 t46 := Tryz.underlying132
 a46 := Tryz.isAgg132
 z46 := Tryz.sizeOf132
 v46 := Tryz.zeroValue132
 t51 := Tryz.underlying142
 a51 := Tryz.isAgg142
 z51 := Tryz.sizeOf142
 v51 := Tryz.zeroValue142
 t59 := Tryz.underlying84
 a59 := Tryz.isAgg84
 z59 := Tryz.sizeOf84
 v59 := Tryz.zeroValue84
 t146 := Tryz.underlying146
 a146 := Tryz.isAgg146
 z146 := Tryz.sizeOf146
 v146 := Tryz.zeroValue146
 g1 := by kernel_rfl
 i3 := by kernel_rfl
 i4 := by kernel_rfl
 i5 := by kernel_rfl
 i9 := by kernel_rfl
 i46 := by kernel_rfl
 i51 := by kernel_rfl
 i59 := by kernel_rfl
 i146 := by kernel_rfl
 m1 := by kernel_rfl
 s1_3 := fun w h => Go.Proofs.cell_of_shapedOpen_int (zero := #[.int .i64 0]) (t := 3) h (of_decide_eq_true (by kernel_rfl)) (by kernel_rfl) rfl (by kernel_rfl) (by kernel_rfl) Tryz.underlying3 }
def Tryz.lays146_ren : Go.Shelf.Ren := ⟨fun | 146 => 52 | 221 => 64 | 268 => 80 | 138 => 81 | 143 => 82 | 195 => 97 | 197 => 88 | 218 => 98 | 219 => 86 | 260 => 107 | 217 => 103 | 225 => 104 | 224 => 105 | 267 => 106 | 266 => 122 | 314 => 123 | n => n, fun | 9 => 9 | 31 => 25 | 3 => 3 | 4 => 4 | 0 => 0 | 105 => 114 | 21 => 21 | 5 => 5 | 46 => 132 | 119 => 148 | 139 => 151 | 138 => 150 | 146 => 146 | 51 => 142 | n => n, fun | 1 => 1 | 3 => 3 | 4 => 4 | n => n⟩
theorem Tryz.lays146 : Go.Proofs.Lays.n146 Tryz.prog Tryz.lays146_ren := {
 mixed := by kernel_rfl
 f138 := Tryz.func81.trans (congrArg some (by kernel_rfl))
 f143 := Tryz.func82.trans (congrArg some (by kernel_rfl))
 f146 := Tryz.func52.trans (congrArg some (by kernel_rfl))
 f195 := Tryz.func97.trans (congrArg some (by kernel_rfl))
 f197 := Tryz.func88.trans (congrArg some (by kernel_rfl))
 f217 := Tryz.func103.trans (congrArg some (by kernel_rfl))
 f218 := Tryz.func98.trans (congrArg some (by kernel_rfl))
 f219 := Tryz.func86.trans (congrArg some (by kernel_rfl))
 f221 := Tryz.func64.trans (congrArg some (by kernel_rfl))
 f224 := Tryz.func105.trans (congrArg some (by kernel_rfl))
 f225 := Tryz.func104.trans (congrArg some (by kernel_rfl))
 f260 := Tryz.func107.trans (congrArg some (by kernel_rfl))
 f266 := Tryz.func122.trans (congrArg some (by kernel_rfl))
 f267 := Tryz.func106.trans (congrArg some (by kernel_rfl))
 f268 := Tryz.func80.trans (congrArg some (by kernel_rfl))
 f314 := Tryz.func123.trans (congrArg some (by kernel_rfl))
 t0 := Tryz.underlying0
 a0 := Tryz.isAgg0
 z0 := Tryz.sizeOf0
 v0 := Tryz.zeroValue0
 t3 := Tryz.underlying3
 a3 := Tryz.isAgg3
 z3 := Tryz.sizeOf3
 v3 := Tryz.zeroValue3
 t4 := Tryz.underlying4
 a4 := Tryz.isAgg4
 z4 := Tryz.sizeOf4
 v4 := Tryz.zeroValue4
 t5 := Tryz.underlying5
 a5 := Tryz.isAgg5
 z5 := Tryz.sizeOf5
 v5 := Tryz.zeroValue5
 t9 := Tryz.underlying9
 a9 := Tryz.isAgg9
 z9 := Tryz.sizeOf9
 v9 := Tryz.zeroValue9
 t21 := Tryz.underlying21
 a21 := Tryz.isAgg21
 z21 := Tryz.sizeOf21
 v21 := Tryz.zeroValue21
 t31 := Tryz.underlying25
 a31 := Tryz.isAgg25
 z31 := Tryz.sizeOf25
 v31 := Tryz.zeroValue25
 t46 := Tryz.underlying132
 a46 := Tryz.isAgg132
 z46 := Tryz.sizeOf132
 v46 := Tryz.zeroValue132
 t51 := Tryz.underlying142
 a51 := Tryz.isAgg142
 z51 := Tryz.sizeOf142
 v51 := Tryz.zeroValue142
 t105 := Tryz.underlying114
 a105 := Tryz.isAgg114
 z105 := Tryz.sizeOf114
 v105 := Tryz.zeroValue114
 t119 := Tryz.underlying148
 a119 := Tryz.isAgg148
 z119 := Tryz.sizeOf148
 t138 := Tryz.underlying150
 a138 := Tryz.isAgg150
 z138 := Tryz.sizeOf150
 v138 := Tryz.zeroValue150
 t139 := Tryz.underlying151
 a139 := Tryz.isAgg151
 z139 := Tryz.sizeOf151
 v139 := Tryz.zeroValue151
 t146 := Tryz.underlying146
 a146 := Tryz.isAgg146
 z146 := Tryz.sizeOf146
 v146 := Tryz.zeroValue146
 g1 := by kernel_rfl
 g3 := by kernel_rfl
 g4 := by kernel_rfl }
open Go.RowKit Go.Lib in
theorem Tryz.strings_Split (s sep : ByteArray) (m : Int) (w : World) (hs : s.size < 4294967281) (hm : w.cell? ⟨1, 0, none⟩ = some (.int .i64 m)) (h1 : 1 ≤ sep.size) :
 Calls Tryz.prog 52 #[.string s, .string sep] w fun e w' =>
  e = .returned (.slice (some ⟨w.heap.size, 0, none⟩) (Lib.countB s sep + 1) (Lib.countB s sep + 1)) ∧ w' = w.alloc (.cells ((Lib.splitB sep 0 (Lib.countB s sep) s).map Value.string).toArray 9) := Any.strings_Split Tryz.lays146 (by kernel_rfl) s sep m w hs hm h1
open Go.RowKit Go.Lib in
theorem Tryz.strings_Trim_laid (s cutset : ByteArray) (w : World) (hs : s.size ≤ 9223372036854775807) (hcs : cutset.size < 4294967281) (hascii : ∀ (j : Nat) b, cutset.data.toList[j]? = some b → b.toNat < 128) :
 Calls Tryz.prog 57 #[.string s, .string cutset] w fun e w' => e = .returned (.string ⟨(Lib.trimS s.data.toList cutset.data.toList).toArray⟩) ∧ Below w.heap.size w w' := Any.strings_Trim_laid Tryz.lays160 (by kernel_rfl) s cutset w hs hcs hascii
open Go.RowKit Go.Lib in
theorem Tryz.strings_TrimRight_laid (s cutset : ByteArray) (w : World) (hs : s.size ≤ 9223372036854775807) (hcs : cutset.size < 4294967281) (hascii : ∀ (j : Nat) b, cutset.data.toList[j]? = some b → b.toNat < 128) :
 Calls Tryz.prog 120 #[.string s, .string cutset] w fun e w' => e = .returned (.string ⟨(Lib.trimRightS s.data.toList cutset.data.toList).toArray⟩) ∧ Below w.heap.size w w' := Any.strings_TrimRight_laid Tryz.lays162 (by kernel_rfl) s cutset w hs hcs hascii

end Go.Proofs
