import Derived.Shelf.Bytes.SlTrimWalks
import Derived.Ground.SlbvProg
import Derived.Shelf.Spec.DecodeRune
import Derived.Ground.Names7Prog
import Derived.Shelf.Strings.Builder1
import Derived.Shelf.Strings.Builder2
import Derived.Shelf.Strings.Trim
import Derived.Shelf.Small.Utf8
import Derived.Shelf.Small.Strs
import Derived.Shelf.Small.Wraps
import Derived.Shelf.Strings.BuilderF
import Derived.Shelf.Strings.BuilderK
import Derived.Shelf.Strings.BuilderRune
import Derived.Shelf.Utf8.RuneCount
import Derived.Shelf.Strings.Builder2Cap
import Derived.Shelf.Strconv.Atoi
import Derived.Shelf.Strconv.Itoa0
import Derived.Shelf.Strconv.Itoa1
import Derived.Shelf.LaysM
import Derived.Shelf.Strconv.Itoa2
import Derived.Shelf.Strconv.Itoa3
import Derived.Shelf.Strconv.AtoiErrFast
import Derived.Shelf.Strconv.ParseIntEmpty
import Derived.Shelf.Strconv.AtoiFail
import Derived.Shelf.Strconv.Clone
import Derived.Shelf.Strconv.SyntaxError
import Derived.Shelf.LaysC
import Derived.Shelf.Strconv.ToError
import Derived.Shelf.Strconv.AtoiErr
import Derived.Shelf.Strconv.ErrVar
import Derived.Shelf.Strconv.Lower
import Derived.Shelf.Strconv.ParseUint10
import Derived.Shelf.Strconv.ParseUint10Empty
import Derived.Shelf.Strconv.ParseUint10Any
import Derived.Shelf.Strconv.ParseInt10
import Derived.Shelf.Strconv.AtoiLong
import Derived.Shelf.Strconv.AtoiInnerAll
import Derived.Shelf.Strconv.RangeError
import Derived.Shelf.Strconv.ToErrorRange
import Derived.Shelf.Strconv.AtoiAll
import Derived.Shelf.Strconv.ErrVarAll
import Derived.Shelf.Strconv.ParseUintEmpty
import Derived.Shelf.Strconv.ParseUint10b64
import Derived.Shelf.Strconv.ParseUint10b32
import Derived.Shelf.Strconv.ParseUint10b16
import Derived.Shelf.Strconv.ParseUint10b8
import Derived.Shelf.Strconv.ParseUint10At
import Derived.Shelf.Strconv.ParseInt10At64
import Derived.Shelf.Strconv.ParseInt10At32
import Derived.Shelf.Strconv.ParseInt10At16
import Derived.Shelf.Strconv.ParseInt10At8
import Derived.Shelf.Strconv.ParseInt10All
import Derived.Shelf.Strings.Search1
import Derived.Shelf.Strings.Search2
import Derived.Shelf.Strings.Search3
import Derived.Shelf.Strings.Cut
import Derived.Shelf.Strings.Count
import Derived.Shelf.Strings.Shaped
import Derived.Shelf.Strings.Prefix
import Derived.Shelf.Strings.Split
import Derived.Shelf.Strings.SplitShaped
import Derived.Shelf.Unicode.Decode
import Derived.Shelf.Strings.Runes
import Derived.Shelf.Strings.RuneCount
import Derived.Shelf.Strings.AsciiSet
import Derived.Shelf.Strings.Explode
import Derived.Shelf.Unicode.DecodeSlow
import Derived.Shelf.Unicode.DecodeAny
import Derived.Shelf.Unicode.DecodeLast
import Derived.Shelf.Strings.MapAny
import Derived.Shelf.Strings.BuilderCap
import Derived.Shelf.Strings.MapGrows
import Derived.Shelf.Bytes.SlIndexSmall
import Derived.Shelf.Bytes.SlIndexAt
import Derived.Shelf.Bytes.SlSearch0
import Derived.Shelf.Bytes.SlSearch1
import Derived.Shelf.Bytes.SlSearch2
import Derived.Shelf.Bytes.SlIndexWhole
import Derived.Ground.SlbCloneProg
import Derived.Shelf.Bytes.SlClone
import Derived.Shelf.Bytes.SlSmallAll
import Derived.Shelf.Bytes.SlEqualAll
import Derived.Ground.SlbtProg
import Derived.Shelf.Bytes.SlCut
import Derived.Shelf.Bytes.Small
import Derived.Shelf.Bytes.IndexByte
import Derived.Test.YtnhpcpmgedjffaaGreatDoorProg
import Derived.Shelf.Strings.SlTrimAscii
import Derived.Outline
import Derived.Lib.AsciiSet
import Derived.Lib.Bytealg
import Derived.Lib.IndexEntry
import Derived.Laws.Externs
import Derived.Laws.RangeAny
import Derived.Laws.RangeString
import Derived.MapKept
import Derived.Carry
import Derived.Lib.AppendIntMem
import Derived.Lib.FrozenHead2
import Derived.Lib.OthersKept
import Derived.Lib.UnsafeStr
import Derived.Lib.Builder
import Derived.RegionTactic
import Derived.Below
import Derived.Deep.Draws
import Derived.Deep.AppendLies
import Derived.Maps.AppendAt
import Derived.OwnWalk
import Derived.Laws.BytesArg
import Derived.Laws.MakeOwn
import Derived.Laws.OwnMore
import Derived.Deep.OwnRows
import Derived.Tactics
import Derived.Lib.ConvBytes
import Derived.Laws.Slices
import Derived.WalkKit
import Derived.KernelRfl
import Derived.RowKit3
import Derived.Deep.LoopGhost
import Derived.Deep.QuietTactic
import Derived.BigQuiet
import Derived.WideLaws
import Derived.Deep.DeepCutAuto
import Derived.Deep.CutBlock
import Derived.Deep.RegionHeld3
import Derived.Laws.Rows
import Derived.Lib.AppendStr
import Derived.ArgAppend
import Derived.Laws.IdiomCopy
import Derived.OrdersHeld
import Derived.Laws.BitsLemmas
import Derived.RowKit
import Derived.Test.YtnhpcpmgedjffaaGreatDoorKHeadWrites0
section
namespace Go.Proofs
open Go.Shelf
def Tryz.lays160_ren : Go.Shelf.Ren := ⟨fun | 160 => 100 | 232 => 142 | 231 => 141 | 227 => 143 | 234 => 145 | 233 => 144 | 236 => 147 | 235 => 146 | 228 => 178 | 271 => 181 | 151 => 180 | 197 => 179 | 120 => 209 | 152 => 208 | 260 => 207 | 137 => 235 | 119 => 236 | 224 => 170 | 225 => 216 | 217 => 219 | 266 => 210 | n => n, fun | 9 => 9 | 4 => 4 | 3 => 3 | 5 => 5 | 117 => 173 | 116 => 172 | 0 => 0 | 124 => 176 | 21 => 21 | 105 => 204 | 46 => 195 | 119 => 210 | 139 => 257 | 138 => 256 | n => n, fun | 3 => 4 | 4 => 5 | n => n⟩
theorem Tryz.lays160 : Go.Proofs.Lays.n160 Tryz.prog Tryz.lays160_ren := {
  mixed := by kernel_rfl
  f119 := Tryz.func236.trans (congrArg some (by kernel_rfl))
  f120 := Tryz.func209.trans (congrArg some (by kernel_rfl))
  f137 := Tryz.func235.trans (congrArg some (by kernel_rfl))
  f151 := Tryz.func180.trans (congrArg some (by kernel_rfl))
  f152 := Tryz.func208.trans (congrArg some (by kernel_rfl))
  f160 := Tryz.func100.trans (congrArg some (by kernel_rfl))
  f197 := Tryz.func179.trans (congrArg some (by kernel_rfl))
  f217 := Tryz.func219.trans (congrArg some (by kernel_rfl))
  f224 := Tryz.func170.trans (congrArg some (by kernel_rfl))
  f225 := Tryz.func216.trans (congrArg some (by kernel_rfl))
  f227 := Tryz.func143.trans (congrArg some (by kernel_rfl))
  f228 := Tryz.func178.trans (congrArg some (by kernel_rfl))
  f231 := Tryz.func141.trans (congrArg some (by kernel_rfl))
  f232 := Tryz.func142.trans (congrArg some (by kernel_rfl))
  f233 := Tryz.func144.trans (congrArg some (by kernel_rfl))
  f234 := Tryz.func145.trans (congrArg some (by kernel_rfl))
  f235 := Tryz.func146.trans (congrArg some (by kernel_rfl))
  f236 := Tryz.func147.trans (congrArg some (by kernel_rfl))
  f260 := Tryz.func207.trans (congrArg some (by kernel_rfl))
  f266 := Tryz.func210.trans (congrArg some (by kernel_rfl))
  f271 := Tryz.func181.trans (congrArg some (by kernel_rfl))
  t0 := Tryz.underlying0
  a0 := Tryz.isAgg0
  z0 := Tryz.sizeOf0
  v0 := Tryz.zeroValue0
  t3 := Tryz.underlying3
  a3 := Tryz.isAgg3
  z3 := Tryz.sizeOf3
  v3 := Tryz.zeroValue3
  t4 := Tryz.underlying4
  a4 := Tryz.isAgg4
  z4 := Tryz.sizeOf4
  v4 := Tryz.zeroValue4
  t5 := Tryz.underlying5
  a5 := Tryz.isAgg5
  z5 := Tryz.sizeOf5
  v5 := Tryz.zeroValue5
  t9 := Tryz.underlying9
  a9 := Tryz.isAgg9
  z9 := Tryz.sizeOf9
  v9 := Tryz.zeroValue9
  t21 := Tryz.underlying21
  a21 := Tryz.isAgg21
  z21 := Tryz.sizeOf21
  v21 := Tryz.zeroValue21
  t46 := Tryz.underlying195
  a46 := Tryz.isAgg195
  z46 := Tryz.sizeOf195
  v46 := Tryz.zeroValue195
  t105 := Tryz.underlying204
  a105 := Tryz.isAgg204
  z105 := Tryz.sizeOf204
  v105 := Tryz.zeroValue204
  t116 := Tryz.underlying172
  a116 := Tryz.isAgg172
  z116 := Tryz.sizeOf172
  t117 := Tryz.underlying173
  a117 := Tryz.isAgg173
  z117 := Tryz.sizeOf173
  v117 := Tryz.zeroValue173
  t119 := Tryz.underlying210
  a119 := Tryz.isAgg210
  z119 := Tryz.sizeOf210
  t124 := Tryz.underlying176
  a124 := Tryz.isAgg176
  z124 := Tryz.sizeOf176
  v124 := Tryz.zeroValue176
  t138 := Tryz.underlying256
  a138 := Tryz.isAgg256
  z138 := Tryz.sizeOf256
  v138 := Tryz.zeroValue256
  t139 := Tryz.underlying257
  a139 := Tryz.isAgg257
  z139 := Tryz.sizeOf257
  v139 := Tryz.zeroValue257
  g3 := by kernel_rfl
  g4 := by kernel_rfl }
def Tryz.laysM171_ren : Go.Shelf.Ren := ⟨fun | 171 => 77 | 243 => 122 | 246 => 165 | 283 => 197 | 284 => 198 | 285 => 199 | 286 => 200 | 129 => 229 | 317 => 228 | 318 => 230 | 319 => 231 | 320 => 232 | 337 => 247 | 338 => 248 | n => n, fun | 3 => 3 | 9 => 9 | 2 => 2 | 4 => 4 | 171 => 218 | 0 => 0 | 53 => 219 | 37 => 22 | 5 => 5 | 173 => 222 | 212 => 248 | 51 => 225 | 20 => 20 | 213 => 249 | 46 => 195 | 232 => 281 | 233 => 282 | n => n, fun | 17 => 3 | 18 => 6 | 19 => 7 | n => n⟩
theorem Tryz.laysM171 : Go.Proofs.LaysM.n171 Tryz.prog Tryz.laysM171_ren := {
  mixed := by kernel_rfl
  f129 := Tryz.func229.trans (congrArg some (by kernel_rfl))
  f171 := Tryz.func77.trans (congrArg some (by kernel_rfl))
  f243 := Tryz.func122.trans (congrArg some (by kernel_rfl))
  f246 := Tryz.func165.trans (congrArg some (by kernel_rfl))
  f283 := Tryz.func197.trans (congrArg some (by kernel_rfl))
  f284 := Tryz.func198.trans (congrArg some (by kernel_rfl))
  f285 := Tryz.func199.trans (congrArg some (by kernel_rfl))
  f286 := Tryz.func200.trans (congrArg some (by kernel_rfl))
  f317 := Tryz.func228.trans (congrArg some (by kernel_rfl))
  f318 := Tryz.func230.trans (congrArg some (by kernel_rfl))
  f319 := Tryz.func231.trans (congrArg some (by kernel_rfl))
  f320 := Tryz.func232.trans (congrArg some (by kernel_rfl))
  f337 := Tryz.func247.trans (congrArg some (by kernel_rfl))
  f338 := Tryz.func248.trans (congrArg some (by kernel_rfl))
  t0 := Tryz.underlying0
  a0 := Tryz.isAgg0
  z0 := Tryz.sizeOf0
  v0 := Tryz.zeroValue0
  t2 := Tryz.underlying2
  a2 := Tryz.isAgg2
  z2 := Tryz.sizeOf2
  v2 := Tryz.zeroValue2
  t3 := Tryz.underlying3
  a3 := Tryz.isAgg3
  z3 := Tryz.sizeOf3
  v3 := Tryz.zeroValue3
  t4 := Tryz.underlying4
  a4 := Tryz.isAgg4
  z4 := Tryz.sizeOf4
  v4 := Tryz.zeroValue4
  t5 := Tryz.underlying5
  a5 := Tryz.isAgg5
  z5 := Tryz.sizeOf5
  v5 := Tryz.zeroValue5
  t9 := Tryz.underlying9
  a9 := Tryz.isAgg9
  z9 := Tryz.sizeOf9
  v9 := Tryz.zeroValue9
  t20 := Tryz.underlying20
  a20 := Tryz.isAgg20
  z20 := Tryz.sizeOf20
  v20 := Tryz.zeroValue20
  t37 := Tryz.underlying22
  a37 := Tryz.isAgg22
  z37 := Tryz.sizeOf22
  v37 := Tryz.zeroValue22
  t46 := Tryz.underlying195
  a46 := Tryz.isAgg195
  z46 := Tryz.sizeOf195
  v46 := Tryz.zeroValue195
  t51 := Tryz.underlying225
  a51 := Tryz.isAgg225
  z51 := Tryz.sizeOf225
  v51 := Tryz.zeroValue225
  t53 := Tryz.underlying219
  a53 := Tryz.isAgg219
  z53 := Tryz.sizeOf219
  v53 := Tryz.zeroValue219
  t171 := Tryz.underlying218
  a171 := Tryz.isAgg218
  z171 := Tryz.sizeOf218
  v171 := Tryz.zeroValue218
  t173 := Tryz.underlying222
  a173 := Tryz.isAgg222
  z173 := Tryz.sizeOf222
  v173 := Tryz.zeroValue222
  t212 := Tryz.underlying248
  a212 := Tryz.isAgg248
  z212 := Tryz.sizeOf248
  v212 := Tryz.zeroValue248
  t213 := Tryz.underlying249
  a213 := Tryz.isAgg249
  z213 := Tryz.sizeOf249
  t232 := Tryz.underlying281
  a232 := Tryz.isAgg281
  z232 := Tryz.sizeOf281
  v232 := Tryz.zeroValue281
  t233 := Tryz.underlying282
  a233 := Tryz.isAgg282
  z233 := Tryz.sizeOf282
  v233 := Tryz.zeroValue282
  g17 := by kernel_rfl
  g18 := by kernel_rfl
  g19 := by kernel_rfl
  i0 := by kernel_rfl
  i2 := by kernel_rfl
  i3 := by kernel_rfl
  i4 := by kernel_rfl
  i5 := by kernel_rfl
  i9 := by kernel_rfl
  i20 := by kernel_rfl
  i37 := by kernel_rfl
  i46 := by kernel_rfl
  i51 := by kernel_rfl
  i53 := by kernel_rfl
  i171 := by kernel_rfl
  i173 := by kernel_rfl
  i212 := by kernel_rfl
  i232 := by kernel_rfl
  i233 := by kernel_rfl
  m17 := by kernel_rfl
  m18 := by kernel_rfl
  m19 := by kernel_rfl }
open Go.RowKit Go.Sort Go.Lib in
theorem Tryz.strconv_Itoa (n : Int) (h0 : -9223372036854775808 ≤ n) (h1 : n ≤ 9223372036854775807) (w : World) (htab : Lib.TabIs Tryz.prog w "internal/strconv.uint64pow10" .u64 Lib.pow10Tab) :
    Calls Tryz.prog 77 #[.int .i64 n] w fun e w' => e = .returned (.string ⟨(Lib.itoa n).toArray⟩) ∧ ∃ k os, w' = grow (w.drewN k) os := Any.strconv_Itoa Tryz.laysM171 n h0 h1 w htab
def Tryz.lays145_ren : Go.Shelf.Ren := ⟨fun | 145 => 112 | 220 => 155 | 219 => 187 | 217 => 219 | 225 => 216 | 224 => 170 | 267 => 220 | 266 => 210 | 314 => 239 | n => n, fun | 9 => 9 | 4 => 4 | 59 => 149 | 3 => 3 | 5 => 5 | 46 => 195 | 146 => 226 | 51 => 225 | n => n, fun | 1 => 0 | n => n⟩
theorem Tryz.lays145 : Go.Proofs.Lays.n145 Tryz.prog Tryz.lays145_ren := {
  mixed := by kernel_rfl
  f145 := Tryz.func112.trans (congrArg some (by kernel_rfl))
  f217 := Tryz.func219.trans (congrArg some (by kernel_rfl))
  f219 := Tryz.func187.trans (congrArg some (by kernel_rfl))
  f220 := Tryz.func155.trans (congrArg some (by kernel_rfl))
  f224 := Tryz.func170.trans (congrArg some (by kernel_rfl))
  f225 := Tryz.func216.trans (congrArg some (by kernel_rfl))
  f266 := Tryz.func210.trans (congrArg some (by kernel_rfl))
  f267 := Tryz.func220.trans (congrArg some (by kernel_rfl))
  f314 := Tryz.func239.trans (congrArg some (by kernel_rfl))
  t3 := Tryz.underlying3
  a3 := Tryz.isAgg3
  z3 := Tryz.sizeOf3
  v3 := Tryz.zeroValue3
  t4 := Tryz.underlying4
  a4 := Tryz.isAgg4
  z4 := Tryz.sizeOf4
  v4 := Tryz.zeroValue4
  t5 := Tryz.underlying5
  a5 := Tryz.isAgg5
  z5 := Tryz.sizeOf5
  v5 := Tryz.zeroValue5
  t9 := Tryz.underlying9
  a9 := Tryz.isAgg9
  z9 := Tryz.sizeOf9
  v9 := Tryz.zeroValue9
  t46 := Tryz.underlying195
  a46 := Tryz.isAgg195
  z46 := Tryz.sizeOf195
  v46 := Tryz.zeroValue195
  t51 := Tryz.underlying225
  a51 := Tryz.isAgg225
  z51 := Tryz.sizeOf225
  v51 := Tryz.zeroValue225
  t59 := Tryz.underlying149
  a59 := Tryz.isAgg149
  z59 := Tryz.sizeOf149
  v59 := Tryz.zeroValue149
  t146 := Tryz.underlying226
  a146 := Tryz.isAgg226
  z146 := Tryz.sizeOf226
  v146 := Tryz.zeroValue226
  g1 := by kernel_rfl }
open Go.RowKit Go.Lib in
theorem Tryz.strings_Cut (s sep : ByteArray) (m : Int) (w : World) (hs : s.size < 4294967281) (hm : w.cell? ⟨0, 0, none⟩ = some (.int .i64 m)) :
    Calls Tryz.prog 112 #[.string s, .string sep] w fun e w' => e = .returned (.tuple #[.string ⟨(Lib.cut s.data.toList sep.data.toList).1.toArray⟩, .string ⟨(Lib.cut s.data.toList sep.data.toList).2.1.toArray⟩, .bool (Lib.cut s.data.toList sep.data.toList).2.2]) ∧ ∃ n, w' = w.drewN n := Any.strings_Cut Tryz.lays145 s sep m w hs hm
def Tryz.lays146_ren : Go.Shelf.Ren := ⟨fun | 146 => 108 | 221 => 152 | 268 => 185 | 138 => 186 | 143 => 183 | 195 => 217 | 197 => 179 | 218 => 218 | 219 => 187 | 260 => 207 | 217 => 219 | 225 => 216 | 224 => 170 | 267 => 220 | 266 => 210 | 314 => 239 | n => n, fun | 9 => 9 | 31 => 132 | 3 => 3 | 4 => 4 | 0 => 0 | 105 => 204 | 21 => 21 | 5 => 5 | 46 => 195 | 119 => 210 | 139 => 257 | 138 => 256 | 146 => 226 | 51 => 225 | n => n, fun | 1 => 0 | 3 => 4 | 4 => 5 | n => n⟩
theorem Tryz.lays146 : Go.Proofs.Lays.n146 Tryz.prog Tryz.lays146_ren := {
  mixed := by kernel_rfl
  f138 := Tryz.func186.trans (congrArg some (by kernel_rfl))
  f143 := Tryz.func183.trans (congrArg some (by kernel_rfl))
  f146 := Tryz.func108.trans (congrArg some (by kernel_rfl))
  f195 := Tryz.func217.trans (congrArg some (by kernel_rfl))
  f197 := Tryz.func179.trans (congrArg some (by kernel_rfl))
  f217 := Tryz.func219.trans (congrArg some (by kernel_rfl))
  f218 := Tryz.func218.trans (congrArg some (by kernel_rfl))
  f219 := Tryz.func187.trans (congrArg some (by kernel_rfl))
  f221 := Tryz.func152.trans (congrArg some (by kernel_rfl))
  f224 := Tryz.func170.trans (congrArg some (by kernel_rfl))
  f225 := Tryz.func216.trans (congrArg some (by kernel_rfl))
  f260 := Tryz.func207.trans (congrArg some (by kernel_rfl))
  f266 := Tryz.func210.trans (congrArg some (by kernel_rfl))
  f267 := Tryz.func220.trans (congrArg some (by kernel_rfl))
  f268 := Tryz.func185.trans (congrArg some (by kernel_rfl))
  f314 := Tryz.func239.trans (congrArg some (by kernel_rfl))
  t0 := Tryz.underlying0
  a0 := Tryz.isAgg0
  z0 := Tryz.sizeOf0
  v0 := Tryz.zeroValue0
  t3 := Tryz.underlying3
  a3 := Tryz.isAgg3
  z3 := Tryz.sizeOf3
  v3 := Tryz.zeroValue3
  t4 := Tryz.underlying4
  a4 := Tryz.isAgg4
  z4 := Tryz.sizeOf4
  v4 := Tryz.zeroValue4
  t5 := Tryz.underlying5
  a5 := Tryz.isAgg5
  z5 := Tryz.sizeOf5
  v5 := Tryz.zeroValue5
  t9 := Tryz.underlying9
  a9 := Tryz.isAgg9
  z9 := Tryz.sizeOf9
  v9 := Tryz.zeroValue9
  t21 := Tryz.underlying21
  a21 := Tryz.isAgg21
  z21 := Tryz.sizeOf21
  v21 := Tryz.zeroValue21
  t31 := Tryz.underlying132
  a31 := Tryz.isAgg132
  z31 := Tryz.sizeOf132
  v31 := Tryz.zeroValue132
  t46 := Tryz.underlying195
  a46 := Tryz.isAgg195
  z46 := Tryz.sizeOf195
  v46 := Tryz.zeroValue195
  t51 := Tryz.underlying225
  a51 := Tryz.isAgg225
  z51 := Tryz.sizeOf225
  v51 := Tryz.zeroValue225
  t105 := Tryz.underlying204
  a105 := Tryz.isAgg204
  z105 := Tryz.sizeOf204
  v105 := Tryz.zeroValue204
  t119 := Tryz.underlying210
  a119 := Tryz.isAgg210
  z119 := Tryz.sizeOf210
  t138 := Tryz.underlying256
  a138 := Tryz.isAgg256
  z138 := Tryz.sizeOf256
  v138 := Tryz.zeroValue256
  t139 := Tryz.underlying257
  a139 := Tryz.isAgg257
  z139 := Tryz.sizeOf257
  v139 := Tryz.zeroValue257
  t146 := Tryz.underlying226
  a146 := Tryz.isAgg226
  z146 := Tryz.sizeOf226
  v146 := Tryz.zeroValue226
  g1 := by kernel_rfl
  g3 := by kernel_rfl
  g4 := by kernel_rfl }
open Go.RowKit Go.Lib in
theorem Tryz.strings_Split (s sep : ByteArray) (m : Int) (w : World) (hs : s.size < 4294967281) (hm : w.cell? ⟨0, 0, none⟩ = some (.int .i64 m)) (h1 : 1 ≤ sep.size) :
    Calls Tryz.prog 108 #[.string s, .string sep] w fun e w' =>
      e = .returned (.slice (some ⟨w.heap.size, 0, none⟩) (Lib.countB s sep + 1) (Lib.countB s sep + 1)) ∧ w' = w.alloc (.cells ((Lib.splitB sep 0 (Lib.countB s sep) s).map Value.string).toArray 9) := Any.strings_Split Tryz.lays146 (by kernel_rfl) s sep m w hs hm h1
def Tryz.lays185_ren : Go.Shelf.Ren := ⟨fun | 185 => 132 | 187 => 168 | 115 => 135 | 253 => 169 | 224 => 170 | 254 => 171 | 255 => 202 | 291 => 203 | n => n, fun | 37 => 22 | 3 => 3 | 4 => 4 | 0 => 0 | 5 => 5 | 46 => 195 | 9 => 9 | 146 => 226 | 51 => 225 | n => n, fun | 1 => 0 | n => n⟩
theorem Tryz.lays185 : Go.Proofs.Lays.n185 Tryz.prog Tryz.lays185_ren := {
  mixed := by kernel_rfl
  f115 := Tryz.func135.trans (congrArg some (by kernel_rfl))
  f185 := Tryz.func132.trans (congrArg some (by kernel_rfl))
  f187 := Tryz.func168.trans (congrArg some (by kernel_rfl))
  f224 := Tryz.func170.trans (congrArg some (by kernel_rfl))
  f253 := Tryz.func169.trans (congrArg some (by kernel_rfl))
  f254 := Tryz.func171.trans (congrArg some (by kernel_rfl))
  f255 := Tryz.func202.trans (congrArg some (by kernel_rfl))
  f291 := Tryz.func203.trans (congrArg some (by kernel_rfl))
  t0 := Tryz.underlying0
  a0 := Tryz.isAgg0
  z0 := Tryz.sizeOf0
  v0 := Tryz.zeroValue0
  t3 := Tryz.underlying3
  a3 := Tryz.isAgg3
  z3 := Tryz.sizeOf3
  v3 := Tryz.zeroValue3
  t4 := Tryz.underlying4
  a4 := Tryz.isAgg4
  z4 := Tryz.sizeOf4
  v4 := Tryz.zeroValue4
  t5 := Tryz.underlying5
  a5 := Tryz.isAgg5
  z5 := Tryz.sizeOf5
  v5 := Tryz.zeroValue5
  t9 := Tryz.underlying9
  a9 := Tryz.isAgg9
  z9 := Tryz.sizeOf9
  v9 := Tryz.zeroValue9
  t37 := Tryz.underlying22
  a37 := Tryz.isAgg22
  z37 := Tryz.sizeOf22
  v37 := Tryz.zeroValue22
  t46 := Tryz.underlying195
  a46 := Tryz.isAgg195
  z46 := Tryz.sizeOf195
  v46 := Tryz.zeroValue195
  t51 := Tryz.underlying225
  a51 := Tryz.isAgg225
  z51 := Tryz.sizeOf225
  v51 := Tryz.zeroValue225
  t146 := Tryz.underlying226
  a146 := Tryz.isAgg226
  z146 := Tryz.sizeOf226
  v146 := Tryz.zeroValue226
  g1 := by kernel_rfl }
open Go.RowKit Go.Lib in
theorem Tryz.bytes_Index_longer (p q : Option Addr) (n c m d : Nat) (w : World) (h2 : 2 ≤ m) (hnm : n < m) (hm : m ≤ 9223372036854775807) :
    Calls Tryz.prog 132 #[.slice p n c, .slice q m d] w fun e w' => e = .returned (.int .i64 (-1)) ∧ w' = w := Any.bytes_Index_longer Tryz.lays185 p q n c m d w h2 hnm hm
open Go.Proofs Go.RowKit Go.Lib in
theorem Tryz.bytes_Index_at (a1 a2 : Addr) (n c1 k c2 : Nat) (xs ys : List Int) (m : Int) (w : World) (hx : xs.length = n) (hy : ys.length = k) (hr1 : ∀ x ∈ xs, 0 ≤ x ∧ x < 256) (hr2 : ∀ y ∈ ys, 0 ≤ y ∧ y < 256) (hc1 : ∀ i, i < n → w.cell? (a1.add i) = some (.int .u8 (xs.getD i 0))) (hc2 : ∀ i, i < k → w.cell? (a2.add i) = some (.int .u8 (ys.getD i 0))) (hcap : n ≤ c1) (hs : n < 4294967281) (hk : k ≤ 9223372036854775807) (hm : w.cell? ⟨0, 0, none⟩ = some (.int .i64 m)) :
    Calls Tryz.prog 132 #[.slice (some a1) n c1, .slice (some a2) k c2] w fun e w' => e = .returned (.int .i64 (Lib.index (Lib.bytesOf xs) (Lib.bytesOf ys))) ∧ ∃ q, w' = w.drewN q := Any.bytes_Index_at Tryz.lays185 a1 a2 n c1 k c2 xs ys m w hx hy hr1 hr2 hc1 hc2 hcap hs hk hm
def Tryz.laysSlT4_ren : Go.Shelf.Ren := ⟨fun | 4 => 150 | 5 => 132 | 6 => 168 | 7 => 135 | 8 => 169 | 9 => 170 | 10 => 171 | 11 => 202 | 12 => 203 | n => n, fun | 22 => 22 | 4 => 4 | 3 => 3 | 0 => 0 | 5 => 5 | 29 => 195 | 9 => 9 | 31 => 226 | 30 => 225 | n => n, fun | 0 => 0 | n => n⟩
theorem Tryz.laysSlT4 : Go.Proofs.SlLaysT.n4 Tryz.prog Tryz.laysSlT4_ren := {
  mixed := by kernel_rfl
  f4 := Tryz.func150.trans (congrArg some (by kernel_rfl))
  f5 := Tryz.func132.trans (congrArg some (by kernel_rfl))
  f6 := Tryz.func168.trans (congrArg some (by kernel_rfl))
  f7 := Tryz.func135.trans (congrArg some (by kernel_rfl))
  f8 := Tryz.func169.trans (congrArg some (by kernel_rfl))
  f9 := Tryz.func170.trans (congrArg some (by kernel_rfl))
  f10 := Tryz.func171.trans (congrArg some (by kernel_rfl))
  f11 := Tryz.func202.trans (congrArg some (by kernel_rfl))
  f12 := Tryz.func203.trans (congrArg some (by kernel_rfl))
  t0 := Tryz.underlying0
  a0 := Tryz.isAgg0
  z0 := Tryz.sizeOf0
  v0 := Tryz.zeroValue0
  t3 := Tryz.underlying3
  a3 := Tryz.isAgg3
  z3 := Tryz.sizeOf3
  v3 := Tryz.zeroValue3
  t4 := Tryz.underlying4
  a4 := Tryz.isAgg4
  z4 := Tryz.sizeOf4
  v4 := Tryz.zeroValue4
  t5 := Tryz.underlying5
  a5 := Tryz.isAgg5
  z5 := Tryz.sizeOf5
  v5 := Tryz.zeroValue5
  t9 := Tryz.underlying9
  a9 := Tryz.isAgg9
  z9 := Tryz.sizeOf9
  v9 := Tryz.zeroValue9
  t22 := Tryz.underlying22
  a22 := Tryz.isAgg22
  z22 := Tryz.sizeOf22
  v22 := Tryz.zeroValue22
  t29 := Tryz.underlying195
  a29 := Tryz.isAgg195
  z29 := Tryz.sizeOf195
  v29 := Tryz.zeroValue195
  t30 := Tryz.underlying225
  a30 := Tryz.isAgg225
  z30 := Tryz.sizeOf225
  v30 := Tryz.zeroValue225
  t31 := Tryz.underlying226
  a31 := Tryz.isAgg226
  z31 := Tryz.sizeOf226
  v31 := Tryz.zeroValue226
  g0 := by kernel_rfl }
theorem Tryz.bytes_Cut_of (p1 p2 : Option Addr) (n c1 k c2 : Nat) (i : Int) (w : World) (hcap : n ≤ c1) (hlo : -1 ≤ i) (hroom : 0 ≤ i → i + k ≤ n) (hn : n ≤ 4611686018427387904) (hidx : Calls Tryz.prog 132 #[.slice p1 n c1, .slice p2 k c2] w fun e w' => e = .returned (.int .i64 i) ∧ ∃ q, w' = w.drewN q) :
    Calls Tryz.prog 150 #[.slice p1 n c1, .slice p2 k c2] w fun e w' => e = .returned (Lib.cutV p1 n c1 k i) ∧ ∃ q, w' = w.drewN q := Any.bytes_Cut_of Tryz.laysSlT4 p1 p2 n c1 k c2 i w hcap hlo hroom hn hidx
def Tryz.laysV11_ren : Go.Shelf.Ren := ⟨fun | 11 => 213 | n => n, fun | 9 => 9 | 27 => 236 | 4 => 4 | 0 => 0 | 3 => 3 | 5 => 5 | n => n, fun | n => n⟩
theorem Tryz.laysV11 : Go.Proofs.SlLaysV.n11 Tryz.prog Tryz.laysV11_ren := {
  mixed := by kernel_rfl
  f11 := Tryz.func213.trans (congrArg some (by kernel_rfl))
  t0 := Tryz.underlying0
  a0 := Tryz.isAgg0
  z0 := Tryz.sizeOf0
  v0 := Tryz.zeroValue0
  t3 := Tryz.underlying3
  a3 := Tryz.isAgg3
  z3 := Tryz.sizeOf3
  v3 := Tryz.zeroValue3
  t4 := Tryz.underlying4
  a4 := Tryz.isAgg4
  z4 := Tryz.sizeOf4
  v4 := Tryz.zeroValue4
  t5 := Tryz.underlying5
  a5 := Tryz.isAgg5
  z5 := Tryz.sizeOf5
  v5 := Tryz.zeroValue5
  t9 := Tryz.underlying9
  a9 := Tryz.isAgg9
  z9 := Tryz.sizeOf9
  v9 := Tryz.zeroValue9
  t27 := Tryz.underlying236
  a27 := Tryz.isAgg236
  z27 := Tryz.sizeOf236 }
def Tryz.laysV16_ren : Go.Shelf.Ren := ⟨fun | 16 => 214 | n => n, fun | 31 => 260 | 5 => 5 | 4 => 4 | 0 => 0 | 27 => 236 | n => n, fun | n => n⟩
theorem Tryz.laysV16 : Go.Proofs.SlLaysV.n16 Tryz.prog Tryz.laysV16_ren := {
  mixed := by kernel_rfl
  f16 := Tryz.func214.trans (congrArg some (by kernel_rfl))
  t0 := Tryz.underlying0
  a0 := Tryz.isAgg0
  z0 := Tryz.sizeOf0
  v0 := Tryz.zeroValue0
  t4 := Tryz.underlying4
  a4 := Tryz.isAgg4
  z4 := Tryz.sizeOf4
  v4 := Tryz.zeroValue4
  t5 := Tryz.underlying5
  a5 := Tryz.isAgg5
  z5 := Tryz.sizeOf5
  v5 := Tryz.zeroValue5
  t27 := Tryz.underlying236
  a27 := Tryz.isAgg236
  z27 := Tryz.sizeOf236
  t31 := Tryz.underlying260
  a31 := Tryz.isAgg260
  z31 := Tryz.sizeOf260
  v31 := Tryz.zeroValue260 }
def Tryz.lays7n32_ren : Go.Shelf.Ren := ⟨fun | 32 => 215 | 49 => 238 | n => n, fun | 30 => 22 | 21 => 21 | 3 => 3 | 0 => 0 | 5 => 5 | 4 => 4 | 33 => 204 | 66 => 210 | 25 => 195 | 69 => 257 | 68 => 256 | n => n, fun | 2 => 4 | 3 => 5 | n => n⟩
theorem Tryz.lays7n32 : Go.Proofs.Lays7.n32 Tryz.prog Tryz.lays7n32_ren := {
  mixed := by kernel_rfl
  f32 := Tryz.func215.trans (congrArg some (by kernel_rfl))
  f49 := Tryz.func238.trans (congrArg some (by kernel_rfl))
  t0 := Tryz.underlying0
  a0 := Tryz.isAgg0
  z0 := Tryz.sizeOf0
  v0 := Tryz.zeroValue0
  i0 := by kernel_rfl
  t3 := Tryz.underlying3
  a3 := Tryz.isAgg3
  z3 := Tryz.sizeOf3
  v3 := Tryz.zeroValue3
  i3 := by kernel_rfl
  t4 := Tryz.underlying4
  a4 := Tryz.isAgg4
  z4 := Tryz.sizeOf4
  v4 := Tryz.zeroValue4
  i4 := by kernel_rfl
  t5 := Tryz.underlying5
  a5 := Tryz.isAgg5
  z5 := Tryz.sizeOf5
  v5 := Tryz.zeroValue5
  i5 := by kernel_rfl
  t21 := Tryz.underlying21
  a21 := Tryz.isAgg21
  z21 := Tryz.sizeOf21
  v21 := Tryz.zeroValue21
  i21 := by kernel_rfl
  t25 := Tryz.underlying195
  a25 := Tryz.isAgg195
  z25 := Tryz.sizeOf195
  v25 := Tryz.zeroValue195
  i25 := by kernel_rfl
  t30 := Tryz.underlying22
  a30 := Tryz.isAgg22
  z30 := Tryz.sizeOf22
  v30 := Tryz.zeroValue22
  i30 := by kernel_rfl
  t33 := Tryz.underlying204
  a33 := Tryz.isAgg204
  z33 := Tryz.sizeOf204
  v33 := Tryz.zeroValue204
  i33 := by kernel_rfl
  t66 := Tryz.underlying210
  a66 := Tryz.isAgg210
  z66 := Tryz.sizeOf210
  t68 := Tryz.underlying256
  a68 := Tryz.isAgg256
  z68 := Tryz.sizeOf256
  v68 := Tryz.zeroValue256
  i68 := by kernel_rfl
  t69 := Tryz.underlying257
  a69 := Tryz.isAgg257
  z69 := Tryz.sizeOf257
  v69 := Tryz.zeroValue257
  i69 := by kernel_rfl
  g2 := by kernel_rfl
  g3 := by kernel_rfl }
end Go.Proofs
end
section
namespace Go.Proofs.YtnhpcpmgedjffaaGreatDoorX
open Go.RowKit Go.Proofs.YtnhpcpmgedjffaaGreatDoorW.PrintWords Go.Proofs.YtnhpcpmgedjffaaGreatDoorW.PrintLast Go.Proofs.YtnhpcpmgedjffaaGreatDoorW.PrintMore
set_option linter.unusedVariables false
set_option linter.unusedSimpArgs false

def xCut (s sep : ByteArray) : ByteArray × ByteArray × Bool := (⟨(Lib.cut s.data.toList sep.data.toList).1.toArray⟩, ⟨(Lib.cut s.data.toList sep.data.toList).2.1.toArray⟩, (Lib.cut s.data.toList sep.data.toList).2.2)
theorem strings_Cut_x (s sep : ByteArray) (w : World) (hG : GG 1 w) (hs : s.size < 4294967281) :
    Calls Tryz.prog 112 #[.string s, .string sep] w fun e w' => e = .returned (.tuple #[.string (xCut s sep).1, .string (xCut s sep).2.1, .bool (xCut s sep).2.2]) ∧ Drawn0 w w' := by
  obtain ⟨m, hm⟩ := hG.1 (by decide)
  refine (Tryz.strings_Cut s sep m w hs hm).mono ?_
  rintro e w' ⟨he, n, hw⟩
  exact ⟨he, ⟨⟨n, hw⟩⟩⟩

theorem R_new {α : Type} {enc : α → Value} {h1 : ∀ x, (enc x).oneCell' = true} (w : World) (e : Nat) (xs : List α) {ok : Nat → Prop} (hok : ok w.heap.size) (hm : xs.length ≤ maxLen) :
    Kd.R (Kd.scalar enc h1) e (w.alloc (.cells (xs.map enc).toArray e)) w.heap.size ok (.slice (some ⟨w.heap.size, 0, none⟩) xs.length xs.length) xs := by
  refine ⟨fun k hk => ?_, encs enc xs, ?_, Kd.reps_scalar xs⟩
  · have : w.heap.size = k := by simpa [Value.ownBlock] using hk
    subst this
    exact hok
  · have h2 := World.ownsRow_lit (base := w.heap.size) (e := e) (size := 1) w (xs.map enc).toArray xs.length (Nat.le_refl _) hm (by simp)
    exact (show (w.alloc (.cells (xs.map enc).toArray e)).ownsRow w.heap.size e 1 _ xs.length (encs enc xs) from by simpa [encs] using h2)
def xSplit (s sep : ByteArray) : List ByteArray := Lib.splitB sep 0 (Lib.countB s sep) s
theorem xSplit_length (s sep : ByteArray) (h1 : 1 ≤ sep.size) : (xSplit s sep).length = Lib.countB s sep + 1 := Lib.splitB_all sep h1 0 _ s rfl
theorem strings_Split_x (s sep : ByteArray) (w : World) (hG : GG 1 w) (hs : s.size < 4294967281) (h1 : 1 ≤ sep.size) (hl : (xSplit s sep).length ≤ 4294967295) :
    Calls Tryz.prog 108 #[.string s, .string sep] w fun e w' => ∃ v0_ : Value, e = .returned v0_ ∧ Kd.R Kd.string 9 w' w.heap.size (fun _ => True) v0_ (xSplit s sep) ∧ Below w.heap.size w w' := by
  obtain ⟨m, hm⟩ := hG.1 (by decide)
  refine (Tryz.strings_Split s sep m w hs hm h1).mono ?_
  rintro e w' ⟨he, hw⟩
  rw [← xSplit_length s sep h1] at he
  subst hw
  exact ⟨_, he, R_new w _ (xSplit s sep) trivial (by unfold maxLen; omega), below_alloc (Below.refl _ _) _⟩

def xTrim (s cs : ByteArray) : ByteArray := ⟨(Lib.trimS s.data.toList cs.data.toList).toArray⟩
def isAscii (cs : ByteArray) : Bool := cs.data.toList.all (fun b => decide (b.toNat < 128))
theorem strings_Trim_x (s cs : ByteArray) (w : World) (hs : s.size ≤ 9223372036854775807) (hcs : cs.size < 4294967281) (ha : isAscii cs = true) :
    Calls Tryz.prog 100 #[.string s, .string cs] w fun e w' => e = .returned (.string (xTrim s cs)) ∧ Below w.heap.size w w' := by
  refine (Any.strings_Trim_laid Tryz.lays160 (by kernel_rfl) s cs w hs hcs fun j b hj => ?_).mono ?_
  · have := List.all_eq_true.1 ha b (List.mem_of_getElem? hj)
    simpa using this
  · rintro e w' ⟨he, hb⟩
    exact ⟨he, hb⟩

def isBytes (l : List Int) : Bool := l.all fun x => decide (0 ≤ x) && decide (x < 256)
theorem isBytes_mem {l : List Int} (h : isBytes l = true) : ∀ x ∈ l, 0 ≤ x ∧ x < 256 := fun x hx => by
  have := List.all_eq_true.1 h x hx
  simpa using this
def xIndex (l sep : List Int) : Int := Lib.index (Lib.bytesOf l) (Lib.bytesOf sep)
theorem C_cells {w : World} {A : Option Addr} {l : List Int} (h : Kd.C (Kd.int .u8) w A l.length l) (h0 : 0 < l.length) : ∃ a, A = some a ∧ ∀ i, i < l.length → w.cell? (a.add i) = some (.int .u8 (l.getD i 0)) := by
  obtain ⟨ad, ha, hc⟩ := (Kd.reads_of_C (d := (0 : Int)) h).2.2 h0
  refine ⟨ad, ha, fun i hi => ?_⟩
  exact hc i hi
theorem bytes_Index_x (A0 : Option Addr) (c0 : Nat) (l0 : List Int) (A1 : Option Addr) (c1 : Nat) (l1 : List Int) (w : World) (hr0 : Kd.C (Kd.int .u8) w A0 l0.length l0) (hc0 : l0.length ≤ c0) (hr1 : Kd.C (Kd.int .u8) w A1 l1.length l1) (hc1 : l1.length ≤ c1) (hG : GG 1 w)
    (h2 : 2 ≤ l1.length) (h3 : l1.length ≤ 9223372036854775807) (hb0 : isBytes l0 = true) (hb1 : isBytes l1 = true) (hs : l0.length < 4294967281) :
    Calls Tryz.prog 132 #[.slice A0 l0.length c0, .slice A1 l1.length c1] w fun e w' => e = .returned (.int .i64 (xIndex l0 l1)) ∧ ∃ q, w' = w.drewN q := by
  obtain ⟨m, hm⟩ := hG.1 (by decide)
  by_cases hlt : l0.length < l1.length
  · refine (Any.bytes_Index_longer Tryz.lays185 A0 A1 l0.length c0 l1.length c1 w h2 hlt h3).mono ?_
    rintro e w' ⟨he, hw⟩
    refine ⟨?_, 0, hw⟩
    rw [he]
    have : xIndex l0 l1 = -1 := by
      unfold xIndex
      have e0 : (Lib.bytesOf l0).length = l0.length := by simp [Lib.bytesOf]
      have e1 : (Lib.bytesOf l1).length = l1.length := by simp [Lib.bytesOf]
      exact Lib.index_long (by omega) (fun e => by rw [e] at e1; omega)
    rw [this]
  · obtain ⟨a0, e0, hx0⟩ := C_cells hr0 (by omega)
    obtain ⟨a1, e1, hx1⟩ := C_cells hr1 (by omega)
    subst e0 e1
    exact Any.bytes_Index_at Tryz.lays185 a0 a1 l0.length c0 l1.length c1 l0 l1 m w rfl rfl (isBytes_mem hb0) (isBytes_mem hb1) hx0 hx1 hc0 hs h3 hm
def xCutB (l sep : List Int) : List Int × List Int × Bool :=
  if 0 ≤ xIndex l sep then (l.take (xIndex l sep).toNat, l.drop ((xIndex l sep).toNat + sep.length), true) else (l, [], false)
theorem bytes_Cut_x (P0_ : Nat → Prop) (A0 : Option Addr) (c0 : Nat) (l0 : List Int) (A1 : Option Addr) (c1 : Nat) (l1 : List Int) (w : World)
    (hs0 : Kd.V (Kd.int .u8) 5 w w.heap.size (fun k_ => P0_ k_) (.slice A0 l0.length c0) l0) (hr1 : Kd.C (Kd.int .u8) w A1 l1.length l1) (hc1 : l1.length ≤ c1) (hG : GG 1 w)
    (h2 : 2 ≤ l1.length) (h3 : l1.length ≤ 9223372036854775807) (hb0 : isBytes l0 = true) (hb1 : isBytes l1 = true) (hs : l0.length < 4294967281) :
    Calls Tryz.prog 150 #[.slice A0 l0.length c0, .slice A1 l1.length c1] w fun e w' => ∃ v0_ v1_ : Value, e = .returned (.tuple #[v0_, v1_, .bool (xCutB l0 l1).2.2]) ∧ Kd.V (Kd.int .u8) 5 w' w.heap.size (fun k_ => (P0_ k_ ∨ w.heap.size ≤ k_)) v0_ (xCutB l0 l1).1 ∧ Kd.V (Kd.int .u8) 5 w' w.heap.size (fun k_ => (P0_ k_ ∨ w.heap.size ≤ k_)) v1_ (xCutB l0 l1).2.1 ∧ Below w.heap.size w w' := by
  have hV := Kd.V_reads' hs0
  have hF := (Kd.V_at hs0).2.2
  have hle := Lib.index_ge (Lib.bytesOf l0) (Lib.bytesOf l1)
  have e0 : (Lib.bytesOf l0).length = l0.length := by simp [Lib.bytesOf]
  have e1 : (Lib.bytesOf l1).length = l1.length := by simp [Lib.bytesOf]
  have hroom := Lib.index_room (Lib.bytesOf l0) (Lib.bytesOf l1)
  rw [e0, e1] at hroom
  refine (Any.bytes_Cut_of Tryz.laysSlT4 A0 A1 l0.length c0 l1.length c1 (xIndex l0 l1) w hV.2.1 hle hroom (by omega) (bytes_Index_x A0 c0 l0 A1 c1 l1 w hV.2.2 hV.2.1 hr1 hc1 hG h2 h3 hb0 hb1 hs)).mono ?_
  rintro e w' ⟨he, q, rfl⟩
  unfold Lib.cutV at he
  unfold xCutB
  by_cases h0 : 0 ≤ xIndex l0 l1
  · rw [if_pos h0] at he
    rw [if_pos h0]
    have hr := hroom h0
    have hi : (xIndex l0 l1).toNat + l1.length ≤ l0.length := by have : xIndex l0 l1 + l1.length ≤ l0.length := hr; omega
    refine ⟨_, _, he, ?_, ?_, pw_below_drewN (Below.refl _ _) q⟩
    · have hl : (l0.take (xIndex l0 l1).toNat).length = (xIndex l0 l1).toNat := by rw [List.length_take]; omega
      have := Kd.V_mk (e := 5) (base := w.heap.size) (c := c0) (by rw [hl]; omega) (Kd.F_mono (ok' := fun k_ => (P0_ k_ ∨ w.heap.size ≤ k_)) (Kd.F_take hF (m := (xIndex l0 l1).toNat) (by omega)) (fun _ hk => .inl hk))
      rw [hl] at this
      exact Kd.V_drewN this q
    · have hl : (l0.drop ((xIndex l0 l1).toNat + l1.length)).length = l0.length - ((xIndex l0 l1).toNat + l1.length) := List.length_drop
      have := Kd.V_mk (e := 5) (base := w.heap.size) (c := c0 - ((xIndex l0 l1).toNat + l1.length)) (by rw [hl]; have := hV.2.1; omega) (Kd.F_mono (ok' := fun k_ => (P0_ k_ ∨ w.heap.size ≤ k_)) (Kd.F_cut hF (m := (xIndex l0 l1).toNat + l1.length) (c := c0) hi hV.2.1) (fun _ hk => .inl hk))
      rw [hl] at this
      have hm : (Kd.int .u8).sz = 1 := rfl
      rw [hm, Nat.mul_one] at this
      exact Kd.V_drewN this q
  · rw [if_neg h0] at he
    rw [if_neg h0]
    exact ⟨_, _, he, Kd.V_drewN (Kd.V_mono hs0 (fun _ hk => .inl hk)) q, Kd.V_nil _ _ _ _ _, pw_below_drewN (Below.refl _ _) q⟩
end Go.Proofs.YtnhpcpmgedjffaaGreatDoorX
end
section
namespace Go.Proofs.YtnhpcpmgedjffaaGreatDoorX
open Go.RowKit Go.Proofs.YtnhpcpmgedjffaaGreatDoorW.PrintWords Go.Proofs.YtnhpcpmgedjffaaGreatDoorW.PrintLast Go.Proofs.YtnhpcpmgedjffaaGreatDoorW.PrintMore
set_option linter.unusedVariables false
set_option linter.unusedSimpArgs false

def lowC (c : Int) : Int := if 65 ≤ c then (if c ≤ 90 then c + 32 else c) else c
def xLower (s : ByteArray) : ByteArray := strOfNums ((bytesOf s).map lowC)
theorem rd_at (l : List Int) (k : Nat) (h : k < l.length) : rd l (k : Int) = l[k] := by simp [rd, List.getD_eq_getElem?_getD, List.getElem?_eq_getElem h]
def mapTo (f : Int → Int) (l : List Int) (k : Nat) : List Int := (l.take k).map f ++ l.drop k
theorem mapTo_length (f : Int → Int) (l : List Int) (k : Nat) : (mapTo f l k).length = l.length := by simp [mapTo]; omega
theorem mapTo_zero (f : Int → Int) (l : List Int) : mapTo f l 0 = l := by simp [mapTo]
theorem mapTo_all (f : Int → Int) (l : List Int) : mapTo f l l.length = l.map f := by simp [mapTo]
theorem mapTo_set (f : Int → Int) (l : List Int) (k : Nat) (h : k < l.length) : (mapTo f l k).set k (f (l[k])) = mapTo f l (k + 1) := by
  apply List.ext_getElem?
  intro i
  have hmin : min k l.length = k := by omega
  have hmin1 : min (k + 1) l.length = k + 1 := by omega
  simp only [mapTo, List.getElem?_set, List.getElem?_append, List.length_map, List.length_take, hmin, hmin1, List.getElem?_map, List.getElem?_take, List.getElem?_drop, List.length_append, List.length_drop]
  by_cases e : k = i
  · subst e
    rw [if_pos rfl, if_pos (by omega), if_pos (by omega), if_pos (by omega), List.getElem?_eq_getElem h]
    rfl
  · rw [if_neg e]
    by_cases h1 : i < k
    · rw [if_pos h1, if_pos h1, if_pos (by omega), if_pos (by omega)]
    · rw [if_neg h1, if_neg (by omega), show k + (i - k) = i from by omega, show k + 1 + (i - (k + 1)) = i from by omega]
theorem mapTo_getD (f : Int → Int) (l : List Int) (k : Nat) (h : k < l.length) : (mapTo f l k).getD k 0 = l[k] := by
  have hmin : min k l.length = k := by omega
  simp only [mapTo, List.getD_eq_getElem?_getD, List.getElem?_append, List.length_map, List.length_take, hmin, Nat.lt_irrefl, if_false, Nat.sub_self, List.getElem?_drop, Nat.add_zero, List.getElem?_eq_getElem h, Option.getD_some]
theorem mapTo_same (f : Int → Int) (l : List Int) (k : Nat) (h : k < l.length) (hf : f (l[k]) = l[k]) : mapTo f l (k + 1) = mapTo f l k := by
  rw [← mapTo_set f l k h, hf]
  have h2 := mapTo_getD f l k h
  rw [List.getD_eq_getElem?_getD, List.getElem?_eq_getElem (by rw [mapTo_length]; exact h)] at h2
  simp only [Option.getD_some] at h2
  rw [← h2, List.set_getElem_self]

set_option maxHeartbeats 1000000 in
set_option maxRecDepth 100000 in
theorem lower_calls (s : ByteArray) (w : World) (hs : s.size ≤ 140737488355328) :
    Calls Tryz.prog 104 #[.string s] w fun e w' => e = .returned (.string (xLower s)) ∧ Below w.heap.size w w' := by
  have Hs := Aside0.mk hs
  clear hs
  go_enter Tryz.func104, Tryz.ntmps104
  go_wp2_with (first | ((with_reducible refine gate_dst (N := 7) rfl ?_); refine M_ofstr 5 rfl (N := 7) rfl 9 22 _ rfl s rfl Tryz.underlying9 Tryz.underlying22 Tryz.underlying5 (Nat.le_trans Hs.out (by omega)) ?_; intro g cap w1 hge hm hb; have GE := Aside0.mk hge; have HM := Aside0.mk hm; have HB := Aside0.mk hb; clear hge hm hb))
  have Hr : ∀ k : Nat, (h : k < (bytesOf s).length) → 0 ≤ (bytesOf s)[k] ∧ (bytesOf s)[k] ≤ 255 := fun k h => by rw [← rd_at _ _ h, rd_bytesOf]; exact bt_range s k
  have Hlen : (bytesOf s).length ≤ 140737488355328 := by rw [bytesOf_length]; exact Hs.out
  obtain ⟨l, hl⟩ : ∃ l, bytesOf s = l := ⟨_, rfl⟩
  rw [hl] at Hr Hlen HM ⊢
  have HR := Aside0.mk Hr
  have Hl := Aside0.mk hl
  clear Hr hl
  go_loopw [10] (fun v8 wr => ∃ k : Nat, k ≤ l.length ∧ v8 = .int .i64 k ∧ Aside0 (MRow wr g cap (mapTo lowC l k)) ∧ Aside0 (Below w.heap.size w wr)) (fun v8 _ => l.length - (intOf v8).toNat)
  case atStart => exact ⟨0, Nat.zero_le _, rfl, ⟨by rw [mapTo_zero]; exact HM.out⟩, HB⟩
  case round =>
    obtain ⟨k, hk, rfl, HM, HB⟩ := hrel
    by_cases hlt : k < l.length
    · have hx := HM.out.cell k (by rw [mapTo_length]; exact hlt)
      rw [mapTo_getD _ _ _ hlt] at hx
      have hf := HM.out.free k (by have := HM.out.le; rw [mapTo_length] at this; omega)
      obtain ⟨hr0, hr1⟩ := HR.out k hlt
      have Hst := Aside0.mk (HM.out.set k (by rw [mapTo_length]; exact hlt) (lowC l[k]))
      rw [mapTo_set _ _ _ hlt] at Hst
      have Hsame := Aside0.mk (mapTo_same lowC l k hlt)
      obtain ⟨c, hc⟩ : ∃ c, l[k] = c := ⟨_, rfl⟩
      rw [hc] at hx hr0 hr1 Hst Hsame
      clear hc
      by_cases h1 : 65 ≤ c
      · by_cases h2 : c ≤ 90
        · have hlow : lowC c = c + 32 := by unfold lowC; rw [if_pos h1, if_pos h2]
          rw [hlow] at Hst
          clear hlow
          go_wp2
          go_roundw
          case measure => simp [intOf]; omega
          case rel => exact ⟨k + 1, by omega, by go_num, Hst, ⟨below_set HB.out GE.out⟩⟩
        · have hlow : lowC c = c := by unfold lowC; rw [if_pos h1, if_neg h2]
          have HM2 := Aside0.mk (Eq.mpr (congrArg (MRow wr g cap) (Hsame.out hlow)) HM.out)
          clear hlow
          go_wp2
          go_roundw
          case measure => simp [intOf]; omega
          case rel => exact ⟨k + 1, by omega, by go_num, HM2, HB⟩
      · have hlow : lowC c = c := by unfold lowC; rw [if_neg h1]
        have HM2 := Aside0.mk (Eq.mpr (congrArg (MRow wr g cap) (Hsame.out hlow)) HM.out)
        clear hlow
        go_wp2
        go_roundw
        case measure => simp [intOf]; omega
        case rel => exact ⟨k + 1, by omega, by go_num, HM2, HB⟩
    · have hk' : k = l.length := by omega
      subst hk'
      have hcv := Kd.C_string (P := Tryz.prog) (c := cap) Tryz.underlying22 Tryz.underlying5 Tryz.underlying9 HM.out.C
      rw [mapTo_length, mapTo_all] at hcv
      go_wp2
      go_ret
      exact ⟨by unfold xLower; rw [Hl.out]; rfl, HB.out⟩

end Go.Proofs.YtnhpcpmgedjffaaGreatDoorX
end
section
namespace Go.Proofs.YtnhpcpmgedjffaaGreatDoorX
open Go.RowKit Go.Proofs.YtnhpcpmgedjffaaGreatDoorW.PrintWords Go.Proofs.YtnhpcpmgedjffaaGreatDoorW.PrintLast Go.Proofs.YtnhpcpmgedjffaaGreatDoorW.PrintMore
set_option linter.unusedVariables false
set_option linter.unusedSimpArgs false

theorem src_str {W : World} (s : ByteArray) : Src Tryz.prog 1 9 (.string s) (bytesOf s).length ((bytesOf s).map (Value.int .u8)) W := by
  have := Src.ofString (P := Tryz.prog) W (tx := 9) Tryz.underlying9 s
  have e : byteCells s = (bytesOf s).map (Value.int .u8) := by simp [byteCells, bytesOf, List.map_map]
  rw [e, ← bytesOf_length s] at this
  exact this
theorem info_u8 : (Tryz.prog.info? 5).map (fun i => (i.zero, i.size, i.bytes)) = some (some (.int .u8 0), 1, 1) := by kernel_rfl

set_option maxHeartbeats 1000000 in
set_option maxRecDepth 100000 in
theorem appendInt0 (g cap : Nat) (l : List Int) (w : World) (hm : MRow w g cap l) (hlim : l.length + 1 ≤ 140737488355328) :
    Calls Tryz.prog 130 #[.slice (some ⟨g, 0, none⟩) l.length cap, .int .i64 0, .int .i64 10] w fun e w' => ∃ g' cap' l', e = .returned (.slice (some ⟨g', 0, none⟩) l'.length cap') ∧ l' = l ++ [48] ∧ (g' = g ∨ w.heap.size ≤ g') ∧ MRow w' g' cap' l' ∧ w.grownBy w' (some g) := by
  have HM := Aside0.mk hm
  clear hm
  obtain ⟨i0, hi0, hz0, hs0, hb0⟩ := info_parts info_u8
  have HI := Aside0.mk hi0
  clear hi0
  go_enter Tryz.func130, Tryz.ntmps130
  go_wp2_with (first | (at_builtin; refine M_append rfl (N := 17) rfl _ _ 22 9 rfl 5 Tryz.underlying22 HI.out hz0 hs0 hb0 HM.out rfl rfl rfl (bytesOf ⟨#[48]⟩) rfl (src_str _) hlim ?_; intro g' cap' w1 l' hl hg hm1 hgr; have HL := Aside0.mk hl; have HG := Aside0.mk hg; have HM1 := Aside0.mk hm1; have HR := Aside0.mk hgr; clear hl hg hm1 hgr) | go_in)
  go_ret
  exact ⟨g', cap', l', rfl, HL.out, HG.out, HM1.out, HR.out⟩
set_option maxHeartbeats 1000000 in
set_option maxRecDepth 100000 in
theorem appendInt1 (g cap : Nat) (l : List Int) (w : World) (hm : MRow w g cap l) (hlim : l.length + 1 ≤ 140737488355328) :
    Calls Tryz.prog 130 #[.slice (some ⟨g, 0, none⟩) l.length cap, .int .i64 1, .int .i64 10] w fun e w' => ∃ g' cap' l', e = .returned (.slice (some ⟨g', 0, none⟩) l'.length cap') ∧ l' = l ++ [49] ∧ (g' = g ∨ w.heap.size ≤ g') ∧ MRow w' g' cap' l' ∧ w.grownBy w' (some g) := by
  have HM := Aside0.mk hm
  clear hm
  obtain ⟨i0, hi0, hz0, hs0, hb0⟩ := info_parts info_u8
  have HI := Aside0.mk hi0
  clear hi0
  go_enter Tryz.func130, Tryz.ntmps130
  go_wp2_with (first | (at_builtin; refine M_append rfl (N := 17) rfl _ _ 22 9 rfl 5 Tryz.underlying22 HI.out hz0 hs0 hb0 HM.out rfl rfl rfl (bytesOf ⟨#[49]⟩) rfl (src_str _) hlim ?_; intro g' cap' w1 l' hl hg hm1 hgr; have HL := Aside0.mk hl; have HG := Aside0.mk hg; have HM1 := Aside0.mk hm1; have HR := Aside0.mk hgr; clear hl hg hm1 hgr) | go_in)
  go_ret
  exact ⟨g', cap', l', rfl, HL.out, HG.out, HM1.out, HR.out⟩
end Go.Proofs.YtnhpcpmgedjffaaGreatDoorX
end
section
namespace Go.Proofs.YtnhpcpmgedjffaaGreatDoorX
open Go.RowKit Go.Proofs.YtnhpcpmgedjffaaGreatDoorW.PrintWords Go.Proofs.YtnhpcpmgedjffaaGreatDoorW.PrintLast Go.Proofs.YtnhpcpmgedjffaaGreatDoorW.PrintMore
set_option linter.unusedVariables false
set_option linter.unusedSimpArgs false

def hitC (c : Int) : Bool := c == 13 || c == 10
def CRLF : ByteArray := ⟨#[13, 10]⟩
def AnyRes (l : List Int) (w : World) (e : Ending) (w' : World) : Prop := ∃ n : Int, e = .returned (.int .i64 n) ∧ decide (0 ≤ n) = l.any hitC ∧ Below w.heap.size w w'
theorem AnyRes.mk {l : List Int} {w w' : World} {e : Ending} (n : Int) (h1 : e = .returned (.int .i64 n)) (h2 : decide (0 ≤ n) = l.any hitC) (h3 : Below w.heap.size w w') : AnyRes l w e w' := ⟨n, h1, h2, h3⟩

theorem decode_hi (s : ByteArray) (h0 : 0 < s.size) (h : 128 ≤ (s.get! 0).toNat) :
    1 ≤ (Lib.decodeGo s).2 ∧ (Lib.decodeGo s).2 ≤ s.size ∧ 128 ≤ (Lib.decodeGo s).1 ∧ (Lib.decodeGo s).1 ≤ 1114111 ∧ ((Lib.decodeGo s).2 = 1 → (Lib.decodeGo s).1 = 65533) ∧ (3 ≤ (Lib.decodeGo s).2 → 2048 ≤ (Lib.decodeGo s).1 ∧ ((Lib.decodeGo s).1 < 65536 ∨ (Lib.decodeGo s).2 = 4)) ∧ ∀ j, j < (Lib.decodeGo s).2 → 128 ≤ (s.get! j).toNat := by
  have hb : ∀ k, (s.get! k).toNat < 256 := fun k => (s.get! k).toNat_lt
  have h1 := hb 0
  have hh1 := hb 1
  have hh2 := hb 2
  have hh3 := hb 3
  have hd : Lib.decodeGo s = Utf8.decode s 0 := by unfold Lib.decodeGo; rw [if_neg (by omega)]
  rw [hd]
  unfold Utf8.decode
  simp only [Nat.zero_add, Utf8.runeError]
  have one : ∀ j, j < 1 → 128 ≤ (s.get! j).toNat := fun j hj => (show j = 0 by omega) ▸ h
  have key : ∀ (r : Nat × Nat), r = (65533, 1) → 1 ≤ r.2 ∧ r.2 ≤ s.size ∧ 128 ≤ r.1 ∧ r.1 ≤ 1114111 ∧ (r.2 = 1 → r.1 = 65533) ∧ (3 ≤ r.2 → 2048 ≤ r.1 ∧ (r.1 < 65536 ∨ r.2 = 4)) ∧ ∀ j, j < r.2 → 128 ≤ (s.get! j).toNat := by
    rintro r rfl
    exact ⟨Nat.le_refl _, h0, by decide, by decide, fun _ => rfl, fun h => absurd h (by decide), one⟩
  rw [if_neg (by omega)]
  split
  · rename_i c1
    simp only [Bool.and_eq_true, beq_iff_eq, decide_eq_true_eq] at c1
    split
    · refine ⟨show 1 ≤ 2 by omega, by show 2 ≤ s.size; omega, by show 128 ≤ _; omega, by show _ ≤ 1114111; omega, fun h => (by have h' : 2 = 1 := h; omega), fun h => (by have h' : 3 ≤ 2 := h; omega), fun j hj => ?_⟩
      have : j = 0 ∨ j = 1 := by have : j < 2 := hj; omega
      rcases this with rfl | rfl <;> omega
    · exact key _ rfl
  · split
    · rename_i c1
      simp only [Bool.and_eq_true, beq_iff_eq, decide_eq_true_eq] at c1
      split
      · rename_i c2
        simp only [Bool.and_eq_true, decide_eq_true_eq] at c2
        refine ⟨show 1 ≤ 3 by omega, by show 3 ≤ s.size; omega, by show 128 ≤ _; omega, by show _ ≤ 1114111; omega, fun h => (by have h' : 3 = 1 := h; omega), fun _ => ⟨by show 2048 ≤ _; omega, .inl (by show _ < 65536; omega)⟩, fun j hj => ?_⟩
        have : j = 0 ∨ j = 1 ∨ j = 2 := by have : j < 3 := hj; omega
        rcases this with rfl | rfl | rfl <;> omega
      · exact key _ rfl
    · split
      · rename_i c1
        simp only [Bool.and_eq_true, beq_iff_eq, decide_eq_true_eq] at c1
        split
        · rename_i c2
          simp only [Bool.and_eq_true, decide_eq_true_eq, Utf8.valid, Bool.or_eq_true] at c2
          refine ⟨show 1 ≤ 4 by omega, by show 4 ≤ s.size; omega, by show 128 ≤ _; omega, by show _ ≤ 1114111; omega, fun h => (by have h' : 4 = 1 := h; omega), fun _ => ⟨by show 2048 ≤ _; omega, .inr rfl⟩, fun j hj => ?_⟩
          have : j = 0 ∨ j = 1 ∨ j = 2 ∨ j = 3 := by have : j < 4 := hj; omega
          rcases this with rfl | rfl | rfl | rfl <;> omega
        · exact key _ rfl
      · exact key _ rfl

theorem crlf_has (x : UInt8) : CRLF.data.toList.contains x = hitC (x.toNat : Int) := by
  show ([13, 10] : List UInt8).contains x = hitC (x.toNat : Int)
  unfold hitC
  simp only [List.contains_cons, List.contains_nil, Bool.or_false]
  congr 1
  · rw [Bool.eq_iff_iff]
    simp only [beq_iff_eq, ← UInt8.toNat_inj]
    have : (13 : UInt8).toNat = 13 := rfl
    omega
  · rw [Bool.eq_iff_iff]
    simp only [beq_iff_eq, ← UInt8.toNat_inj]
    have : (10 : UInt8).toNat = 10 := rfl
    omega
theorem idx_crlf (c : Int) (h0 : 0 ≤ c) (h1 : c < 256) : decide (0 ≤ Lib.indexByte ([13, 10] : List UInt8) c.toNat.toUInt8) = hitC c := by
  obtain ⟨n, rfl⟩ := Int.eq_ofNat_of_zero_le h0
  have h2 : n < 256 := by omega
  have : ∀ k : Fin 256, decide (0 ≤ Lib.indexByte ([13, 10] : List UInt8) ((k.val : Int)).toNat.toUInt8) = hitC (k.val : Int) := by decide +kernel
  exact this ⟨n, h2⟩
theorem next0 (w : World) (ty : TypeId) : (Instr.next (.pointer (some ⟨w.heap.size, 0, none⟩)) true ty).run Tryz.prog (w.iter ⟨#[13, 10]⟩ 0) = .ok (.tuple #[.bool true, .int .i64 0, .int .i32 13]) (w.iter ⟨#[13, 10]⟩ 1) := run_next_ascii w ⟨#[13, 10]⟩ 0 ty (by decide) (by decide)
theorem next1 (w : World) (ty : TypeId) : (Instr.next (.pointer (some ⟨w.heap.size, 0, none⟩)) true ty).run Tryz.prog (w.iter ⟨#[13, 10]⟩ 1) = .ok (.tuple #[.bool true, .int .i64 1, .int .i32 10]) (w.iter ⟨#[13, 10]⟩ 2) := run_next_ascii w ⟨#[13, 10]⟩ 1 ty (by decide) (by decide)
theorem next2 (w : World) (ty : TypeId) : (Instr.next (.pointer (some ⟨w.heap.size, 0, none⟩)) true ty).run Tryz.prog (w.iter ⟨#[13, 10]⟩ 2) = .ok (.tuple #[.bool false]) (w.iter ⟨#[13, 10]⟩ 2) := run_next_end w ⟨#[13, 10]⟩ 2 ty (by decide)
theorem iter_below {w W : World} (h : Below w.heap.size w W) (s : ByteArray) (p : Nat) : Below w.heap.size w (W.iter s p) := h.alloc h.size _
theorem alloc_set (w : World) (ev : Operand → Value) (o : Oper) (ho : o.op = .alloc 236) : (execOp ev o).run Tryz.prog w = .ok (.value (.pointer (some ⟨w.heap.size, 0, none⟩))) (w.alloc (.cells zeroTab 236 (0, 0))) := by
  unfold execOp
  rw [ho]
  kernel_rfl
theorem C_at {w : World} {A : Option Addr} {l : List Int} (h : Kd.C (Kd.int .u8) w A l.length l) (k : Nat) (hk : k < l.length) : ∃ ad, A = some ad ∧ w.cell? (ad.add k) = some (.int .u8 l[k]) := by
  obtain ⟨ad, e, hx⟩ := Kd.at_int h (k : Int) (by omega) (by omega)
  refine ⟨ad, e, ?_⟩
  rw [Int.toNat_natCast] at hx
  rw [hx]
  simp [rd, List.getD_eq_getElem?_getD, hk]

set_option maxHeartbeats 2000000 in
set_option maxRecDepth 100000 in
theorem indexAny_big (A0 : Option Addr) (c0 : Nat) (l : List Int) (w : World) (hr : Kd.C (Kd.int .u8) w A0 l.length l) (hb : isBytes l = true) (hn : 8 < l.length) (hs : l.length < 4294967281) :
    Calls Tryz.prog 184 #[.slice A0 l.length c0, .string CRLF] w (AnyRes l w) := by
  have HC := Aside0.mk hr
  have HI := Aside0.mk (isBytes_mem hb)
  clear hr hb
  have hne : ((l.length : Int) == 1) = false := by rw [beq_eq_false_iff_ne]; omega
  have hbig : decide ((l.length : Int) > 8) = true := by simp; omega
  unfold CRLF
  go_enter Tryz.func184, Tryz.ntmps184
  go_wp2_with (first
    | (go_at_call 213; refine (Any.bytes_makeASCIISet Tryz.laysV11 (fun w => by kernel_rfl) (by kernel_rfl) CRLF _ (by decide) (fun j b hj => ?hasc)).mono ?_; (case hasc => have := (List.all_eq_true.1 (show CRLF.data.toList.all (fun b => decide (b.toNat < 128)) = true from by decide)) b (List.mem_of_getElem? hj); simpa using this); rintro e w1 ⟨rfl, rfl⟩; have HB := Aside0.mk (below_alloc (Below.refl w.heap.size w) (.cells (Lib.setCells CRLF.data.toList) 236 (0, 0))))
    | ((with_reducible refine gate_dst (N := 7) rfl ?_); refine box_event ?hg (N := 7) ?hd (cs := zeroTab) (t := 236) ?hr ?_; (case hd => rfl); (case hg => rfl); (case hr => exact alloc_set _ _ _ rfl); intro g hg w1 hblk hb; have GE := Aside0.mk (show w.heap.size ≤ g by rw [hg]; exact (below_size HB.out)); have BK := Aside0.mk hblk; have n0_ := Aside0.mk (below_step HB.out hb); clear HB; have HB := n0_; clear hblk hb hg n0_)
    | (refine wpList_store_row rfl 236 _ _ rfl g (Lib.setCells CRLF.data.toList) rfl rfl 236 zeroTab BK.out (by rw [Lib.setCells_size]; kernel_rfl) (by rw [Lib.setCells_size]; exact tab_size _) (Lib.setCells_one _) ?_; have n0_ := Aside0.mk (Go.below_setRow HB.out GE.out (Lib.setCells CRLF.data.toList)); have n1_ := Aside0.mk (setRow_heap _ _ _ (Lib.setCells CRLF.data.toList) _ _ BK.out); clear HB BK; have HB := n0_; have BK := n1_; clear n0_ n1_; obtain ⟨w5, hw5⟩ : ∃ w5, w5 = World.setRow w1 g (Lib.setCells CRLF.data.toList) := ⟨_, rfl⟩; rw [← hw5] at HB BK ⊢; clear hw5)
    | go_in)
  have Hu : ∀ k (h : k < l.length), ∃ x : UInt8, l[k] = (x.toNat : Int) := fun k h => by
    have := HI.out l[k] (List.getElem_mem h)
    exact ⟨UInt8.ofNat l[k].toNat, by rw [UInt8.toNat_ofNat']; omega⟩
  have HU := Aside0.mk Hu
  clear Hu
  go_loopw [62] (fun v8 wr => ∃ k : Nat, k ≤ l.length ∧ v8 = .int .i64 k ∧ Aside0 ((l.take k).any hitC = false) ∧ Aside0 (wr.heap[g]? = some (.cells (Lib.setCells CRLF.data.toList) 236 (0, 0))) ∧ Aside0 (Below w.heap.size w wr)) (fun v8 _ => l.length - (intOf v8).toNat)
  case atStart => exact ⟨0, Nat.zero_le _, rfl, ⟨rfl⟩, BK, HB⟩
  case round =>
    obtain ⟨k, hk, rfl, HN, BK, HB⟩ := hrel
    by_cases hlt : k < l.length
    · obtain ⟨ad, e, hx⟩ := C_at (Kd.C_below HC.out HB.out) k hlt
      cases e
      obtain ⟨x, hxe⟩ := HU.out k hlt
      rw [hxe] at hx
      have HX := Aside0.mk hxe
      have e2 : l.take (k + 1) = l.take k ++ [l[k]] := by rw [List.take_succ_eq_append_getElem hlt]
      have HT := Aside0.mk (show (l.take (k + 1)).any hitC = hitC (x.toNat : Int) by rw [e2, List.any_append, HN.out, hxe]; simp)
      clear hxe e2
      have HS := Aside0.mk ((blk_cell BK.out x.toNat).trans (Lib.setCells_at CRLF.data.toList x))
      have hcon := crlf_has x
      rw [hcon] at HS
      clear hcon
      have hlt8 := x.toNat_lt
      cases hh : hitC (x.toNat : Int) with
      | true =>
        rw [hh] at HS HT
        have Hany := Aside0.mk (show l.any hitC = true by
          have := HT.out
          rw [List.any_eq_true] at this ⊢
          obtain ⟨y, hy, hy2⟩ := this
          exact ⟨y, List.mem_of_mem_take hy, hy2⟩)
        clear hh
        go_wp2_with (go_at_call 214; refine (Any.bytes_asciiSet_contains Tryz.laysV16 g x _ _ HS.out).mono ?_; rintro e w' ⟨rfl, rfl⟩)
        go_ret
        exact AnyRes.mk (k : Int) rfl (by rw [Hany.out]; simp) HB.out
      | false =>
        rw [hh] at HS HT
        clear hh
        go_wp2_with (go_at_call 214; refine (Any.bytes_asciiSet_contains Tryz.laysV16 g x _ _ HS.out).mono ?_; rintro e w' ⟨rfl, rfl⟩)
        go_roundw
        case measure => simp [intOf]; omega
        case rel => exact ⟨k + 1, by omega, by go_num, HT, BK, HB⟩
    · have hk' : k = l.length := by omega
      subst hk'
      rw [List.take_length] at HN
      go_wp2
      go_ret
      exact AnyRes.mk (-1) rfl (by rw [HN.out]; rfl) HB.out

set_option maxHeartbeats 2000000 in
set_option maxRecDepth 100000 in
theorem indexAny_one_low (A0 : Option Addr) (c0 : Nat) (c : Int) (w : World) (hr : Kd.C (Kd.int .u8) w A0 1 [c]) (h0 : 0 ≤ c) (h1 : c < 128) :
    Calls Tryz.prog 184 #[.slice A0 1 c0, .string CRLF] w (AnyRes [c] w) := by
  obtain ⟨ad, e, hx⟩ := C_at (l := [c]) hr 0 (by simp)
  cases e
  have hx0 : w.cell? ad = some (.int .u8 c) := by have := hx; simpa [Addr.add] using this
  have hd : decide (c ≥ 128) = false := by simp; omega
  unfold CRLF
  go_enter Tryz.func184, Tryz.ntmps184
  go_wp2
  rw [run_callFunc_extern Tryz.func210 (by kernel_rfl) (by kernel_rfl) (by kernel_rfl) (e := Extern.BytealgIndexByte.indexByte) (by kernel_rfl), Lib.run_indexByteString]
  simp only [Result.andThen]
  rw [Oper.upon_value]
  have hi := idx_crlf c h0 (by omega)
  obtain ⟨n, hn⟩ : ∃ n, Lib.indexByte ([13, 10] : List UInt8) c.toNat.toUInt8 = n := ⟨_, rfl⟩
  rw [show Lib.indexByte (⟨#[13, 10]⟩ : ByteArray).data.toList c.toNat.toUInt8 = n from hn]
  rw [hn] at hi
  clear hn
  have HI := Aside0.mk hi
  clear hi
  by_cases h : 0 ≤ n
  · have HH := Aside0.mk (show hitC c = true by rw [← HI.out]; simp [h])
    go_wp2
    go_ret
    exact AnyRes.mk 0 rfl (by simp [HH.out]) (Below.refl _ _)
  · have HH := Aside0.mk (show hitC c = false by rw [← HI.out]; simp [h])
    go_wp2
    go_ret
    exact AnyRes.mk (-1) rfl (by simp [HH.out]) (Below.refl _ _)
set_option maxHeartbeats 2000000 in
set_option maxRecDepth 100000 in
theorem indexAny_one_high (A0 : Option Addr) (c0 : Nat) (c : Int) (w : World) (hr : Kd.C (Kd.int .u8) w A0 1 [c]) (h0 : 128 ≤ c) (h1 : c < 256) :
    Calls Tryz.prog 184 #[.slice A0 1 c0, .string CRLF] w (AnyRes [c] w) := by
  obtain ⟨ad, e, hx⟩ := C_at (l := [c]) hr 0 (by simp)
  cases e
  have hx0 : w.cell? ad = some (.int .u8 c) := by have := hx; simpa [Addr.add] using this
  have hd : decide (c ≥ 128) = true := by simp; omega
  unfold CRLF
  go_enter Tryz.func184, Tryz.ntmps184
  have HH := Aside0.mk (show hitC c = false by unfold hitC; simp; omega)
  have hc3 : (c == 65533) = false := by rw [beq_eq_false_iff_ne]; omega
  go_wp2
  go_loopw [5] (fun v5 wr => ∃ pos : Nat, pos ≤ 2 ∧ wr = w.iter ⟨#[13, 10]⟩ pos ∧ (∃ z, v5 = .int .i32 z)) (fun _ wr => 2 - wr.iterPos w.heap.size)
  case atStart => exact ⟨0, by omega, rfl, _, rfl⟩
  case round =>
    obtain ⟨pos, hp, rfl, z, rfl⟩ := hrel
    have hcase : pos = 0 ∨ pos = 1 ∨ pos = 2 := by omega
    rcases hcase with rfl | rfl | rfl
    · have hn := next0 w
      go_wp2
      go_roundw
      case measure => rw [World.iterPos_iter, World.iterPos_iter]; omega
      case rel => exact ⟨1, by omega, rfl, _, rfl⟩
    · have hn := next1 w
      go_wp2
      go_roundw
      case measure => rw [World.iterPos_iter, World.iterPos_iter]; omega
      case rel => exact ⟨2, by omega, rfl, _, rfl⟩
    · have hn := next2 w
      go_wp2
      go_ret
      exact AnyRes.mk (-1) rfl (by simp [HH.out]) (iter_below (Below.refl _ _) _ _)

theorem encode_ne (r : Nat) (h : 128 ≤ r) (h2 : r ≤ 1114111) : (Utf8.encode (r : Int)).toList ≠ ([13, 10] : List UInt8) := by
  rw [Lib.toList_data]
  have hc : ∀ c : Nat, 128 ≤ c → c ≤ 1114111 → (if c < 128 then (⟨#[UInt8.ofNat c]⟩ : ByteArray) else if c < 2048 then ⟨#[UInt8.ofNat (192 + c / 64), UInt8.ofNat (128 + c % 64)]⟩ else if c < 65536 then ⟨#[UInt8.ofNat (224 + c / 4096), UInt8.ofNat (128 + c / 64 % 64), UInt8.ofNat (128 + c % 64)]⟩ else ⟨#[UInt8.ofNat (240 + c / 262144), UInt8.ofNat (128 + c / 4096 % 64), UInt8.ofNat (128 + c / 64 % 64), UInt8.ofNat (128 + c % 64)]⟩).data.toList ≠ ([13, 10] : List UInt8) := by
    intro c h1 h2
    rw [if_neg (by omega)]
    split
    · intro e
      injection e with e1 _
      have := congrArg UInt8.toNat e1
      rw [UInt8.toNat_ofNat'] at this
      have h3 : (13 : UInt8).toNat = 13 := rfl
      omega
    · split
      · intro e
        have := congrArg List.length e
        simp at this
      · intro e
        have := congrArg List.length e
        simp at this
  unfold Utf8.encode
  by_cases hv : Utf8.valid (r : Int) = true
  · have := hc r h h2
    simp only [hv, if_true, Int.toNat_natCast]
    exact this
  · have := hc 65533 (by omega) (by omega)
    simp only [hv, if_false, Bool.false_eq_true]
    exact this
theorem encode_size (r : Nat) (h : 2048 ≤ r) (h2 : r ≤ 1114111) : 3 ≤ (Utf8.encode (r : Int)).size ∧ (Utf8.encode (r : Int)).size ≤ 4 ∧ (r < 65536 → (Utf8.encode (r : Int)).size = 3) := by
  have hc : ∀ c : Nat, 2048 ≤ c → c ≤ 1114111 → 3 ≤ (if c < 128 then (⟨#[UInt8.ofNat c]⟩ : ByteArray) else if c < 2048 then ⟨#[UInt8.ofNat (192 + c / 64), UInt8.ofNat (128 + c % 64)]⟩ else if c < 65536 then ⟨#[UInt8.ofNat (224 + c / 4096), UInt8.ofNat (128 + c / 64 % 64), UInt8.ofNat (128 + c % 64)]⟩ else ⟨#[UInt8.ofNat (240 + c / 262144), UInt8.ofNat (128 + c / 4096 % 64), UInt8.ofNat (128 + c / 64 % 64), UInt8.ofNat (128 + c % 64)]⟩ : ByteArray).size ∧
      (if c < 128 then (⟨#[UInt8.ofNat c]⟩ : ByteArray) else if c < 2048 then ⟨#[UInt8.ofNat (192 + c / 64), UInt8.ofNat (128 + c % 64)]⟩ else if c < 65536 then ⟨#[UInt8.ofNat (224 + c / 4096), UInt8.ofNat (128 + c / 64 % 64), UInt8.ofNat (128 + c % 64)]⟩ else ⟨#[UInt8.ofNat (240 + c / 262144), UInt8.ofNat (128 + c / 4096 % 64), UInt8.ofNat (128 + c / 64 % 64), UInt8.ofNat (128 + c % 64)]⟩ : ByteArray).size ≤ 4 ∧
      (c < 65536 → (if c < 128 then (⟨#[UInt8.ofNat c]⟩ : ByteArray) else if c < 2048 then ⟨#[UInt8.ofNat (192 + c / 64), UInt8.ofNat (128 + c % 64)]⟩ else if c < 65536 then ⟨#[UInt8.ofNat (224 + c / 4096), UInt8.ofNat (128 + c / 64 % 64), UInt8.ofNat (128 + c % 64)]⟩ else ⟨#[UInt8.ofNat (240 + c / 262144), UInt8.ofNat (128 + c / 4096 % 64), UInt8.ofNat (128 + c / 64 % 64), UInt8.ofNat (128 + c % 64)]⟩ : ByteArray).size = 3) := by
    intro c h1 h2
    rw [if_neg (by omega), if_neg (by omega)]
    by_cases h3 : c < 65536
    · rw [if_pos h3]
      exact ⟨Nat.le_refl 3, show 3 ≤ 4 by omega, fun _ => rfl⟩
    · rw [if_neg h3]
      exact ⟨show 3 ≤ 4 by omega, Nat.le_refl 4, fun h => absurd h h3⟩
  unfold Utf8.encode
  by_cases hv : Utf8.valid (r : Int) = true
  · have := hc r h h2
    simp only [hv, if_true, Int.toNat_natCast]
    exact this
  · have := hc 65533 (by decide) (by decide)
    simp only [hv, if_false, Bool.false_eq_true]
    exact ⟨this.1, this.2.1, fun _ => this.2.2 (by decide)⟩
def NoHit (l : List Int) (k : Nat) : Prop := (l.take k).any hitC = false
set_option maxHeartbeats 4000000 in
set_option maxRecDepth 100000 in
theorem indexAny_small (A0 : Option Addr) (c0 : Nat) (l : List Int) (w : World) (hr : Kd.C (Kd.int .u8) w A0 l.length l) (hc0 : l.length ≤ c0) (hb : isBytes l = true) (hn : l.length ≤ 8) (h1 : l.length ≠ 1) (hG : GG 5 w) :
    Calls Tryz.prog 184 #[.slice A0 l.length c0, .string CRLF] w (AnyRes l w) := by
  have HC := Aside0.mk hr
  have HI := Aside0.mk (isBytes_mem hb)
  have HGG := Aside0.mk hG
  have HB := Aside0.mk (Below.refl w.heap.size w)
  clear hr hb hG
  have hne : ((l.length : Int) == 1) = false := by rw [beq_eq_false_iff_ne]; omega
  have hbig : decide ((l.length : Int) > 8) = false := by simp; omega
  have hbig2 : decide (8 < (l.length : Int)) = false := by simp; omega
  unfold CRLF
  go_enter Tryz.func184, Tryz.ntmps184
  go_wp2_with go_in
  have Hu : ∀ k (h : k < l.length), 0 ≤ l[k] ∧ l[k] < 256 := fun k h => HI.out l[k] (List.getElem_mem h)
  have HU := Aside0.mk Hu
  clear Hu
  go_loopw [12] (fun v12 wr => ∃ (k : Nat), k ≤ l.length ∧ v12 = .int .i64 k ∧ Aside0 (NoHit l k) ∧ Aside0 (Below w.heap.size w wr)) (fun v12 _ => l.length - (intOf v12).toNat)
  case atStart => exact ⟨0, Nat.zero_le _, rfl, ⟨(rfl : ([] : List Int).any hitC = false)⟩, HB⟩
  case round =>
    obtain ⟨k, hk, rfl, HN, HB⟩ := hrel
    by_cases hlt : k < l.length
    · obtain ⟨ad, e, hx⟩ := C_at (Kd.C_below HC.out HB.out) k hlt
      cases e
      obtain ⟨hr0, hr1⟩ := HU.out k hlt
      have e2 : l.take (k + 1) = l.take k ++ [l[k]] := by rw [List.take_succ_eq_append_getElem hlt]
      have HT := Aside0.mk (show (l.take (k + 1)).any hitC = hitC l[k] by rw [e2, List.any_append, show (l.take k).any hitC = false from HN.out]; simp)
      clear e2
      obtain ⟨c, hc⟩ : ∃ c, l[k] = c := ⟨_, rfl⟩
      rw [hc] at hx hr0 hr1 HT
      have HCK := Aside0.mk hc
      clear hc
      by_cases hlow : c < 128
      · go_wp2
        rw [run_callFunc_extern Tryz.func210 (by kernel_rfl) (by kernel_rfl) (by kernel_rfl) (e := Extern.BytealgIndexByte.indexByte) (by kernel_rfl), Lib.run_indexByteString]
        simp only [Result.andThen]
        rw [Oper.upon_value]
        have hi := idx_crlf c hr0 hr1
        obtain ⟨n, hn⟩ : ∃ n, Lib.indexByte ([13, 10] : List UInt8) c.toNat.toUInt8 = n := ⟨_, rfl⟩
        rw [show Lib.indexByte (⟨#[13, 10]⟩ : ByteArray).data.toList c.toNat.toUInt8 = n from hn]
        rw [hn] at hi
        clear hn
        have HI2 := Aside0.mk hi
        clear hi
        by_cases h : 0 ≤ n
        · have Hany := Aside0.mk (show l.any hitC = true by
            have := HT.out
            rw [← HI2.out, decide_eq_true h, List.any_eq_true] at this
            rw [List.any_eq_true]
            obtain ⟨y, hy, hy2⟩ := this
            exact ⟨y, List.mem_of_mem_take hy, hy2⟩)
          go_wp2
          go_ret
          exact AnyRes.mk (k : Int) rfl (by rw [Hany.out]; simp) HB.out
        · have HH := Aside0.mk (show NoHit l (k + 1) by unfold NoHit; rw [HT.out, ← HI2.out]; simp [h])
          go_wp2
          go_roundw
          case measure => simp [intOf]; omega
          case rel => first | exact ⟨k + 1, by omega, by go_num, HH, HB⟩ | exact ⟨_, _, .int .i64 ((k : Int) + 1), ⟨k + 1, by omega, by go_num, HH⟩, rfl, rfl, rfl⟩
      · -- the decoder's answer
        obtain ⟨b, off, spot⟩ := ad
        have hspot : spot = none := by
          obtain ⟨a2, ha2, hx2⟩ := C_at (Kd.C_below HC.out HB.out) 0 (by omega)
          injection ha2 with ha2
          subst ha2
          simpa [Addr.add] using World.cell?_spot hx2
        subst hspot
        obtain ⟨s, hse⟩ : ∃ s, s = strOfNums (l.drop k) := ⟨_, rfl⟩
        have hl2 : ∀ j, j < l.length - k → (s.get! j).toNat = (l.getD (k + j) 0).toNat ∧ (0 ≤ l.getD (k + j) 0 ∧ l.getD (k + j) 0 < 256) := by
          intro j hj
          have hkj : k + j < l.length := by omega
          have h3 := HU.out (k + j) hkj
          have h4 : l.getD (k + j) 0 = l[k + j] := by simp [List.getD_eq_getElem?_getD, hkj]
          rw [h4]
          refine ⟨?_, h3⟩
          subst hse
          have h5 : (strOfNums (l.drop k)).get! j = UInt8.ofNat (l[k + j]).toNat := by
            show ((l.drop k).map fun n => UInt8.ofNat n.toNat).toArray[j]! = _
            rw [getElem!_pos _ j (by simp; omega)]
            simp
          rw [h5, UInt8.toNat_ofNat']
          omega
        have hss : s.size = l.length - k := by subst hse; simp [strOfNums, ByteArray.size]
        have HS := Aside0.mk hl2
        have HZ := Aside0.mk hss
        have h0s : 0 < s.size := by omega
        have h0v : 128 ≤ (s.get! 0).toNat := by
          have h3 := (hl2 0 (by omega)).1
          have h4 : l.getD (k + 0) 0 = c := by rw [← HCK.out]; simp [List.getD_eq_getElem?_getD, hlt]
          rw [h4] at h3
          omega
        have HD := Aside0.mk (decode_hi s h0s h0v)
        clear hl2 hss h0v h0s hse
        have hcells : ∀ j, j < s.size → wr.cell? ⟨b, off + k + j, none⟩ = some (.int .u8 (s.get! j).toNat) := by
          intro j hj
          have hj2 : j < l.length - k := by rw [← HZ.out]; exact hj
          obtain ⟨a2, ha2, hx2⟩ := C_cells (Kd.C_below HC.out HB.out) (by omega)
          injection ha2 with ha2
          subst ha2
          have h3 := hx2 (k + j) (by omega)
          rw [Addr.add_lit] at h3
          rw [Nat.add_assoc, h3, (HS.out j hj2).1]
          have := (HS.out j hj2).2
          congr 2
          omega
        have HCE := Aside0.mk hcells
        clear hcells
        rw [show ((⟨b, off, none⟩ : Addr).add k) = ⟨b, off + k, none⟩ from Addr.add_lit ..] at hx
        have HDec := fun W (hW : Below w.heap.size w W) (hc : ∀ j, j < s.size → W.cell? ⟨b, off + k + j, none⟩ = some (.int .u8 (s.get! j).toNat)) => Any7.utf8_DecodeRune Tryz.lays7n32 s b (off + k) (c0 - k) W ((GG_step HGG.out (f' := 4) (by decide) hW).2.2 (by decide)) hc
        obtain ⟨m, hm⟩ := (GG_step HGG.out (f' := 1) (by decide) HB.out).1 (by decide)
        go_wp2_with fail
        have HCA := HDec wr HB.out HCE.out
        rw [HZ.out] at HCA
        clear HDec
        refine HCA.mono ?_
        clear HCA
        obtain ⟨r, hr⟩ : ∃ r, (Lib.decodeGo s).1 = r := ⟨_, rfl⟩
        obtain ⟨wd, hwd⟩ : ∃ wd, (Lib.decodeGo s).2 = wd := ⟨_, rfl⟩
        rw [hr, hwd] at HD
        rw [hr, hwd]
        clear hr hwd
        rintro e w2 ⟨rfl, hb2⟩
        have HB2 := Aside0.mk (below_step HB.out hb2)
        have hm2 := pw_cell_below hb2 hm
        clear hm hb2 hx HCE HB
        obtain ⟨hw1, hw2, hr1, hr2, hw3, hw4, hw5⟩ := HD.out
        have HW1 := Aside0.mk hw3
        have HW3 := Aside0.mk hw4
        have HNX := Aside0.mk (show NoHit l (k + wd) by
          unfold NoHit
          rw [List.any_eq_false]
          intro y hy hy2
          rw [List.mem_take_iff_getElem] at hy
          obtain ⟨q, hq, rfl⟩ := hy
          by_cases hqk : q < k
          · have h7 := HN.out
            unfold NoHit at h7
            rw [List.any_eq_false] at h7
            exact h7 l[q] (by rw [List.mem_take_iff_getElem]; exact ⟨q, by omega, rfl⟩) hy2
          · have h8 := hw5 (q - k) (by omega)
            have h9 := (HS.out (q - k) (by omega))
            rw [show k + (q - k) = q from by omega] at h9
            have h10 : l.getD q 0 = l[q] := by simp [List.getD_eq_getElem?_getD, show q < l.length by omega]
            rw [h10] at h9
            unfold hitC at hy2
            simp only [Bool.or_eq_true, beq_iff_eq] at hy2
            omega)
        have hkw : k + wd ≤ l.length := by have := HZ.out; omega
        clear hw3 hw4 hw5 HD HS HZ
        have hr13 : ((r : Int) == 13) = false := by rw [beq_eq_false_iff_ne]; omega
        have hr10 : ((r : Int) == 10) = false := by rw [beq_eq_false_iff_ne]; omega
        by_cases h65 : r = 65533
        · subst h65
          go_wp2
          go_loopw [15] (fun _ wi => ∃ pos : Nat, pos ≤ 2 ∧ wi = w2.iter ⟨#[13, 10]⟩ pos) (fun _ wi => 2 - wi.iterPos w2.heap.size)
          case atStart => exact ⟨0, by omega, rfl⟩
          case round =>
            obtain ⟨pos, hp, rfl⟩ := hrel
            have hcase : pos = 0 ∨ pos = 1 ∨ pos = 2 := by omega
            rcases hcase with rfl | rfl | rfl
            · have hnx := next0 w2
              go_wp2
              go_roundw
              case measure => rw [World.iterPos_iter, World.iterPos_iter]; omega
              case rel => exact ⟨1, by omega, rfl⟩
            · have hnx := next1 w2
              go_wp2
              go_roundw
              case measure => rw [World.iterPos_iter, World.iterPos_iter]; omega
              case rel => exact ⟨2, by omega, rfl⟩
            · have hnx := next2 w2
              go_wp2
              go_roundw
              case measure => simp [intOf]; omega
              case rel =>
                (repeat apply Exists.intro)
                first
                  | (refine ⟨⟨k + wd, hkw, ?hu, HNX, ⟨iter_below HB2.out _ _⟩⟩, ?hf⟩; (case hf => first | exact rfl | (repeat' (first | exact rfl | refine ⟨rfl, ?_⟩))); (case hu => go_num))
                  | (refine ⟨⟨k + wd, hkw, ?hu, HNX⟩, ?hf⟩; (case hf => first | exact rfl | (repeat' (first | exact rfl | refine ⟨rfl, ?_⟩))); (case hu => go_num))
        · have hne65 : ((r : Int) == 65533) = false := by rw [beq_eq_false_iff_ne]; omega
          have hne65' : ((r : Int) != 65533) = true := by rw [bne_iff_ne]; omega
          have hw2' : 2 ≤ wd := by
            rcases Nat.lt_or_ge wd 2 with h | h
            · exact absurd (HW1.out (by omega)) h65
            · exact h
          by_cases h2w : wd = 2
          · subst h2w
            have hnee : (([13, 10] : List UInt8) == (Utf8.encode (r : Int)).toList) = false := by rw [beq_eq_false_iff_ne]; exact fun e => encode_ne r hr1 hr2 e.symm
            go_wp2
            go_roundw
            case measure => simp [intOf]; omega
            case rel =>
              (repeat apply Exists.intro)
              first
                | (refine ⟨⟨k + 2, hkw, ?hu, HNX, HB2⟩, ?hf⟩; (case hf => first | exact rfl | (repeat' (first | exact rfl | refine ⟨rfl, ?_⟩))); (case hu => go_num))
                | (refine ⟨⟨k + 2, hkw, ?hu, HNX⟩, ?hf⟩; (case hf => first | exact rfl | (repeat' (first | exact rfl | refine ⟨rfl, ?_⟩))); (case hu => go_num))
          · have hw2n : ((2 : Int) == (wd : Int)) = false := by rw [beq_eq_false_iff_ne]; omega
            have HSZ := Aside0.mk (encode_size r (HW3.out (by omega)).1 hr2)
            by_cases hmw : (wd : Int) ≤ m
            · go_wp2
              rw [run_callFunc_extern Tryz.func216 (by kernel_rfl) (by kernel_rfl) (by kernel_rfl) (e := Extern.BytealgIndex.index) (by kernel_rfl)]
              rw [Lib.run_indexString _ _ _ 0 m (by kernel_rfl) hm2 (by have := HSZ.out.1; omega) (by have h1 := (HW3.out (by omega)).2; have h2 := HSZ.out.2.1; have h3 := HSZ.out.2.2; rcases h1 with h1 | h1 <;> omega) (by decide)]
              have hidx : Lib.index (⟨#[13, 10]⟩ : ByteArray).data.toList (Utf8.encode (r : Int)).data.toList = -1 := by
                have h1 := HSZ.out.1
                have h2 : (Utf8.encode (r : Int)).data.toList.length = (Utf8.encode (r : Int)).size := data_length _
                refine Lib.index_long (by rw [h2]; show 2 ≤ _; omega) (fun e => ?_)
                have := congrArg List.length e
                rw [h2] at this
                have h4 : (⟨#[13, 10]⟩ : ByteArray).data.toList.length = 2 := rfl
                omega
              rw [hidx]
              clear hidx
              simp only [Result.andThen]
              rw [Oper.upon_value]
              go_wp2
              go_roundw
              case measure => simp [intOf]; omega
              case rel =>
                (repeat apply Exists.intro)
                first
                  | (refine ⟨⟨k + wd, hkw, ?hu, HNX, HB2⟩, ?hf⟩; (case hf => first | exact rfl | (repeat' (first | exact rfl | refine ⟨rfl, ?_⟩))); (case hu => go_num))
                  | (refine ⟨⟨k + wd, hkw, ?hu, HNX⟩, ?hf⟩; (case hf => first | exact rfl | (repeat' (first | exact rfl | refine ⟨rfl, ?_⟩))); (case hu => go_num))
            · have hmw' : m < (wd : Int) := by omega
              go_wp2
              go_loopw [15] (fun _ wi => ∃ pos : Nat, pos ≤ 2 ∧ wi = w2.iter ⟨#[13, 10]⟩ pos) (fun _ wi => 2 - wi.iterPos w2.heap.size)
              case atStart => exact ⟨0, by omega, rfl⟩
              case round =>
                obtain ⟨pos, hp, rfl⟩ := hrel
                have hcase : pos = 0 ∨ pos = 1 ∨ pos = 2 := by omega
                rcases hcase with rfl | rfl | rfl
                · have hnx := next0 w2
                  go_wp2
                  go_roundw
                  case measure => rw [World.iterPos_iter, World.iterPos_iter]; omega
                  case rel => exact ⟨1, by omega, rfl⟩
                · have hnx := next1 w2
                  go_wp2
                  go_roundw
                  case measure => rw [World.iterPos_iter, World.iterPos_iter]; omega
                  case rel => exact ⟨2, by omega, rfl⟩
                · have hnx := next2 w2
                  go_wp2
                  go_roundw
                  case measure => simp [intOf]; omega
                  case rel =>
                    (repeat apply Exists.intro)
                    first
                      | (refine ⟨⟨k + wd, hkw, ?hu, HNX, ⟨iter_below HB2.out _ _⟩⟩, ?hf⟩; (case hf => first | exact rfl | (repeat' (first | exact rfl | refine ⟨rfl, ?_⟩))); (case hu => go_num))
                      | (refine ⟨⟨k + wd, hkw, ?hu, HNX⟩, ?hf⟩; (case hf => first | exact rfl | (repeat' (first | exact rfl | refine ⟨rfl, ?_⟩))); (case hu => go_num))
    · have hk' : k = l.length := by omega
      subst hk'
      have HN2 := Aside0.mk (show l.any hitC = false by have := HN.out; unfold NoHit at this; rwa [List.take_length] at this)
      go_wp2
      go_ret
      exact AnyRes.mk (-1) rfl (by rw [HN2.out]; rfl) HB.out
theorem indexAny_x (A0 : Option Addr) (c0 : Nat) (l : List Int) (w : World) (hr : Kd.C (Kd.int .u8) w A0 l.length l) (hc0 : l.length ≤ c0) (hb : isBytes l = true) (hs : l.length < 4294967281) (hG : GG 5 w) :
    Calls Tryz.prog 184 #[.slice A0 l.length c0, .string CRLF] w (AnyRes l w) := by
  by_cases h8 : 8 < l.length
  · exact indexAny_big A0 c0 l w hr hb h8 hs
  · by_cases h1 : l.length = 1
    · obtain ⟨c, rfl⟩ := List.length_eq_one_iff.1 h1
      have hc := isBytes_mem hb c (by simp)
      by_cases hl : c < 128
      · exact indexAny_one_low A0 c0 c w hr hc.1 hl
      · exact indexAny_one_high A0 c0 c w hr (by omega) hc.2
    · exact indexAny_small A0 c0 l w hr hc0 hb (by omega) h1 hG
set_option maxHeartbeats 1000000 in
set_option maxRecDepth 100000 in
theorem containsAny_x (A0 : Option Addr) (c0 : Nat) (l : List Int) (w : World) (hr : Kd.C (Kd.int .u8) w A0 l.length l) (hc0 : l.length ≤ c0) (hb : isBytes l = true) (hs : l.length < 4294967281) (hG : GG 5 w) :
    Calls Tryz.prog 151 #[.slice A0 l.length c0, .string CRLF] w fun e w' => e = .returned (.bool (l.any hitC)) ∧ Below w.heap.size w w' := by
  have HX := Aside0.mk (indexAny_x A0 c0 l w hr hc0 hb hs hG)
  clear hr hb hG
  go_enter Tryz.func151, Tryz.ntmps151
  go_wp2_with (go_at_call 184; refine HX.out.mono ?_; rintro e w' ⟨n, rfl, hn, hb2⟩; have HN := Aside0.mk hn; have HB := Aside0.mk hb2; clear hn hb2)
  go_ret
  exact ⟨by rw [← HN.out]; rfl, HB.out⟩
end Go.Proofs.YtnhpcpmgedjffaaGreatDoorX
end
section
namespace Go.Proofs.YtnhpcpmgedjffaaGreatDoorX
open Go.RowKit Go.Proofs.YtnhpcpmgedjffaaGreatDoorW.PrintWords Go.Proofs.YtnhpcpmgedjffaaGreatDoorW.PrintLast Go.Proofs.YtnhpcpmgedjffaaGreatDoorW.PrintMore
set_option linter.unusedVariables false
set_option linter.unusedSimpArgs false
def letB (c : Int) : Bool := (decide (48 ≤ c) && decide (c ≤ 57)) || (decide (65 ≤ c) && decide (c ≤ 90)) || (decide (97 ≤ c) && decide (c ≤ 122)) || c == 33 || (decide (35 ≤ c) && decide (c ≤ 39)) || c == 42 || c == 43 || c == 45 || c == 46 || (decide (94 ≤ c) && decide (c ≤ 96)) || c == 124 || c == 126
theorem ret_bool {a b : Bool} (h : a = b) : Ending.returned (.bool a) = .returned (.bool b) := by rw [h]
set_option maxHeartbeats 4000000 in
theorem letter_calls (c : Int) (w : World) (h0 : 0 ≤ c) (h1 : c ≤ 255) :
    Calls Tryz.prog 131 #[.int .u8 c] w fun e w' => e = .returned (.bool (letB c)) ∧ w = w' := by
  obtain ⟨r, hr⟩ : ∃ r, letB c = r := ⟨_, rfl⟩
  have HR := Aside0.mk hr
  rw [hr]
  clear hr
  go_enter Tryz.func131, Tryz.ntmps131
  go_wp2
  all_goals
    go_ret
    refine ⟨ret_bool ?_, rfl⟩
    rw [← HR.out]
    rw [Bool.eq_iff_iff]
    simp only [letB, Bool.or_eq_true, Bool.and_eq_true, decide_eq_true_eq, beq_iff_eq, true_iff, Bool.false_eq_true, false_iff]
    omega
end Go.Proofs.YtnhpcpmgedjffaaGreatDoorX
end
section
namespace Go.Proofs.YtnhpcpmgedjffaaGreatDoorX
open Go.RowKit Go.Proofs.YtnhpcpmgedjffaaGreatDoorW.PrintWords Go.Proofs.YtnhpcpmgedjffaaGreatDoorW.PrintLast Go.Proofs.YtnhpcpmgedjffaaGreatDoorW.PrintMore Go.MapKept
set_option linter.unusedVariables false
set_option linter.unusedSimpArgs false

def ents : Nat → List (Value × Value) → List MapEntry
  | _, [] => []
  | b, p :: l => { key := p.1, val := p.2, born := b } :: ents (b + 1) l
def MLit (w : World) (g : Nat) (l : List (Value × Value)) : Prop := w.heap[g]? = some (.map (ents 0 l).toArray l.length)
theorem MLit.below {w w' : World} {g : Nat} {l : List (Value × Value)} (h : MLit w g l) (hb : Below w.heap.size w w') : MLit w' g l := blk_below h hb
section
variable {P : Program} {ops : Array Oper} {Q : Exit → Act → World → Prop} {o : Oper} {rest : List Oper} {a : Act}
end
end Go.Proofs.YtnhpcpmgedjffaaGreatDoorX
end
section
namespace Go.Proofs.YtnhpcpmgedjffaaGreatDoorX
open Go.RowKit Go.Proofs.YtnhpcpmgedjffaaGreatDoorW.PrintWords Go.Proofs.YtnhpcpmgedjffaaGreatDoorW.PrintLast Go.Proofs.YtnhpcpmgedjffaaGreatDoorW.PrintMore
set_option linter.unusedVariables false
set_option linter.unusedSimpArgs false
abbrev SBK (b : Nat) (w w' : World) : Prop := Lib.OthersKept 5 (some b) w w'

end Go.Proofs.YtnhpcpmgedjffaaGreatDoorX
end
section
namespace Go.Proofs.YtnhpcpmgedjffaaGreatDoorX
open Go.RowKit Go.Proofs.YtnhpcpmgedjffaaGreatDoorW.PrintWords Go.Proofs.YtnhpcpmgedjffaaGreatDoorW.PrintLast Go.Proofs.YtnhpcpmgedjffaaGreatDoorW.PrintMore
set_option linter.unusedVariables false
set_option linter.unusedSimpArgs false
abbrev c8 (l : List UInt8) : List Value := Lib.byteCells l
theorem kept_cells {w w' : World} {b g : Nat} {cs : Array Value} {t : TypeId} {fz : Nat × Nat} (hk : SBK b w w') (hg : w.heap[g]? = some (.cells cs t fz)) (hne : g ≠ b) (ht : t ≠ 5) : w'.heap[g]? = some (.cells cs t fz) :=
  hk g _ hg (fun e => hne (Option.some.inj e)) (fun c f e => by simp only [Obj.cells.injEq] at e; exact ht e.2.1)
def TxtRow (w : World) (b : Nat) (A : Option Addr) (xs : List ByteArray) : Prop :=
  xs = [] ∨ ∃ g, A = some ⟨g, 0, none⟩ ∧ g ≠ b ∧ w.heap[g]? = some (.cells (xs.map Value.string).toArray 9 (0, 0))
theorem TxtRow.kept {w w' : World} {b : Nat} {A : Option Addr} {xs : List ByteArray} (h : TxtRow w b A xs) (hk : SBK b w w') : TxtRow w' b A xs := by
  rcases h with h | ⟨g, hA, hne, hg⟩
  · exact .inl h
  · exact .inr ⟨g, hA, hne, kept_cells hk hg hne (by decide)⟩
end Go.Proofs.YtnhpcpmgedjffaaGreatDoorX
end
section
-- Written by the proof's own program out of the translation; Lean checks it.
namespace Go.Proofs.YtnhpcpmgedjffaaGreatDoor.P
open Go.RowKit Go.Proofs.YtnhpcpmgedjffaaGreatDoorW.PrintWords Go.Proofs.YtnhpcpmgedjffaaGreatDoorW.PrintLast Go.Proofs.YtnhpcpmgedjffaaGreatDoorW.PrintMore Go.Proofs.YtnhpcpmgedjffaaGreatDoorX
attribute [local go_sem] max2_int min2_int max_two min_two max_three min_three max_four min_four   -- for this text's walks alone
set_option linter.unusedVariables false
set_option linter.unusedSimpArgs false



def errW : Option Int → Value
 | none => .nilIface
 | some c => .iface 0 (.int .i64 c)
theorem errW_none : errW none = .nilIface := rfl
theorem errW_some (c : Int) : errW (some c) = .iface 0 (.int .i64 c) := rfl

theorem info5 : (Tryz.prog.info? 5).map (fun i => (i.zero, i.size, i.bytes)) = some (some (.int .u8 0), 1, 1) := by kernel_rfl
theorem info9 : (Tryz.prog.info? 9).map (fun i => (i.zero, i.size, i.bytes)) = some (some (.string ⟨#[]⟩), 1, 16) := by kernel_rfl
theorem info52 : (Tryz.prog.info? 52).map (fun i => (i.zero, i.size, i.bytes)) = some (some (.agg #[(.string ⟨#[]⟩), (.string ⟨#[]⟩)]), 2, 32) := by kernel_rfl
-- the values' own types
/-! #### struct type 52 -/
structure S52 where
 f0 : ByteArray
 f1 : ByteArray
def z52 : S52 := ⟨(⟨#[]⟩ : ByteArray), (⟨#[]⟩ : ByteArray)⟩
def k52 : Kd S52 := Kd.iso (Kd.pair Kd.string Kd.string) (fun x : S52 => (x.f0, x.f1))
theorem k52_heap : Kd.Heap k52 := Kd.heap_iso _ (Kd.heap_pair Kd.heap_string Kd.heap_string)
theorem k52_open {w : World} {x : S52} {cs : List Value} (h : k52.K w x cs) : cs = [.string x.f0, .string x.f1] := by
 obtain ⟨_, _, rfl, rfl, rfl⟩ := h
 exact rfl
theorem k52_openM {w : World} {base : Nat} {ok : Nat → Prop} {x : S52} {cs : List Value} (h : k52.M w base ok x cs) : cs = [.string x.f0, .string x.f1] := by
 obtain ⟨_, _, rfl, rfl, rfl⟩ := h
 exact rfl
theorem k52_mk (w : World) (x : S52)  : k52.K w x [.string x.f0, .string x.f1] := ⟨[.string x.f0], [.string x.f1], rfl, rfl, rfl⟩
theorem k52_mkM (w : World) (base : Nat) (ok : Nat → Prop) (x : S52)  : k52.M w base ok x [.string x.f0, .string x.f1] := ⟨[.string x.f0], [.string x.f1], rfl, rfl, rfl⟩
theorem k52_mkF (W : World) (ok : Nat → Prop) (x : S52) : Kd.FK k52 W ok x [.string x.f0, .string x.f1] := fun W2 _ => k52_mk W2 x
def rd_T52 (xs : List S52) (i : Int) : S52 := xs.getD i.toNat z52
theorem at_T52 {w : World} {A : Option Addr} {n : Nat} {xs : List S52} (h : Kd.C k52 w A n xs) (i : Int) (h0 : 0 ≤ i) (h1 : i < n) : ∃ ad , A = some ad ∧ w.cell? (ad.add (i.toNat * 2)) = some (.string (rd_T52 xs i).f0) ∧ w.cell? ⟨(ad.add (i.toNat * 2)).block, (ad.add (i.toNat * 2)).off + 1, none⟩ = some (.string (rd_T52 xs i).f1) := by
 obtain ⟨ad, c, e, _, hK, hc0⟩ := Kd.C_get h z52 i h0 h1
 have hc : ∀ j u, c[j]? = some u → w.cell? (ad.add (i.toNat * 2 + j)) = some u := hc0
 obtain rfl := k52_open hK
 exact ⟨ad, e, hc 0 _ rfl, by rw [← add_field _ _ 1 (by omega)]; exact hc 1 _ rfl⟩

end Go.Proofs.YtnhpcpmgedjffaaGreatDoor.P
end
section
-- Written by the proof's own program out of the translation; Lean checks it.
namespace Go.Proofs.YtnhpcpmgedjffaaGreatDoor.P
open Go.RowKit Go.Proofs.YtnhpcpmgedjffaaGreatDoorW.PrintWords Go.Proofs.YtnhpcpmgedjffaaGreatDoorW.PrintLast Go.Proofs.YtnhpcpmgedjffaaGreatDoorW.PrintMore Go.Proofs.YtnhpcpmgedjffaaGreatDoorX
attribute [local go_sem] max2_int min2_int max_two min_two max_three min_three max_four min_four   -- for this text's walks alone
set_option linter.unusedVariables false
set_option linter.unusedSimpArgs false

theorem eqA52 (d : Nat) (w : World) (x0 y0 : ByteArray) (x1 y1 : ByteArray) :
  (Op.equalIn (d + 2) 52 (.agg #[.string x0, .string x1]) (.agg #[.string y0, .string y1])).run Tryz.prog w = .ok (x0.toList == y0.toList && (x1.toList == y1.toList)) w := by
 refine eqA_of Tryz.underlying52 (by kernel_rfl) ?_
 refine eqf_cons (by rfl) (by go_simp; rfl) (by go_simp; rfl) (by go_simp) ?_
 exact eqf_last (by rfl) (by go_simp; rfl) (by go_simp; rfl) (by go_simp)
end Go.Proofs.YtnhpcpmgedjffaaGreatDoor.P
end
