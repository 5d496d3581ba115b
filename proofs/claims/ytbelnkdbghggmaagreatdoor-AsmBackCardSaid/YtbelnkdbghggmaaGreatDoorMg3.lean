/- Texts of this claim that stand one behind another, merged. -/
import Derived.Shelf.Strings.Builder1
import Derived.Shelf.Small.Strs
import Derived.Shelf.Small.Wraps
import Derived.Shelf.Strings.BuilderF
import Derived.Shelf.Strings.BuilderK
import Derived.Shelf.Utf8.RuneCount
import Derived.Shelf.Strconv.Itoa0
import Derived.Shelf.Strconv.Itoa1
import Derived.Shelf.LaysM
import Derived.Shelf.Strconv.Itoa2
import Derived.Shelf.Strconv.Itoa3
import Derived.Shelf.Strconv.ParseIntEmpty
import Derived.Shelf.Strconv.Clone
import Derived.Shelf.Strconv.SyntaxError
import Derived.Shelf.LaysC
import Derived.Shelf.Strconv.ToError
import Derived.Shelf.Strconv.Lower
import Derived.Shelf.Strconv.ParseUint10
import Derived.Shelf.Strconv.ParseUint10Empty
import Derived.Shelf.Strconv.ParseUint10Any
import Derived.Shelf.Strconv.ParseInt10
import Derived.Shelf.Strconv.RangeError
import Derived.Shelf.Strconv.ToErrorRange
import Derived.Shelf.Strconv.ParseUintEmpty
import Derived.Shelf.Strconv.ParseUint10b64
import Derived.Shelf.Strconv.ParseUint10b32
import Derived.Shelf.Strconv.ParseUint10b16
import Derived.Shelf.Strconv.ParseUint10b8
import Derived.Shelf.Strconv.ParseUint10At
import Derived.Shelf.Strconv.ParseInt10At64
import Derived.Shelf.Strconv.ParseInt10At32
import Derived.Shelf.Strconv.ParseInt10At16
import Derived.Shelf.Strconv.ParseInt10At8
import Derived.Shelf.Strconv.ParseInt10All
import Derived.Shelf.Strconv.ParseIntPublic10
import Derived.Shelf.Strconv.ErrVarParseInt
import Derived.Shelf.Strings.Search1
import Derived.Shelf.Strings.Search2
import Derived.Shelf.Strings.Search3
import Derived.Shelf.Strings.Cut
import Derived.Shelf.Strings.Count
import Derived.Shelf.Strings.Shaped
import Derived.Shelf.Strings.Prefix
import Derived.Shelf.Strings.Split
import Derived.Shelf.Strings.SplitShaped
import Derived.Shelf.Unicode.Decode
import Derived.Shelf.Strings.RuneCount
import Derived.Shelf.Strings.Explode
import Derived.Shelf.Unicode.DecodeSlow
import Derived.Shelf.Unicode.DecodeAny
import Derived.Test.YtbelnkdbghggmaaGreatDoorProg
import Derived.Test.YtbelnkdbghggmaaGreatDoorMg2
import Derived.Lib.AppendIntMem
import Derived.Lib.ItoaLen
import Derived.Sort.CutIn
import Derived.Laws.BitsLemmas
import Derived.Lib.Hide
import Derived.RangeFuncNested
import Derived.RangeFuncBound
import Derived.RangeFuncCalls
import Derived.RangeFuncLeaves
import Derived.Shelf.Abstract
import Derived.Shelf.AbstractIn
import Derived.Shelf.RegionOpen
import Derived.OwnWalkIn
import Derived.TacticsInMore
import Derived.LoopNIn
import Derived.LoopIn
import Derived.Laws.EntriesVeiled
import Derived.WalkSpells
import Derived.Sort.QuietIn
import Derived.Lib.SliceRun
namespace Go.Proofs
open Go.Shelf Go.RowKit Go.Sort Go.Lib
def Tryz.lays169_ren : Go.Shelf.Ren := ⟨fun | 169 => 20 | n => n, fun | 70 => 46 | 9 => 9 | 0 => 0 | 72 => 49 | 37 => 47 | 127 => 85 | 3 => 3 | 5 => 5 | n => n, fun | n => n⟩
theorem Tryz.lays169 : Go.Proofs.Lays.n169 Tryz.prog Tryz.lays169_ren := {
  mixed := by kernel_rfl
  f169 := Tryz.func20.trans (congrArg some (by kernel_rfl))
  t0 := Tryz.underlying0
  a0 := Tryz.isAgg0
  z0 := Tryz.sizeOf0
  v0 := Tryz.zeroValue0
  t3 := Tryz.underlying3
  a3 := Tryz.isAgg3
  z3 := Tryz.sizeOf3
  v3 := Tryz.zeroValue3
  t9 := Tryz.underlying9
  a9 := Tryz.isAgg9
  z9 := Tryz.sizeOf9
  v9 := Tryz.zeroValue9
  t37 := Tryz.underlying47
  a37 := Tryz.isAgg47
  z37 := Tryz.sizeOf47
  v37 := Tryz.zeroValue47
  t70 := Tryz.underlying46
  a70 := Tryz.isAgg46
  z70 := Tryz.sizeOf46
  v70 := Tryz.zeroValue46
  t72 := Tryz.underlying49
  a72 := Tryz.isAgg49
  z72 := Tryz.sizeOf49
  v72 := Tryz.zeroValue49
  t127 := Tryz.underlying85
  a127 := Tryz.isAgg85
  z127 := Tryz.sizeOf85
  v127 := Tryz.zeroValue85 }
theorem Tryz.Builder_Extra_169 : Builder.Extra Tryz.prog Tryz.lays169_ren := {
  sizeBuilder := by kernel_rfl
  liesBuilder := by kernel_rfl
  t5 := Tryz.underlying5
  a5 := Tryz.isAgg5
  z5 := Tryz.sizeOf5
  v5 := Tryz.zeroValue5
  infoByte := by kernel_rfl
  cellsByte := by kernel_rfl
  sizeByte := by kernel_rfl
  neB5 := by decide }
theorem Tryz.Builder_String_any (B b : Nat) (l : List UInt8) (w : World) (h : Lib.IsBuilder 49 5 B b (Lib.byteCells l) w) (hBw : B ≤ w.heap.size) :
    Calls Tryz.prog 20 #[.pointer (some ⟨b, 0, none⟩)] w fun e w' => e = .returned (.string ⟨l.toArray⟩) ∧ Below B w w' := Any.Builder_String_any Tryz.lays169 Tryz.Builder_Extra_169 B b l w h hBw
def Tryz.lays103_ren : Go.Shelf.Ren := ⟨fun | 103 => 78 | 210 => 86 | 206 => 93 | n => n, fun | 9 => 9 | 4 => 4 | 24 => 67 | 3 => 3 | n => n, fun | n => n⟩
theorem Tryz.lays103 : Go.Proofs.Lays.n103 Tryz.prog Tryz.lays103_ren := {
  mixed := by kernel_rfl
  f103 := Tryz.func78.trans (congrArg some (by kernel_rfl))
  f206 := Tryz.func93.trans (congrArg some (by kernel_rfl))
  f210 := Tryz.func86.trans (congrArg some (by kernel_rfl))
  t3 := Tryz.underlying3
  a3 := Tryz.isAgg3
  z3 := Tryz.sizeOf3
  v3 := Tryz.zeroValue3
  t4 := Tryz.underlying4
  a4 := Tryz.isAgg4
  z4 := Tryz.sizeOf4
  v4 := Tryz.zeroValue4
  t9 := Tryz.underlying9
  a9 := Tryz.isAgg9
  z9 := Tryz.sizeOf9
  v9 := Tryz.zeroValue9
  t24 := Tryz.underlying67
  a24 := Tryz.isAgg67
  z24 := Tryz.sizeOf67
  v24 := Tryz.zeroValue67 }
theorem Tryz.strings_CutPrefix (s p : ByteArray) (w : World) :
    Calls Tryz.prog 78 #[.string s, .string p] w fun e w' => e = .returned (.tuple #[.string ⟨(Lib.trimPrefix s.data.toList p.data.toList).toArray⟩, .bool (Lib.hasPrefix s.data.toList p.data.toList)]) ∧ w' = w := Any.strings_CutPrefix Tryz.lays103 s p w
def Tryz.lays104_ren : Go.Shelf.Ren := ⟨fun | 104 => 27 | 211 => 55 | 207 => 74 | n => n, fun | 9 => 9 | 4 => 4 | 24 => 67 | 3 => 3 | n => n, fun | n => n⟩
theorem Tryz.lays104 : Go.Proofs.Lays.n104 Tryz.prog Tryz.lays104_ren := {
  mixed := by kernel_rfl
  f104 := Tryz.func27.trans (congrArg some (by kernel_rfl))
  f207 := Tryz.func74.trans (congrArg some (by kernel_rfl))
  f211 := Tryz.func55.trans (congrArg some (by kernel_rfl))
  t3 := Tryz.underlying3
  a3 := Tryz.isAgg3
  z3 := Tryz.sizeOf3
  v3 := Tryz.zeroValue3
  t4 := Tryz.underlying4
  a4 := Tryz.isAgg4
  z4 := Tryz.sizeOf4
  v4 := Tryz.zeroValue4
  t9 := Tryz.underlying9
  a9 := Tryz.isAgg9
  z9 := Tryz.sizeOf9
  v9 := Tryz.zeroValue9
  t24 := Tryz.underlying67
  a24 := Tryz.isAgg67
  z24 := Tryz.sizeOf67
  v24 := Tryz.zeroValue67 }
theorem Tryz.strings_CutSuffix (s p : ByteArray) (w : World) (hs : s.size ≤ 9223372036854775807) :
    Calls Tryz.prog 27 #[.string s, .string p] w fun e w' => e = .returned (.tuple #[.string ⟨(Lib.trimSuffix s.data.toList p.data.toList).toArray⟩, .bool (Lib.hasSuffix s.data.toList p.data.toList)]) ∧ w' = w := Any.strings_CutSuffix Tryz.lays104 s p w hs
def Tryz.laysM171_ren : Go.Shelf.Ren := ⟨fun | 171 => 43 | 243 => 64 | 246 => 80 | 283 => 88 | 284 => 89 | 285 => 90 | 286 => 91 | 129 => 97 | 317 => 96 | 318 => 98 | 319 => 99 | 320 => 100 | 337 => 106 | 338 => 107 | n => n, fun | 3 => 3 | 9 => 9 | 2 => 2 | 4 => 4 | 171 => 126 | 0 => 0 | 53 => 63 | 37 => 47 | 5 => 5 | 173 => 129 | 212 => 133 | 51 => 113 | 20 => 20 | 213 => 134 | 46 => 94 | 232 => 152 | 233 => 153 | n => n, fun | 17 => 1 | 18 => 6 | 19 => 7 | n => n⟩
theorem Tryz.laysM171 : Go.Proofs.LaysM.n171 Tryz.prog Tryz.laysM171_ren := {
  mixed := by kernel_rfl
  f129 := Tryz.func97.trans (congrArg some (by kernel_rfl))
  f171 := Tryz.func43.trans (congrArg some (by kernel_rfl))
  f243 := Tryz.func64.trans (congrArg some (by kernel_rfl))
  f246 := Tryz.func80.trans (congrArg some (by kernel_rfl))
  f283 := Tryz.func88.trans (congrArg some (by kernel_rfl))
  f284 := Tryz.func89.trans (congrArg some (by kernel_rfl))
  f285 := Tryz.func90.trans (congrArg some (by kernel_rfl))
  f286 := Tryz.func91.trans (congrArg some (by kernel_rfl))
  f317 := Tryz.func96.trans (congrArg some (by kernel_rfl))
  f318 := Tryz.func98.trans (congrArg some (by kernel_rfl))
  f319 := Tryz.func99.trans (congrArg some (by kernel_rfl))
  f320 := Tryz.func100.trans (congrArg some (by kernel_rfl))
  f337 := Tryz.func106.trans (congrArg some (by kernel_rfl))
  f338 := Tryz.func107.trans (congrArg some (by kernel_rfl))
  t0 := Tryz.underlying0
  a0 := Tryz.isAgg0
  z0 := Tryz.sizeOf0
  v0 := Tryz.zeroValue0
  t2 := Tryz.underlying2
  a2 := Tryz.isAgg2
  z2 := Tryz.sizeOf2
  v2 := Tryz.zeroValue2
  t3 := Tryz.underlying3
  a3 := Tryz.isAgg3
  z3 := Tryz.sizeOf3
  v3 := Tryz.zeroValue3
  t4 := Tryz.underlying4
  a4 := Tryz.isAgg4
  z4 := Tryz.sizeOf4
  v4 := Tryz.zeroValue4
  t5 := Tryz.underlying5
  a5 := Tryz.isAgg5
  z5 := Tryz.sizeOf5
  v5 := Tryz.zeroValue5
  t9 := Tryz.underlying9
  a9 := Tryz.isAgg9
  z9 := Tryz.sizeOf9
  v9 := Tryz.zeroValue9
  t20 := Tryz.underlying20
  a20 := Tryz.isAgg20
  z20 := Tryz.sizeOf20
  v20 := Tryz.zeroValue20
  t37 := Tryz.underlying47
  a37 := Tryz.isAgg47
  z37 := Tryz.sizeOf47
  v37 := Tryz.zeroValue47
  t46 := Tryz.underlying94
  a46 := Tryz.isAgg94
  z46 := Tryz.sizeOf94
  v46 := Tryz.zeroValue94
  t51 := Tryz.underlying113
  a51 := Tryz.isAgg113
  z51 := Tryz.sizeOf113
  v51 := Tryz.zeroValue113
  t53 := Tryz.underlying63
  a53 := Tryz.isAgg63
  z53 := Tryz.sizeOf63
  v53 := Tryz.zeroValue63
  t171 := Tryz.underlying126
  a171 := Tryz.isAgg126
  z171 := Tryz.sizeOf126
  v171 := Tryz.zeroValue126
  t173 := Tryz.underlying129
  a173 := Tryz.isAgg129
  z173 := Tryz.sizeOf129
  v173 := Tryz.zeroValue129
  t212 := Tryz.underlying133
  a212 := Tryz.isAgg133
  z212 := Tryz.sizeOf133
  v212 := Tryz.zeroValue133
  t213 := Tryz.underlying134
  a213 := Tryz.isAgg134
  z213 := Tryz.sizeOf134
  t232 := Tryz.underlying152
  a232 := Tryz.isAgg152
  z232 := Tryz.sizeOf152
  v232 := Tryz.zeroValue152
  t233 := Tryz.underlying153
  a233 := Tryz.isAgg153
  z233 := Tryz.sizeOf153
  v233 := Tryz.zeroValue153
  g17 := by kernel_rfl
  g18 := by kernel_rfl
  g19 := by kernel_rfl
  i0 := by kernel_rfl
  i2 := by kernel_rfl
  i3 := by kernel_rfl
  i4 := by kernel_rfl
  i5 := by kernel_rfl
  i9 := by kernel_rfl
  i20 := by kernel_rfl
  i37 := by kernel_rfl
  i46 := by kernel_rfl
  i51 := by kernel_rfl
  i53 := by kernel_rfl
  i171 := by kernel_rfl
  i173 := by kernel_rfl
  i212 := by kernel_rfl
  i232 := by kernel_rfl
  i233 := by kernel_rfl
  m17 := by kernel_rfl
  m18 := by kernel_rfl
  m19 := by kernel_rfl }
theorem Tryz.strconv_Itoa (n : Int) (h0 : -9223372036854775808 ≤ n) (h1 : n ≤ 9223372036854775807) (w : World) (htab : Lib.TabIs Tryz.prog w "internal/strconv.uint64pow10" .u64 Lib.pow10Tab) :
    Calls Tryz.prog 43 #[.int .i64 n] w fun e w' => e = .returned (.string ⟨(Lib.itoa n).toArray⟩) ∧ ∃ k os, w' = grow (w.drewN k) os := Any.strconv_Itoa Tryz.laysM171 n h0 h1 w htab
def Tryz.laysC174_ren : Go.Shelf.Ren := ⟨fun | 174 => 87 | 247 => 94 | 245 => 95 | 287 => 101 | 279 => 102 | 280 => 103 | 281 => 104 | 282 => 105 | 321 => 108 | 322 => 109 | 316 => 110 | 171 => 43 | 205 => 111 | 243 => 64 | 246 => 80 | 283 => 88 | 284 => 89 | 285 => 90 | 286 => 91 | 129 => 97 | 317 => 96 | 318 => 98 | 319 => 99 | 320 => 100 | 337 => 106 | 338 => 107 | n => n, fun | 9 => 9 | 3 => 3 | 2 => 2 | 75 => 52 | 85 => 124 | 4 => 4 | 167 => 140 | 5 => 5 | 53 => 63 | 175 => 141 | 46 => 94 | 168 => 143 | 37 => 47 | 0 => 0 | 210 => 150 | 21 => 21 | 127 => 85 | 145 => 156 | 143 => 154 | 171 => 126 | 173 => 129 | 212 => 133 | 51 => 113 | 20 => 20 | 213 => 134 | 232 => 152 | 233 => 153 | 80 => 56 | n => n, fun | 15 => 4 | 16 => 5 | 17 => 1 | 18 => 6 | 19 => 7 | n => n⟩
theorem Tryz.laysC174 : Go.Proofs.LaysC.n174 Tryz.prog Tryz.laysC174_ren := {
  mixed := by kernel_rfl
  f129 := Tryz.func97.trans (congrArg some (by kernel_rfl))
  f171 := Tryz.func43.trans (congrArg some (by kernel_rfl))
  f174 := Tryz.func87.trans (congrArg some (by kernel_rfl))
  f205 := Tryz.func111.trans (congrArg some (by kernel_rfl))
  f243 := Tryz.func64.trans (congrArg some (by kernel_rfl))
  f245 := Tryz.func95.trans (congrArg some (by kernel_rfl))
  f246 := Tryz.func80.trans (congrArg some (by kernel_rfl))
  f247 := Tryz.func94.trans (congrArg some (by kernel_rfl))
  f279 := Tryz.func102.trans (congrArg some (by kernel_rfl))
  f280 := Tryz.func103.trans (congrArg some (by kernel_rfl))
  f281 := Tryz.func104.trans (congrArg some (by kernel_rfl))
  f282 := Tryz.func105.trans (congrArg some (by kernel_rfl))
  f283 := Tryz.func88.trans (congrArg some (by kernel_rfl))
  f284 := Tryz.func89.trans (congrArg some (by kernel_rfl))
  f285 := Tryz.func90.trans (congrArg some (by kernel_rfl))
  f286 := Tryz.func91.trans (congrArg some (by kernel_rfl))
  f287 := Tryz.func101.trans (congrArg some (by kernel_rfl))
  f316 := Tryz.func110.trans (congrArg some (by kernel_rfl))
  f317 := Tryz.func96.trans (congrArg some (by kernel_rfl))
  f318 := Tryz.func98.trans (congrArg some (by kernel_rfl))
  f319 := Tryz.func99.trans (congrArg some (by kernel_rfl))
  f320 := Tryz.func100.trans (congrArg some (by kernel_rfl))
  f321 := Tryz.func108.trans (congrArg some (by kernel_rfl))
  f322 := Tryz.func109.trans (congrArg some (by kernel_rfl))
  f337 := Tryz.func106.trans (congrArg some (by kernel_rfl))
  f338 := Tryz.func107.trans (congrArg some (by kernel_rfl))
  t0 := Tryz.underlying0
  a0 := Tryz.isAgg0
  z0 := Tryz.sizeOf0
  v0 := Tryz.zeroValue0
  t2 := Tryz.underlying2
  a2 := Tryz.isAgg2
  z2 := Tryz.sizeOf2
  v2 := Tryz.zeroValue2
  t3 := Tryz.underlying3
  a3 := Tryz.isAgg3
  z3 := Tryz.sizeOf3
  v3 := Tryz.zeroValue3
  t4 := Tryz.underlying4
  a4 := Tryz.isAgg4
  z4 := Tryz.sizeOf4
  v4 := Tryz.zeroValue4
  t5 := Tryz.underlying5
  a5 := Tryz.isAgg5
  z5 := Tryz.sizeOf5
  v5 := Tryz.zeroValue5
  t9 := Tryz.underlying9
  a9 := Tryz.isAgg9
  z9 := Tryz.sizeOf9
  v9 := Tryz.zeroValue9
  t20 := Tryz.underlying20
  a20 := Tryz.isAgg20
  z20 := Tryz.sizeOf20
  v20 := Tryz.zeroValue20
  t21 := Tryz.underlying21
  a21 := Tryz.isAgg21
  z21 := Tryz.sizeOf21
  v21 := Tryz.zeroValue21
  t37 := Tryz.underlying47
  a37 := Tryz.isAgg47
  z37 := Tryz.sizeOf47
  v37 := Tryz.zeroValue47
  t46 := Tryz.underlying94
  a46 := Tryz.isAgg94
  z46 := Tryz.sizeOf94
  v46 := Tryz.zeroValue94
  t51 := Tryz.underlying113
  a51 := Tryz.isAgg113
  z51 := Tryz.sizeOf113
  v51 := Tryz.zeroValue113
  t53 := Tryz.underlying63
  a53 := Tryz.isAgg63
  z53 := Tryz.sizeOf63
  v53 := Tryz.zeroValue63
  t75 := Tryz.underlying52
  a75 := Tryz.isAgg52
  z75 := Tryz.sizeOf52
  v75 := Tryz.zeroValue52
  t85 := Tryz.underlying124
  a85 := Tryz.isAgg124
  z85 := Tryz.sizeOf124
  v85 := Tryz.zeroValue124
  t127 := Tryz.underlying85
  a127 := Tryz.isAgg85
  z127 := Tryz.sizeOf85
  v127 := Tryz.zeroValue85
  t143 := Tryz.underlying154
  a143 := Tryz.isAgg154
  z143 := Tryz.sizeOf154
  v143 := Tryz.zeroValue154
  t145 := Tryz.underlying156
  a145 := Tryz.isAgg156
  z145 := Tryz.sizeOf156
  v145 := Tryz.zeroValue156
  t167 := Tryz.underlying140
  a167 := Tryz.isAgg140
  z167 := Tryz.sizeOf140
  v167 := Tryz.zeroValue140
  t168 := Tryz.underlying143
  a168 := Tryz.isAgg143
  z168 := Tryz.sizeOf143
  v168 := Tryz.zeroValue143
  t171 := Tryz.underlying126
  a171 := Tryz.isAgg126
  z171 := Tryz.sizeOf126
  v171 := Tryz.zeroValue126
  t173 := Tryz.underlying129
  a173 := Tryz.isAgg129
  z173 := Tryz.sizeOf129
  v173 := Tryz.zeroValue129
  t175 := Tryz.underlying141
  a175 := Tryz.isAgg141
  z175 := Tryz.sizeOf141
  v175 := Tryz.zeroValue141
  t210 := Tryz.underlying150
  a210 := Tryz.isAgg150
  z210 := Tryz.sizeOf150
  v210 := Tryz.zeroValue150
  t212 := Tryz.underlying133
  a212 := Tryz.isAgg133
  z212 := Tryz.sizeOf133
  v212 := Tryz.zeroValue133
  t213 := Tryz.underlying134
  a213 := Tryz.isAgg134
  z213 := Tryz.sizeOf134
  t232 := Tryz.underlying152
  a232 := Tryz.isAgg152
  z232 := Tryz.sizeOf152
  v232 := Tryz.zeroValue152
  t233 := Tryz.underlying153
  a233 := Tryz.isAgg153
  z233 := Tryz.sizeOf153
  v233 := Tryz.zeroValue153
  g15 := by kernel_rfl
  g16 := by kernel_rfl
  g17 := by kernel_rfl
  g18 := by kernel_rfl
  g19 := by kernel_rfl
  t80 := Tryz.underlying56
  a80 := Tryz.isAgg56
  z80 := Tryz.sizeOf56
  v80 := Tryz.zeroValue56
  i0 := by kernel_rfl
  i2 := by kernel_rfl
  i3 := by kernel_rfl
  i4 := by kernel_rfl
  i5 := by kernel_rfl
  i9 := by kernel_rfl
  i20 := by kernel_rfl
  i21 := by kernel_rfl
  i37 := by kernel_rfl
  i46 := by kernel_rfl
  i51 := by kernel_rfl
  i53 := by kernel_rfl
  i75 := by kernel_rfl
  i80 := by kernel_rfl
  i85 := by kernel_rfl
  i127 := by kernel_rfl
  i143 := by kernel_rfl
  i145 := by kernel_rfl
  i167 := by kernel_rfl
  i168 := by kernel_rfl
  i171 := by kernel_rfl
  i173 := by kernel_rfl
  i175 := by kernel_rfl
  i210 := by kernel_rfl
  i212 := by kernel_rfl
  i232 := by kernel_rfl
  i233 := by kernel_rfl
  m15 := by kernel_rfl
  m16 := by kernel_rfl
  m17 := by kernel_rfl
  m18 := by kernel_rfl
  m19 := by kernel_rfl
  c0 := by kernel_rfl
  c2 := by kernel_rfl
  c3 := by kernel_rfl
  c4 := by kernel_rfl
  c5 := by kernel_rfl
  c9 := by kernel_rfl
  c20 := by kernel_rfl
  c21 := by kernel_rfl
  c37 := by kernel_rfl
  c46 := by kernel_rfl
  c51 := by kernel_rfl
  c53 := by kernel_rfl
  c75 := by kernel_rfl
  c80 := by kernel_rfl
  c85 := by kernel_rfl
  c127 := by kernel_rfl
  c143 := by kernel_rfl
  c145 := by kernel_rfl
  c167 := by kernel_rfl
  c168 := by kernel_rfl
  c171 := by kernel_rfl
  c173 := by kernel_rfl
  c175 := by kernel_rfl
  c210 := by kernel_rfl
  c212 := by kernel_rfl
  c213 := by kernel_rfl
  c232 := by kernel_rfl
  c233 := by kernel_rfl }
theorem Tryz.strconv_ParseInt_10_at32_ok (s : ByteArray) (hmax : s.size ≤ 9223372036854775806) (v : Int) (h : Lib.parseIntB 32 s.data.toList = .ok v) (w : World) :
    Calls Tryz.prog 87 #[.string s, .int .i64 10, .int .i64 32] w fun e w' => e = .returned (.tuple #[.int .i64 v, .nilIface]) ∧ (w' = w ∨ ∃ t, w' = Lib.bytesWorld w 5 t) := Any.strconv_ParseInt_10_at32_ok Tryz.laysC174 s hmax v h w
theorem Tryz.strconv_ParseInt_10_at32_syntax_var (s : ByteArray) (hlim : s.size ≤ 281474976710656) (h : Lib.parseIntB 32 s.data.toList = .«syntax») (tp : TypeId) (p : Value) (w : World) (hvar : w.var? Tryz.prog "strconv.ErrSyntax" = some #[.iface tp p]) :
    Calls Tryz.prog 87 #[.string s, .int .i64 10, .int .i64 32] w fun e w' => ∃ N, e = .returned (.tuple #[.int .i64 (0), .iface 143 (.pointer (some ⟨N, 0, none⟩))]) ∧ w.heap.size ≤ N ∧ w'.heap[N]? = some (.cells #[.string ⟨#[80, 97, 114, 115, 101, 73, 110, 116]⟩, .string s, .iface tp p] 150 (0, 0)) ∧ Below w.heap.size w w' := Any.strconv_ParseInt_10_at32_syntax_var Tryz.laysC174 s hlim h tp p w hvar
theorem Tryz.strconv_ParseInt_10_at32_range_var (s : ByteArray) (hlim : s.size ≤ 281474976710656) (h : Lib.parseIntB 32 s.data.toList = .range) (tp : TypeId) (p : Value) (w : World) (hvar : w.var? Tryz.prog "strconv.ErrRange" = some #[.iface tp p]) :
    Calls Tryz.prog 87 #[.string s, .int .i64 10, .int .i64 32] w fun e w' => ∃ N, e = .returned (.tuple #[.int .i64 (Lib.intSat 32 s.data.toList), .iface 143 (.pointer (some ⟨N, 0, none⟩))]) ∧ w.heap.size ≤ N ∧ w'.heap[N]? = some (.cells #[.string ⟨#[80, 97, 114, 115, 101, 73, 110, 116]⟩, .string s, .iface tp p] 150 (0, 0)) ∧ Below w.heap.size w w' := Any.strconv_ParseInt_10_at32_range_var Tryz.laysC174 s hlim h tp p w hvar
def Tryz.lays145_ren : Go.Shelf.Ren := ⟨fun | 145 => 14 | 220 => 26 | 219 => 54 | 217 => 70 | 225 => 71 | 224 => 72 | 267 => 73 | 266 => 81 | 314 => 82 | n => n, fun | 9 => 9 | 4 => 4 | 59 => 42 | 3 => 3 | 5 => 5 | 46 => 94 | 146 => 120 | 51 => 113 | n => n, fun | 1 => 0 | n => n⟩
theorem Tryz.lays145 : Go.Proofs.Lays.n145 Tryz.prog Tryz.lays145_ren := {
  mixed := by kernel_rfl
  f145 := Tryz.func14.trans (congrArg some (by kernel_rfl))
  f217 := Tryz.func70.trans (congrArg some (by kernel_rfl))
  f219 := Tryz.func54.trans (congrArg some (by kernel_rfl))
  f220 := Tryz.func26.trans (congrArg some (by kernel_rfl))
  f224 := Tryz.func72.trans (congrArg some (by kernel_rfl))
  f225 := Tryz.func71.trans (congrArg some (by kernel_rfl))
  f266 := Tryz.func81.trans (congrArg some (by kernel_rfl))
  f267 := Tryz.func73.trans (congrArg some (by kernel_rfl))
  f314 := Tryz.func82.trans (congrArg some (by kernel_rfl))
  t3 := Tryz.underlying3
  a3 := Tryz.isAgg3
  z3 := Tryz.sizeOf3
  v3 := Tryz.zeroValue3
  t4 := Tryz.underlying4
  a4 := Tryz.isAgg4
  z4 := Tryz.sizeOf4
  v4 := Tryz.zeroValue4
  t5 := Tryz.underlying5
  a5 := Tryz.isAgg5
  z5 := Tryz.sizeOf5
  v5 := Tryz.zeroValue5
  t9 := Tryz.underlying9
  a9 := Tryz.isAgg9
  z9 := Tryz.sizeOf9
  v9 := Tryz.zeroValue9
  t46 := Tryz.underlying94
  a46 := Tryz.isAgg94
  z46 := Tryz.sizeOf94
  v46 := Tryz.zeroValue94
  t51 := Tryz.underlying113
  a51 := Tryz.isAgg113
  z51 := Tryz.sizeOf113
  v51 := Tryz.zeroValue113
  t59 := Tryz.underlying42
  a59 := Tryz.isAgg42
  z59 := Tryz.sizeOf42
  v59 := Tryz.zeroValue42
  t146 := Tryz.underlying120
  a146 := Tryz.isAgg120
  z146 := Tryz.sizeOf120
  v146 := Tryz.zeroValue120
  g1 := by kernel_rfl }
theorem Tryz.strings_Cut (s sep : ByteArray) (m : Int) (w : World) (hs : s.size < 4294967281) (hm : w.cell? ⟨0, 0, none⟩ = some (.int .i64 m)) :
    Calls Tryz.prog 14 #[.string s, .string sep] w fun e w' => e = .returned (.tuple #[.string ⟨(Lib.cut s.data.toList sep.data.toList).1.toArray⟩, .string ⟨(Lib.cut s.data.toList sep.data.toList).2.1.toArray⟩, .bool (Lib.cut s.data.toList sep.data.toList).2.2]) ∧ ∃ n, w' = w.drewN n := Any.strings_Cut Tryz.lays145 s sep m w hs hm
def Tryz.lays102_ren : Go.Shelf.Ren := ⟨fun | 102 => 44 | 209 => 65 | 207 => 74 | n => n, fun | 9 => 9 | 4 => 4 | 3 => 3 | n => n, fun | n => n⟩
theorem Tryz.lays102 : Go.Proofs.Lays.n102 Tryz.prog Tryz.lays102_ren := {
  mixed := by kernel_rfl
  f102 := Tryz.func44.trans (congrArg some (by kernel_rfl))
  f207 := Tryz.func74.trans (congrArg some (by kernel_rfl))
  f209 := Tryz.func65.trans (congrArg some (by kernel_rfl))
  t3 := Tryz.underlying3
  a3 := Tryz.isAgg3
  z3 := Tryz.sizeOf3
  v3 := Tryz.zeroValue3
  t4 := Tryz.underlying4
  a4 := Tryz.isAgg4
  z4 := Tryz.sizeOf4
  v4 := Tryz.zeroValue4
  t9 := Tryz.underlying9
  a9 := Tryz.isAgg9
  z9 := Tryz.sizeOf9
  v9 := Tryz.zeroValue9 }
theorem Tryz.strings_TrimSuffix (s p : ByteArray) (w : World) (hs : s.size ≤ 9223372036854775807) :
    Calls Tryz.prog 44 #[.string s, .string p] w fun e w' => e = .returned (.string ⟨(Lib.trimSuffix s.data.toList p.data.toList).toArray⟩) ∧ w' = w := Any.strings_TrimSuffix Tryz.lays102 s p w hs
def Tryz.lays146_ren : Go.Shelf.Ren := ⟨fun | 146 => 29 | 221 => 56 | 268 => 75 | 138 => 76 | 143 => 77 | 195 => 83 | 197 => 84 | 218 => 85 | 219 => 54 | 260 => 92 | 217 => 70 | 225 => 71 | 224 => 72 | 267 => 73 | 266 => 81 | 314 => 82 | n => n, fun | 9 => 9 | 31 => 69 | 3 => 3 | 4 => 4 | 0 => 0 | 105 => 122 | 21 => 21 | 5 => 5 | 46 => 94 | 119 => 136 | 139 => 139 | 138 => 138 | 146 => 120 | 51 => 113 | n => n, fun | 1 => 0 | 3 => 2 | 4 => 3 | n => n⟩
theorem Tryz.lays146 : Go.Proofs.Lays.n146 Tryz.prog Tryz.lays146_ren := {
  mixed := by kernel_rfl
  f138 := Tryz.func76.trans (congrArg some (by kernel_rfl))
  f143 := Tryz.func77.trans (congrArg some (by kernel_rfl))
  f146 := Tryz.func29.trans (congrArg some (by kernel_rfl))
  f195 := Tryz.func83.trans (congrArg some (by kernel_rfl))
  f197 := Tryz.func84.trans (congrArg some (by kernel_rfl))
  f217 := Tryz.func70.trans (congrArg some (by kernel_rfl))
  f218 := Tryz.func85.trans (congrArg some (by kernel_rfl))
  f219 := Tryz.func54.trans (congrArg some (by kernel_rfl))
  f221 := Tryz.func56.trans (congrArg some (by kernel_rfl))
  f224 := Tryz.func72.trans (congrArg some (by kernel_rfl))
  f225 := Tryz.func71.trans (congrArg some (by kernel_rfl))
  f260 := Tryz.func92.trans (congrArg some (by kernel_rfl))
  f266 := Tryz.func81.trans (congrArg some (by kernel_rfl))
  f267 := Tryz.func73.trans (congrArg some (by kernel_rfl))
  f268 := Tryz.func75.trans (congrArg some (by kernel_rfl))
  f314 := Tryz.func82.trans (congrArg some (by kernel_rfl))
  t0 := Tryz.underlying0
  a0 := Tryz.isAgg0
  z0 := Tryz.sizeOf0
  v0 := Tryz.zeroValue0
  t3 := Tryz.underlying3
  a3 := Tryz.isAgg3
  z3 := Tryz.sizeOf3
  v3 := Tryz.zeroValue3
  t4 := Tryz.underlying4
  a4 := Tryz.isAgg4
  z4 := Tryz.sizeOf4
  v4 := Tryz.zeroValue4
  t5 := Tryz.underlying5
  a5 := Tryz.isAgg5
  z5 := Tryz.sizeOf5
  v5 := Tryz.zeroValue5
  t9 := Tryz.underlying9
  a9 := Tryz.isAgg9
  z9 := Tryz.sizeOf9
  v9 := Tryz.zeroValue9
  t21 := Tryz.underlying21
  a21 := Tryz.isAgg21
  z21 := Tryz.sizeOf21
  v21 := Tryz.zeroValue21
  t31 := Tryz.underlying69
  a31 := Tryz.isAgg69
  z31 := Tryz.sizeOf69
  v31 := Tryz.zeroValue69
  t46 := Tryz.underlying94
  a46 := Tryz.isAgg94
  z46 := Tryz.sizeOf94
  v46 := Tryz.zeroValue94
  t51 := Tryz.underlying113
  a51 := Tryz.isAgg113
  z51 := Tryz.sizeOf113
  v51 := Tryz.zeroValue113
  t105 := Tryz.underlying122
  a105 := Tryz.isAgg122
  z105 := Tryz.sizeOf122
  v105 := Tryz.zeroValue122
  t119 := Tryz.underlying136
  a119 := Tryz.isAgg136
  z119 := Tryz.sizeOf136
  t138 := Tryz.underlying138
  a138 := Tryz.isAgg138
  z138 := Tryz.sizeOf138
  v138 := Tryz.zeroValue138
  t139 := Tryz.underlying139
  a139 := Tryz.isAgg139
  z139 := Tryz.sizeOf139
  v139 := Tryz.zeroValue139
  t146 := Tryz.underlying120
  a146 := Tryz.isAgg120
  z146 := Tryz.sizeOf120
  v146 := Tryz.zeroValue120
  g1 := by kernel_rfl
  g3 := by kernel_rfl
  g4 := by kernel_rfl }
theorem Tryz.strings_Split (s sep : ByteArray) (m : Int) (w : World) (hs : s.size < 4294967281) (hm : w.cell? ⟨0, 0, none⟩ = some (.int .i64 m)) (h1 : 1 ≤ sep.size) :
    Calls Tryz.prog 29 #[.string s, .string sep] w fun e w' =>
      e = .returned (.slice (some ⟨w.heap.size, 0, none⟩) (Lib.countB s sep + 1) (Lib.countB s sep + 1)) ∧ w' = w.alloc (.cells ((Lib.splitB sep 0 (Lib.countB s sep) s).map Value.string).toArray 9) := Any.strings_Split Tryz.lays146 (by kernel_rfl) s sep m w hs hm h1
def Tryz.lays166_ren : Go.Shelf.Ren := ⟨fun | 166 => 18 | 240 => 42 | 276 => 63 | n => n, fun | 31 => 49 | 9 => 9 | 3 => 3 | 4 => 4 | 0 => 0 | 20 => 20 | 70 => 46 | 72 => 49 | 37 => 47 | 5 => 5 | 164 => 109 | 75 => 52 | 80 => 56 | n => n, fun  | n => n⟩
theorem Tryz.lays166 : Lays.n166 Tryz.prog Tryz.lays166_ren := {
  mixed := by kernel_rfl
  f166 := Tryz.func18.trans (congrArg some (by kernel_rfl))
  f240 := Tryz.func42.trans (congrArg some (by kernel_rfl))
  f276 := Tryz.func63.trans (congrArg some (by kernel_rfl))
  t0 := Tryz.underlying0
  a0 := Tryz.isAgg0
  z0 := Tryz.sizeOf0
  v0 := Tryz.zeroValue0
  t3 := Tryz.underlying3
  a3 := Tryz.isAgg3
  z3 := Tryz.sizeOf3
  v3 := Tryz.zeroValue3
  t4 := Tryz.underlying4
  a4 := Tryz.isAgg4
  z4 := Tryz.sizeOf4
  v4 := Tryz.zeroValue4
  t9 := Tryz.underlying9
  a9 := Tryz.isAgg9
  z9 := Tryz.sizeOf9
  v9 := Tryz.zeroValue9
  t20 := Tryz.underlying20
  a20 := Tryz.isAgg20
  z20 := Tryz.sizeOf20
  v20 := Tryz.zeroValue20
  t37 := Tryz.underlying47
  a37 := Tryz.isAgg47
  z37 := Tryz.sizeOf47
  v37 := Tryz.zeroValue47
  t70 := Tryz.underlying46
  a70 := Tryz.isAgg46
  z70 := Tryz.sizeOf46
  v70 := Tryz.zeroValue46
  t72 := Tryz.underlying49
  a72 := Tryz.isAgg49
  z72 := Tryz.sizeOf49
  v72 := Tryz.zeroValue49
  t75 := Tryz.underlying52
  a75 := Tryz.isAgg52
  z75 := Tryz.sizeOf52
  v75 := Tryz.zeroValue52
  t164 := Tryz.underlying109
  a164 := Tryz.isAgg109
  z164 := Tryz.sizeOf109
  v164 := Tryz.zeroValue109 }

theorem Tryz.Builder_Extra_166 : Builder.Extra Tryz.prog Tryz.lays166_ren := {
  sizeBuilder := by kernel_rfl
  liesBuilder := by kernel_rfl
  t5 := Tryz.underlying5
  a5 := Tryz.isAgg5
  z5 := Tryz.sizeOf5
  v5 := Tryz.zeroValue5
  infoByte := by kernel_rfl
  cellsByte := by kernel_rfl
  sizeByte := by kernel_rfl
  neB5 := by decide }
theorem Tryz.Builder_WriteString (B b : Nat) (bs : List Value) (s : ByteArray) (w : World) (h : Lib.IsBuilder 49 5 B b bs w) (hlen : bs.length + s.size ≤ 140737488355328) (hBw : B ≤ w.heap.size) :
    Calls Tryz.prog 18 #[.pointer (some ⟨b, 0, none⟩), .string s] w fun e w' => e = .returned (.tuple #[.int .i64 s.size, .nilIface]) ∧ (Lib.BuilderAt 49 5 B b (.pointer (some ⟨b, 0, none⟩)) (bs ++ Lib.strCells s) w' ∧ Below B w w') := Any.Builder_WriteString Tryz.lays166 Tryz.Builder_Extra_166 B b bs s w h hlen hBw
end Go.Proofs
namespace Go.Proofs.YtbelnkdbghggmaaGreatDoor.X
open Go.RowKit Go.Shelf Go.Proofs.YtbelnkdbghggmaaGreatDoorW.PrintWords Go.Proofs.YtbelnkdbghggmaaGreatDoorW.PrintLast
attribute [local go_sem] Oper.semAt_some
set_option linter.unusedVariables false
set_option linter.unusedSimpArgs false
/-- A number's decimal numeral. -/
def itoaB (n : Int) : ByteArray := ⟨(Lib.itoa n).toArray⟩
theorem itoaB_size (n : Int) (h0 : -9223372036854775808 ≤ n) (h1 : n ≤ 9223372036854775807) : (itoaB n).size ≤ 21 := by
  unfold itoaB
  rw [show (⟨(Lib.itoa n).toArray⟩ : ByteArray).size = (Lib.itoa n).length from by simp [ByteArray.size]]
  exact Lib.itoa_length_le n h0 h1
/-- Text behind one part more. -/
def tstep (op a b c e : Int) (s : ByteArray) (k : Nat) : ByteArray := if uses op k = true then (if letter k = 105 then s ++ ((⟨#[32]⟩ : ByteArray) ++ itoaB (num a b c e k)) else s ++ ((⟨#[32, 114]⟩ : ByteArray) ++ itoaB (num a b c e k))) else s
def textP (op a b c e : Int) (pre : List Nat) : ByteArray := pre.foldl (tstep op a b c e) (nameN op.toNat)
theorem textP_snoc (op a b c e : Int) (pre : List Nat) (x : Nat) : textP op a b c e (pre ++ [x]) = tstep op a b c e (textP op a b c e pre) x := by simp [textP]
abbrev Tab (w : World) : Prop := Lib.TabIs Tryz.prog w "internal/strconv.uint64pow10" .u64 Lib.pow10Tab
theorem tab_mono {w w' : World} (h : Tab w) (hb : Below w.heap.size w w') : Tab w' := Lib.tabBelow_of_tabIs h w' hb
theorem Itoa_any (n : Int) (h0 : -9223372036854775808 ≤ n) (h1 : n ≤ 9223372036854775807) (w : World) (ht : Tab w) :
    Calls Tryz.prog 43 #[.int .i64 n] w fun e w' => e = .returned (.string (itoaB n)) ∧ Below w.heap.size w w' :=
  (Tryz.strconv_Itoa n h0 h1 w ht).mono fun e w' ⟨he, k, os, hw⟩ => ⟨he, by rw [hw]; exact Lib.below_grow _ _ (Nat.le_refl _) _ _⟩
theorem bcell {W w1 : World} (hb : Below W.heap.size W w1) : (∀ b o, b < W.heap.size → w1.cell? ⟨b, o, none⟩ = W.cell? ⟨b, o, none⟩) ∧ (∀ b o, b < W.heap.size → w1.frozen? ⟨b, o, none⟩ = W.frozen? ⟨b, o, none⟩) :=
  ⟨fun b o h => hb.cell (p := ⟨b, o, none⟩) h, fun b o h => hb.frozen (p := ⟨b, o, none⟩) h⟩
set_option maxRecDepth 100000 in
set_option maxHeartbeats 8000000 in
theorem Text_no (op a b c e : Int) (hf : inst_Fit.f op a b c e = some false) (w : World) :
    Calls Tryz.prog 25 #[.agg #[.int .i64 op, .int .i64 a, .int .i64 b, .int .i64 c, .int .i32 e]] w fun e_ w' => e_ = .returned (.string ByteArray.empty) ∧ Below w.heap.size w w' := by
  have HF := Aside0.mk hf
  have HB := Aside0.mk (below_alloc (Below.refl w.heap.size w) (.cells #[.int .i64 op, .int .i64 a, .int .i64 b, .int .i64 c, .int .i32 e] 38))
  clear hf
  go_enter Tryz.func25, Tryz.ntmps25
  go_wp2_with (go_at_call 40; (with_reducible refine (inst_Fit.calls _ _ _ _ _ false _ HF.out).mono ?_); rintro e_ w1 ⟨rfl, hb⟩)
  go_ret
  exact ⟨rfl, below_step HB.out hb⟩
theorem num_bd (op a b c e : Int) (he : -2147483648 ≤ e ∧ e ≤ 2147483647) (h : fitP op a b c e = true) (x : Nat) : -2147483648 ≤ num a b c e x ∧ num a b c e x ≤ 2147483647 := by
  unfold fitP at h
  rw [List.all_eq_true] at h
  have key : ∀ k, k < 3 → 0 ≤ num a b c e k ∧ num a b c e k < 16 := fun k hk => by
    have hb := h k (List.mem_range.2 (by omega))
    have hl : (letter k != 105) = true := by rcases k with _ | _ | _ | k <;> first | rfl | omega
    unfold bad at hb
    rw [hl] at hb
    simp at hb
    omega
  rcases x with _ | _ | _ | x
  · have := key 0 (by omega); omega
  · have := key 1 (by omega); rw [Nat.zero_add]; omega
  · have := key 2 (by omega); rw [show 0 + 1 + 1 = 2 from rfl]; omega
  · exact he
theorem bsize_append (x y : ByteArray) : (x ++ y).size = x.size + y.size := by simp [ByteArray.size_append]
theorem name_size (n : Nat) : (nameN n).size ≤ 8 := by
  unfold nameN
  by_cases h : n < 26
  · have key : ∀ k : Fin 26, (kindsL.getD k.val (ByteArray.empty, ByteArray.empty)).1.size ≤ 8 := by decide +kernel
    exact key ⟨n, h⟩
  · rw [List.getD_eq_getElem?_getD, List.getElem?_eq_none (by show 26 ≤ n; omega)]; decide
theorem textP_size (op a b c e : Int) (hn : ∀ x, -2147483648 ≤ num a b c e x ∧ num a b c e x ≤ 2147483647) (k : Nat) : ∀ pre : List Nat, pre.length = k → (textP op a b c e pre).size ≤ 8 + 23 * k := by
  induction k with
  | zero => intro pre hp; rw [List.length_eq_zero_iff.1 hp]; exact name_size _
  | succ k ih =>
    intro pre hp
    obtain ⟨q, x, rfl⟩ : ∃ q x, pre = q ++ [x] := ⟨pre.dropLast, pre.getLast (by intro h; rw [h] at hp; cases hp), (List.dropLast_concat_getLast _).symm⟩
    have hq := ih q (by simpa using hp)
    have hx := hn x
    have hz := itoaB_size (num a b c e x) (by omega) (by omega)
    rw [textP_snoc]
    unfold tstep
    split
    · split
      · rw [bsize_append, bsize_append, show (⟨#[32]⟩ : ByteArray).size = 1 from rfl]; omega
      · rw [bsize_append, bsize_append, show (⟨#[32, 114]⟩ : ByteArray).size = 2 from rfl]; omega
    · omega
theorem KeepC.setR {n₀ R : Nat} (W : World) (v : Value) (h : n₀ ≤ R) : KeepC n₀ R W (W.setCell ⟨R, 0, none⟩ v) :=
  ⟨(Below.refl n₀ W).setCell (p := ⟨R, 0, none⟩) h _, fun i o hi ho _ => (Below.heap_setCell _ _ _ _ hi).trans ho⟩
set_option maxRecDepth 100000 in
set_option maxHeartbeats 8000000 in
theorem Text_yes (op a b c e : Int) (hop : 0 ≤ op ∧ op < 26) (he : -2147483648 ≤ e ∧ e ≤ 2147483647) (hf : inst_Fit.f op a b c e = some true) (hft : fitP op a b c e = true) (w : World) (ht : Tab w) :
    Calls Tryz.prog 25 #[.agg #[.int .i64 op, .int .i64 a, .int .i64 b, .int .i64 c, .int .i32 e]] w fun e_ w' => e_ = .returned (.string (textP op a b c e (List.range 4))) ∧ Below w.heap.size w w' := by
  obtain ⟨n, rfl⟩ : ∃ m : Nat, op = (m : Int) := ⟨op.toNat, by omega⟩
  have hn : n < 26 := by omega
  have hfit := fun n_ W => (callsIn_wide (n := n_)).2 (inst_Fit.calls _ _ _ _ _ true W hf)
  have hkinds := fun n W => (callsIn_wide (n := n)).2 (kinds_any W)
  have hparts := fun n_ W => (callsIn_wide (n := n_)).2 (parts_calls #[.int .i64 (n : Int), .int .i64 a, .int .i64 b, .int .i64 c, .int .i32 e] W)
  have hix := fun W => index_kinds n hn W
  have hfi := fun W => field_name (nameN n) (shapeN n) W
  have HT := Aside0.mk ht
  have HNB := Lib.hid (num_bd _ a b c e he hft)
  have HE := Lib.hid he
  clear hft he
  have HB := Aside0.mk (below_alloc (Below.refl w.heap.size w) (.cells #[.int .i64 n, .int .i64 a, .int .i64 b, .int .i64 c, .int .i32 e] 38))
  have HI := Aside0.mk (blk_new w (.cells #[.int .i64 n, .int .i64 a, .int .i64 b, .int .i64 c, .int .i32 e] 38))
  have HSZ := Aside0.mk (show w.heap.size < (w.alloc (.cells #[.int .i64 n, .int .i64 a, .int .i64 b, .int .i64 c, .int .i32 e] 38)).heap.size by simp)
  have hu49 := Tryz.underlying97
  have hu48 := Tryz.underlying96
  have hu23 := Tryz.underlying38
  have hmx : Tryz.prog.follows .mixedOrders = true := by kernel_rfl
  clear hf hop ht
  refine (callsIn_wide (n := 3)).1 ?_
  refine callsIn_of_wp_marks Tryz.func25 rfl trivial ?_ rfl
  simp only [Tryz.ntmps25, List.size_toArray, List.length_cons, List.length_nil, Nat.reduceAdd, Nat.reduceSub, Array.replicate_succ, Array.replicate_zero, List.push_toArray, List.append_toArray, List.nil_append, List.cons_append]
  gi_upto_region 3 with (refine ⟨trivial, ?_⟩; gi_at_call 40; refine (hfit _ _).mono ?_; rintro e_ w2 ⟨rfl, hb2⟩)
  have hI2 := Aside0.mk (blk_below HI.out hb2)
  have hB2 := Aside0.mk (below_step HB.out hb2)
  have hS2 := HSZ.out
  have hs2 := hb2.size
  have hc0 : w2.cell? ⟨w.heap.size, 0, none⟩ = some (.int .i64 n) := (blk_cell hI2.out 0).trans rfl
  have hlt2 : w.heap.size < w2.heap.size := Nat.lt_of_lt_of_le hS2 hs2
  clear hb2 HB HI HSZ hfit hS2 hs2
  refine wpIn_wide.2 ?_
  go_cut [3] from 37 (fun s3 wx => ∃ SB : Nat, s3 = .pointer (some ⟨SB, 0, none⟩) ∧ w.heap.size < SB ∧ Boxed wx SB 9 (.string (nameN n)) ∧ wx.heap[w.heap.size]? = some (.cells #[.int .i64 n, .int .i64 a, .int .i64 b, .int .i64 c, .int .i32 e] 38 (0, 0)) ∧ Below w.heap.size w wx)
  case first =>
    go_region_held3 (fun w' => w'.cell? ⟨w.heap.size, 0, none⟩ = some (.int .i64 n)) (first | assumption | (simp [go_sem, *]; done) | (refine (World.cell?_alloc_past _ _ _ ?_).trans ?_ <;> first | assumption | omega | (simp [go_sem, *]; done) | (simp; omega)))
      (first | (go_at_call 52; (with_reducible refine (kinds_any _).mono ?_); rintro e_ w3 ⟨rfl, hb3⟩; have hc3 : w3.cell? ⟨w.heap.size, 0, none⟩ = some (.int .i64 n) := (hb3.cell (p := ⟨w.heap.size, 0, none⟩) (by simp; omega)).trans (by assumption); have hz3 : w.heap.size < w3.heap.size := (by have := hb3.size; simp at this; omega); obtain ⟨hcl, hfr⟩ := bcell hb3; (try simp only [World.size_alloc, World.size_drew] at hcl hfr)))
    all_goals
      go_wp2_with fail
      go_meet
    · exact ⟨w3.heap.size, rfl, by omega, Boxed.new _ _ _, blk_alloc (blk_below (blk_drew hI2.out) hb3) _, below_alloc (below_step (below_drew1 hB2.out) hb3) _⟩
    · exact ⟨w3.heap.size, rfl, by omega, Boxed.new _ _ _, blk_alloc (blk_below (blk_drew hI2.out) hb3) _, below_alloc (below_step (below_drew1 hB2.out) hb3) _⟩
    · refine ⟨w2.heap.size, rfl, hlt2, Boxed.set _ (blk_below (blk_drew (blk_new w2 _)) hb3), (Below.heap_setCell _ _ _ _ (by simp; omega)).trans (blk_below (blk_drew (blk_alloc hI2.out _)) hb3), (below_step (below_drew1 (below_alloc hB2.out _)) hb3).setCell (p := ⟨w2.heap.size, 0, none⟩) (by simp; omega) _⟩
  case rest =>
    obtain ⟨SB, rfl, hSB, hs, hi, hB⟩ := hcut
    have hi0 := blk_cell hi 0
    have hi1 := blk_cell hi 1
    have hi2 := blk_cell hi 2
    have hi3 := blk_cell hi 3
    have hi4 := blk_cell hi 4
    simp only [List.getElem?_toArray, List.getElem?_cons_zero, List.getElem?_cons_succ] at hi0 hi1 hi2 hi3 hi4
    clear hc0 hlt2 hI2 hB2
    gi_wp2_with (refine ⟨trivial, ?_⟩; gi_at_call 53; refine (hparts _ _).mono ?_; rintro e_ w4 ⟨rfl, rfl⟩)
    obtain ⟨W3, hW3⟩ : ∃ W3, W3 = wc.alloc (.cells #[.int .i64 n, .int .i64 a, .int .i64 b, .int .i64 c, .int .i32 e] 38) := ⟨_, rfl⟩
    rw [← hW3]
    have hsz : W3.heap.size = wc.heap.size + 1 := by rw [hW3]; simp
    have hB3 : Below w.heap.size w W3 := by rw [hW3]; exact below_alloc hB _
    have hs3 : Boxed W3 SB 9 (.string (nameN n)) := by rw [hW3]; exact hs.alloc _
    have hbB : W3.heap[wc.heap.size]? = some (.cells #[.int .i64 n, .int .i64 a, .int .i64 b, .int .i64 c, .int .i32 e] 38 (0, 0)) := by rw [hW3]; exact blk_new1 _ _ _ rfl
    have hSBl := hs.lt
    have hw0 := hB.size
    have hseq := parts_stops 2 (by decide) wc.heap.size SB w.heap.size n a b c e HE.out W3 hbB (by omega) (by omega) (by omega)
    clear hW3 hparts hbB hi0 hi1 hi2 hi3 hi4 hi hs hB hkinds hix hfi
    refine wpIn_rangeFunc_ownH rfl (by decide) (gf := 68) (lb := #[.pointer (some ⟨wc.heap.size, 0, none⟩)]) rfl trivial (enters_of Tryz.func68 (by kernel_rfl) rfl) hseq (fun h k => KeepC.trans h k) (KeepC.putObj (by omega)) (Below.refl _ _) (fun _ => rfl)
      (fun pre W => (Boxed W SB 9 (.string (textP n a b c e pre)) ∧ W3.heap.size ≤ W.heap.size) ∧ Below w.heap.size w W)
      (fun cd pre W => False)
      (OwnFrom.and (Own.from (fun s X Y row hs hg hr => ⟨boxed_own (β := Unit) _ _ (fun _ => _) () X Y row hs.1 hg hr, Nat.le_trans hs.2 hg.size⟩) _) (ownFrom_below (Nat.le_refl _) (by omega)))
      (fun cd => Own.from (fun s X Y row hs hg hr => hs) _)
      ⟨⟨by simpa [textP] using hs3, Nat.le_refl _⟩, hB3⟩
      (fun x a' W => ∃ q : Nat, a' = { tmps := #[.agg #[.int .i64 n, .int .i64 a, .int .i64 b, .int .i64 c, .int .i32 e], .pointer (some ⟨w.heap.size, 0, none⟩), .string ⟨#[]⟩, .pointer (some ⟨SB, 0, none⟩), .pointer (some ⟨q, 0, none⟩), .agg #[.int .i64 n, .int .i64 a, .int .i64 b, .int .i64 c, .int .i32 e], .bool true, .bool false, u8, u9, u10, u11, u12, .agg #[.int .i64 n, .int .i64 a, .int .i64 b, .int .i64 c, .int .i32 e], .func (.func 68) #[] #[.pointer (some ⟨wc.heap.size, 0, none⟩)], .agg #[.int .u8 (letter x), .int .i64 (num a b c e x), .bool (uses n x)], undef, undef, undef, undef, undef, undef, undef, undef, undef, undef, undef, undef, undef, undef, undef, undef, undef, undef, undef, undef, undef], defers := [] } ∧ W.heap[q]? = some (.cells #[.int .u8 (letter x), .int .i64 (num a b c e x), .bool (uses n x)] 103 (0, 0)) ∧ q ≠ SB)
      (fun x a' => Own.from (fun s X Y row hs hg hr => (let ⟨q, h1, h2, h3⟩ := hs; ⟨q, h1, blk_own (β := Unit) q _ _ () X Y row h2 hg hr, h3⟩)) _) ?assign ?body ?done ?stop
    case assign =>
      intro l pre x W K hI hK
      obtain ⟨⟨hv, hsW⟩, hBW⟩ := hI
      unfold partV
      gi_wp2
      exact hK _ _ (KeepsFrom.of_grownBy (World.grownBy_alloc W _ none) (fun j e => by cases e)) (KeepC.of_below (below_alloc (Below.refl _ _) _) (by omega)) ⟨⟨hv.kept (World.grownBy_alloc W _ none) (by simp), by simp; omega⟩, below_alloc hBW _⟩ ⟨W.heap.size, rfl, blk_new W _, by omega⟩
    case body =>
      rintro lp pre x a' W hl hex ⟨⟨hv, hsW⟩, hBW⟩ ⟨q, rfl, hq, hqn⟩ hlen
      have hq0 := blk_cell hq 0
      have hq1 := blk_cell hq 1
      have hq2 := blk_cell hq 2
      simp only [List.getElem?_toArray, List.getElem?_cons_zero, List.getElem?_cons_succ] at hq0 hq1 hq2
      have hc := hv.cell
      have hf := hv.frozen
      have htx := textP_snoc n a b c e pre x
      have hsize := textP_size n a b c e HNB.out pre.length pre rfl
      have hnb := HNB.out x
      have hT := Aside0.mk (tab_mono HT.out hBW)
      unfold tstep at htx
      have hib := itoaB_size (num a b c e x) (by omega) (by omega)
      clear hex
      generalize uses n x = u at *
      generalize num a b c e x = nn at *
      generalize letter x = L at *
      generalize textP n a b c e pre = s at *
      have hs100 : s.size ≤ 100 := by omega
      have hqW : q < W.heap.size := (Array.getElem?_eq_some_iff.1 hq).1
      have hSW : SB < W.heap.size := hv.lt
      have HTX := Lib.hid htx
      clear htx
      have HV := Lib.hid hv
      have HBW := Lib.hid hBW
      clear hv hBW
      cases u
      · gi_wp2
        exact ⟨KeepsFrom.refl _ _, KeepC.refl _ _ _, ⟨⟨by rw [HTX.out]; exact HV.out, hsW⟩, HBW.out⟩⟩
      · by_cases hL : L = 105
        all_goals
          gi_wp2_with fail
          gi_region_with_o (refine ⟨trivial, ?_⟩; gi_at_call 43; refine (CallsIn.inRound lp (callsIn_wide.2 (Itoa_any nn (by omega) (by omega) _ (tab_mono hT.out (by repeat (first | exact Below.refl _ _ | apply below_drew1)))))).mono ?_; rintro e_ w5 ⟨rfl, hb5⟩; obtain ⟨hcl, hfr⟩ := bcell hb5; (try simp only [World.size_alloc, World.size_drew] at hcl hfr))
          all_goals
            gi_wp2
            have hBB : Below W.heap.size W w5 := below_step (by repeat (first | exact Below.refl _ _ | apply below_drew1)) hb5
            have hv5 := HV.out.kept (grown_of_below hBB none) (by simp)
            have hs5 := hBB.size
            refine ⟨(KeepsFrom.of_grownBy (grown_of_below hBB none) (fun j e => by cases e)).trans ((KeepsOthers.setCell _ _ _).from _), (KeepC.of_below hBB (by omega)).trans (KeepC.setR _ _ (by omega)), ⟨⟨?_, by simp; omega⟩, (below_step HBW.out hBB).setCell (p := ⟨SB, 0, none⟩) (by simp; omega) _⟩⟩
            rw [HTX.out, if_pos trivial]
            first | rw [if_pos hL] | rw [if_neg hL]
            exact hv5.set _
    case done =>
      rintro D ys W hD hS ⟨⟨hv, hsW⟩, hBW⟩ hK
      have hS' : ys = List.range 4 := hS
      subst hS'
      have hc := hv.cell
      have hf := hv.frozen
      gi_wp2
      refine ⟨by simp, .inl ⟨_, _, rfl, run_takeDeferred hK, ?_⟩⟩
      exact ⟨_, results_tmp rfl _ _ _, rfl, hBW.trans (belowK_b (w := w) (Nat.le_refl _) W D _ _ (by omega) hK rfl rfl)⟩
    case stop =>
      rintro D cd pre W hD hpre h hK
      exact h.elim
def inst_Text.f (a0 a1 a2 a3 a4 : Int) : Option ByteArray := (inst_Fit.f a0 a1 a2 a3 a4).bind fun t => if t = true then some (textP a0 a1 a2 a3 a4 (List.range 4)) else some ByteArray.empty
theorem inst_Text.calls (a0_0 : Int) (a0_1 : Int) (a0_2 : Int) (a0_3 : Int) (a0_4 : Int) (r : ByteArray) (w : World) (ht : Tab w) (h : inst_Text.f a0_0 a0_1 a0_2 a0_3 a0_4 = some r) :
    Calls Tryz.prog 25 #[.agg #[.int .i64 a0_0, .int .i64 a0_1, .int .i64 a0_2, .int .i64 a0_3, .int .i32 a0_4]] w fun e w' => e = .returned (.string r) ∧ Below w.heap.size w w' := by
  unfold inst_Text.f at h
  obtain ⟨t, hft, h⟩ := Option.bind_eq_some_iff.1 h
  cases t
  · rw [if_neg (by decide)] at h
    cases h
    exact Text_no _ _ _ _ _ hft w
  · rw [if_pos rfl] at h
    cases h
    have hft2 := hft
    unfold inst_Fit.f at hft2
    split at hft2
    · rename_i he
      have hb := Option.some.inj hft2
      unfold fitB at hb
      rw [Bool.and_eq_true, decide_eq_true_eq] at hb
      exact Text_yes _ _ _ _ _ hb.1 he hft hb.2 w ht
    · cases hft2
end Go.Proofs.YtbelnkdbghggmaaGreatDoor.X
namespace Go.Proofs.YtbelnkdbghggmaaGreatDoor.X
open Go.RowKit Go.Proofs.YtbelnkdbghggmaaGreatDoorW.PrintWords
set_option linter.unusedVariables false
set_option linter.unusedSimpArgs false
theorem i32_bd {n : Int} (h : (Lit.int .i32 n).wf = true) : -2147483648 ≤ n ∧ n ≤ 2147483647 := by
  simp only [Lit.wf, Bool.and_eq_true, decide_eq_true_eq] at h
  exact h
theorem fitP_iff (op a b c e : Int) : fitP op a b c e = (!(bad op a b c e 0) && !(bad op a b c e 1) && !(bad op a b c e 2) && !(bad op a b c e 3)) := by
  unfold fitP
  rw [show List.range 4 = [0, 1, 2, 3] from rfl]
  simp [Bool.and_assoc]
theorem fitB_regs {op a b c e : Int} (h : fitB op a b c e = true) : 0 ≤ op ∧ op < 26 ∧ 0 ≤ a ∧ a < 16 ∧ 0 ≤ b ∧ b < 16 ∧ 0 ≤ c ∧ c < 16 := by
  unfold fitB at h
  rw [Bool.and_eq_true, decide_eq_true_eq, fitP_iff] at h
  obtain ⟨h0, h1⟩ := h
  simp [bad, num, letter] at h1
  omega
end Go.Proofs.YtbelnkdbghggmaaGreatDoor.X
namespace Go.Proofs.YtbelnkdbghggmaaGreatDoor.X
open Go.RowKit Go.Proofs.YtbelnkdbghggmaaGreatDoorW.PrintWords Go.Proofs.YtbelnkdbghggmaaGreatDoorW.PrintLast
set_option linter.unusedVariables false
set_option linter.unusedSimpArgs false
/-- A byte that can't stand in a name at place k. -/
def badN (k : Nat) (c : Int) : Bool :=
  ((!(decide (48 ≤ c) && decide (c ≤ 57))) && (!(decide (97 ≤ Go.bits .or .u8 c 32) && decide (Go.bits .or .u8 c 32 ≤ 122))) && (c != 95)) || (((k : Int) == 0) && (decide (48 ≤ c) && decide (c ≤ 57)))
def namesTo (s : ByteArray) (k : Nat) : Bool := (List.range k).all fun j => !badN j (bt s (j : Int))
def namedB (s : ByteArray) : Bool := namesTo s s.size && (decide (0 < s.size) && decide (s.size ≤ 16))
theorem namesTo_succ (s : ByteArray) (k : Nat) : namesTo s (k + 1) = (namesTo s k && !badN k (bt s (k : Int))) := by
  unfold namesTo
  rw [List.range_succ, List.all_append]
  simp
theorem namesTo_bad {s : ByteArray} {k n : Nat} (hk : k < n) (hb : badN k (bt s (k : Int)) = true) : namesTo s n = false := by
  unfold namesTo
  rw [List.all_eq_false]
  exact ⟨k, List.mem_range.2 hk, by rw [hb]; decide⟩
theorem byte_at (W : World) (s : ByteArray) (k : Nat) (hk : k < s.size) : (Lib.bytesWorld W 5 s).cell? ⟨W.heap.size, k, none⟩ = some (.int .u8 (bt s (k : Int))) := by
  rw [Lib.bytesWorld_cell W 5 s k hk]
  have hk' : k < s.data.toList.length := by rw [data_length]; exact hk
  simp [bt, hk, List.getD_eq_getElem?_getD, List.getElem?_eq_getElem hk']
  rfl
set_option maxRecDepth 100000 in
set_option maxHeartbeats 8000000 in
theorem named_any (s : ByteArray) (hs : s.size ≤ 9223372036854775807) (w : World) : Calls Tryz.prog 28 #[.string s] w fun e w' => e = .returned (.bool (namedB s)) ∧ Below w.heap.size w w' := by
  have kb := fun W => print_bytes (P := Tryz.prog) 9 47 5 Tryz.underlying9 Tryz.underlying47 Tryz.underlying5 s W
  have hcell := byte_at w s
  have hbel := bytes_below (Below.refl w.heap.size w) (Nat.le_refl _) 5 s
  generalize hW1 : Lib.bytesWorld w 5 s = W1 at hcell hbel
  have HC := Lib.hid hcell
  have HB := Lib.hid hbel
  have HW1 := Lib.hid hW1
  clear hcell hbel hW1
  go_enter Tryz.func28, Tryz.ntmps28
  go_wp2
  rw [HW1.out]
  go_loop [10] (fun i => ∃ k : Nat, k ≤ s.size ∧ i = .int .i64 k ∧ namesTo s k = true) (fun i => s.size - (intOf i).toNat)
  case atStart => exact ⟨0, Nat.zero_le _, rfl, rfl⟩
  case round =>
    obtain ⟨k, hk, rfl, hn⟩ := hrel
    by_cases hlt : k < s.size
    · have hc := HC.out k hlt
      have hns := namesTo_succ s k
      have hnb := fun hb => namesTo_bad (s := s) (k := k) (n := s.size) hlt hb
      have hbd : badN k (bt s (k : Int)) = (((!(decide (48 ≤ bt s (k : Int)) && decide (bt s (k : Int) ≤ 57))) && (!(decide (97 ≤ Go.bits .or .u8 (bt s (k : Int)) 32) && decide (Go.bits .or .u8 (bt s (k : Int)) 32 ≤ 122))) && (bt s (k : Int) != 95)) || (((k : Int) == 0) && (decide (48 ≤ bt s (k : Int)) && decide (bt s (k : Int) ≤ 57)))) := rfl
      rw [hn, Bool.true_and] at hns
      generalize bt s (k : Int) = c at *
      generalize ho : Go.bits .or .u8 c 32 = o at *
      clear HC kb
      have HNS := Lib.hid hns
      have HNB := Lib.hid hnb
      have HBD := Lib.hid hbd
      have HN := Lib.hid hn
      clear hns hnb hbd hn
      by_cases h0 : 48 ≤ c <;> by_cases h1 : c ≤ 57 <;> (rcases h4 : (c != 95) with _ | _) <;> by_cases h2 : 97 ≤ o <;> by_cases h3 : o ≤ 122 <;> (rcases h5 : ((k : Int) == 0) with _ | _)
      all_goals first | (exfalso; omega) | (exfalso; (have h4' : c = 95 := by simpa using h4); omega) | skip
      all_goals
        have hbv : badN k c = _ := HBD.out
        simp only [h0, h1, h2, h3, h4, h5, decide_true, decide_false, Bool.and_true, Bool.and_false, Bool.true_and, Bool.false_and, Bool.not_true, Bool.not_false, Bool.or_false, Bool.or_true, Bool.false_or, Bool.true_or] at hbv
        have HBV := Lib.hid hbv
        clear hbv
        go_wp2
        first
        | (go_round
           case rel => exact ⟨k + 1, by omega, by go_num, by rw [HNS.out, HBV.out]; rfl⟩
           case measure => simp [intOf]; omega)
        | (go_ret
           exact ⟨by unfold namedB; rw [HNB.out (by rw [HBV.out]; first | done | rfl)]; first | done | rfl, HB.out⟩)
    · obtain rfl : k = s.size := by omega
      have hl : s.toList.length = s.size := by rw [ByteArray.toList_eq]; exact data_length s
      have HN := Lib.hid hn
      clear hn HC kb
      by_cases h6 : s.toList = []
      · have h7 : s.toList.isEmpty = true := by rw [h6]; rfl
        have h0 : s.size = 0 := by rw [h6] at hl; simpa using hl.symm
        have H0 := Lib.hid h0
        clear h0 hl
        go_wp2
        go_ret
        exact ⟨by unfold namedB; rw [HN.out, H0.out]; rfl, HB.out⟩
      · have h7 : s.toList.isEmpty = false := by cases e : s.toList with | nil => exact absurd e h6 | cons a b => rfl
        have h0 : 0 < s.size := by
          rcases Nat.eq_zero_or_pos s.size with e | e
          · rw [e] at hl; exact absurd (List.length_eq_zero_iff.1 hl) h6
          · exact e
        clear hl
        by_cases h8 : s.size ≤ 16
        all_goals
          go_wp2
          go_ret
          exact ⟨by unfold namedB; rw [HN.out]; simp [h0, h8]; omega, HB.out⟩
end Go.Proofs.YtbelnkdbghggmaaGreatDoor.X
namespace Go.Proofs.YtbelnkdbghggmaaGreatDoor.X
open Go.RowKit Go.Proofs.YtbelnkdbghggmaaGreatDoorW.PrintWords Go.Proofs.YtbelnkdbghggmaaGreatDoorW.PrintLast

set_option linter.unusedVariables false
set_option linter.unusedSimpArgs false

theorem eqA26 (d : Nat) (w : World) (x0 y0 : Int) (x1 y1 : Int) (x2 y2 : Int) (x3 y3 : Int) (x4 y4 : Int) :
    (Op.equalIn (d + 2) 38 (.agg #[.int .i64 x0, .int .i64 x1, .int .i64 x2, .int .i64 x3, .int .i32 x4]) (.agg #[.int .i64 y0, .int .i64 y1, .int .i64 y2, .int .i64 y3, .int .i32 y4])).run Tryz.prog w = .ok (x0 == y0 && (x1 == y1 && (x2 == y2 && (x3 == y3 && (x4 == y4))))) w := by
  refine eqA_of Tryz.underlying38 (by kernel_rfl) ?_
  refine eqf_cons (by rfl) (by go_simp; rfl) (by go_simp; rfl) (by go_simp) ?_
  refine eqf_cons (by rfl) (by go_simp; rfl) (by go_simp; rfl) (by go_simp) ?_
  refine eqf_cons (by rfl) (by go_simp; rfl) (by go_simp; rfl) (by go_simp) ?_
  refine eqf_cons (by rfl) (by go_simp; rfl) (by go_simp; rfl) (by go_simp) ?_
  exact eqf_last (by rfl) (by go_simp; rfl) (by go_simp; rfl) (by go_simp)
theorem eqA28 (d : Nat) (w : World) (x0 y0 : ByteArray) (x1 y1 : Int) (x2 y2 : Int) (x3 y3 : Int) (x4 y4 : Int) (x5 y5 : Int) (x6 y6 : ByteArray) :
    (Op.equalIn (d + 3) 40 (.agg #[.string x0, .int .i64 x1, .int .i64 x2, .int .i64 x3, .int .i64 x4, .int .i32 x5, .string x6]) (.agg #[.string y0, .int .i64 y1, .int .i64 y2, .int .i64 y3, .int .i64 y4, .int .i32 y5, .string y6])).run Tryz.prog w = .ok (x0.toList == y0.toList && ((x1 == y1 && (x2 == y2 && (x3 == y3 && (x4 == y4 && (x5 == y5))))) && (x6.toList == y6.toList))) w := by
  refine eqA_of Tryz.underlying40 (by kernel_rfl) ?_
  refine eqf_cons (by rfl) (by go_simp; rfl) (by go_simp; rfl) (by go_simp) ?_
  refine eqf_cons (by rfl) (by go_simp) (by go_simp) (eqA26 (d + 0) w _ _ _ _ _ _ _ _ _ _) ?_
  exact eqf_last (by rfl) (by go_simp; rfl) (by go_simp; rfl) (by go_simp)
end Go.Proofs.YtbelnkdbghggmaaGreatDoor.X
namespace Go.Proofs.YtbelnkdbghggmaaGreatDoor.X
open Go.RowKit Go.Proofs.YtbelnkdbghggmaaGreatDoorW.PrintWords Go.Proofs.YtbelnkdbghggmaaGreatDoorW.PrintLast

set_option linter.unusedVariables false
set_option linter.unusedSimpArgs false

attribute [local go_sem high] eqA28
def asm_named.f (a0 : ByteArray) : Option Bool := if a0.size ≤ 9223372036854775807 then some (namedB a0) else none
theorem asm_named.calls (a0 : ByteArray) (r : Bool) (w : World) (h : asm_named.f a0 = some r) :
  Calls Tryz.prog 28 #[.string a0] w fun e w' => e = .returned (.bool r) ∧ Below w.heap.size w w' := by
 unfold asm_named.f at h
 split at h
 ·obtain rfl := Qn h
  exact named_any a0 (by assumption) w
 ·cases h
/-! ### asm_jumps: function 41 -/
def asm_jumps.f (a0 : Int) : Option (Bool) := if a0 = 18 then (some true) else (if a0 = 19 then (some true) else (if a0 = 20 then (some true) else (if a0 = 21 then (some true) else (some false))))
set_option maxHeartbeats 8000000 in
set_option maxRecDepth 100000 in
theorem asm_jumps.calls (a0 : Int) (r : Bool) (w : World) (h : asm_jumps.f a0 = some r) :
  Calls Tryz.prog 41 #[.int .i64 a0] w fun e w' => e = .returned (.bool r) ∧ Drawn0 w w' := by
 have H : (if a0 = 18 then (some true) else (if a0 = 19 then (some true) else (if a0 = 20 then (some true) else (if a0 = 21 then (some true) else (some false))))) = some r := h
 clear h
 by_cases c2 : a0 = 18
 ·rw [if_pos c2] at H
  have c2b0 : (a0 == 18) = true := Qm c2
  have c2b1 : (a0 != 18) = false := Qh c2
  clear c2
  obtain rfl := Qn H
  go_enter Tryz.func41, Tryz.ntmps41
  go_wp2
  go_ret
  exact ⟨by first|rfl|(simp; done)|(simp [*]; done), by repeat (first|exact Drawn0.refl _|apply Drawn0.step)⟩
 ·rw [if_neg c2] at H
  have c2b0 : (a0 == 18) = false := Qk c2
  have c2b1 : (a0 != 18) = true := Ql c2
  by_cases c3 : a0 = 19
  ·rw [if_pos c3] at H
   have c3b0 : (a0 == 19) = true := Qm c3
   have c3b1 : (a0 != 19) = false := Qh c3
   clear c3
   obtain rfl := Qn H
   go_enter Tryz.func41, Tryz.ntmps41
   go_wp2
   go_ret
   exact ⟨by first|rfl|(simp; done)|(simp [*]; done), by repeat (first|exact Drawn0.refl _|apply Drawn0.step)⟩
  ·rw [if_neg c3] at H
   have c3b0 : (a0 == 19) = false := Qk c3
   have c3b1 : (a0 != 19) = true := Ql c3
   by_cases c4 : a0 = 20
   ·rw [if_pos c4] at H
    have c4b0 : (a0 == 20) = true := Qm c4
    have c4b1 : (a0 != 20) = false := Qh c4
    clear c4
    obtain rfl := Qn H
    go_enter Tryz.func41, Tryz.ntmps41
    go_wp2
    go_ret
    exact ⟨by first|rfl|(simp; done)|(simp [*]; done), by repeat (first|exact Drawn0.refl _|apply Drawn0.step)⟩
   ·rw [if_neg c4] at H
    have c4b0 : (a0 == 20) = false := Qk c4
    have c4b1 : (a0 != 20) = true := Ql c4
    by_cases c5 : a0 = 21
    ·rw [if_pos c5] at H
     have c5b0 : (a0 == 21) = true := Qm c5
     have c5b1 : (a0 != 21) = false := Qh c5
     clear c5
     obtain rfl := Qn H
     go_enter Tryz.func41, Tryz.ntmps41
     go_wp2
     go_ret
     exact ⟨by first|rfl|(simp; done)|(simp [*]; done), by repeat (first|exact Drawn0.refl _|apply Drawn0.step)⟩
    ·rw [if_neg c5] at H
     have c5b0 : (a0 == 21) = false := Qk c5
     have c5b1 : (a0 != 21) = true := Ql c5
     obtain rfl := Qn H
     go_enter Tryz.func41, Tryz.ntmps41
     go_wp2
     go_ret
     exact ⟨by first|rfl|(simp; done)|(simp [*]; done), by repeat (first|exact Drawn0.refl _|apply Drawn0.step)⟩

/-! ### asm_good: function 17 -/
def asm_good.f (a0_0 : ByteArray) (a0_1 : Int) (a0_2 : Int) (a0_3 : Int) (a0_4 : Int) (a0_5 : Int) (a0_6 : ByteArray) : Option (Bool) := if a0_0.toList = ([] : List UInt8) then ((inst_Fit.f a0_1 a0_2 a0_3 a0_4 a0_5).bind fun t104 => (if t104 = true then (if a0_6.toList = ([] : List UInt8) then (some true) else ((asm_named.f a0_6).bind fun t105 => (if t105 = true then (if a0_1 = 1 then (some true) else ((asm_jumps.f a0_1).bind fun t106 => (if t106 = true then (some (a0_5 == 0)) else (some false)))) else (some false)))) else (some false))) else ((asm_named.f a0_0).bind fun t107 => (if t107 = true then (some ((a0_1 == 0 && (a0_2 == 0 && (a0_3 == 0 && (a0_4 == 0 && (a0_5 == 0))))) && (a0_6.toList == ([] : List UInt8)))) else (some false)))
set_option maxHeartbeats 8000000 in
set_option maxRecDepth 100000 in
theorem asm_good.calls (a0_0 : ByteArray) (a0_1 : Int) (a0_2 : Int) (a0_3 : Int) (a0_4 : Int) (a0_5 : Int) (a0_6 : ByteArray) (r : Bool) (w : World) (h : asm_good.f a0_0 a0_1 a0_2 a0_3 a0_4 a0_5 a0_6 = some r) :
  Calls Tryz.prog 17 #[.agg #[.string a0_0, .int .i64 a0_1, .int .i64 a0_2, .int .i64 a0_3, .int .i64 a0_4, .int .i32 a0_5, .string a0_6]] w fun e w' => e = .returned (.bool r) ∧ Below w.heap.size w w' := by
 have hu28 := Tryz.underlying40
 have hu26 := Tryz.underlying38
 have HB := Q4 (Below.refl w.heap.size w)
 have H := h
 unfold asm_good.f at H
 clear h
 by_cases c2 : a0_0.toList = ([] : List UInt8)
 ·rw [if_pos c2] at H
  have c2b0 : (a0_0.toList == ([] : List UInt8)) = true := Qm c2
  have c2b1 : (a0_0.toList != ([] : List UInt8)) = false := Qh c2
  clear c2
  replace H := Qi H
  obtain ⟨t104, A30, H⟩ := H
  try dsimp only at H
  have A3 := Q4 A30
  clear A30
  by_cases c4 : t104 = true
  ·subst c4
   rw [if_pos rfl] at H
   by_cases c5 : a0_6.toList = ([] : List UInt8)
   ·rw [if_pos c5] at H
    have c5b0 : (a0_6.toList == ([] : List UInt8)) = true := Qm c5
    have c5b1 : (a0_6.toList != ([] : List UInt8)) = false := Qh c5
    clear c5
    obtain rfl := Qn H
    go_enter Tryz.func17, Tryz.ntmps17
    go_wp2_with (first|((with_reducible refine gate_dst (N := 1) rfl ?_); refine box_event ?hg (N := 1) ?hd (cs := #[.string a0_0, .int .i64 a0_1, .int .i64 a0_2, .int .i64 a0_3, .int .i64 a0_4, .int .i32 a0_5, .string a0_6]) (t := 40) ?hr ?_; (case hd => rfl); (case hg => rfl); (case hr => first|(go_simp; done)|(go_simp; rfl)); intro gb103 hg w6 hbox hb; have n0_ := Q4 (Qg (by repeat (first|(with_reducible first|exact HB.out|apply Q8|apply Q5|apply Q9)|exact HB.out)) hb); have n1_ := Q4 (hbox); have n2_ := Q4 ((by rw [hg]; exact bZ : w.heap.size ≤ gb103)); have n3_ := Q4 ((by rw [hg]; exact bZ : w.heap.size ≤ gb103)); clear HB; have HB := n0_; have BK103 := n1_; have GW103 := n2_; have GE103 := n3_; clear n0_ n1_ n2_ n3_; clear hb hbox hg; have hcz7_0 : w6.cell? ⟨gb103, 0, none⟩ = some (.string a0_0) := (Qe BK103.out 0).trans rfl; have hcz7_1 : w6.cell? ⟨gb103, 1, none⟩ = some (.int .i64 a0_1) := (Qe BK103.out 1).trans rfl; have hcz7_2 : w6.cell? ⟨gb103, 2, none⟩ = some (.int .i64 a0_2) := (Qe BK103.out 2).trans rfl; have hcz7_3 : w6.cell? ⟨gb103, 3, none⟩ = some (.int .i64 a0_3) := (Qe BK103.out 3).trans rfl; have hcz7_4 : w6.cell? ⟨gb103, 4, none⟩ = some (.int .i64 a0_4) := (Qe BK103.out 4).trans rfl; have hcz7_5 : w6.cell? ⟨gb103, 5, none⟩ = some (.int .i32 a0_5) := (Qe BK103.out 5).trans rfl; have hcz7_6 : w6.cell? ⟨gb103, 6, none⟩ = some (.string a0_6) := (Qe BK103.out 6).trans rfl; have hfz7_0 := Qd BK103.out 0; have hfz7_1 := Qd BK103.out 1; have hfz7_2 := Qd BK103.out 2; have hfz7_3 := Qd BK103.out 3; have hfz7_4 := Qd BK103.out 4; have hfz7_5 := Qd BK103.out 5; have hfz7_6 := Qd BK103.out 6)|((with_reducible refine gate_callee (f := 40) rfl ?_); refine gL (some 20) Tryz.func40 #[.agg #[.int .i64 a0_1, .int .i64 a0_2, .int .i64 a0_3, .int .i64 a0_4, .int .i32 a0_5]] ?_; (with_reducible refine (inst_Fit.calls a0_1 a0_2 a0_3 a0_4 a0_5 true _ A3.out).mono ?_); rintro e w8 ⟨rfl, hb⟩; refine ⟨_, rfl, ?_⟩; have n0_ := Q4 (Qo (g := gb103) (o := .cells #[.string a0_0, .int .i64 a0_1, .int .i64 a0_2, .int .i64 a0_3, .int .i64 a0_4, .int .i32 a0_5, .string a0_6] 40 (0, 0)) (bK BK103) hb); have n1_ := Q4 (Qg (by repeat (first|(with_reducible first|exact HB.out|apply Q8|apply Q5|apply Q9|refine Q6 ?_ GE103.out)|exact HB.out)) hb); clear BK103; clear HB; have BK103 := n0_; have HB := n1_; clear n0_ n1_;(try clear hb);(try clear hb2);(try clear hk);(try clear hi); have hcz9_0 : w8.cell? ⟨gb103, 0, none⟩ = some (.string a0_0) := (Qe BK103.out 0).trans rfl; have hcz9_1 : w8.cell? ⟨gb103, 1, none⟩ = some (.int .i64 a0_1) := (Qe BK103.out 1).trans rfl; have hcz9_2 : w8.cell? ⟨gb103, 2, none⟩ = some (.int .i64 a0_2) := (Qe BK103.out 2).trans rfl; have hcz9_3 : w8.cell? ⟨gb103, 3, none⟩ = some (.int .i64 a0_3) := (Qe BK103.out 3).trans rfl; have hcz9_4 : w8.cell? ⟨gb103, 4, none⟩ = some (.int .i64 a0_4) := (Qe BK103.out 4).trans rfl; have hcz9_5 : w8.cell? ⟨gb103, 5, none⟩ = some (.int .i32 a0_5) := (Qe BK103.out 5).trans rfl; have hcz9_6 : w8.cell? ⟨gb103, 6, none⟩ = some (.string a0_6) := (Qe BK103.out 6).trans rfl; have hfz9_0 := Qd BK103.out 0; have hfz9_1 := Qd BK103.out 1; have hfz9_2 := Qd BK103.out 2; have hfz9_3 := Qd BK103.out 3; have hfz9_4 := Qd BK103.out 4; have hfz9_5 := Qd BK103.out 5; have hfz9_6 := Qd BK103.out 6))
    go_ret
    exact ⟨by first|rfl|(simp [errW_none, errW_some] <;> rfl)|(simp [*, errW_none, errW_some] <;> rfl), by repeat (first|(with_reducible first|exact HB.out|apply Q8|apply Q5|apply Q9|refine Q6 ?_ GE103.out)|exact HB.out)⟩
   ·rw [if_neg c5] at H
    have c5b0 : (a0_6.toList == ([] : List UInt8)) = false := Qk c5
    have c5b1 : (a0_6.toList != ([] : List UInt8)) = true := Ql c5
    replace H := Qi H
    obtain ⟨t105, A100, H⟩ := H
    try dsimp only at H
    have A10 := Q4 A100
    clear A100
    by_cases c11 : t105 = true
    ·subst c11
     rw [if_pos rfl] at H
     by_cases c12 : a0_1 = 1
     ·rw [if_pos c12] at H
      have c12b0 : (a0_1 == 1) = true := Qm c12
      have c12b1 : (a0_1 != 1) = false := Qh c12
      clear c12
      obtain rfl := Qn H
      go_enter Tryz.func17, Tryz.ntmps17
      go_wp2_with (first|((with_reducible refine gate_dst (N := 1) rfl ?_); refine box_event ?hg (N := 1) ?hd (cs := #[.string a0_0, .int .i64 a0_1, .int .i64 a0_2, .int .i64 a0_3, .int .i64 a0_4, .int .i32 a0_5, .string a0_6]) (t := 40) ?hr ?_; (case hd => rfl); (case hg => rfl); (case hr => first|(go_simp; done)|(go_simp; rfl)); intro gb103 hg w13 hbox hb; have n0_ := Q4 (Qg (by repeat (first|(with_reducible first|exact HB.out|apply Q8|apply Q5|apply Q9)|exact HB.out)) hb); have n1_ := Q4 (hbox); have n2_ := Q4 ((by rw [hg]; exact bZ : w.heap.size ≤ gb103)); have n3_ := Q4 ((by rw [hg]; exact bZ : w.heap.size ≤ gb103)); clear HB; have HB := n0_; have BK103 := n1_; have GW103 := n2_; have GE103 := n3_; clear n0_ n1_ n2_ n3_; clear hb hbox hg; have hcz14_0 : w13.cell? ⟨gb103, 0, none⟩ = some (.string a0_0) := (Qe BK103.out 0).trans rfl; have hcz14_1 : w13.cell? ⟨gb103, 1, none⟩ = some (.int .i64 a0_1) := (Qe BK103.out 1).trans rfl; have hcz14_2 : w13.cell? ⟨gb103, 2, none⟩ = some (.int .i64 a0_2) := (Qe BK103.out 2).trans rfl; have hcz14_3 : w13.cell? ⟨gb103, 3, none⟩ = some (.int .i64 a0_3) := (Qe BK103.out 3).trans rfl; have hcz14_4 : w13.cell? ⟨gb103, 4, none⟩ = some (.int .i64 a0_4) := (Qe BK103.out 4).trans rfl; have hcz14_5 : w13.cell? ⟨gb103, 5, none⟩ = some (.int .i32 a0_5) := (Qe BK103.out 5).trans rfl; have hcz14_6 : w13.cell? ⟨gb103, 6, none⟩ = some (.string a0_6) := (Qe BK103.out 6).trans rfl; have hfz14_0 := Qd BK103.out 0; have hfz14_1 := Qd BK103.out 1; have hfz14_2 := Qd BK103.out 2; have hfz14_3 := Qd BK103.out 3; have hfz14_4 := Qd BK103.out 4; have hfz14_5 := Qd BK103.out 5; have hfz14_6 := Qd BK103.out 6)|((with_reducible refine gate_callee (f := 40) rfl ?_); refine gL (some 20) Tryz.func40 #[.agg #[.int .i64 a0_1, .int .i64 a0_2, .int .i64 a0_3, .int .i64 a0_4, .int .i32 a0_5]] ?_; (with_reducible refine (inst_Fit.calls a0_1 a0_2 a0_3 a0_4 a0_5 true _ A3.out).mono ?_); rintro e w15 ⟨rfl, hb⟩; refine ⟨_, rfl, ?_⟩; have n0_ := Q4 (Qo (g := gb103) (o := .cells #[.string a0_0, .int .i64 a0_1, .int .i64 a0_2, .int .i64 a0_3, .int .i64 a0_4, .int .i32 a0_5, .string a0_6] 40 (0, 0)) (bK BK103) hb); have n1_ := Q4 (Qg (by repeat (first|(with_reducible first|exact HB.out|apply Q8|apply Q5|apply Q9|refine Q6 ?_ GE103.out)|exact HB.out)) hb); clear BK103; clear HB; have BK103 := n0_; have HB := n1_; clear n0_ n1_;(try clear hb);(try clear hb2);(try clear hk);(try clear hi); have hcz16_0 : w15.cell? ⟨gb103, 0, none⟩ = some (.string a0_0) := (Qe BK103.out 0).trans rfl; have hcz16_1 : w15.cell? ⟨gb103, 1, none⟩ = some (.int .i64 a0_1) := (Qe BK103.out 1).trans rfl; have hcz16_2 : w15.cell? ⟨gb103, 2, none⟩ = some (.int .i64 a0_2) := (Qe BK103.out 2).trans rfl; have hcz16_3 : w15.cell? ⟨gb103, 3, none⟩ = some (.int .i64 a0_3) := (Qe BK103.out 3).trans rfl; have hcz16_4 : w15.cell? ⟨gb103, 4, none⟩ = some (.int .i64 a0_4) := (Qe BK103.out 4).trans rfl; have hcz16_5 : w15.cell? ⟨gb103, 5, none⟩ = some (.int .i32 a0_5) := (Qe BK103.out 5).trans rfl; have hcz16_6 : w15.cell? ⟨gb103, 6, none⟩ = some (.string a0_6) := (Qe BK103.out 6).trans rfl; have hfz16_0 := Qd BK103.out 0; have hfz16_1 := Qd BK103.out 1; have hfz16_2 := Qd BK103.out 2; have hfz16_3 := Qd BK103.out 3; have hfz16_4 := Qd BK103.out 4; have hfz16_5 := Qd BK103.out 5; have hfz16_6 := Qd BK103.out 6)|((with_reducible refine gate_callee (f := 28) rfl ?_); refine gL (some 29) Tryz.func28 #[.string a0_6] ?_; (with_reducible refine (asm_named.calls a0_6 true _ A10.out).mono ?_); rintro e w17 ⟨rfl, hb⟩; refine ⟨_, rfl, ?_⟩; have n0_ := Q4 (Qo (g := gb103) (o := .cells #[.string a0_0, .int .i64 a0_1, .int .i64 a0_2, .int .i64 a0_3, .int .i64 a0_4, .int .i32 a0_5, .string a0_6] 40 (0, 0)) (bK BK103) hb); have n1_ := Q4 (Qg (by repeat (first|(with_reducible first|exact HB.out|apply Q8|apply Q5|apply Q9|refine Q6 ?_ GE103.out)|exact HB.out)) hb); clear BK103; clear HB; have BK103 := n0_; have HB := n1_; clear n0_ n1_;(try clear hb);(try clear hb2);(try clear hk);(try clear hi); have hcz18_0 : w17.cell? ⟨gb103, 0, none⟩ = some (.string a0_0) := (Qe BK103.out 0).trans rfl; have hcz18_1 : w17.cell? ⟨gb103, 1, none⟩ = some (.int .i64 a0_1) := (Qe BK103.out 1).trans rfl; have hcz18_2 : w17.cell? ⟨gb103, 2, none⟩ = some (.int .i64 a0_2) := (Qe BK103.out 2).trans rfl; have hcz18_3 : w17.cell? ⟨gb103, 3, none⟩ = some (.int .i64 a0_3) := (Qe BK103.out 3).trans rfl; have hcz18_4 : w17.cell? ⟨gb103, 4, none⟩ = some (.int .i64 a0_4) := (Qe BK103.out 4).trans rfl; have hcz18_5 : w17.cell? ⟨gb103, 5, none⟩ = some (.int .i32 a0_5) := (Qe BK103.out 5).trans rfl; have hcz18_6 : w17.cell? ⟨gb103, 6, none⟩ = some (.string a0_6) := (Qe BK103.out 6).trans rfl; have hfz18_0 := Qd BK103.out 0; have hfz18_1 := Qd BK103.out 1; have hfz18_2 := Qd BK103.out 2; have hfz18_3 := Qd BK103.out 3; have hfz18_4 := Qd BK103.out 4; have hfz18_5 := Qd BK103.out 5; have hfz18_6 := Qd BK103.out 6))
      go_ret
      exact ⟨by first|rfl|(simp [errW_none, errW_some] <;> rfl)|(simp [*, errW_none, errW_some] <;> rfl), by repeat (first|(with_reducible first|exact HB.out|apply Q8|apply Q5|apply Q9|refine Q6 ?_ GE103.out)|exact HB.out)⟩
     ·rw [if_neg c12] at H
      have c12b0 : (a0_1 == 1) = false := Qk c12
      have c12b1 : (a0_1 != 1) = true := Ql c12
      replace H := Qi H
      obtain ⟨t106, A190, H⟩ := H
      try dsimp only at H
      have A19 := Q4 A190
      clear A190
      by_cases c20 : t106 = true
      ·subst c20
       rw [if_pos rfl] at H
       obtain rfl := Qn H
       go_enter Tryz.func17, Tryz.ntmps17
       go_wp2_with (first|((with_reducible refine gate_dst (N := 1) rfl ?_); refine box_event ?hg (N := 1) ?hd (cs := #[.string a0_0, .int .i64 a0_1, .int .i64 a0_2, .int .i64 a0_3, .int .i64 a0_4, .int .i32 a0_5, .string a0_6]) (t := 40) ?hr ?_; (case hd => rfl); (case hg => rfl); (case hr => first|(go_simp; done)|(go_simp; rfl)); intro gb103 hg w21 hbox hb; have n0_ := Q4 (Qg (by repeat (first|(with_reducible first|exact HB.out|apply Q8|apply Q5|apply Q9)|exact HB.out)) hb); have n1_ := Q4 (hbox); have n2_ := Q4 ((by rw [hg]; exact bZ : w.heap.size ≤ gb103)); have n3_ := Q4 ((by rw [hg]; exact bZ : w.heap.size ≤ gb103)); clear HB; have HB := n0_; have BK103 := n1_; have GW103 := n2_; have GE103 := n3_; clear n0_ n1_ n2_ n3_; clear hb hbox hg; have hcz22_0 : w21.cell? ⟨gb103, 0, none⟩ = some (.string a0_0) := (Qe BK103.out 0).trans rfl; have hcz22_1 : w21.cell? ⟨gb103, 1, none⟩ = some (.int .i64 a0_1) := (Qe BK103.out 1).trans rfl; have hcz22_2 : w21.cell? ⟨gb103, 2, none⟩ = some (.int .i64 a0_2) := (Qe BK103.out 2).trans rfl; have hcz22_3 : w21.cell? ⟨gb103, 3, none⟩ = some (.int .i64 a0_3) := (Qe BK103.out 3).trans rfl; have hcz22_4 : w21.cell? ⟨gb103, 4, none⟩ = some (.int .i64 a0_4) := (Qe BK103.out 4).trans rfl; have hcz22_5 : w21.cell? ⟨gb103, 5, none⟩ = some (.int .i32 a0_5) := (Qe BK103.out 5).trans rfl; have hcz22_6 : w21.cell? ⟨gb103, 6, none⟩ = some (.string a0_6) := (Qe BK103.out 6).trans rfl; have hfz22_0 := Qd BK103.out 0; have hfz22_1 := Qd BK103.out 1; have hfz22_2 := Qd BK103.out 2; have hfz22_3 := Qd BK103.out 3; have hfz22_4 := Qd BK103.out 4; have hfz22_5 := Qd BK103.out 5; have hfz22_6 := Qd BK103.out 6)|((with_reducible refine gate_callee (f := 40) rfl ?_); refine gL (some 20) Tryz.func40 #[.agg #[.int .i64 a0_1, .int .i64 a0_2, .int .i64 a0_3, .int .i64 a0_4, .int .i32 a0_5]] ?_; (with_reducible refine (inst_Fit.calls a0_1 a0_2 a0_3 a0_4 a0_5 true _ A3.out).mono ?_); rintro e w23 ⟨rfl, hb⟩; refine ⟨_, rfl, ?_⟩; have n0_ := Q4 (Qo (g := gb103) (o := .cells #[.string a0_0, .int .i64 a0_1, .int .i64 a0_2, .int .i64 a0_3, .int .i64 a0_4, .int .i32 a0_5, .string a0_6] 40 (0, 0)) (bK BK103) hb); have n1_ := Q4 (Qg (by repeat (first|(with_reducible first|exact HB.out|apply Q8|apply Q5|apply Q9|refine Q6 ?_ GE103.out)|exact HB.out)) hb); clear BK103; clear HB; have BK103 := n0_; have HB := n1_; clear n0_ n1_;(try clear hb);(try clear hb2);(try clear hk);(try clear hi); have hcz24_0 : w23.cell? ⟨gb103, 0, none⟩ = some (.string a0_0) := (Qe BK103.out 0).trans rfl; have hcz24_1 : w23.cell? ⟨gb103, 1, none⟩ = some (.int .i64 a0_1) := (Qe BK103.out 1).trans rfl; have hcz24_2 : w23.cell? ⟨gb103, 2, none⟩ = some (.int .i64 a0_2) := (Qe BK103.out 2).trans rfl; have hcz24_3 : w23.cell? ⟨gb103, 3, none⟩ = some (.int .i64 a0_3) := (Qe BK103.out 3).trans rfl; have hcz24_4 : w23.cell? ⟨gb103, 4, none⟩ = some (.int .i64 a0_4) := (Qe BK103.out 4).trans rfl; have hcz24_5 : w23.cell? ⟨gb103, 5, none⟩ = some (.int .i32 a0_5) := (Qe BK103.out 5).trans rfl; have hcz24_6 : w23.cell? ⟨gb103, 6, none⟩ = some (.string a0_6) := (Qe BK103.out 6).trans rfl; have hfz24_0 := Qd BK103.out 0; have hfz24_1 := Qd BK103.out 1; have hfz24_2 := Qd BK103.out 2; have hfz24_3 := Qd BK103.out 3; have hfz24_4 := Qd BK103.out 4; have hfz24_5 := Qd BK103.out 5; have hfz24_6 := Qd BK103.out 6)|((with_reducible refine gate_callee (f := 28) rfl ?_); refine gL (some 29) Tryz.func28 #[.string a0_6] ?_; (with_reducible refine (asm_named.calls a0_6 true _ A10.out).mono ?_); rintro e w25 ⟨rfl, hb⟩; refine ⟨_, rfl, ?_⟩; have n0_ := Q4 (Qo (g := gb103) (o := .cells #[.string a0_0, .int .i64 a0_1, .int .i64 a0_2, .int .i64 a0_3, .int .i64 a0_4, .int .i32 a0_5, .string a0_6] 40 (0, 0)) (bK BK103) hb); have n1_ := Q4 (Qg (by repeat (first|(with_reducible first|exact HB.out|apply Q8|apply Q5|apply Q9|refine Q6 ?_ GE103.out)|exact HB.out)) hb); clear BK103; clear HB; have BK103 := n0_; have HB := n1_; clear n0_ n1_;(try clear hb);(try clear hb2);(try clear hk);(try clear hi); have hcz26_0 : w25.cell? ⟨gb103, 0, none⟩ = some (.string a0_0) := (Qe BK103.out 0).trans rfl; have hcz26_1 : w25.cell? ⟨gb103, 1, none⟩ = some (.int .i64 a0_1) := (Qe BK103.out 1).trans rfl; have hcz26_2 : w25.cell? ⟨gb103, 2, none⟩ = some (.int .i64 a0_2) := (Qe BK103.out 2).trans rfl; have hcz26_3 : w25.cell? ⟨gb103, 3, none⟩ = some (.int .i64 a0_3) := (Qe BK103.out 3).trans rfl; have hcz26_4 : w25.cell? ⟨gb103, 4, none⟩ = some (.int .i64 a0_4) := (Qe BK103.out 4).trans rfl; have hcz26_5 : w25.cell? ⟨gb103, 5, none⟩ = some (.int .i32 a0_5) := (Qe BK103.out 5).trans rfl; have hcz26_6 : w25.cell? ⟨gb103, 6, none⟩ = some (.string a0_6) := (Qe BK103.out 6).trans rfl; have hfz26_0 := Qd BK103.out 0; have hfz26_1 := Qd BK103.out 1; have hfz26_2 := Qd BK103.out 2; have hfz26_3 := Qd BK103.out 3; have hfz26_4 := Qd BK103.out 4; have hfz26_5 := Qd BK103.out 5; have hfz26_6 := Qd BK103.out 6)|(go_at_call 41; (with_reducible refine (asm_jumps.calls a0_1 true _ A19.out).mono ?_); rintro e w' ⟨rfl, ⟨nd, rfl⟩⟩))
       go_ret
       exact ⟨by first|rfl|(simp [errW_none, errW_some] <;> rfl)|(simp [*, errW_none, errW_some] <;> rfl), by repeat (first|(with_reducible first|exact HB.out|apply Q8|apply Q5|apply Q9|refine Q6 ?_ GE103.out)|exact HB.out)⟩
      ·replace c20 := Bool.eq_false_iff.mpr c20
       subst c20
       rw [if_neg (show ¬ (false = true) by decide)] at H
       obtain rfl := Qn H
       go_enter Tryz.func17, Tryz.ntmps17
       go_wp2_with (first|((with_reducible refine gate_dst (N := 1) rfl ?_); refine box_event ?hg (N := 1) ?hd (cs := #[.string a0_0, .int .i64 a0_1, .int .i64 a0_2, .int .i64 a0_3, .int .i64 a0_4, .int .i32 a0_5, .string a0_6]) (t := 40) ?hr ?_; (case hd => rfl); (case hg => rfl); (case hr => first|(go_simp; done)|(go_simp; rfl)); intro gb103 hg w27 hbox hb; have n0_ := Q4 (Qg (by repeat (first|(with_reducible first|exact HB.out|apply Q8|apply Q5|apply Q9)|exact HB.out)) hb); have n1_ := Q4 (hbox); have n2_ := Q4 ((by rw [hg]; exact bZ : w.heap.size ≤ gb103)); have n3_ := Q4 ((by rw [hg]; exact bZ : w.heap.size ≤ gb103)); clear HB; have HB := n0_; have BK103 := n1_; have GW103 := n2_; have GE103 := n3_; clear n0_ n1_ n2_ n3_; clear hb hbox hg; have hcz28_0 : w27.cell? ⟨gb103, 0, none⟩ = some (.string a0_0) := (Qe BK103.out 0).trans rfl; have hcz28_1 : w27.cell? ⟨gb103, 1, none⟩ = some (.int .i64 a0_1) := (Qe BK103.out 1).trans rfl; have hcz28_2 : w27.cell? ⟨gb103, 2, none⟩ = some (.int .i64 a0_2) := (Qe BK103.out 2).trans rfl; have hcz28_3 : w27.cell? ⟨gb103, 3, none⟩ = some (.int .i64 a0_3) := (Qe BK103.out 3).trans rfl; have hcz28_4 : w27.cell? ⟨gb103, 4, none⟩ = some (.int .i64 a0_4) := (Qe BK103.out 4).trans rfl; have hcz28_5 : w27.cell? ⟨gb103, 5, none⟩ = some (.int .i32 a0_5) := (Qe BK103.out 5).trans rfl; have hcz28_6 : w27.cell? ⟨gb103, 6, none⟩ = some (.string a0_6) := (Qe BK103.out 6).trans rfl; have hfz28_0 := Qd BK103.out 0; have hfz28_1 := Qd BK103.out 1; have hfz28_2 := Qd BK103.out 2; have hfz28_3 := Qd BK103.out 3; have hfz28_4 := Qd BK103.out 4; have hfz28_5 := Qd BK103.out 5; have hfz28_6 := Qd BK103.out 6)|((with_reducible refine gate_callee (f := 40) rfl ?_); refine gL (some 20) Tryz.func40 #[.agg #[.int .i64 a0_1, .int .i64 a0_2, .int .i64 a0_3, .int .i64 a0_4, .int .i32 a0_5]] ?_; (with_reducible refine (inst_Fit.calls a0_1 a0_2 a0_3 a0_4 a0_5 true _ A3.out).mono ?_); rintro e w29 ⟨rfl, hb⟩; refine ⟨_, rfl, ?_⟩; have n0_ := Q4 (Qo (g := gb103) (o := .cells #[.string a0_0, .int .i64 a0_1, .int .i64 a0_2, .int .i64 a0_3, .int .i64 a0_4, .int .i32 a0_5, .string a0_6] 40 (0, 0)) (bK BK103) hb); have n1_ := Q4 (Qg (by repeat (first|(with_reducible first|exact HB.out|apply Q8|apply Q5|apply Q9|refine Q6 ?_ GE103.out)|exact HB.out)) hb); clear BK103; clear HB; have BK103 := n0_; have HB := n1_; clear n0_ n1_;(try clear hb);(try clear hb2);(try clear hk);(try clear hi); have hcz30_0 : w29.cell? ⟨gb103, 0, none⟩ = some (.string a0_0) := (Qe BK103.out 0).trans rfl; have hcz30_1 : w29.cell? ⟨gb103, 1, none⟩ = some (.int .i64 a0_1) := (Qe BK103.out 1).trans rfl; have hcz30_2 : w29.cell? ⟨gb103, 2, none⟩ = some (.int .i64 a0_2) := (Qe BK103.out 2).trans rfl; have hcz30_3 : w29.cell? ⟨gb103, 3, none⟩ = some (.int .i64 a0_3) := (Qe BK103.out 3).trans rfl; have hcz30_4 : w29.cell? ⟨gb103, 4, none⟩ = some (.int .i64 a0_4) := (Qe BK103.out 4).trans rfl; have hcz30_5 : w29.cell? ⟨gb103, 5, none⟩ = some (.int .i32 a0_5) := (Qe BK103.out 5).trans rfl; have hcz30_6 : w29.cell? ⟨gb103, 6, none⟩ = some (.string a0_6) := (Qe BK103.out 6).trans rfl; have hfz30_0 := Qd BK103.out 0; have hfz30_1 := Qd BK103.out 1; have hfz30_2 := Qd BK103.out 2; have hfz30_3 := Qd BK103.out 3; have hfz30_4 := Qd BK103.out 4; have hfz30_5 := Qd BK103.out 5; have hfz30_6 := Qd BK103.out 6)|((with_reducible refine gate_callee (f := 28) rfl ?_); refine gL (some 29) Tryz.func28 #[.string a0_6] ?_; (with_reducible refine (asm_named.calls a0_6 true _ A10.out).mono ?_); rintro e w31 ⟨rfl, hb⟩; refine ⟨_, rfl, ?_⟩; have n0_ := Q4 (Qo (g := gb103) (o := .cells #[.string a0_0, .int .i64 a0_1, .int .i64 a0_2, .int .i64 a0_3, .int .i64 a0_4, .int .i32 a0_5, .string a0_6] 40 (0, 0)) (bK BK103) hb); have n1_ := Q4 (Qg (by repeat (first|(with_reducible first|exact HB.out|apply Q8|apply Q5|apply Q9|refine Q6 ?_ GE103.out)|exact HB.out)) hb); clear BK103; clear HB; have BK103 := n0_; have HB := n1_; clear n0_ n1_;(try clear hb);(try clear hb2);(try clear hk);(try clear hi); have hcz32_0 : w31.cell? ⟨gb103, 0, none⟩ = some (.string a0_0) := (Qe BK103.out 0).trans rfl; have hcz32_1 : w31.cell? ⟨gb103, 1, none⟩ = some (.int .i64 a0_1) := (Qe BK103.out 1).trans rfl; have hcz32_2 : w31.cell? ⟨gb103, 2, none⟩ = some (.int .i64 a0_2) := (Qe BK103.out 2).trans rfl; have hcz32_3 : w31.cell? ⟨gb103, 3, none⟩ = some (.int .i64 a0_3) := (Qe BK103.out 3).trans rfl; have hcz32_4 : w31.cell? ⟨gb103, 4, none⟩ = some (.int .i64 a0_4) := (Qe BK103.out 4).trans rfl; have hcz32_5 : w31.cell? ⟨gb103, 5, none⟩ = some (.int .i32 a0_5) := (Qe BK103.out 5).trans rfl; have hcz32_6 : w31.cell? ⟨gb103, 6, none⟩ = some (.string a0_6) := (Qe BK103.out 6).trans rfl; have hfz32_0 := Qd BK103.out 0; have hfz32_1 := Qd BK103.out 1; have hfz32_2 := Qd BK103.out 2; have hfz32_3 := Qd BK103.out 3; have hfz32_4 := Qd BK103.out 4; have hfz32_5 := Qd BK103.out 5; have hfz32_6 := Qd BK103.out 6)|(go_at_call 41; (with_reducible refine (asm_jumps.calls a0_1 false _ A19.out).mono ?_); rintro e w' ⟨rfl, ⟨nd, rfl⟩⟩))
       go_ret
       exact ⟨by first|rfl|(simp [errW_none, errW_some] <;> rfl)|(simp [*, errW_none, errW_some] <;> rfl), by repeat (first|(with_reducible first|exact HB.out|apply Q8|apply Q5|apply Q9|refine Q6 ?_ GE103.out)|exact HB.out)⟩
    ·replace c11 := Bool.eq_false_iff.mpr c11
     subst c11
     rw [if_neg (show ¬ (false = true) by decide)] at H
     obtain rfl := Qn H
     go_enter Tryz.func17, Tryz.ntmps17
     go_wp2_with (first|((with_reducible refine gate_dst (N := 1) rfl ?_); refine box_event ?hg (N := 1) ?hd (cs := #[.string a0_0, .int .i64 a0_1, .int .i64 a0_2, .int .i64 a0_3, .int .i64 a0_4, .int .i32 a0_5, .string a0_6]) (t := 40) ?hr ?_; (case hd => rfl); (case hg => rfl); (case hr => first|(go_simp; done)|(go_simp; rfl)); intro gb103 hg w33 hbox hb; have n0_ := Q4 (Qg (by repeat (first|(with_reducible first|exact HB.out|apply Q8|apply Q5|apply Q9)|exact HB.out)) hb); have n1_ := Q4 (hbox); have n2_ := Q4 ((by rw [hg]; exact bZ : w.heap.size ≤ gb103)); have n3_ := Q4 ((by rw [hg]; exact bZ : w.heap.size ≤ gb103)); clear HB; have HB := n0_; have BK103 := n1_; have GW103 := n2_; have GE103 := n3_; clear n0_ n1_ n2_ n3_; clear hb hbox hg; have hcz34_0 : w33.cell? ⟨gb103, 0, none⟩ = some (.string a0_0) := (Qe BK103.out 0).trans rfl; have hcz34_1 : w33.cell? ⟨gb103, 1, none⟩ = some (.int .i64 a0_1) := (Qe BK103.out 1).trans rfl; have hcz34_2 : w33.cell? ⟨gb103, 2, none⟩ = some (.int .i64 a0_2) := (Qe BK103.out 2).trans rfl; have hcz34_3 : w33.cell? ⟨gb103, 3, none⟩ = some (.int .i64 a0_3) := (Qe BK103.out 3).trans rfl; have hcz34_4 : w33.cell? ⟨gb103, 4, none⟩ = some (.int .i64 a0_4) := (Qe BK103.out 4).trans rfl; have hcz34_5 : w33.cell? ⟨gb103, 5, none⟩ = some (.int .i32 a0_5) := (Qe BK103.out 5).trans rfl; have hcz34_6 : w33.cell? ⟨gb103, 6, none⟩ = some (.string a0_6) := (Qe BK103.out 6).trans rfl; have hfz34_0 := Qd BK103.out 0; have hfz34_1 := Qd BK103.out 1; have hfz34_2 := Qd BK103.out 2; have hfz34_3 := Qd BK103.out 3; have hfz34_4 := Qd BK103.out 4; have hfz34_5 := Qd BK103.out 5; have hfz34_6 := Qd BK103.out 6)|((with_reducible refine gate_callee (f := 40) rfl ?_); refine gL (some 20) Tryz.func40 #[.agg #[.int .i64 a0_1, .int .i64 a0_2, .int .i64 a0_3, .int .i64 a0_4, .int .i32 a0_5]] ?_; (with_reducible refine (inst_Fit.calls a0_1 a0_2 a0_3 a0_4 a0_5 true _ A3.out).mono ?_); rintro e w35 ⟨rfl, hb⟩; refine ⟨_, rfl, ?_⟩; have n0_ := Q4 (Qo (g := gb103) (o := .cells #[.string a0_0, .int .i64 a0_1, .int .i64 a0_2, .int .i64 a0_3, .int .i64 a0_4, .int .i32 a0_5, .string a0_6] 40 (0, 0)) (bK BK103) hb); have n1_ := Q4 (Qg (by repeat (first|(with_reducible first|exact HB.out|apply Q8|apply Q5|apply Q9|refine Q6 ?_ GE103.out)|exact HB.out)) hb); clear BK103; clear HB; have BK103 := n0_; have HB := n1_; clear n0_ n1_;(try clear hb);(try clear hb2);(try clear hk);(try clear hi); have hcz36_0 : w35.cell? ⟨gb103, 0, none⟩ = some (.string a0_0) := (Qe BK103.out 0).trans rfl; have hcz36_1 : w35.cell? ⟨gb103, 1, none⟩ = some (.int .i64 a0_1) := (Qe BK103.out 1).trans rfl; have hcz36_2 : w35.cell? ⟨gb103, 2, none⟩ = some (.int .i64 a0_2) := (Qe BK103.out 2).trans rfl; have hcz36_3 : w35.cell? ⟨gb103, 3, none⟩ = some (.int .i64 a0_3) := (Qe BK103.out 3).trans rfl; have hcz36_4 : w35.cell? ⟨gb103, 4, none⟩ = some (.int .i64 a0_4) := (Qe BK103.out 4).trans rfl; have hcz36_5 : w35.cell? ⟨gb103, 5, none⟩ = some (.int .i32 a0_5) := (Qe BK103.out 5).trans rfl; have hcz36_6 : w35.cell? ⟨gb103, 6, none⟩ = some (.string a0_6) := (Qe BK103.out 6).trans rfl; have hfz36_0 := Qd BK103.out 0; have hfz36_1 := Qd BK103.out 1; have hfz36_2 := Qd BK103.out 2; have hfz36_3 := Qd BK103.out 3; have hfz36_4 := Qd BK103.out 4; have hfz36_5 := Qd BK103.out 5; have hfz36_6 := Qd BK103.out 6)|((with_reducible refine gate_callee (f := 28) rfl ?_); refine gL (some 29) Tryz.func28 #[.string a0_6] ?_; (with_reducible refine (asm_named.calls a0_6 false _ A10.out).mono ?_); rintro e w37 ⟨rfl, hb⟩; refine ⟨_, rfl, ?_⟩; have n0_ := Q4 (Qo (g := gb103) (o := .cells #[.string a0_0, .int .i64 a0_1, .int .i64 a0_2, .int .i64 a0_3, .int .i64 a0_4, .int .i32 a0_5, .string a0_6] 40 (0, 0)) (bK BK103) hb); have n1_ := Q4 (Qg (by repeat (first|(with_reducible first|exact HB.out|apply Q8|apply Q5|apply Q9|refine Q6 ?_ GE103.out)|exact HB.out)) hb); clear BK103; clear HB; have BK103 := n0_; have HB := n1_; clear n0_ n1_;(try clear hb);(try clear hb2);(try clear hk);(try clear hi)))
     go_ret
     exact ⟨by first|rfl|(simp [errW_none, errW_some] <;> rfl)|(simp [*, errW_none, errW_some] <;> rfl), by repeat (first|(with_reducible first|exact HB.out|apply Q8|apply Q5|apply Q9|refine Q6 ?_ GE103.out)|exact HB.out)⟩
  ·replace c4 := Bool.eq_false_iff.mpr c4
   subst c4
   rw [if_neg (show ¬ (false = true) by decide)] at H
   obtain rfl := Qn H
   go_enter Tryz.func17, Tryz.ntmps17
   go_wp2_with (first|((with_reducible refine gate_dst (N := 1) rfl ?_); refine box_event ?hg (N := 1) ?hd (cs := #[.string a0_0, .int .i64 a0_1, .int .i64 a0_2, .int .i64 a0_3, .int .i64 a0_4, .int .i32 a0_5, .string a0_6]) (t := 40) ?hr ?_; (case hd => rfl); (case hg => rfl); (case hr => first|(go_simp; done)|(go_simp; rfl)); intro gb103 hg w38 hbox hb; have n0_ := Q4 (Qg (by repeat (first|(with_reducible first|exact HB.out|apply Q8|apply Q5|apply Q9)|exact HB.out)) hb); have n1_ := Q4 (hbox); have n2_ := Q4 ((by rw [hg]; exact bZ : w.heap.size ≤ gb103)); have n3_ := Q4 ((by rw [hg]; exact bZ : w.heap.size ≤ gb103)); clear HB; have HB := n0_; have BK103 := n1_; have GW103 := n2_; have GE103 := n3_; clear n0_ n1_ n2_ n3_; clear hb hbox hg; have hcz39_0 : w38.cell? ⟨gb103, 0, none⟩ = some (.string a0_0) := (Qe BK103.out 0).trans rfl; have hcz39_1 : w38.cell? ⟨gb103, 1, none⟩ = some (.int .i64 a0_1) := (Qe BK103.out 1).trans rfl; have hcz39_2 : w38.cell? ⟨gb103, 2, none⟩ = some (.int .i64 a0_2) := (Qe BK103.out 2).trans rfl; have hcz39_3 : w38.cell? ⟨gb103, 3, none⟩ = some (.int .i64 a0_3) := (Qe BK103.out 3).trans rfl; have hcz39_4 : w38.cell? ⟨gb103, 4, none⟩ = some (.int .i64 a0_4) := (Qe BK103.out 4).trans rfl; have hcz39_5 : w38.cell? ⟨gb103, 5, none⟩ = some (.int .i32 a0_5) := (Qe BK103.out 5).trans rfl; have hcz39_6 : w38.cell? ⟨gb103, 6, none⟩ = some (.string a0_6) := (Qe BK103.out 6).trans rfl; have hfz39_0 := Qd BK103.out 0; have hfz39_1 := Qd BK103.out 1; have hfz39_2 := Qd BK103.out 2; have hfz39_3 := Qd BK103.out 3; have hfz39_4 := Qd BK103.out 4; have hfz39_5 := Qd BK103.out 5; have hfz39_6 := Qd BK103.out 6)|((with_reducible refine gate_callee (f := 40) rfl ?_); refine gL (some 20) Tryz.func40 #[.agg #[.int .i64 a0_1, .int .i64 a0_2, .int .i64 a0_3, .int .i64 a0_4, .int .i32 a0_5]] ?_; (with_reducible refine (inst_Fit.calls a0_1 a0_2 a0_3 a0_4 a0_5 false _ A3.out).mono ?_); rintro e w40 ⟨rfl, hb⟩; refine ⟨_, rfl, ?_⟩; have n0_ := Q4 (Qo (g := gb103) (o := .cells #[.string a0_0, .int .i64 a0_1, .int .i64 a0_2, .int .i64 a0_3, .int .i64 a0_4, .int .i32 a0_5, .string a0_6] 40 (0, 0)) (bK BK103) hb); have n1_ := Q4 (Qg (by repeat (first|(with_reducible first|exact HB.out|apply Q8|apply Q5|apply Q9|refine Q6 ?_ GE103.out)|exact HB.out)) hb); clear BK103; clear HB; have BK103 := n0_; have HB := n1_; clear n0_ n1_;(try clear hb);(try clear hb2);(try clear hk);(try clear hi)))
   go_ret
   exact ⟨by first|rfl|(simp [errW_none, errW_some] <;> rfl)|(simp [*, errW_none, errW_some] <;> rfl), by repeat (first|(with_reducible first|exact HB.out|apply Q8|apply Q5|apply Q9|refine Q6 ?_ GE103.out)|exact HB.out)⟩
 ·rw [if_neg c2] at H
  have c2b0 : (a0_0.toList == ([] : List UInt8)) = false := Qk c2
  have c2b1 : (a0_0.toList != ([] : List UInt8)) = true := Ql c2
  replace H := Qi H
  obtain ⟨t107, A410, H⟩ := H
  try dsimp only at H
  have A41 := Q4 A410
  clear A410
  by_cases c42 : t107 = true
  ·subst c42
   rw [if_pos rfl] at H
   obtain rfl := Qn H
   go_enter Tryz.func17, Tryz.ntmps17
   go_wp2_with (first|((with_reducible refine gate_dst (N := 1) rfl ?_); refine box_event ?hg (N := 1) ?hd (cs := #[.string a0_0, .int .i64 a0_1, .int .i64 a0_2, .int .i64 a0_3, .int .i64 a0_4, .int .i32 a0_5, .string a0_6]) (t := 40) ?hr ?_; (case hd => rfl); (case hg => rfl); (case hr => first|(go_simp; done)|(go_simp; rfl)); intro gb103 hg w43 hbox hb; have n0_ := Q4 (Qg (by repeat (first|(with_reducible first|exact HB.out|apply Q8|apply Q5|apply Q9)|exact HB.out)) hb); have n1_ := Q4 (hbox); have n2_ := Q4 ((by rw [hg]; exact bZ : w.heap.size ≤ gb103)); have n3_ := Q4 ((by rw [hg]; exact bZ : w.heap.size ≤ gb103)); clear HB; have HB := n0_; have BK103 := n1_; have GW103 := n2_; have GE103 := n3_; clear n0_ n1_ n2_ n3_; clear hb hbox hg; have hcz44_0 : w43.cell? ⟨gb103, 0, none⟩ = some (.string a0_0) := (Qe BK103.out 0).trans rfl; have hcz44_1 : w43.cell? ⟨gb103, 1, none⟩ = some (.int .i64 a0_1) := (Qe BK103.out 1).trans rfl; have hcz44_2 : w43.cell? ⟨gb103, 2, none⟩ = some (.int .i64 a0_2) := (Qe BK103.out 2).trans rfl; have hcz44_3 : w43.cell? ⟨gb103, 3, none⟩ = some (.int .i64 a0_3) := (Qe BK103.out 3).trans rfl; have hcz44_4 : w43.cell? ⟨gb103, 4, none⟩ = some (.int .i64 a0_4) := (Qe BK103.out 4).trans rfl; have hcz44_5 : w43.cell? ⟨gb103, 5, none⟩ = some (.int .i32 a0_5) := (Qe BK103.out 5).trans rfl; have hcz44_6 : w43.cell? ⟨gb103, 6, none⟩ = some (.string a0_6) := (Qe BK103.out 6).trans rfl; have hfz44_0 := Qd BK103.out 0; have hfz44_1 := Qd BK103.out 1; have hfz44_2 := Qd BK103.out 2; have hfz44_3 := Qd BK103.out 3; have hfz44_4 := Qd BK103.out 4; have hfz44_5 := Qd BK103.out 5; have hfz44_6 := Qd BK103.out 6)|((with_reducible refine gate_callee (f := 28) rfl ?_); refine gL (some 9) Tryz.func28 #[.string a0_0] ?_; (with_reducible refine (asm_named.calls a0_0 true _ A41.out).mono ?_); rintro e w45 ⟨rfl, hb⟩; refine ⟨_, rfl, ?_⟩; have n0_ := Q4 (Qo (g := gb103) (o := .cells #[.string a0_0, .int .i64 a0_1, .int .i64 a0_2, .int .i64 a0_3, .int .i64 a0_4, .int .i32 a0_5, .string a0_6] 40 (0, 0)) (bK BK103) hb); have n1_ := Q4 (Qg (by repeat (first|(with_reducible first|exact HB.out|apply Q8|apply Q5|apply Q9|refine Q6 ?_ GE103.out)|exact HB.out)) hb); clear BK103; clear HB; have BK103 := n0_; have HB := n1_; clear n0_ n1_;(try clear hb);(try clear hb2);(try clear hk);(try clear hi); have hcz46_0 : w45.cell? ⟨gb103, 0, none⟩ = some (.string a0_0) := (Qe BK103.out 0).trans rfl; have hcz46_1 : w45.cell? ⟨gb103, 1, none⟩ = some (.int .i64 a0_1) := (Qe BK103.out 1).trans rfl; have hcz46_2 : w45.cell? ⟨gb103, 2, none⟩ = some (.int .i64 a0_2) := (Qe BK103.out 2).trans rfl; have hcz46_3 : w45.cell? ⟨gb103, 3, none⟩ = some (.int .i64 a0_3) := (Qe BK103.out 3).trans rfl; have hcz46_4 : w45.cell? ⟨gb103, 4, none⟩ = some (.int .i64 a0_4) := (Qe BK103.out 4).trans rfl; have hcz46_5 : w45.cell? ⟨gb103, 5, none⟩ = some (.int .i32 a0_5) := (Qe BK103.out 5).trans rfl; have hcz46_6 : w45.cell? ⟨gb103, 6, none⟩ = some (.string a0_6) := (Qe BK103.out 6).trans rfl; have hfz46_0 := Qd BK103.out 0; have hfz46_1 := Qd BK103.out 1; have hfz46_2 := Qd BK103.out 2; have hfz46_3 := Qd BK103.out 3; have hfz46_4 := Qd BK103.out 4; have hfz46_5 := Qd BK103.out 5; have hfz46_6 := Qd BK103.out 6))
   go_ret
   exact ⟨by first|rfl|(simp [errW_none, errW_some] <;> rfl)|(simp [*, errW_none, errW_some] <;> rfl), by repeat (first|(with_reducible first|exact HB.out|apply Q8|apply Q5|apply Q9|refine Q6 ?_ GE103.out)|exact HB.out)⟩
  ·replace c42 := Bool.eq_false_iff.mpr c42
   subst c42
   rw [if_neg (show ¬ (false = true) by decide)] at H
   obtain rfl := Qn H
   go_enter Tryz.func17, Tryz.ntmps17
   go_wp2_with (first|((with_reducible refine gate_dst (N := 1) rfl ?_); refine box_event ?hg (N := 1) ?hd (cs := #[.string a0_0, .int .i64 a0_1, .int .i64 a0_2, .int .i64 a0_3, .int .i64 a0_4, .int .i32 a0_5, .string a0_6]) (t := 40) ?hr ?_; (case hd => rfl); (case hg => rfl); (case hr => first|(go_simp; done)|(go_simp; rfl)); intro gb103 hg w47 hbox hb; have n0_ := Q4 (Qg (by repeat (first|(with_reducible first|exact HB.out|apply Q8|apply Q5|apply Q9)|exact HB.out)) hb); have n1_ := Q4 (hbox); have n2_ := Q4 ((by rw [hg]; exact bZ : w.heap.size ≤ gb103)); have n3_ := Q4 ((by rw [hg]; exact bZ : w.heap.size ≤ gb103)); clear HB; have HB := n0_; have BK103 := n1_; have GW103 := n2_; have GE103 := n3_; clear n0_ n1_ n2_ n3_; clear hb hbox hg; have hcz48_0 : w47.cell? ⟨gb103, 0, none⟩ = some (.string a0_0) := (Qe BK103.out 0).trans rfl; have hcz48_1 : w47.cell? ⟨gb103, 1, none⟩ = some (.int .i64 a0_1) := (Qe BK103.out 1).trans rfl; have hcz48_2 : w47.cell? ⟨gb103, 2, none⟩ = some (.int .i64 a0_2) := (Qe BK103.out 2).trans rfl; have hcz48_3 : w47.cell? ⟨gb103, 3, none⟩ = some (.int .i64 a0_3) := (Qe BK103.out 3).trans rfl; have hcz48_4 : w47.cell? ⟨gb103, 4, none⟩ = some (.int .i64 a0_4) := (Qe BK103.out 4).trans rfl; have hcz48_5 : w47.cell? ⟨gb103, 5, none⟩ = some (.int .i32 a0_5) := (Qe BK103.out 5).trans rfl; have hcz48_6 : w47.cell? ⟨gb103, 6, none⟩ = some (.string a0_6) := (Qe BK103.out 6).trans rfl; have hfz48_0 := Qd BK103.out 0; have hfz48_1 := Qd BK103.out 1; have hfz48_2 := Qd BK103.out 2; have hfz48_3 := Qd BK103.out 3; have hfz48_4 := Qd BK103.out 4; have hfz48_5 := Qd BK103.out 5; have hfz48_6 := Qd BK103.out 6)|((with_reducible refine gate_callee (f := 28) rfl ?_); refine gL (some 9) Tryz.func28 #[.string a0_0] ?_; (with_reducible refine (asm_named.calls a0_0 false _ A41.out).mono ?_); rintro e w49 ⟨rfl, hb⟩; refine ⟨_, rfl, ?_⟩; have n0_ := Q4 (Qo (g := gb103) (o := .cells #[.string a0_0, .int .i64 a0_1, .int .i64 a0_2, .int .i64 a0_3, .int .i64 a0_4, .int .i32 a0_5, .string a0_6] 40 (0, 0)) (bK BK103) hb); have n1_ := Q4 (Qg (by repeat (first|(with_reducible first|exact HB.out|apply Q8|apply Q5|apply Q9|refine Q6 ?_ GE103.out)|exact HB.out)) hb); clear BK103; clear HB; have BK103 := n0_; have HB := n1_; clear n0_ n1_;(try clear hb);(try clear hb2);(try clear hk);(try clear hi)))
   go_ret
   exact ⟨by first|rfl|(simp [errW_none, errW_some] <;> rfl)|(simp [*, errW_none, errW_some] <;> rfl), by repeat (first|(with_reducible first|exact HB.out|apply Q8|apply Q5|apply Q9|refine Q6 ?_ GE103.out)|exact HB.out)⟩

end Go.Proofs.YtbelnkdbghggmaaGreatDoor.X
namespace Go.Proofs.YtbelnkdbghggmaaGreatDoor.X
open Go.RowKit Go.Shelf Go.Proofs.YtbelnkdbghggmaaGreatDoorW.PrintWords Go.Proofs.YtbelnkdbghggmaaGreatDoorW.PrintLast
attribute [local go_sem] Oper.semAt_some
set_option linter.unusedVariables false
set_option linter.unusedSimpArgs false
/-- What a round keeps: all that lay below n₀, and each block of cells but those of R and rows of words; of a line's the first cell. -/
def KeepT (n₀ : Nat) (R : Nat → Prop) (A B : World) : Prop := Below n₀ A B ∧ ∀ (i : Nat) (cs : Array Value) (t : TypeId) (fr : Nat × Nat), ¬ R i → t ≠ 63 → A.heap[i]? = some (.cells cs t fr) → ∃ cs', B.heap[i]? = some (.cells cs' t fr) ∧ cs'[0]? = cs[0]? ∧ (t ≠ 40 → cs' = cs)
theorem KeepT.of_same {n₀ : Nat} {R : Nat → Prop} {A B : World} (h : Below n₀ A B) (k : ∀ (i : Nat) (cs : Array Value) (t : TypeId) (fr : Nat × Nat), ¬ R i → t ≠ 63 → A.heap[i]? = some (.cells cs t fr) → B.heap[i]? = some (.cells cs t fr)) : KeepT n₀ R A B := ⟨h, fun i cs t fr hi ht ho => ⟨cs, k i cs t fr hi ht ho, rfl, fun _ => rfl⟩⟩
theorem KeepT.refl (n₀ : Nat) (R : Nat → Prop) (A : World) : KeepT n₀ R A A := KeepT.of_same (Below.refl _ _) fun _ _ _ _ _ _ h => h
theorem KeepT.trans {n₀ : Nat} {R : Nat → Prop} {A B C : World} (h : KeepT n₀ R A B) (k : KeepT n₀ R B C) : KeepT n₀ R A C := ⟨h.1.trans k.1, fun i cs t fr hi ht ho => by
  obtain ⟨c1, h1, h2, h3⟩ := h.2 i cs t fr hi ht ho
  obtain ⟨c2, k1, k2, k3⟩ := k.2 i c1 t fr hi ht h1
  exact ⟨c2, k1, k2.trans h2, fun hn => (k3 hn).trans (h3 hn)⟩⟩
theorem KeepT.putObj {n₀ : Nat} {R : Nat → Prop} {w : World} (hn : n₀ ≤ w.heap.size) (W : World) (l : Nat) (o o' : Obj) (hl : w.heap.size ≤ l) (h : W.heap[l]? = some o) (h1 : o.isCells = false) (h2 : o.isWalk = false) : KeepT n₀ R W (W.putObj l o') :=
  KeepT.of_same (belowK_b hn W l o o' hl h h1 h2) fun i cs t fr _ _ ho => (World.putObj_heap_other (fun e => by subst e; rw [h] at ho; injection ho with ho; rw [ho] at h1; cases h1)).trans ho
theorem KeepT.of_below {n₀ : Nat} {R : Nat → Prop} {A B : World} (h : Below A.heap.size A B) (hn : n₀ ≤ A.heap.size) : KeepT n₀ R A B := KeepT.of_same (h.mono hn) fun i cs t fr _ _ ho => (h.block i (Array.getElem?_eq_some_iff.1 ho).1).trans ho
theorem KeepT.set {n₀ : Nat} {R : Nat → Prop} (W : World) (b o : Nat) (v : Value) (h : n₀ ≤ b) (hR : R b) : KeepT n₀ R W (W.setCell ⟨b, o, none⟩ v) :=
  KeepT.of_same ((Below.refl n₀ W).setCell (p := ⟨b, o, none⟩) h _) fun i cs t fr hi _ ho => (Below.heap_setCell _ _ _ _ (fun e => hi (by rw [e]; exact hR))).trans ho
/-- A line's further cells may be written. -/
theorem KeepT.setLine {n₀ : Nat} {R : Nat → Prop} (W : World) (b j : Nat) (v : Value) (h : n₀ ≤ b) {cs0 : Array Value} (hb : W.heap[b]? = some (.cells cs0 40 (0, 0))) (h0 : 0 < j) (hj : j < cs0.size) : KeepT n₀ R W (W.setCell ⟨b, j, none⟩ v) :=
  ⟨(Below.refl n₀ W).setCell (p := ⟨b, j, none⟩) h _, fun i cs t fr hi _ ho => by
    by_cases e : i = b
    · subst e
      rw [hb] at ho
      cases ho
      have := blk_put hb j v rfl
      exact ⟨_, this, by simp [Array.getElem?_setIfInBounds]; omega, fun hn => absurd rfl hn⟩
    · exact ⟨cs, (Below.heap_setCell _ _ _ _ e).trans ho, rfl, fun _ => rfl⟩⟩
/-- A line's cells. -/
def lineC (x : S40) : Array Value := #[.string x.f0, .int .i64 x.f1.f0, .int .i64 x.f1.f1, .int .i64 x.f1.f2, .int .i64 x.f1.f3, .int .i32 x.f1.f4, .string x.f2]
/-- How many lines are no marks. -/
def isMark (x : S40) : Bool := decide (0 < x.f0.size)
def cnt : List S40 → Nat
  | [] => 0
  | x :: r => (if isMark x then 0 else 1) + cnt r
theorem cnt_append (a b : List S40) : cnt (a ++ b) = cnt a + cnt b := by
  induction a with
  | nil => simp [cnt]
  | cons x r ih => simp only [List.cons_append, cnt, ih]; omega
theorem cnt_le (l : List S40) : cnt l ≤ l.length := by
  induction l with
  | nil => simp [cnt]
  | cons x r ih => simp only [cnt, List.length_cons]; split <;> omega
/-- Lines, each with its place. -/
def placedL : List S40 → Nat → List (Int × S40)
  | [], _ => []
  | x :: r, k => ((k : Int), x) :: placedL r (if isMark x then k else k + 1)
theorem placedL_append (a b : List S40) (k : Nat) : placedL (a ++ b) k = placedL a k ++ placedL b (k + cnt a) := by
  induction a generalizing k with
  | nil => simp [placedL, cnt]
  | cons x r ih =>
    simp only [List.cons_append, placedL, ih, cnt]
    split <;> simp [Nat.add_assoc]
theorem placedL_length (l : List S40) (k : Nat) : (placedL l k).length = l.length := by
  induction l generalizing k with
  | nil => rfl
  | cons x r ih => simp [placedL, ih]
def come (l : List S40) (k : Nat) : List (Int × S40) := placedL (l.take k) 0
theorem come_succ (l : List S40) (k : Nat) (hk : k < l.length) : come l (k + 1) = come l k ++ [(((cnt (l.take k) : Nat) : Int), rd_T40 l (k : Int))] := by
  have e : l.take (k + 1) = l.take k ++ [l[k]] := by rw [List.take_succ_eq_append_getElem hk]
  have e2 : rd_T40 l (k : Int) = l[k] := by simp [rd_T40, List.getD_eq_getElem?_getD, hk]
  unfold come
  rw [e, placedL_append, e2, Nat.zero_add]
  simp [placedL]
theorem cnt_succ (l : List S40) (k : Nat) (hk : k < l.length) : cnt (l.take (k + 1)) = cnt (l.take k) + (if isMark (rd_T40 l (k : Int)) then 0 else 1) := by
  have e : l.take (k + 1) = l.take k ++ [l[k]] := by rw [List.take_succ_eq_append_getElem hk]
  have e2 : rd_T40 l (k : Int) = l[k] := by simp [rd_T40, List.getD_eq_getElem?_getD, hk]
  rw [e, cnt_append, e2]
  simp [cnt]
theorem come_all (l : List S40) : come l l.length = placedL l 0 := by simp [come]
theorem come_prefix (l : List S40) (k : Nat) : come l k <+: placedL l 0 := by
  refine ⟨placedL (l.drop k) (0 + cnt (l.take k)), ?_⟩
  unfold come
  rw [← placedL_append, List.take_append_drop]
theorem come_length (l : List S40) (k : Nat) (hk : k ≤ l.length) : (come l k).length = k := by
  unfold come
  rw [placedL_length]
  simp; omega
theorem mark_iff (s : ByteArray) : (s.toList = []) ↔ s.size = 0 := by
  have hl : s.toList.length = s.size := by rw [ByteArray.toList_eq]; exact data_length s
  rw [← hl]
  exact List.length_eq_zero_iff.symm
theorem placed_calls (A : Option Addr) (n c : Nat) (w : World) : Calls Tryz.prog 48 #[.slice A n c] w fun e w' => e = .returned (.func (.func 67) #[] #[.pointer (some ⟨w.heap.size, 0, none⟩)]) ∧ w' = w.alloc (.cells #[.slice A n c] 23) := by
  go_enter Tryz.func48, Tryz.ntmps48
  go_wp2
  go_ret
  exact ⟨rfl, rfl⟩
set_option maxRecDepth 100000 in
set_option maxHeartbeats 8000000 in
theorem placed1_in (n : Nat) (hn : 1 ≤ n) (l Bl c : Nat) (n₀ : Nat) (R : Nat → Prop) (A : Option Addr) (xs : List S40) (w0 : World)
    (hr : Kd.C k40 w0 A xs.length xs) (hn0 : w0.heap.size = n₀)
    (J Jx : List (Int × S40) → World → Prop) (W : World) (hW0 : Below n₀ w0 W)
    (hJ : ∀ pre A B, J pre A → Below A.heap.size A B → J pre B)
    (hY : ∀ pre (x : Int × S40) W1, x ∈ placedL xs 0 → J pre W1 → pre.length < xs.length → YieldAt Fence.wide (n - 1) Tryz.prog l #[.int .i64 x.1, .agg (lineC x.2)] W1 fun e W' =>
      (e = .returned (.bool true) ∧ J (pre ++ [x]) W' ∧ KeepT n₀ R W1 W') ∨ (e = .returned (.bool false) ∧ Jx (pre ++ [x]) W'))
    (hBl : W.heap[Bl]? = some (.cells #[.slice A xs.length c] 23 (0, 0))) (hnR : ¬ R Bl) (hRW : ∀ i, R i → i < W.heap.size) (h0 : J [] W) :
    CallsIn Fence.wide n Tryz.prog 67 #[.func (.yield l) #[] #[], .pointer (some ⟨Bl, 0, none⟩)] W fun e W' => (∃ v, e = .returned v) ∧
      ((∃ ys, ys = placedL xs 0 ∧ J ys W') ∨ (∃ pre, pre <+: placedL xs 0 ∧ Jx pre W')) := by
  have hmax : xs.length ≤ 9223372036854775807 := hr.2.1
  have hbc := blk_cell hBl 0
  simp only [List.getElem?_toArray, List.getElem?_cons_zero] at hbc
  refine callsIn_of_wp Tryz.func67 rfl trivial ?_ rfl
  simp only [Tryz.ntmps67, List.size_toArray, List.length_cons, List.length_nil, Nat.reduceAdd, Nat.reduceSub, Array.replicate_succ, Array.replicate_zero, List.push_toArray, List.append_toArray, List.nil_append, List.cons_append]
  gi_wp2
  gi_loopw [3, 8] (fun a i wr => ∃ k : Nat, k ≤ xs.length ∧ i = .int .i64 k ∧ a = .int .i64 (cnt (xs.take k)) ∧ J (come xs k) wr ∧ KeepT n₀ R W wr ∧ W.heap.size ≤ wr.heap.size) (fun _ i _ => xs.length - (intOf i).toNat)
  case atStart => exact ⟨0, Nat.zero_le _, rfl, by simp [cnt], h0, KeepT.refl _ _ _, Nat.le_refl _⟩
  case round =>
    obtain ⟨k, hk, rfl, rfl, hJs, hkb, hsz⟩ := hrel
    by_cases hlt : k < xs.length
    · have hrW : Kd.C k40 wr A xs.length xs := Kd.C_below hr (hn0 ▸ hW0.trans hkb.1)
      obtain ⟨ad, e1, hx0, hx1, hx2, hx3, hx4, hx5, hx6⟩ := at_T40 hrW (k : Int) (by omega) (by omega)
      cases e1
      simp only [Int.toNat_natCast] at hx0 hx1 hx2 hx3 hx4 hx5 hx6
      have hcs := come_succ xs k hlt
      have hct := cnt_succ xs k hlt
      have hcl := cnt_le (xs.take k)
      have hlen := come_length xs k hk
      rw [List.length_take] at hcl
      have hy0 := hY (come xs k) (((cnt (xs.take k) : Nat) : Int), rd_T40 xs (k : Int)) (wr.alloc (.cells (lineC (rd_T40 xs (k : Int))) 40)) ((come_prefix xs (k + 1)).subset (by rw [hcs]; simp)) (hJ _ _ _ hJs ((Below.refl _ wr).alloc (Nat.le_refl _) _)) (by omega)
      have hpre := come_prefix xs (k + 1)
      rw [← hcs] at hy0
      have hmi := mark_iff (rd_T40 xs (k : Int)).f0
      have hmk : isMark (rd_T40 xs (k : Int)) = decide (0 < (rd_T40 xs (k : Int)).f0.size) := rfl
      have hn1 : cnt (xs.take k) ≤ k := by omega
      clear hcl
      unfold lineC at hy0
      generalize rd_T40 xs (k : Int) = x at *
      generalize cnt (xs.take k) = q at *
      generalize hq1 : cnt (xs.take (k + 1)) = q1 at *
      generalize hp1 : come xs (k + 1) = pre1 at *
      have HQ1 := Lib.hid hq1
      have HP1 := Lib.hid hp1
      clear hq1 hp1
      have HP := Lib.hid hpre
      have HCT := Lib.hid hct
      have HMK := Lib.hid hmk
      have HKB := Lib.hid hkb
      clear hpre hct hmk hcs hkb hlen hJs hr hrW hbc
      obtain ⟨fn, tmps, assign, body, hy, hR⟩ := hy0
      gi_wp2
      refine hR.mono ?_
      have hbx := blk_new wr (.cells #[.string x.f0, .int .i64 x.f1.f0, .int .i64 x.f1.f1, .int .i64 x.f1.f2, .int .i64 x.f1.f3, .int .i32 x.f1.f4, .string x.f2] 40)
      have hnb : ¬ R wr.heap.size := fun h => by have := hRW _ h; omega
      rintro e_ W3 (⟨rfl, hJ3, hk3⟩ | ⟨rfl, hJx3⟩)
      · obtain ⟨cs3, hb3, hcs3, _⟩ := hk3.2 _ _ _ _ hnb (by decide) hbx
        have hc3 := blk_cell hb3 0
        rw [hcs3] at hc3
        simp only [List.getElem?_toArray, List.getElem?_cons_zero] at hc3
        have hs3 := hk3.1
        have hz3 : wr.heap.size < W3.heap.size := (Array.getElem?_eq_some_iff.1 hb3).1
        have hall : KeepT n₀ R W W3 := (HKB.out.trans (KeepT.of_below (below_alloc (Below.refl _ wr) _) (by have := hW0.size; omega))).trans hk3
        have HALL := Lib.hid hall
        clear hall hk3 hs3 hb3 hbx
        by_cases hm : x.f0.toList = []
        · have hm2 : x.f0.toList.isEmpty = true := by rw [hm]; rfl
          have hz : x.f0.size = 0 := hmi.1 hm
          have HCT2 : Hid (q1 = q + 1) := Lib.hid (by rw [HCT.out, HMK.out, hz]; rfl)
          clear hmi hz
          gi_wp2
          go_roundw
          case rel => exact ⟨k + 1, by omega, by go_num, by rw [HQ1.out, HCT2.out]; go_num, by rw [HP1.out]; exact hJ3, HALL.out, by omega⟩
          case measure => simp [intOf]; omega
        · have hm2 : x.f0.toList.isEmpty = false := by cases e : x.f0.toList with | nil => exact absurd e hm | cons a b => rfl
          have hz : ¬ x.f0.size = 0 := fun h => hm (hmi.2 h)
          have HCT2 : Hid (q1 = q) := Lib.hid (by rw [HCT.out, HMK.out, decide_eq_true (by omega)]; rfl)
          clear hmi hz
          gi_wp2
          go_roundw
          case rel => exact ⟨k + 1, by omega, by go_num, by rw [HQ1.out, HCT2.out], by rw [HP1.out]; exact hJ3, HALL.out, by omega⟩
          case measure => simp [intOf]; omega
      · gi_wp2
        refine bodyPost_ret (results_none rfl _ _ _) rfl ?_
        exact ⟨⟨_, rfl⟩, .inr ⟨_, HP.out, hJx3⟩⟩
    · obtain rfl : k = xs.length := by omega
      have hca := come_all xs
      gi_wp2
      go_end0
      exact ⟨⟨_, rfl⟩, .inl ⟨_, hca, hJs⟩⟩
theorem placed_stops (n : Nat) (hn : 1 ≤ n) (Bl c n₀ : Nat) (R : Nat → Prop) (A : Option Addr) (xs : List S40) (w0 w : World)
    (hr : Kd.C k40 w0 A xs.length xs) (hn0 : w0.heap.size = n₀) (hw : Below n₀ w0 w)
    (hBl : w.heap[Bl]? = some (.cells #[.slice A xs.length c] 23 (0, 0))) (hnR : ¬ R Bl) (hRW : ∀ i, R i → i < w.heap.size) :
    SeqStopsK Fence.wide n Tryz.prog 67 #[.pointer (some ⟨Bl, 0, none⟩)] (fun x : Int × S40 => #[.int .i64 x.1, .agg (lineC x.2)]) (KeepT n₀ R) (fun ys => ys = placedL xs 0) (fun pre => pre <+: placedL xs 0) xs.length w := fun l J Jx W hW hJ hJx hY h0 =>
  placed1_in n hn l Bl c n₀ R A xs w0 hr hn0 J Jx W (hw.trans (hW.mono (by have := hw.size; omega))) (fun pre A B hj hb => hJ pre A B none hj (grown_of_below hb none) (fun r e => by cases e)) (fun pre x W1 _ => hY pre x W1) (blk_below hBl hW) hnR (fun i h => Nat.lt_of_lt_of_le (hRW i h) hW.size) h0
/-- The same, where each element is known to be G. -/
theorem placed_stopsG (G : Int × S40 → Prop) (n : Nat) (hn : 1 ≤ n) (Bl c n₀ : Nat) (R : Nat → Prop) (A : Option Addr) (xs : List S40) (w0 w : World)
    (hr : Kd.C k40 w0 A xs.length xs) (hn0 : w0.heap.size = n₀) (hw : Below n₀ w0 w) (hG : ∀ p ∈ placedL xs 0, G p)
    (hBl : w.heap[Bl]? = some (.cells #[.slice A xs.length c] 23 (0, 0))) (hnR : ¬ R Bl) (hRW : ∀ i, R i → i < w.heap.size) :
    SeqStopsK Fence.wide n Tryz.prog 67 #[.pointer (some ⟨Bl, 0, none⟩)] (fun x : {p : Int × S40 // G p} => #[.int .i64 x.1.1, .agg (lineC x.1.2)]) (KeepT n₀ R) (fun ys => ys.map (·.1) = placedL xs 0) (fun pre => pre.map (·.1) <+: placedL xs 0) xs.length w := fun l J Jx W hW hJ hJx hY h0 => by
  refine (placed1_in n hn l Bl c n₀ R A xs w0 hr hn0 (fun pre W => ∃ q : List {p : Int × S40 // G p}, q.map (·.1) = pre ∧ J q W) (fun pre W => ∃ q : List {p : Int × S40 // G p}, q.map (·.1) = pre ∧ Jx q W) W (hw.trans (hW.mono (by have := hw.size; omega)))
    (fun pre A B hj hb => (let ⟨q, h1, h2⟩ := hj; ⟨q, h1, hJ q A B none h2 (grown_of_below hb none) (fun r e => by cases e)⟩)) ?_ (blk_below hBl hW) hnR (fun i h => Nat.lt_of_lt_of_le (hRW i h) hW.size) ⟨[], rfl, h0⟩).mono ?_
  · rintro pre x W1 hx ⟨q, rfl, hj⟩ hl
    obtain ⟨fn, tmps, assign, body, hy, hR⟩ := hY q ⟨x, hG x hx⟩ W1 hj (by simpa using hl)
    refine ⟨fn, tmps, assign, body, hy, hR.mono ?_⟩
    rintro e W' (⟨h1, h2, h3⟩ | ⟨h1, h2⟩)
    · exact .inl ⟨h1, ⟨_, by simp, h2⟩, h3⟩
    · exact .inr ⟨h1, _, by simp, h2⟩
  · rintro e W' ⟨hv, ⟨ys, h1, q, h2, h3⟩ | ⟨pre, h1, q, h2, h3⟩⟩
    · exact ⟨hv, .inl ⟨q, h2.trans h1, h3⟩⟩
    · exact ⟨hv, .inr ⟨q, by rw [← h2] at h1; exact h1, h3⟩⟩
end Go.Proofs.YtbelnkdbghggmaaGreatDoor.X
