import Derived.Test.YtokglimimnelaaaGreatDoorM02
import Derived.Shelf.Strings.Builder1
import Derived.Shelf.Small.Strs
import Derived.Shelf.Strings.BuilderF
import Derived.Shelf.Strings.BuilderK
import Derived.Shelf.Strconv.Itoa0
import Derived.Shelf.Strconv.Itoa1
import Derived.Shelf.LaysM
import Derived.Shelf.Strconv.Itoa2
import Derived.Shelf.Strconv.Itoa3
import Derived.Shelf.Strconv.Itoa4
import Derived.Shelf.Strconv.ParseIntEmpty
import Derived.Shelf.Strconv.Clone
import Derived.Shelf.Strconv.SyntaxError
import Derived.Shelf.LaysC
import Derived.Shelf.Strconv.ToError
import Derived.Shelf.Strconv.Lower
import Derived.Shelf.Strconv.ParseUint10
import Derived.Shelf.Strconv.ParseUint10Empty
import Derived.Shelf.Strconv.ParseUint10Any
import Derived.Shelf.Strconv.ParseInt10
import Derived.Shelf.Strconv.RangeError
import Derived.Shelf.Strconv.ToErrorRange
import Derived.Shelf.Strconv.ParseUintEmpty
import Derived.Shelf.Strconv.ParseUint10b64
import Derived.Shelf.Strconv.ParseUint10b32
import Derived.Shelf.Strconv.ParseUint10b16
import Derived.Shelf.Strconv.ParseUint10b8
import Derived.Shelf.Strconv.ParseUint10At
import Derived.Shelf.Strconv.ParseInt10At64
import Derived.Shelf.Strconv.ParseInt10At32
import Derived.Shelf.Strconv.ParseInt10At16
import Derived.Shelf.Strconv.ParseInt10At8
import Derived.Shelf.Strconv.ParseInt10All
import Derived.Shelf.Strconv.ParseIntPublic10
import Derived.Shelf.Strconv.ErrVarParseInt
import Derived.Shelf.Strings.Search1
import Derived.Shelf.Strings.Prefix
import Derived.Ground.Names2Prog
import Derived.Shelf.Slices.Clone
import Derived.Ground.SlgnProg
import Derived.Shelf.SlicesG.SearchI
import Derived.Shelf.SlicesE.Clone
import Derived.Test.YtokglimimnelaaaGreatDoorProg
import Derived.Lib.AppendIntMem
import Derived.Lib.ItoaLen
import Derived.Lib.ParseIntBTie
import Derived.Lib.ParseIntBCases
import Derived.Lib.AppendZerosOnto
set_option linter.unusedVariables false
set_option linter.unusedSimpArgs false
section
namespace Go.Proofs
open Go.Shelf
def Tryz.lays169_ren : Go.Shelf.Ren := ⟨fun | 169 => 175 | n => n, fun | 70 => 228 | 9 => 9 | 0 => 0 | 72 => 230 | 37 => 181 | 127 => 254 | 3 => 3 | 5 => 5 | n => n, fun | n => n⟩
theorem Tryz.lays169 : Go.Proofs.Lays.n169 Tryz.prog Tryz.lays169_ren := {
  mixed := by kernel_rfl
  f169 := Tryz.func175.trans (congrArg some (by kernel_rfl))
  t0 := Tryz.underlying0
  a0 := Tryz.isAgg0
  z0 := Tryz.sizeOf0
  v0 := Tryz.zeroValue0
  t3 := Tryz.underlying3
  a3 := Tryz.isAgg3
  z3 := Tryz.sizeOf3
  v3 := Tryz.zeroValue3
  t9 := Tryz.underlying9
  a9 := Tryz.isAgg9
  z9 := Tryz.sizeOf9
  v9 := Tryz.zeroValue9
  t37 := Tryz.underlying181
  a37 := Tryz.isAgg181
  z37 := Tryz.sizeOf181
  v37 := Tryz.zeroValue181
  t70 := Tryz.underlying228
  a70 := Tryz.isAgg228
  z70 := Tryz.sizeOf228
  v70 := Tryz.zeroValue228
  t72 := Tryz.underlying230
  a72 := Tryz.isAgg230
  z72 := Tryz.sizeOf230
  v72 := Tryz.zeroValue230
  t127 := Tryz.underlying254
  a127 := Tryz.isAgg254
  z127 := Tryz.sizeOf254
  v127 := Tryz.zeroValue254 }
theorem Tryz.Builder_Extra_169 : Builder.Extra Tryz.prog Tryz.lays169_ren := {
  sizeBuilder := by kernel_rfl
  liesBuilder := by kernel_rfl
  t5 := Tryz.underlying5
  a5 := Tryz.isAgg5
  z5 := Tryz.sizeOf5
  v5 := Tryz.zeroValue5
  infoByte := by kernel_rfl
  cellsByte := by kernel_rfl
  sizeByte := by kernel_rfl
  neB5 := by decide }
open Go.RowKit in
theorem Tryz.Builder_String_any (B b : Nat) (l : List UInt8) (w : World) (h : Lib.IsBuilder 230 5 B b (Lib.byteCells l) w) (hBw : B ≤ w.heap.size) :
    Calls Tryz.prog 175 #[.pointer (some ⟨b, 0, none⟩)] w fun e w' => e = .returned (.string ⟨l.toArray⟩) ∧ Below B w w' := Any.Builder_String_any Tryz.lays169 Tryz.Builder_Extra_169 B b l w h hBw
def Tryz.lays137_ren : Go.Shelf.Ren := ⟨fun | 137 => 132 | 217 => 177 | 266 => 205 | n => n, fun | 9 => 9 | 5 => 5 | 3 => 3 | n => n, fun | n => n⟩
theorem Tryz.lays137 : Go.Proofs.Lays.n137 Tryz.prog Tryz.lays137_ren := {
  mixed := by kernel_rfl
  f137 := Tryz.func132.trans (congrArg some (by kernel_rfl))
  f217 := Tryz.func177.trans (congrArg some (by kernel_rfl))
  f266 := Tryz.func205.trans (congrArg some (by kernel_rfl))
  t3 := Tryz.underlying3
  a3 := Tryz.isAgg3
  z3 := Tryz.sizeOf3
  v3 := Tryz.zeroValue3
  t5 := Tryz.underlying5
  a5 := Tryz.isAgg5
  z5 := Tryz.sizeOf5
  v5 := Tryz.zeroValue5
  t9 := Tryz.underlying9
  a9 := Tryz.isAgg9
  z9 := Tryz.sizeOf9
  v9 := Tryz.zeroValue9 }
open Go.RowKit in
theorem Tryz.strings_IndexByte (s : ByteArray) (c : Int) (w : World) :
    Calls Tryz.prog 132 #[.string s, .int .u8 c] w fun e w' => e = .returned (.int .i64 (Lib.indexByte s.data.toList c.toNat.toUInt8)) ∧ w' = w := Any.strings_IndexByte Tryz.lays137 s c w
def Tryz.laysM171_ren : Go.Shelf.Ren := ⟨fun | 171 => 176 | 243 => 204 | 246 => 202 | 283 => 224 | 284 => 225 | 285 => 226 | 286 => 227 | 129 => 241 | 317 => 240 | 318 => 242 | 319 => 243 | 320 => 244 | 337 => 256 | 338 => 257 | n => n, fun | 3 => 3 | 9 => 9 | 2 => 2 | 4 => 4 | 171 => 270 | 0 => 0 | 53 => 271 | 37 => 181 | 5 => 5 | 173 => 274 | 212 => 284 | 51 => 285 | 20 => 20 | 213 => 286 | 46 => 255 | 232 => 305 | 233 => 306 | n => n, fun | 17 => 2 | 18 => 5 | 19 => 6 | n => n⟩
theorem Tryz.laysM171 : Go.Proofs.LaysM.n171 Tryz.prog Tryz.laysM171_ren := {
  mixed := by kernel_rfl
  f129 := Tryz.func241.trans (congrArg some (by kernel_rfl))
  f171 := Tryz.func176.trans (congrArg some (by kernel_rfl))
  f243 := Tryz.func204.trans (congrArg some (by kernel_rfl))
  f246 := Tryz.func202.trans (congrArg some (by kernel_rfl))
  f283 := Tryz.func224.trans (congrArg some (by kernel_rfl))
  f284 := Tryz.func225.trans (congrArg some (by kernel_rfl))
  f285 := Tryz.func226.trans (congrArg some (by kernel_rfl))
  f286 := Tryz.func227.trans (congrArg some (by kernel_rfl))
  f317 := Tryz.func240.trans (congrArg some (by kernel_rfl))
  f318 := Tryz.func242.trans (congrArg some (by kernel_rfl))
  f319 := Tryz.func243.trans (congrArg some (by kernel_rfl))
  f320 := Tryz.func244.trans (congrArg some (by kernel_rfl))
  f337 := Tryz.func256.trans (congrArg some (by kernel_rfl))
  f338 := Tryz.func257.trans (congrArg some (by kernel_rfl))
  t0 := Tryz.underlying0
  a0 := Tryz.isAgg0
  z0 := Tryz.sizeOf0
  v0 := Tryz.zeroValue0
  t2 := Tryz.underlying2
  a2 := Tryz.isAgg2
  z2 := Tryz.sizeOf2
  v2 := Tryz.zeroValue2
  t3 := Tryz.underlying3
  a3 := Tryz.isAgg3
  z3 := Tryz.sizeOf3
  v3 := Tryz.zeroValue3
  t4 := Tryz.underlying4
  a4 := Tryz.isAgg4
  z4 := Tryz.sizeOf4
  v4 := Tryz.zeroValue4
  t5 := Tryz.underlying5
  a5 := Tryz.isAgg5
  z5 := Tryz.sizeOf5
  v5 := Tryz.zeroValue5
  t9 := Tryz.underlying9
  a9 := Tryz.isAgg9
  z9 := Tryz.sizeOf9
  v9 := Tryz.zeroValue9
  t20 := Tryz.underlying20
  a20 := Tryz.isAgg20
  z20 := Tryz.sizeOf20
  v20 := Tryz.zeroValue20
  t37 := Tryz.underlying181
  a37 := Tryz.isAgg181
  z37 := Tryz.sizeOf181
  v37 := Tryz.zeroValue181
  t46 := Tryz.underlying255
  a46 := Tryz.isAgg255
  z46 := Tryz.sizeOf255
  v46 := Tryz.zeroValue255
  t51 := Tryz.underlying285
  a51 := Tryz.isAgg285
  z51 := Tryz.sizeOf285
  v51 := Tryz.zeroValue285
  t53 := Tryz.underlying271
  a53 := Tryz.isAgg271
  z53 := Tryz.sizeOf271
  v53 := Tryz.zeroValue271
  t171 := Tryz.underlying270
  a171 := Tryz.isAgg270
  z171 := Tryz.sizeOf270
  v171 := Tryz.zeroValue270
  t173 := Tryz.underlying274
  a173 := Tryz.isAgg274
  z173 := Tryz.sizeOf274
  v173 := Tryz.zeroValue274
  t212 := Tryz.underlying284
  a212 := Tryz.isAgg284
  z212 := Tryz.sizeOf284
  v212 := Tryz.zeroValue284
  t213 := Tryz.underlying286
  a213 := Tryz.isAgg286
  z213 := Tryz.sizeOf286
  t232 := Tryz.underlying305
  a232 := Tryz.isAgg305
  z232 := Tryz.sizeOf305
  v232 := Tryz.zeroValue305
  t233 := Tryz.underlying306
  a233 := Tryz.isAgg306
  z233 := Tryz.sizeOf306
  v233 := Tryz.zeroValue306
  g17 := by kernel_rfl
  g18 := by kernel_rfl
  g19 := by kernel_rfl
  i0 := by kernel_rfl
  i2 := by kernel_rfl
  i3 := by kernel_rfl
  i4 := by kernel_rfl
  i5 := by kernel_rfl
  i9 := by kernel_rfl
  i20 := by kernel_rfl
  i37 := by kernel_rfl
  i46 := by kernel_rfl
  i51 := by kernel_rfl
  i53 := by kernel_rfl
  i171 := by kernel_rfl
  i173 := by kernel_rfl
  i212 := by kernel_rfl
  i232 := by kernel_rfl
  i233 := by kernel_rfl
  m17 := by kernel_rfl
  m18 := by kernel_rfl
  m19 := by kernel_rfl }
open Go.RowKit Go.Sort Go.Lib in
theorem Tryz.strconv_Itoa (n : Int) (h0 : -9223372036854775808 ≤ n) (h1 : n ≤ 9223372036854775807) (w : World) (htab : Lib.TabIs Tryz.prog w "internal/strconv.uint64pow10" .u64 Lib.pow10Tab) :
    Calls Tryz.prog 176 #[.int .i64 n] w fun e w' => e = .returned (.string ⟨(Lib.itoa n).toArray⟩) ∧ ∃ k os, w' = grow (w.drewN k) os := Any.strconv_Itoa Tryz.laysM171 n h0 h1 w htab
def Tryz.laysM173_ren : Go.Shelf.Ren := ⟨fun | 173 => 173 | 246 => 202 | 283 => 224 | 284 => 225 | 285 => 226 | 286 => 227 | 129 => 241 | 317 => 240 | 318 => 242 | 319 => 243 | 320 => 244 | 337 => 256 | 338 => 257 | n => n, fun | 2 => 2 | 3 => 3 | 9 => 9 | 4 => 4 | 171 => 270 | 0 => 0 | 53 => 271 | 37 => 181 | 5 => 5 | 173 => 274 | 212 => 284 | 51 => 285 | 20 => 20 | 213 => 286 | 46 => 255 | 232 => 305 | 233 => 306 | n => n, fun | 17 => 2 | 18 => 5 | 19 => 6 | n => n⟩
theorem Tryz.laysM173 : Go.Proofs.LaysM.n173 Tryz.prog Tryz.laysM173_ren := {
  mixed := by kernel_rfl
  f129 := Tryz.func241.trans (congrArg some (by kernel_rfl))
  f173 := Tryz.func173.trans (congrArg some (by kernel_rfl))
  f246 := Tryz.func202.trans (congrArg some (by kernel_rfl))
  f283 := Tryz.func224.trans (congrArg some (by kernel_rfl))
  f284 := Tryz.func225.trans (congrArg some (by kernel_rfl))
  f285 := Tryz.func226.trans (congrArg some (by kernel_rfl))
  f286 := Tryz.func227.trans (congrArg some (by kernel_rfl))
  f317 := Tryz.func240.trans (congrArg some (by kernel_rfl))
  f318 := Tryz.func242.trans (congrArg some (by kernel_rfl))
  f319 := Tryz.func243.trans (congrArg some (by kernel_rfl))
  f320 := Tryz.func244.trans (congrArg some (by kernel_rfl))
  f337 := Tryz.func256.trans (congrArg some (by kernel_rfl))
  f338 := Tryz.func257.trans (congrArg some (by kernel_rfl))
  t0 := Tryz.underlying0
  a0 := Tryz.isAgg0
  z0 := Tryz.sizeOf0
  v0 := Tryz.zeroValue0
  t2 := Tryz.underlying2
  a2 := Tryz.isAgg2
  z2 := Tryz.sizeOf2
  v2 := Tryz.zeroValue2
  t3 := Tryz.underlying3
  a3 := Tryz.isAgg3
  z3 := Tryz.sizeOf3
  v3 := Tryz.zeroValue3
  t4 := Tryz.underlying4
  a4 := Tryz.isAgg4
  z4 := Tryz.sizeOf4
  v4 := Tryz.zeroValue4
  t5 := Tryz.underlying5
  a5 := Tryz.isAgg5
  z5 := Tryz.sizeOf5
  v5 := Tryz.zeroValue5
  t9 := Tryz.underlying9
  a9 := Tryz.isAgg9
  z9 := Tryz.sizeOf9
  v9 := Tryz.zeroValue9
  t20 := Tryz.underlying20
  a20 := Tryz.isAgg20
  z20 := Tryz.sizeOf20
  v20 := Tryz.zeroValue20
  t37 := Tryz.underlying181
  a37 := Tryz.isAgg181
  z37 := Tryz.sizeOf181
  v37 := Tryz.zeroValue181
  t46 := Tryz.underlying255
  a46 := Tryz.isAgg255
  z46 := Tryz.sizeOf255
  v46 := Tryz.zeroValue255
  t51 := Tryz.underlying285
  a51 := Tryz.isAgg285
  z51 := Tryz.sizeOf285
  v51 := Tryz.zeroValue285
  t53 := Tryz.underlying271
  a53 := Tryz.isAgg271
  z53 := Tryz.sizeOf271
  v53 := Tryz.zeroValue271
  t171 := Tryz.underlying270
  a171 := Tryz.isAgg270
  z171 := Tryz.sizeOf270
  v171 := Tryz.zeroValue270
  t173 := Tryz.underlying274
  a173 := Tryz.isAgg274
  z173 := Tryz.sizeOf274
  v173 := Tryz.zeroValue274
  t212 := Tryz.underlying284
  a212 := Tryz.isAgg284
  z212 := Tryz.sizeOf284
  v212 := Tryz.zeroValue284
  t213 := Tryz.underlying286
  a213 := Tryz.isAgg286
  z213 := Tryz.sizeOf286
  t232 := Tryz.underlying305
  a232 := Tryz.isAgg305
  z232 := Tryz.sizeOf305
  v232 := Tryz.zeroValue305
  t233 := Tryz.underlying306
  a233 := Tryz.isAgg306
  z233 := Tryz.sizeOf306
  v233 := Tryz.zeroValue306
  g17 := by kernel_rfl
  g18 := by kernel_rfl
  g19 := by kernel_rfl
  i0 := by kernel_rfl
  i2 := by kernel_rfl
  i3 := by kernel_rfl
  i4 := by kernel_rfl
  i5 := by kernel_rfl
  i9 := by kernel_rfl
  i20 := by kernel_rfl
  i37 := by kernel_rfl
  i46 := by kernel_rfl
  i51 := by kernel_rfl
  i53 := by kernel_rfl
  i171 := by kernel_rfl
  i173 := by kernel_rfl
  i212 := by kernel_rfl
  i232 := by kernel_rfl
  i233 := by kernel_rfl
  m17 := by kernel_rfl
  m18 := by kernel_rfl
  m19 := by kernel_rfl }
open Go.RowKit Go.Sort Go.Lib in
theorem Tryz.strconv_FormatInt_10 (n : Int) (h0 : -9223372036854775808 ≤ n) (h1 : n ≤ 9223372036854775807) (w : World) (htab : Lib.TabIs Tryz.prog w "internal/strconv.uint64pow10" .u64 Lib.pow10Tab) :
    Calls Tryz.prog 173 #[.int .i64 n, .int .i64 10] w fun e w' => e = .returned (.string ⟨(Lib.itoa n).toArray⟩) ∧ ∃ k os, w' = grow (w.drewN k) os := Any.strconv_FormatInt_10 Tryz.laysM173 n h0 h1 w htab
def Tryz.laysC174_ren : Go.Shelf.Ren := ⟨fun | 174 => 223 | 247 => 238 | 245 => 239 | 287 => 251 | 279 => 252 | 280 => 253 | 281 => 254 | 282 => 255 | 321 => 258 | 322 => 259 | 316 => 260 | 171 => 176 | 205 => 261 | 243 => 204 | 246 => 202 | 283 => 224 | 284 => 225 | 285 => 226 | 286 => 227 | 129 => 241 | 317 => 240 | 318 => 242 | 319 => 243 | 320 => 244 | 337 => 256 | 338 => 257 | n => n, fun | 9 => 9 | 3 => 3 | 2 => 2 | 75 => 232 | 85 => 268 | 4 => 4 | 167 => 294 | 5 => 5 | 53 => 271 | 175 => 295 | 46 => 255 | 168 => 297 | 37 => 181 | 0 => 0 | 210 => 303 | 21 => 21 | 127 => 254 | 145 => 309 | 143 => 307 | 171 => 270 | 173 => 274 | 212 => 284 | 51 => 285 | 20 => 20 | 213 => 286 | 232 => 305 | 233 => 306 | 80 => 101 | n => n, fun | 15 => 3 | 16 => 4 | 17 => 2 | 18 => 5 | 19 => 6 | n => n⟩
theorem Tryz.laysC174 : Go.Proofs.LaysC.n174 Tryz.prog Tryz.laysC174_ren := {
  mixed := by kernel_rfl
  f129 := Tryz.func241.trans (congrArg some (by kernel_rfl))
  f171 := Tryz.func176.trans (congrArg some (by kernel_rfl))
  f174 := Tryz.func223.trans (congrArg some (by kernel_rfl))
  f205 := Tryz.func261.trans (congrArg some (by kernel_rfl))
  f243 := Tryz.func204.trans (congrArg some (by kernel_rfl))
  f245 := Tryz.func239.trans (congrArg some (by kernel_rfl))
  f246 := Tryz.func202.trans (congrArg some (by kernel_rfl))
  f247 := Tryz.func238.trans (congrArg some (by kernel_rfl))
  f279 := Tryz.func252.trans (congrArg some (by kernel_rfl))
  f280 := Tryz.func253.trans (congrArg some (by kernel_rfl))
  f281 := Tryz.func254.trans (congrArg some (by kernel_rfl))
  f282 := Tryz.func255.trans (congrArg some (by kernel_rfl))
  f283 := Tryz.func224.trans (congrArg some (by kernel_rfl))
  f284 := Tryz.func225.trans (congrArg some (by kernel_rfl))
  f285 := Tryz.func226.trans (congrArg some (by kernel_rfl))
  f286 := Tryz.func227.trans (congrArg some (by kernel_rfl))
  f287 := Tryz.func251.trans (congrArg some (by kernel_rfl))
  f316 := Tryz.func260.trans (congrArg some (by kernel_rfl))
  f317 := Tryz.func240.trans (congrArg some (by kernel_rfl))
  f318 := Tryz.func242.trans (congrArg some (by kernel_rfl))
  f319 := Tryz.func243.trans (congrArg some (by kernel_rfl))
  f320 := Tryz.func244.trans (congrArg some (by kernel_rfl))
  f321 := Tryz.func258.trans (congrArg some (by kernel_rfl))
  f322 := Tryz.func259.trans (congrArg some (by kernel_rfl))
  f337 := Tryz.func256.trans (congrArg some (by kernel_rfl))
  f338 := Tryz.func257.trans (congrArg some (by kernel_rfl))
  t0 := Tryz.underlying0
  a0 := Tryz.isAgg0
  z0 := Tryz.sizeOf0
  v0 := Tryz.zeroValue0
  t2 := Tryz.underlying2
  a2 := Tryz.isAgg2
  z2 := Tryz.sizeOf2
  v2 := Tryz.zeroValue2
  t3 := Tryz.underlying3
  a3 := Tryz.isAgg3
  z3 := Tryz.sizeOf3
  v3 := Tryz.zeroValue3
  t4 := Tryz.underlying4
  a4 := Tryz.isAgg4
  z4 := Tryz.sizeOf4
  v4 := Tryz.zeroValue4
  t5 := Tryz.underlying5
  a5 := Tryz.isAgg5
  z5 := Tryz.sizeOf5
  v5 := Tryz.zeroValue5
  t9 := Tryz.underlying9
  a9 := Tryz.isAgg9
  z9 := Tryz.sizeOf9
  v9 := Tryz.zeroValue9
  t20 := Tryz.underlying20
  a20 := Tryz.isAgg20
  z20 := Tryz.sizeOf20
  v20 := Tryz.zeroValue20
  t21 := Tryz.underlying21
  a21 := Tryz.isAgg21
  z21 := Tryz.sizeOf21
  v21 := Tryz.zeroValue21
  t37 := Tryz.underlying181
  a37 := Tryz.isAgg181
  z37 := Tryz.sizeOf181
  v37 := Tryz.zeroValue181
  t46 := Tryz.underlying255
  a46 := Tryz.isAgg255
  z46 := Tryz.sizeOf255
  v46 := Tryz.zeroValue255
  t51 := Tryz.underlying285
  a51 := Tryz.isAgg285
  z51 := Tryz.sizeOf285
  v51 := Tryz.zeroValue285
  t53 := Tryz.underlying271
  a53 := Tryz.isAgg271
  z53 := Tryz.sizeOf271
  v53 := Tryz.zeroValue271
  t75 := Tryz.underlying232
  a75 := Tryz.isAgg232
  z75 := Tryz.sizeOf232
  v75 := Tryz.zeroValue232
  t85 := Tryz.underlying268
  a85 := Tryz.isAgg268
  z85 := Tryz.sizeOf268
  v85 := Tryz.zeroValue268
  t127 := Tryz.underlying254
  a127 := Tryz.isAgg254
  z127 := Tryz.sizeOf254
  v127 := Tryz.zeroValue254
  t143 := Tryz.underlying307
  a143 := Tryz.isAgg307
  z143 := Tryz.sizeOf307
  v143 := Tryz.zeroValue307
  t145 := Tryz.underlying309
  a145 := Tryz.isAgg309
  z145 := Tryz.sizeOf309
  v145 := Tryz.zeroValue309
  t167 := Tryz.underlying294
  a167 := Tryz.isAgg294
  z167 := Tryz.sizeOf294
  v167 := Tryz.zeroValue294
  t168 := Tryz.underlying297
  a168 := Tryz.isAgg297
  z168 := Tryz.sizeOf297
  v168 := Tryz.zeroValue297
  t171 := Tryz.underlying270
  a171 := Tryz.isAgg270
  z171 := Tryz.sizeOf270
  v171 := Tryz.zeroValue270
  t173 := Tryz.underlying274
  a173 := Tryz.isAgg274
  z173 := Tryz.sizeOf274
  v173 := Tryz.zeroValue274
  t175 := Tryz.underlying295
  a175 := Tryz.isAgg295
  z175 := Tryz.sizeOf295
  v175 := Tryz.zeroValue295
  t210 := Tryz.underlying303
  a210 := Tryz.isAgg303
  z210 := Tryz.sizeOf303
  v210 := Tryz.zeroValue303
  t212 := Tryz.underlying284
  a212 := Tryz.isAgg284
  z212 := Tryz.sizeOf284
  v212 := Tryz.zeroValue284
  t213 := Tryz.underlying286
  a213 := Tryz.isAgg286
  z213 := Tryz.sizeOf286
  t232 := Tryz.underlying305
  a232 := Tryz.isAgg305
  z232 := Tryz.sizeOf305
  v232 := Tryz.zeroValue305
  t233 := Tryz.underlying306
  a233 := Tryz.isAgg306
  z233 := Tryz.sizeOf306
  v233 := Tryz.zeroValue306
  g15 := by kernel_rfl
  g16 := by kernel_rfl
  g17 := by kernel_rfl
  g18 := by kernel_rfl
  g19 := by kernel_rfl
  t80 := Tryz.underlying101
  a80 := Tryz.isAgg101
  z80 := Tryz.sizeOf101
  v80 := Tryz.zeroValue101
  i0 := by kernel_rfl
  i2 := by kernel_rfl
  i3 := by kernel_rfl
  i4 := by kernel_rfl
  i5 := by kernel_rfl
  i9 := by kernel_rfl
  i20 := by kernel_rfl
  i21 := by kernel_rfl
  i37 := by kernel_rfl
  i46 := by kernel_rfl
  i51 := by kernel_rfl
  i53 := by kernel_rfl
  i75 := by kernel_rfl
  i80 := by kernel_rfl
  i85 := by kernel_rfl
  i127 := by kernel_rfl
  i143 := by kernel_rfl
  i145 := by kernel_rfl
  i167 := by kernel_rfl
  i168 := by kernel_rfl
  i171 := by kernel_rfl
  i173 := by kernel_rfl
  i175 := by kernel_rfl
  i210 := by kernel_rfl
  i212 := by kernel_rfl
  i232 := by kernel_rfl
  i233 := by kernel_rfl
  m15 := by kernel_rfl
  m16 := by kernel_rfl
  m17 := by kernel_rfl
  m18 := by kernel_rfl
  m19 := by kernel_rfl
  c0 := by kernel_rfl
  c2 := by kernel_rfl
  c3 := by kernel_rfl
  c4 := by kernel_rfl
  c5 := by kernel_rfl
  c9 := by kernel_rfl
  c20 := by kernel_rfl
  c21 := by kernel_rfl
  c37 := by kernel_rfl
  c46 := by kernel_rfl
  c51 := by kernel_rfl
  c53 := by kernel_rfl
  c75 := by kernel_rfl
  c80 := by kernel_rfl
  c85 := by kernel_rfl
  c127 := by kernel_rfl
  c143 := by kernel_rfl
  c145 := by kernel_rfl
  c167 := by kernel_rfl
  c168 := by kernel_rfl
  c171 := by kernel_rfl
  c173 := by kernel_rfl
  c175 := by kernel_rfl
  c210 := by kernel_rfl
  c212 := by kernel_rfl
  c213 := by kernel_rfl
  c232 := by kernel_rfl
  c233 := by kernel_rfl }
open Go.RowKit in
theorem Tryz.strconv_ParseInt_10_at64_ok (s : ByteArray) (hmax : s.size ≤ 9223372036854775806) (v : Int) (h : Lib.parseIntB 64 s.data.toList = .ok v) (w : World) :
    Calls Tryz.prog 223 #[.string s, .int .i64 10, .int .i64 64] w fun e w' => e = .returned (.tuple #[.int .i64 v, .nilIface]) ∧ (w' = w ∨ ∃ t, w' = Lib.bytesWorld w 5 t) := Any.strconv_ParseInt_10_at64_ok Tryz.laysC174 s hmax v h w
open Go.RowKit in
theorem Tryz.strconv_ParseInt_10_at64_range_var (s : ByteArray) (hlim : s.size ≤ 281474976710656) (h : Lib.parseIntB 64 s.data.toList = .range) (tp : TypeId) (p : Value) (w : World) (hvar : w.var? Tryz.prog "strconv.ErrRange" = some #[.iface tp p]) :
    Calls Tryz.prog 223 #[.string s, .int .i64 10, .int .i64 64] w fun e w' => ∃ N, e = .returned (.tuple #[.int .i64 (Lib.intSat 64 s.data.toList), .iface 297 (.pointer (some ⟨N, 0, none⟩))]) ∧ w.heap.size ≤ N ∧ w'.heap[N]? = some (.cells #[.string ⟨#[80, 97, 114, 115, 101, 73, 110, 116]⟩, .string s, .iface tp p] 303 (0, 0)) ∧ Below w.heap.size w w' := Any.strconv_ParseInt_10_at64_range_var Tryz.laysC174 s hlim h tp p w hvar
def Tryz.lays99_ren : Go.Shelf.Ren := ⟨fun | 99 => 195 | 206 => 221 | n => n, fun | 9 => 9 | 4 => 4 | 3 => 3 | n => n, fun | n => n⟩
theorem Tryz.lays99 : Go.Proofs.Lays.n99 Tryz.prog Tryz.lays99_ren := {
  mixed := by kernel_rfl
  f99 := Tryz.func195.trans (congrArg some (by kernel_rfl))
  f206 := Tryz.func221.trans (congrArg some (by kernel_rfl))
  t3 := Tryz.underlying3
  a3 := Tryz.isAgg3
  z3 := Tryz.sizeOf3
  v3 := Tryz.zeroValue3
  t4 := Tryz.underlying4
  a4 := Tryz.isAgg4
  z4 := Tryz.sizeOf4
  v4 := Tryz.zeroValue4
  t9 := Tryz.underlying9
  a9 := Tryz.isAgg9
  z9 := Tryz.sizeOf9
  v9 := Tryz.zeroValue9 }
open Go.RowKit Go.Lib in
theorem Tryz.strings_HasPrefix (s p : ByteArray) (w : World) :
    Calls Tryz.prog 195 #[.string s, .string p] w fun e w' => e = .returned (.bool (Lib.hasPrefix s.data.toList p.data.toList)) ∧ w' = w := Any.strings_HasPrefix Tryz.lays99 s p w
end Go.Proofs
end
namespace Go.Proofs.YtokglimimnelaaaGreatDoor
open Go.Vc Go.RowKit Go.Fl
set_option maxRecDepth 100000
def Tab (w : World) : Prop := Lib.TabIs Tryz.prog w "internal/strconv.uint64pow10" .u64 Lib.pow10Tab
theorem Tab.below {w w' : World} (h : Tab w) (hb : Below w.heap.size w w') : Tab w' := by
  unfold Tab Lib.TabIs World.var? at *
  cases hg : Tryz.prog.globalNamed "internal/strconv.uint64pow10" with
  | none => simp [hg] at h
  | some g =>
    simp only [hg, Option.bind_some] at h ⊢
    have hlt : g < w.heap.size := by
      rcases Nat.lt_or_ge g w.heap.size with h' | h'
      · exact h'
      · rw [Array.getElem?_eq_none h'] at h; cases h
    rw [hb.block g hlt]
    exact h
theorem grow_below {w w' : World} (h : ∃ k os, w' = Sort.grow (w.drewN k) os) : Below w.heap.size w w' := by
  obtain ⟨k, os, rfl⟩ := h
  exact Lib.below_grow _ _ (Nat.le_refl _) _ _
mutual
def putV : V → List UInt8
  | .mk k n s l =>
    let t := if k == 1 then Lib.itoa n else if k == 3 then putL l else s.data.toList
    Lib.itoa (t.length : Int) ++ 58 :: (t ++ [if k == 1 then 35 else if k == 3 then 93 else 44])
def putL : List V → List UInt8
  | [] => []
  | v :: r => putV v ++ putL r
end
mutual
def okV : V → Prop
  | .mk k n s l => i64ok n ∧ okL l
def okL : List V → Prop
  | [] => True
  | v :: r => okV v ∧ okL r
end
theorem itoa_any (n : Int) (h : i64ok n) (w : World) (ht : Tab w) : Calls Tryz.prog 176 #[.int .i64 n] w (RetB (.string ⟨(Lib.itoa n).toArray⟩) w) :=
  (Tryz.strconv_Itoa n h.1 h.2 w ht).mono fun e w' he => ⟨he.1, grow_below he.2⟩
theorem fmt_any (n : Int) (h : i64ok n) (w : World) (ht : Tab w) : Calls Tryz.prog 173 #[.int .i64 n, .int .i64 10] w (RetB (.string ⟨(Lib.itoa n).toArray⟩) w) :=
  (Tryz.strconv_FormatInt_10 n h.1 h.2 w ht).mono fun e w' he => ⟨he.1, grow_below he.2⟩
theorem putL_append_drop (l : List V) (i : Nat) (h : i < l.length) : putL (l.take i) ++ putV l[i] = putL (l.take (i + 1)) := by
  induction l generalizing i with
  | nil => exact absurd h (Nat.not_lt_zero _)
  | cons v r ih =>
    cases i with
    | zero => simp [putL]
    | succ i =>
      simp only [List.take_succ_cons, putL, List.getElem_cons_succ, List.append_assoc]
      rw [ih i (Nat.lt_of_succ_lt_succ h)]
theorem putL_take_le (l : List V) : ∀ i, (putL (l.take i)).length ≤ (putL l).length := by
  induction l with
  | nil => intro i; simp
  | cons v r ih =>
    intro i
    cases i with
    | zero => simp [putL]
    | succ i => simp only [List.take_succ_cons, putL, List.length_append]; have := ih i; omega
theorem okL_mem : ∀ {l : List V} {v : V}, okL l → v ∈ l → okV v
  | x :: r, v, h, hm => by
    rw [okL] at h
    cases hm with
    | head => exact h.1
    | tail _ hm => exact okL_mem h.2 hm
theorem putV_mem_le : ∀ {l : List V} {v : V}, v ∈ l → (putV v).length ≤ (putL l).length
  | x :: r, v, hm => by
    rw [putL, List.length_append]
    cases hm with
    | head => omega
    | tail _ hm => have := putV_mem_le hm; omega
theorem put_join (a t : List UInt8) (e : UInt8) : ((⟨a.toArray⟩ ++ ⟨#[58]⟩ : ByteArray) ++ ⟨t.toArray⟩) ++ ⟨#[e]⟩ = ⟨(a ++ 58 :: (t ++ [e])).toArray⟩ := by
  have e1 : (⟨#[58]⟩ : ByteArray) = ⟨([58] : List UInt8).toArray⟩ := rfl
  have e2 : (⟨#[e]⟩ : ByteArray) = ⟨[e].toArray⟩ := rfl
  rw [e1, e2, ba_append, ba_append, ba_append]
  simp
theorem join_sizes (a t : List UInt8) (e : UInt8) (ha : a.length ≤ 100) (ht : t.length ≤ 1073741824) :
    (⟨a.toArray⟩ : ByteArray).size + (⟨#[58]⟩ : ByteArray).size ≤ 9223372036854775807 ∧ (⟨a.toArray⟩ ++ ⟨#[58]⟩ : ByteArray).size + (⟨t.toArray⟩ : ByteArray).size ≤ 9223372036854775807 ∧
    ((⟨a.toArray⟩ ++ ⟨#[58]⟩ : ByteArray) ++ ⟨t.toArray⟩).size + (⟨#[e]⟩ : ByteArray).size ≤ 9223372036854775807 := by
  have e1 : (⟨#[58]⟩ : ByteArray).size = 1 := rfl
  have e2 : (⟨#[e]⟩ : ByteArray).size = 1 := rfl
  have e3 : (⟨a.toArray⟩ : ByteArray).size = a.length := ba_size a
  have e4 : (⟨t.toArray⟩ : ByteArray).size = t.length := ba_size t
  simp only [ByteArray.size_append]
  omega
theorem builder_old {T e : TypeId} {B b : Nat} {bs : List Value} {w w' : World} (h : Lib.IsBuilder T e B b bs w) (hb : Below w.heap.size w w') : Lib.IsBuilder T e B b bs w' := by
  have one : ∀ p, Lib.BuilderAt T e B b p bs w → Lib.BuilderAt T e B b p bs w' := fun p h => by
    have hlt := h.lt
    obtain ⟨hB, v, hbk, hown, hne⟩ := h
    refine ⟨hB, v, (hb.block b hlt).trans hbk, ?_, hne⟩
    refine hown.kept (row := none) ⟨hb.os, hb.tape, hb.output, hb.size, fun k hk _ => hb.block k hk⟩ ?_
    cases hv : v.ownBlock with
    | none => exact .inl rfl
    | some k => exact .inr (by simp)
  exact h.imp (one _) (one _)
theorem put_any : ∀ (N : Nat) (v : V), SizeOf.sizeOf v < N → okV v → (putV v).length ≤ 1073741824 → ∀ (cs : List Value) (S : Nat → Prop) (w : World), RepC S w v cs → Tab w →
    Calls Tryz.prog 131 #[.agg cs.toArray] w (RetB (.string ⟨(putV v).toArray⟩) w) := by
  intro N
  induction N with
  | zero => intro v h; exact absurd h (Nat.not_lt_zero _)
  | succ N ih =>
    intro v hN hok hlen cs S w hr ht
    obtain ⟨k, n, s, l⟩ := v
    rw [RepC] at hr
    obtain ⟨A, cap, xs, rfl, hL, hR⟩ := hr
    rw [okV] at hok
    refine calls_vc lay_ok Tryz.func131 rfl (by kernel_rfl) (by kernel_rfl) ?_
    intro g2 w2 h2
    have hc := ((Ctx.start w no (fun _ h => h.elim)).loc h2).1
    refine ⟨_, hc.cell 0 rfl _ rfl, ?_⟩
    refine ⟨_, hc.cell 0 rfl _ rfl, ?_⟩
    by_cases k1 : k = 1
    · subst k1
      refine ⟨_, hc.cell 0 rfl _ rfl, ?_⟩
      refine call_b (fmt_any n hok.1 _ (ht.below hc.below)) ?_
      intro w3 h3
      have hc := (hc.quiet h3).1
      have hl : (Lib.itoa n).length ≤ 21 := Lib.itoa_length_le n hok.1.1 hok.1.2
      have hi : i64ok (((⟨(Lib.itoa n).toArray⟩ : ByteArray).size : Nat) : Int) := by rw [ba_size]; unfold i64ok; omega
      refine call_b (itoa_any _ hi _ (ht.below hc.below)) ?_
      intro w4 h4
      have hc := (hc.quiet h4).1
      have hz := join_sizes (Lib.itoa (((⟨(Lib.itoa n).toArray⟩ : ByteArray).size : Nat) : Int)) (Lib.itoa n) 35 (by have := Lib.itoa_length_le _ hi.1 hi.2; omega) (by omega)
      refine ⟨hz.1, ?_⟩
      refine ⟨hz.2.1, ?_⟩
      refine ⟨hz.2.2, ?_⟩
      refine ⟨?_, hc.below⟩
      rw [put_join, ba_size, putV]
      rfl
    · by_cases k3 : k = 3
      · subst k3
        have ev : putV (.mk 3 n s l) = Lib.itoa ((putL l).length : Int) ++ 58 :: (putL l ++ [93]) := by rw [putV]; rfl
        rw [ev] at hlen ⊢
        simp only [List.length_append, List.length_cons] at hlen
        intro gb w3 h3
        have hM : l.length ≤ 9223372036854775807 := Nat.le_trans (Nat.le_trans hR.1 hR.2.1) (by decide)
        have hc := (hc.loc h3).1
        have hB0 : w.heap.size ≤ gb := by have := hc.locs.1; exact this
        have ib : Lib.IsBuilder 230 5 w.heap.size gb (bv (putL (l.take 0))) w3 := .inl ⟨hB0, .slice none 0 0, h3.blk, World.ownsRow_nil _ _ _ _, by simp [Value.ownBlock]⟩
        refine ⟨_, hc.cell 1 rfl _ rfl, ?_⟩
        refine ⟨Nat, fun i => [(5, .pointer (some ⟨gb, 0, none⟩)), (20, .slice A l.length cap), (21, .int .i64 l.length), (22, .int .i64 i)],
          fun i w' => i ≤ l.length ∧ Lib.IsBuilder 230 5 w.heap.size gb (bv (putL (l.take i))) w' ∧ Below w.heap.size w w', fun i _ => l.length - i, 0,
          ⟨rfl, rfl, rfl, rfl, trivial⟩, ⟨Nat.zero_le _, ib, hc.below⟩, ?_⟩
        rintro i w' u ⟨hi, hib, hb⟩
        by_cases hlt : i < l.length
        · refine split_t (decide_eq_true (by omega)) ?_
          obtain ⟨ad, es, rfl, hre, hl4, hcell⟩ := Rep.elem (hL.below hb) (hR.below hb) i hlt
          have hmem := List.getElem_mem hlt
          have hap := putL_append_drop l i hlt
          have htk := putL_take_le l (i + 1)
          generalize l[i] = x at *
          have hre0 := hre
          obtain ⟨k', n', s', l'⟩ := x
          rw [RepC] at hre
          obtain ⟨A', cap', xs', rfl, _, _⟩ := hre
          refine ⟨⟨by omega, by omega⟩, ?_⟩
          refine ⟨_, hl4, hcell, ?_⟩
          intro g5 w5 h5
          have c5 := ((Ctx.start w' no (fun _ h => h.elim)).loc h5).1
          refine ⟨c5.may 0 rfl 0 _ (Nat.le_refl 4) rfl, ?_⟩
          intro w6 h6
          have c6 := (c5.set 0 rfl h6).1
          refine ⟨_, ?_, c6.cells 0 rfl, ?_⟩
          · rfl
          refine call_b (ih (.mk k' n' s' l') (by have := V.kid (k := 3) (n := n) (s := s) hmem; omega) (okL_mem hok.2 hmem) (by have := putV_mem_le hmem; omega) _ S w6 (hre0.below c6.below) ((ht.below hb).below c6.below)) ?_
          intro w7 h7
          have c7 := (c6.quiet h7).1
          have hb7 := hb.trans (c7.below.mono hb.size)
          refine ⟨(wstr_any w.heap.size gb (putL (l.take i)) ⟨(putV (.mk k' n' s' l')).toArray⟩ w7 (builder_old hib c7.below) hb7.size (by rw [ba_size, ← List.length_append, hap]; omega)).mono fun e w8 he => ⟨_, he.1, ?_⟩⟩
          refine ⟨i + 1, ⟨rfl, rfl, rfl, congrArg _ (i_down (by omega)), trivial⟩, ⟨hlt, ?_, hb7.trans he.2.2⟩, by show l.length - (i + 1) < l.length - i; omega⟩
          rw [← hap]
          exact he.2.1
        · refine split_f (decide_eq_false (by omega)) ?_
          rw [List.take_of_length_le (by omega)] at hib
          refine ⟨(Tryz.Builder_String_any w.heap.size gb (putL l) w' hib hb.size).mono fun e w8 he => ⟨_, he.1, ?_⟩⟩
          have hb8 := hb.trans he.2
          have hi : i64ok (((⟨(putL l).toArray⟩ : ByteArray).size : Nat) : Int) := by rw [ba_size]; unfold i64ok; omega
          refine call_b (itoa_any _ hi _ (ht.below hb8)) ?_
          intro w9 h9
          have hz := join_sizes (Lib.itoa (((⟨(putL l).toArray⟩ : ByteArray).size : Nat) : Int)) (putL l) 93 (by have := Lib.itoa_length_le _ hi.1 hi.2; omega) (by omega)
          refine ⟨hz.1, ?_⟩
          refine ⟨hz.2.1, ?_⟩
          refine ⟨hz.2.2, ?_⟩
          refine ⟨?_, hb8.trans (h9.mono hb8.size)⟩
          rw [put_join, ba_size]
          rfl
      · have b1 : (k == 1) = false := by simpa using k1
        have b3 : (k == 3) = false := by simpa using k3
        refine split_f b1 ?_
        refine split_f b3 ?_
        obtain ⟨t, rfl⟩ : ∃ t : List UInt8, s = ⟨t.toArray⟩ := ⟨s.data.toList, by apply ByteArray.ext; simp⟩
        have ev : putV (.mk k n ⟨t.toArray⟩ l) = Lib.itoa (t.length : Int) ++ 58 :: (t ++ [44]) := by rw [putV]; simp [b1, b3]
        rw [ev] at hlen ⊢
        simp only [List.length_append, List.length_cons] at hlen
        have hi : i64ok (((⟨t.toArray⟩ : ByteArray).size : Nat) : Int) := by rw [ba_size]; unfold i64ok; omega
        refine call_b (itoa_any _ hi _ (ht.below hc.below)) ?_
        intro w4 h4
        have hc := (hc.quiet h4).1
        have hz := join_sizes (Lib.itoa (((⟨t.toArray⟩ : ByteArray).size : Nat) : Int)) t 44 (by have := Lib.itoa_length_le _ hi.1 hi.2; omega) (by omega)
        refine ⟨hz.1, ?_⟩
        refine ⟨hz.2.1, ?_⟩
        refine ⟨hz.2.2, ?_⟩
        refine ⟨?_, hc.below⟩
        rw [put_join, ba_size]
        rfl
set_option maxRecDepth 100000
def dgt (c : UInt8) : Bool := decide (48 ≤ c.toNat) && decide (c.toNat ≤ 57)
theorem dgt_iff {c : UInt8} : dgt c = true ↔ 48 ≤ c.toNat ∧ c.toNat ≤ 57 := by simp [dgt]
def valD (a : Nat) (l : List UInt8) : Nat := l.foldl (fun a c => 10 * a + (c.toNat - 48)) a
theorem valD_cons (a : Nat) (c : UInt8) (l : List UInt8) : valD a (c :: l) = valD (10 * a + (c.toNat - 48)) l := by unfold valD; rw [List.foldl_cons]
theorem valD_snoc (a : Nat) (l : List UInt8) (c : UInt8) : valD a (l ++ [c]) = 10 * valD a l + (c.toNat - 48) := by simp [valD]
theorem valD_ge : ∀ (l : List UInt8) (a : Nat), a ≤ valD a l
  | [], a => Nat.le_refl _
  | c :: r, a => by rw [valD_cons]; have := valD_ge r (10 * a + (c.toNat - 48)); omega
theorem u8_ofNat_toNat (n : Nat) (h : n < 256) : (UInt8.ofNat n).toNat = n := by
  rw [UInt8.toNat_ofNat']
  exact Nat.mod_eq_of_lt h
theorem u8_digit {c : UInt8} (h : dgt c = true) : UInt8.ofNat (48 + (c.toNat - 48)) = c := by
  rw [dgt_iff] at h
  rw [show 48 + (c.toNat - 48) = c.toNat by omega]
  exact UInt8.ofNat_toNat
theorem dec_of_digits : ∀ (N : Nat) (l : List UInt8), l.length ≤ N → l ≠ [] → (∀ c ∈ l, dgt c = true) → (∀ c r, l = c :: r → r ≠ [] → c ≠ 48) → Lib.decDigits (valD 0 l) = l := by
  intro N
  induction N with
  | zero => intro l h hn; exact absurd (List.eq_nil_of_length_eq_zero (by omega)) hn
  | succ N ih =>
    intro l hN hne hd hz
    rcases List.eq_nil_or_concat l with rfl | ⟨l', c, e0⟩
    · exact absurd rfl hne
    rw [List.concat_eq_append] at e0
    subst e0
    have hc : dgt c = true := hd c (by simp)
    have hc' := dgt_iff.1 hc
    rw [valD_snoc]
    cases l' with
    | nil =>
      have e : 10 * valD 0 [] + (c.toNat - 48) = c.toNat - 48 := by simp [valD]
      rw [e, Lib.decDigits, dif_pos (by omega), u8_digit hc]
      rfl
    | cons b r =>
      have hb : dgt b = true := hd b (by simp)
      have hb' := dgt_iff.1 hb
      have hb48 : b ≠ 48 := hz b (r ++ [c]) rfl (by simp)
      have hbn : b.toNat ≠ 48 := fun e => hb48 (UInt8.toNat_inj.1 e)
      have h1 : 1 ≤ valD 0 (b :: r) := by rw [valD_cons]; have := valD_ge r (10 * 0 + (b.toNat - 48)); omega
      rw [Lib.decDigits, dif_neg (by omega), show (10 * valD 0 (b :: r) + (c.toNat - 48)) / 10 = valD 0 (b :: r) by omega, show (10 * valD 0 (b :: r) + (c.toNat - 48)) % 10 = c.toNat - 48 by omega,
        u8_digit hc, ih (b :: r) (by simp at hN ⊢; omega) (by simp) (fun x hx => hd x (List.mem_append_left _ hx)) (fun x y e hy => by
          cases e; exact hb48)]
theorem dec_digits (u : Nat) : Lib.decDigits u ≠ [] ∧ (∀ c ∈ Lib.decDigits u, dgt c = true) ∧ valD 0 (Lib.decDigits u) = u ∧ ∀ c r, Lib.decDigits u = c :: r → r ≠ [] → c ≠ 48 := by
  induction u using Nat.strongRecOn with
  | _ u ih =>
    by_cases h : u < 10
    · rw [Lib.decDigits, dif_pos h]
      have e := u8_ofNat_toNat (48 + u) (by omega)
      refine ⟨by simp, fun c hc => ?_, ?_, fun c r e hr => ?_⟩
      · rw [List.mem_singleton] at hc
        subst hc
        rw [dgt_iff, e]; omega
      · show 10 * 0 + ((UInt8.ofNat (48 + u)).toNat - 48) = u
        rw [e]; omega
      · cases e; exact absurd rfl hr
    · obtain ⟨h1, h2, h3, h4⟩ := ih (u / 10) (by omega)
      rw [Lib.decDigits, dif_neg h]
      have e := u8_ofNat_toNat (48 + u % 10) (by omega)
      refine ⟨by simp, fun c hc => ?_, ?_, fun c r e hr => ?_⟩
      · rw [List.mem_append, List.mem_singleton] at hc
        rcases hc with hc | hc
        · exact h2 c hc
        · subst hc; rw [dgt_iff, e]; omega
      · rw [valD_snoc, h3, e]; omega
      · cases hd : Lib.decDigits (u / 10) with
        | nil => exact absurd hd h1
        | cons b t =>
          rw [hd] at e
          cases e
          cases t with
          | nil =>
            rw [hd] at h3
            intro e48
            subst e48
            have : (u / 10) = 0 := h3.symm
            omega
          | cons x y => exact h4 c _ hd (by simp)
def szGo : List UInt8 → Nat → Nat → Nat × Nat × Int
  | [], _, _ => (0, 0, 2)
  | c :: r, i, n => if c = 58 ∧ 0 < i then (n, i + 1, 0) else if dgt c = false ∨ 7 ≤ i ∨ (0 < i ∧ n = 0) then (0, 0, 1) else szGo r (i + 1) (10 * n + (c.toNat - 48))
theorem szGo_put : ∀ (l r : List UInt8) (i n : Nat), (∀ c ∈ l, dgt c = true) → i + l.length ≤ 7 → 0 < i + l.length → (0 < i → l ≠ [] → 0 < n) → (i = 0 → ∀ c t, l = c :: t → t ≠ [] → c ≠ 48) →
    szGo (l ++ 58 :: r) i n = (valD n l, i + l.length + 1, 0)
  | [], r, i, n, hd, h7, h0, hn, hz => by
    rw [List.nil_append, szGo, if_pos ⟨rfl, by simpa using h0⟩]
    rfl
  | c :: t, r, i, n, hd, h7, h0, hn, hz => by
    have hc := hd c (by simp)
    have hc' := dgt_iff.1 hc
    simp only [List.length_cons] at h7
    rw [List.cons_append, szGo, if_neg (fun h => by rw [h.1] at hc'; revert hc'; decide), if_neg (fun h => by
      rcases h with h | h | h
      · rw [hc] at h; cases h
      · omega
      · have := hn h.1 (by simp); omega), szGo_put t r (i + 1) _ (fun x hx => hd x (by simp [hx])) (by omega) (by omega) (fun _ ht => ?_) (fun h => by omega), valD_cons]
    · rw [List.length_cons, show i + 1 + t.length + 1 = i + (t.length + 1) + 1 by omega]
    · rcases Nat.eq_zero_or_pos i with h | h
      · have h48 := hz h c t rfl ht
        have : c.toNat ≠ 48 := fun e => h48 (UInt8.toNat_inj.1 e)
        omega
      · have := hn h (by simp); omega
theorem szGo_get : ∀ (s : List UInt8) (i n m a : Nat), (i = 0 → n = 0) → szGo s i n = (m, a, 0) → ∃ l r, s = l ++ 58 :: r ∧ (∀ c ∈ l, dgt c = true) ∧ m = valD n l ∧ a = i + l.length + 1 ∧ 0 < i + l.length ∧ (i = 0 → ∀ c t, l = c :: t → t ≠ [] → c ≠ 48) ∧ (0 < i → n = 0 → l = []) ∧ (i + l.length ≤ 7 ∨ l = [])
  | [], i, n, m, a, h0, h => by simp [szGo] at h
  | c :: s, i, n, m, a, h0, h => by
    rw [szGo] at h
    by_cases h1 : c = 58 ∧ 0 < i
    · rw [if_pos h1] at h
      simp only [Prod.mk.injEq] at h
      obtain ⟨rfl, rfl, _⟩ := h
      obtain ⟨rfl, hi⟩ := h1
      exact ⟨[], s, rfl, by simp, rfl, rfl, by simpa using hi, fun h => by omega, fun _ _ => rfl, .inr rfl⟩
    · rw [if_neg h1] at h
      by_cases h2 : dgt c = false ∨ 7 ≤ i ∨ (0 < i ∧ n = 0)
      · rw [if_pos h2] at h; simp at h
      · rw [if_neg h2] at h
        obtain ⟨l, r, e, g1, g2, g3, g4, g5, g6, g7⟩ := szGo_get s (i + 1) _ m a (fun h => by omega) h
        have hdc : dgt c = true := by
          cases hd : dgt c
          · exact absurd (.inl hd) h2
          · rfl
        have hdc' := dgt_iff.1 hdc
        refine ⟨c :: l, r, by rw [e]; rfl, fun x hx => ?_, by rw [g2, valD_cons], by rw [g3, List.length_cons]; omega, by rw [List.length_cons]; omega, fun hi x t ex ht => ?_, fun hi hn => ?_, ?_⟩
        · cases hx with
          | head => exact hdc
          | tail _ hx => exact g1 x hx
        · cases ex
          intro e48
          subst e48
          exact ht (g6 (by omega) (by rw [h0 hi]; decide))
        · exact absurd (.inr (.inr ⟨hi, hn⟩)) h2
        · rw [List.length_cons]
          rcases g7 with g7 | g7
          · exact .inl (by omega)
          · subst g7
            left
            simp only [List.length_nil]
            have : ¬ 7 ≤ i := fun h => h2 (.inr (.inl h))
            omega
def numP (t : List UInt8) : Option Int :=
  match Lib.parseIntB 64 t with
  | .ok n => if Lib.itoa n = t then some n else none
  | _ => none
theorem numP_get {t : List UInt8} {n : Int} (h : numP t = some n) : Lib.itoa n = t ∧ i64ok n := by
  unfold numP at h
  rcases e : Lib.parseIntB 64 t with m | _ | _
  · rw [e] at h
    simp only at h
    by_cases e2 : Lib.itoa m = t
    · rw [if_pos e2] at h
      cases h
      have hb := Lib.parseIntB_bounds e
      refine ⟨e2, ?_⟩
      unfold i64ok
      simp only [show (2 : Nat) ^ (64 - 1) = 9223372036854775808 by decide] at hb
      omega
    · rw [if_neg e2] at h; cases h
  · rw [e] at h; cases h
  · rw [e] at h; cases h
theorem parseUintM_digits : ∀ (l : List UInt8) (a : Nat), (∀ c ∈ l, dgt c = true) → valD a l ≤ 18446744073709551615 → Lib.parseUintM 18446744073709551615 a l = .ok (valD a l)
  | [], a, _, _ => rfl
  | c :: r, a, hd, hv => by
    have hc := dgt_iff.1 (hd c (by simp))
    rw [valD_cons] at hv ⊢
    have hg := valD_ge r (10 * a + (c.toNat - 48))
    rw [Lib.parseUintM, if_pos hc, if_neg (by omega), if_neg (by omega), Nat.mul_comm a 10]
    exact parseUintM_digits r _ (fun x hx => hd x (by simp [hx])) hv
theorem parseUintB_dec (u : Nat) (h : u ≤ 18446744073709551615) : Lib.parseUintB 64 (Lib.decDigits u) = .ok u := by
  obtain ⟨h1, h2, h3, _⟩ := dec_digits u
  have := parseUintM_digits (Lib.decDigits u) 0 h2 (by rw [h3]; exact h)
  rw [h3] at this
  unfold Lib.parseUintB
  rw [if_neg h1]
  exact this
theorem numP_put (n : Int) (h : i64ok n) : numP (Lib.itoa n) = some n := by
  have key : Lib.parseIntB 64 (Lib.itoa n) = .ok n := by
    unfold i64ok at h
    unfold Lib.itoa
    by_cases hn : n < 0
    · rw [if_pos hn, Lib.parseIntB_minus, parseUintB_dec _ (by omega)]
      unfold Lib.signedC
      simp only
      first
        | (rw [if_neg (by simp; omega)]; congr 1; omega)
        | (split <;> (try congr 1) <;> omega)
    · rw [if_neg hn]
      obtain ⟨h1, h2, _, _⟩ := dec_digits n.toNat
      cases e : Lib.decDigits n.toNat with
      | nil => exact absurd e h1
      | cons c r =>
        have hc := dgt_iff.1 (h2 c (by rw [e]; simp))
        rw [Lib.parseIntB_plain _ _ _ (by omega) (by omega), ← e, parseUintB_dec _ (by omega)]
        unfold Lib.signlessC
        simp only
        first
          | (rw [if_neg (by simp; omega)]; congr 1; omega)
          | (split <;> (try congr 1) <;> omega)
  unfold numP
  rw [key]
  simp
def lstGo (g : List UInt8 → V × Nat × Int) : Nat → List UInt8 → Option (List V)
  | _, [] => some []
  | 0, _ :: _ => none
  | k + 1, c :: r =>
    let q := g (c :: r)
    if q.2.2 ≠ 0 then none else (lstGo g k ((c :: r).drop q.2.1)).map (q.1 :: ·)
def V0 : V := .mk 0 0 ⟨#[]⟩ []
def bodyP (g : List UInt8 → V × Nat × Int) (c : UInt8) (t : List UInt8) : Option V :=
  if c = 35 then (numP t).map fun n => .mk 1 n ⟨#[]⟩ []
  else if c = 93 then (lstGo g 6000 t).map fun l => .mk 3 0 ⟨#[]⟩ l
  else if c = 44 then some (.mk 2 0 ⟨t.toArray⟩ [])
  else none
def getP : Nat → List UInt8 → V × Nat × Int
  | 0, s => let q := szGo s 0 0; if q.2.2 ≠ 0 then (V0, 0, q.2.2) else (V0, 0, 1)
  | f + 1, s =>
    let q := szGo s 0 0
    if q.2.2 ≠ 0 then (V0, 0, q.2.2)
    else if s.length ≤ q.2.1 + q.1 then (V0, 0, 2)
    else match bodyP (getP f) (s.getD (q.2.1 + q.1) 0) ((s.drop q.2.1).take q.1) with
      | none => (V0, 0, 1)
      | some v => (v, q.2.1 + q.1 + 1, 0)
def getV (s : List UInt8) : V × Nat × Int :=
  let q := getP 6 s
  if q.2.2 = 0 ∧ mayV q.1 = false then (V0, 0, 1) else q
def allV (s : List UInt8) : V × Int :=
  let q := getV s
  if q.2.2 ≠ 0 ∨ q.2.1 ≠ s.length then (V0, 1) else (q.1, 0)
def txtV : V → List UInt8
  | .mk k n s l => if k == 1 then Lib.itoa n else if k == 3 then putL l else s.data.toList
def endV : V → UInt8
  | .mk k n s l => if k == 1 then 35 else if k == 3 then 93 else 44
theorem itoa_nat (n : Nat) : Lib.itoa (n : Int) = Lib.decDigits n := by
  unfold Lib.itoa
  rw [if_neg (by omega), Int.toNat_natCast]
theorem putV_eq (v : V) : putV v = Lib.decDigits (txtV v).length ++ 58 :: (txtV v ++ [endV v]) := by
  obtain ⟨k, n, s, l⟩ := v
  rw [putV, ← itoa_nat]
  rfl
theorem dec_len7 {u : Nat} (h : u < 10000000) : (Lib.decDigits u).length ≤ 7 := by
  rw [Lib.decDigits_length]
  rcases Nat.lt_or_ge 7 (Lib.nDigits u) with h7 | h7
  · exfalso
    have key : ∀ (k u : Nat), k < Lib.nDigits u → 10 ^ k ≤ u ∨ k = 0 := by
      intro k
      induction k with
      | zero => intro u _; exact .inr rfl
      | succ k ih =>
        intro u hk
        by_cases hu : u < 10
        · rw [Lib.nDigits_small hu] at hk; omega
        · rw [Lib.nDigits_big hu] at hk
          have := ih (u / 10) (by omega)
          rw [Nat.pow_succ]
          rcases this with h | h
          · left; omega
          · subst h; left; simp; omega
    have := key 7 u h7
    simp at this
    omega
  · exact h7
theorem szGo_putV (v : V) (r : List UInt8) (h : (txtV v).length < 10000000) : szGo (putV v ++ r) 0 0 = ((txtV v).length, (Lib.decDigits (txtV v).length).length + 1, 0) := by
  obtain ⟨h1, h2, h3, h4⟩ := dec_digits (txtV v).length
  have hp : 0 < (Lib.decDigits (txtV v).length).length := List.length_pos_iff.2 h1
  rw [putV_eq, List.append_assoc, List.cons_append, szGo_put _ _ _ _ h2 (by have := dec_len7 h; omega) (by omega) (fun h => by omega) (fun _ => h4), h3, Nat.zero_add]
theorem putV_len (v : V) : (putV v).length = (Lib.decDigits (txtV v).length).length + 1 + (txtV v).length + 1 := by
  rw [putV_eq]; simp; omega
theorem putV_drop (v : V) (r : List UInt8) : ((putV v ++ r).drop ((Lib.decDigits (txtV v).length).length + 1)).take (txtV v).length = txtV v := by
  rw [putV_eq]
  have e : Lib.decDigits (txtV v).length ++ 58 :: (txtV v ++ [endV v]) ++ r = (Lib.decDigits (txtV v).length ++ [58]) ++ (txtV v ++ ([endV v] ++ r)) := by simp
  rw [e, List.drop_left' (by simp), List.take_left' rfl]
theorem putV_end (v : V) (r : List UInt8) : (putV v ++ r).getD ((Lib.decDigits (txtV v).length).length + 1 + (txtV v).length) 0 = endV v := by
  rw [putV_eq]
  have e : Lib.decDigits (txtV v).length ++ 58 :: (txtV v ++ [endV v]) ++ r = ((Lib.decDigits (txtV v).length ++ [58]) ++ txtV v) ++ (endV v :: r) := by simp
  rw [e, List.getD_eq_getElem?_getD, List.getElem?_append_right (by simp; omega), List.length_append, List.length_append]
  simp
theorem cntL_le (g : V → Int) (hg : ∀ v, 1 ≤ g v) : ∀ (l : List V) (n : Int), cntL g l n ≤ 6000 → n + l.length ≤ cntL g l n ∧ ∀ x ∈ l, g x ≤ 6000 - n
  | [], n, h => by rw [cntL]; simp
  | x :: r, n, h => by
    rw [cntL_cons] at h ⊢
    by_cases h1 : 6000 < n + g x
    · rw [if_pos h1] at h; omega
    · rw [if_neg h1] at h ⊢
      have hx := hg x
      obtain ⟨h2, h3⟩ := cntL_le g hg r _ h
      refine ⟨by rw [List.length_cons]; omega, fun y hy => ?_⟩
      cases hy with
      | head => omega
      | tail _ hy => have := h3 y hy; omega
theorem lstGo_put (g : List UInt8 → V × Nat × Int) : ∀ (l : List V) (k : Nat), l.length ≤ k → (∀ x ∈ l, ∀ r, g (putV x ++ r) = (x, (putV x).length, 0)) → lstGo g k (putL l) = some l
  | [], k, hk, h => by rw [putL]; unfold lstGo; rfl
  | x :: l, 0, hk, h => by simp at hk
  | x :: l, k + 1, hk, h => by
    rw [putL]
    have hx := h x (by simp) (putL l)
    have hl := putV_len x
    cases e : putV x ++ putL l with
    | nil => exfalso; have := congrArg List.length e; rw [List.length_append, hl] at this; simp only [List.length_nil] at this; omega
    | cons c r =>
      rw [lstGo, ← e, hx]
      simp only [ne_eq, not_true_eq_false, if_false, List.drop_left]
      rw [lstGo_put g l k (by simpa using hk) (fun y hy => h y (by simp [hy]))]
      rfl
theorem putL_mem_len {l : List V} {x : V} (h : x ∈ l) : (txtV x).length < (putL l).length := by
  have h1 := putV_mem_le h
  have h2 := putV_len x
  omega
theorem mt_empty {s : ByteArray} (h : mt s = true) : s = ⟨#[]⟩ := by
  have h2 : strEq s ⟨#[]⟩ = true := h
  apply ByteArray.ext
  simpa [strEq] using h2
theorem getP_put : ∀ (f : Nat) (v : V), cnt f v ≤ 6000 → okV v → (txtV v).length < 10000000 → ∀ r, getP f (putV v ++ r) = (v, (putV v).length, 0) := by
  intro f
  induction f with
  | zero => intro v h; rw [cnt] at h; omega
  | succ f ih =>
    intro v hc hok hlen r
    rw [getP, szGo_putV v r hlen]
    simp only [ne_eq, not_true_eq_false, if_false]
    rw [if_neg (by rw [List.length_append, putV_len]; omega), putV_drop, putV_end]
    have hb : bodyP (getP f) (endV v) (txtV v) = some v := by
      obtain ⟨k, n, s, l⟩ := v
      rw [cnt] at hc
      rw [okV] at hok
      by_cases h1 : (k == 1 && mt s && ((l.length : Int) == 0)) || (k == 2 && n == 0 && ((l.length : Int) == 0))
      · simp only [Bool.or_eq_true, Bool.and_eq_true, beq_iff_eq] at h1
        rcases h1 with ⟨⟨h1, h2⟩, h3⟩ | ⟨⟨h1, h2⟩, h3⟩
        · subst h1
          have hl : l = [] := List.eq_nil_of_length_eq_zero (by omega)
          subst hl
          rw [mt_empty h2]
          simp [bodyP, endV, txtV, numP_put n hok.1]
        · subst h1
          have hl : l = [] := List.eq_nil_of_length_eq_zero (by omega)
          subst hl
          subst h2
          simp [bodyP, endV, txtV]
      · rw [if_neg h1] at hc
        by_cases h2 : (k != 3 || !(n == 0) || !mt s) = true
        · rw [if_pos h2] at hc; omega
        · rw [if_neg h2] at hc
          simp only [Bool.or_eq_true, not_or, bne_iff_ne, ne_eq, Decidable.not_not, Bool.not_eq_true', Bool.not_eq_false', beq_iff_eq, Bool.not_eq_false] at h2
          obtain ⟨⟨rfl, h3⟩, h4⟩ := h2
          have h3 : n = 0 := by simpa using h3
          have h4 : mt s = true := by simpa using h4
          subst h3
          rw [mt_empty h4]
          obtain ⟨h5, h6⟩ := cntL_le (cnt f) (fun v => (cnt_range f v).1) l 1 hc
          have ht : txtV (.mk 3 0 s l) = putL l := by simp [txtV]
          rw [ht] at hlen
          have hl := lstGo_put (getP f) l 6000 (by omega) (fun x hx r => ih x (by have := h6 x hx; omega) (okL_mem hok.2 hx) (by have := putL_mem_len hx; omega) r)
          simp [bodyP, endV, txtV, hl]
    rw [hb]
    simp only
    rw [putV_len]
theorem allV_put (v : V) (hm : mayV v = true) (hok : okV v) (hlen : (txtV v).length < 10000000) : allV (putV v) = (v, 0) := by
  have h := getP_put 6 v (by simpa [mayV] using hm) hok hlen []
  rw [List.append_nil] at h
  simp [allV, getV, h, hm]
theorem lstGo_get (g : List UInt8 → V × Nat × Int) (hg : ∀ s v n, g s = (v, n, 0) → n ≤ s.length ∧ putV v = s.take n ∧ okV v) : ∀ (k : Nat) (t : List UInt8) (l : List V), lstGo g k t = some l → putL l = t ∧ okL l := by
  intro k
  induction k with
  | zero =>
    intro t l h
    cases t with
    | nil => rw [lstGo] at h; cases h; exact ⟨by rw [putL], by rw [okL]; trivial⟩
    | cons c r => rw [lstGo] at h; cases h
  | succ k ih =>
    intro t l h
    cases t with
    | nil => rw [lstGo] at h; cases h; exact ⟨by rw [putL], by rw [okL]; trivial⟩
    | cons c r =>
      rw [lstGo] at h
      generalize hq : g (c :: r) = q at h
      obtain ⟨v, n, e⟩ := q
      simp only at h
      by_cases he : e = 0
      · subst he
        simp only [ne_eq, not_true_eq_false, if_false] at h
        cases hl : lstGo g k ((c :: r).drop n) with
        | none => rw [hl] at h; cases h
        | some m =>
          rw [hl] at h
          cases h
          obtain ⟨h1, h2⟩ := ih _ _ hl
          obtain ⟨h3, h4, h5⟩ := hg _ _ _ hq
          refine ⟨?_, by rw [okL]; exact ⟨h5, h2⟩⟩
          rw [putL, h1, h4, List.take_append_drop]
      · rw [if_pos he] at h; cases h
theorem getP_get : ∀ (f : Nat) (s : List UInt8) (v : V) (n : Nat), getP f s = (v, n, 0) → n ≤ s.length ∧ putV v = s.take n ∧ okV v := by
  intro f
  induction f with
  | zero =>
    intro s v n h
    rw [getP] at h
    try dsimp only at h
    split at h
    · rename_i h1; simp only [Prod.mk.injEq] at h; exact absurd h.2.2 h1
    · simp at h
  | succ f ih =>
    intro s v n h
    rw [getP] at h
    try dsimp only at h
    generalize hq : szGo s 0 0 = q at h
    obtain ⟨m, a, e⟩ := q
    simp only at h
    split at h
    · rename_i h1; simp only [Prod.mk.injEq] at h; exact absurd h.2.2 h1
    rename_i h1
    have he : e = 0 := by simpa using h1
    subst he
    split at h
    · simp at h
    rename_i h2
    obtain ⟨l, r, es, g1, g2, g3, g4, g5, g6, g7⟩ := szGo_get s 0 0 m a (fun _ => rfl) hq
    have hne : l ≠ [] := fun e => by subst e; simp at g4
    have hdec : Lib.decDigits m = l := by
      rw [g2]
      exact dec_of_digits l.length l (Nat.le_refl _) hne g1 (g5 rfl)
    cases hb : bodyP (getP f) (s.getD (a + m) 0) ((s.drop a).take m) with
    | none => rw [hb] at h; simp at h
    | some u =>
      rw [hb] at h
      simp only [Prod.mk.injEq, and_true] at h
      obtain ⟨rfl, rfl⟩ := h
      have hr : s.drop a = r := by
        rw [es, g3]
        have e : l ++ 58 :: r = (l ++ [58]) ++ r := by simp
        rw [e, List.drop_left' (by simp)]
      have hlen : s.length = l.length + 1 + r.length := by rw [es]; simp; omega
      have hmr : m < r.length := by omega
      have hc : s.getD (a + m) 0 = r[m] := by
        rw [List.getD_eq_getElem?_getD, ← List.getElem?_drop, hr, List.getElem?_eq_getElem hmr]
        rfl
      rw [hc, hr] at hb
      have key : txtV u = r.take m ∧ endV u = r[m] ∧ okV u := by
        unfold bodyP at hb
        by_cases c1 : r[m] = 35
        · rw [if_pos c1] at hb
          cases hn : numP (r.take m) with
          | none => rw [hn] at hb; cases hb
          | some k =>
            rw [hn] at hb
            cases hb
            obtain ⟨k1, k2⟩ := numP_get hn
            exact ⟨by simp [txtV, k1], by simp [endV, c1], by rw [okV, okL]; exact ⟨k2, trivial⟩⟩
        rw [if_neg c1] at hb
        by_cases c2 : r[m] = 93
        · rw [if_pos c2] at hb
          cases hn : lstGo (getP f) 6000 (r.take m) with
          | none => rw [hn] at hb; cases hb
          | some k =>
            rw [hn] at hb
            cases hb
            obtain ⟨k1, k2⟩ := lstGo_get (getP f) ih 6000 _ _ hn
            exact ⟨by simp [txtV, k1], by simp [endV, c2], by rw [okV]; exact ⟨by unfold i64ok; omega, k2⟩⟩
        rw [if_neg c2] at hb
        by_cases c3 : r[m] = 44
        · rw [if_pos c3] at hb
          cases hb
          exact ⟨by simp [txtV], by simp [endV, c3], by rw [okV, okL]; exact ⟨by unfold i64ok; omega, trivial⟩⟩
        · rw [if_neg c3] at hb; cases hb
      obtain ⟨k1, k2, k3⟩ := key
      refine ⟨by omega, ?_, k3⟩
      have hl2 : (txtV u).length = m := by rw [k1, List.length_take]; omega
      rw [putV_eq, hl2, hdec, k1, k2, es, g3]
      have e1 : r.take m ++ [r[m]] = r.take (m + 1) := by rw [List.take_add_one, List.getElem?_eq_getElem hmr]; rfl
      have e2 : 0 + l.length + 1 + m + 1 = (l ++ [58]).length + (m + 1) := by simp; omega
      have e3 : l ++ 58 :: r = (l ++ [58]) ++ r := by simp
      rw [e1, e2, e3, List.take_append, List.take_of_length_le (Nat.le_add_right _ _), Nat.add_sub_cancel_left]
      simp
theorem allV_get {s : List UInt8} {v : V} (h : allV s = (v, 0)) : putV v = s ∧ mayV v = true ∧ okV v := by
  unfold allV getV at h
  generalize hq : getP 6 s = q at h
  obtain ⟨u, n, e⟩ := q
  simp only at h
  by_cases h1 : e = 0 ∧ mayV u = false
  · rw [if_pos h1] at h; simp at h
  · rw [if_neg h1] at h
    simp only at h
    split at h
    · simp at h
    · rename_i h2
      simp only [not_or, ne_eq, Decidable.not_not] at h2
      obtain ⟨rfl, rfl⟩ := h2
      cases h
      obtain ⟨_, k2, k3⟩ := getP_get 6 s _ _ hq
      exact ⟨by rw [k2, List.take_length], by
        cases hm : mayV v
        · exact absurd ⟨rfl, hm⟩ h1
        · rfl, k3⟩
def putS (v : V) : List UInt8 := if mayV v && decide ((Lib.decDigits (txtV v).length).length ≤ 7) then putV v else []
set_option maxRecDepth 100000
theorem indexByte_dec : ∀ (l r : List UInt8), (∀ c ∈ l, dgt c = true) → Lib.indexByte (l ++ 58 :: r) 58 = l.length
  | [], r, _ => rfl
  | c :: l, r, h => by
    have hc := dgt_iff.1 (h c (by simp))
    have ih := indexByte_dec l r fun x hx => h x (by simp [hx])
    have hne : (c == 58) = false := by
      rw [beq_eq_false_iff_ne]
      intro e
      subst e
      revert hc; decide
    rw [List.cons_append, Lib.indexByte, hne, ih]
    have : ((l.length : Int) == -1) = false := by rw [beq_eq_false_iff_ne]; omega
    simp [this]
theorem indexByte_putV (v : V) : Lib.indexByte (putV v) 58 = (Lib.decDigits (txtV v).length).length := by
  rw [putV_eq]
  exact indexByte_dec _ _ (dec_digits _).2.1
theorem vput_any (v : V) (hok : okV v) (hlen : (putV v).length ≤ 1073741824) (k n : Int) (s : ByteArray) (A : Option Addr) (len cap : Nat) (S : Nat → Prop) (w : World) (hr : RepC S w v [.int .i64 k, .int .i64 n, .string s, .slice A len cap]) (ht : Tab w) :
    Calls Tryz.prog 82 #[.agg #[.int .i64 k, .int .i64 n, .string s, .slice A len cap]] w (RetB (.string ⟨(putS v).toArray⟩) w) := by
  refine calls_vc lay_ok Tryz.func82 rfl (by kernel_rfl) (by kernel_rfl) ?_
  intro g2 w2 h2
  have hc := ((Ctx.start w no (fun _ h => h.elim)).loc h2).1
  refine ⟨_, ?_, hc.cells 0 rfl, ?_⟩
  · rfl
  refine call_b (vmay_any v k n s A len cap S w2 (hr.below hc.below)) ?_
  intro w3 h3
  have hc := (hc.quiet h3).1
  cases hm : mayV v
  · refine ⟨?_, hc.below⟩
    simp [putS, hm]
    rfl
  refine ⟨_, ?_, hc.cells 0 rfl, ?_⟩
  · rfl
  refine call_b (put_any _ v (Nat.lt_succ_self _) hok hlen _ S w3 (hr.below hc.below) (ht.below hc.below)) ?_
  intro w4 h4
  have hc := (hc.quiet h4).1
  have hi : Calls Tryz.prog 132 #[.string ⟨(putV v).toArray⟩, .int .u8 58] w4 (RetB (.int .i64 (Lib.decDigits (txtV v).length).length) w4) :=
    (Tryz.strings_IndexByte ⟨(putV v).toArray⟩ 58 w4).mono fun e w' he => ⟨by rw [he.1, ← indexByte_putV]; rfl, by rw [he.2]; exact Below.refl _ _⟩
  refine call_b hi ?_
  intro w5 h5
  have hc := (hc.quiet h5).1
  by_cases h7 : (Lib.decDigits (txtV v).length).length ≤ 7
  · refine split_f (decide_eq_false (by omega)) ?_
    refine ⟨?_, hc.below⟩
    simp [putS, hm, h7]
    rfl
  · refine split_t (decide_eq_true (by omega)) ?_
    refine ⟨?_, hc.below⟩
    simp [putS, hm, h7]
    rfl
theorem psize_any (t : List UInt8) (ht : t.length ≤ 1073741824) (w : World) :
    Calls Tryz.prog 199 #[.string ⟨t.toArray⟩] w (RetB (.tuple #[.int .i64 (szGo t 0 0).1, .int .i64 (szGo t 0 0).2.1, .int .i64 (szGo t 0 0).2.2]) w) := by
  refine calls_vc lay_ok Tryz.func199 rfl (by kernel_rfl) (by kernel_rfl) ?_
  have hsz : (((⟨t.toArray⟩ : ByteArray).size : Nat) : Int) = t.length := by rw [ba_size]
  refine ⟨Nat × Nat, fun x => [(0, .string ⟨t.toArray⟩), (5, .int .i64 x.2), (9, .int .i64 ((⟨t.toArray⟩ : ByteArray).size : Nat)), (10, .int .i64 x.1)],
    fun x w' => x.1 ≤ t.length ∧ x.1 ≤ 7 ∧ x.2 < 10 ^ x.1 ∧ szGo (t.drop x.1) x.1 x.2 = szGo t 0 0 ∧ Below w.heap.size w w', fun x _ => t.length - x.1, (0, 0),
    ⟨rfl, rfl, rfl, rfl, trivial⟩, ⟨Nat.zero_le _, Nat.zero_le _, Nat.one_pos, rfl, Below.refl _ _⟩, ?_⟩
  rintro ⟨i, n⟩ w' u ⟨hi, h7, hn, he, hb⟩
  simp only at hi h7 hn he
  have hn7 : n < 10000000 := Nat.lt_of_lt_of_le hn (Nat.pow_le_pow_right (by decide) h7)
  by_cases hlt : i < t.length
  · refine split_t (decide_eq_true (by rw [hsz]; omega)) ?_
    refine ⟨⟨by omega, by rw [hsz]; omega⟩, ?_⟩
    have eg : t.getD i 0 = t[i] := by rw [List.getD_eq_getElem?_getD, List.getElem?_eq_getElem hlt]; rfl
    have ec : (⟨t.toArray⟩ : ByteArray).data.toList.getD ((i : Int).toNat) 0 = t[i] := by rw [Int.toNat_natCast]; exact eg
    rw [List.drop_eq_getElem_cons hlt, szGo] at he
    generalize ex : (⟨t.toArray⟩ : ByteArray).data.toList.getD ((i : Int).toNat) 0 = x at *
    rw [← ec] at he
    have err : (x = 58 ∧ 0 < i → False) → (dgt x = false ∨ 7 ≤ i ∨ (0 < i ∧ n = 0)) → RetB (.tuple #[.int .i64 (szGo t 0 0).1, .int .i64 (szGo t 0 0).2.1, .int .i64 (szGo t 0 0).2.2]) w (.returned (.tuple #[.int .i64 0, .int .i64 0, .int .i64 1])) w' := fun h1 h2 => ⟨by
      rw [if_neg h1, if_pos h2] at he
      rw [← he]; rfl, hb⟩
    have go : (x = 58 ∧ 0 < i → False) → ¬ (dgt x = false ∨ 7 ≤ i ∨ (0 < i ∧ n = 0)) → szGo (t.drop (i + 1)) (i + 1) (10 * n + (x.toNat - 48)) = szGo t 0 0 := fun h1 h2 => by
      rw [if_neg h1, if_neg h2] at he
      exact he
    have h58 : ((x.toNat : Int) == 58) = decide (x = 58) := by
      rw [Bool.eq_iff_iff, beq_iff_eq, decide_eq_true_eq]
      constructor
      · intro h; exact UInt8.toNat_inj.1 (by have : (58 : UInt8).toNat = 58 := rfl; omega)
      · intro h; subst h; rfl
    have rest : (x = 58 ∧ 0 < i → False) → True := fun _ => trivial
    have hxx := x.toNat_lt
    by_cases hx : x = 58
    · refine split_t (by show ((x.toNat : Int) == 58) = true; rw [h58, decide_eq_true hx]) ?_
      by_cases h0 : 0 < i
      · refine split_t (decide_eq_true (by omega)) ?_
        rw [if_pos ⟨hx, h0⟩] at he
        refine ⟨?_, hb⟩
        rw [← he]
        show Ending.returned (.tuple #[.int .i64 n, .int .i64 (IntKind.i64.wrap ((i : Int) + 1)), .int .i64 0]) = _
        rw [i_down (by omega)]
      · refine split_f (decide_eq_false (by omega)) ?_
        refine split_f (decide_eq_false (by subst hx; decide)) ?_
        refine split_t (decide_eq_true (by subst hx; decide)) ?_
        exact err (fun h => h0 h.2) (.inl (by subst hx; rfl))
    · refine split_f (by show ((x.toNat : Int) == 58) = false; rw [h58, decide_eq_false hx]) ?_
      by_cases c1 : x.toNat < 48
      · refine split_t (decide_eq_true (by omega)) ?_
        exact err (fun h => hx h.1) (.inl (by unfold dgt; rw [decide_eq_false (by omega)]; rfl))
      refine split_f (decide_eq_false (by omega)) ?_
      by_cases c2 : 57 < x.toNat
      · refine split_t (decide_eq_true (by omega)) ?_
        exact err (fun h => hx h.1) (.inl (by unfold dgt; rw [decide_eq_false (show ¬ x.toNat ≤ 57 by omega), Bool.and_false]))
      refine split_f (decide_eq_false (by omega)) ?_
      have hd : dgt x = true := dgt_iff.2 ⟨by omega, by omega⟩
      by_cases c3 : 7 ≤ i
      · refine split_t (decide_eq_true (by omega)) ?_
        exact err (fun h => hx h.1) (.inr (.inl c3))
      refine split_f (decide_eq_false (by omega)) ?_
      have ew : IntKind.i64.wrap (IntKind.i64.wrap (10 * (n : Int)) + IntKind.i64.wrap (IntKind.u8.wrap ((x.toNat : Int) - 48))) = ((10 * n + (x.toNat - 48) : Nat) : Int) := by
        rw [IntWalk.i64_in (10 * (n : Int)) ⟨by omega, by omega⟩, IntWalk.u8_in _ ⟨by omega, by omega⟩, IntWalk.i64_in ((x.toNat : Int) - 48) ⟨by omega, by omega⟩, IntWalk.i64_in _ ⟨by omega, by omega⟩]
        omega
      have hn' : 10 * n + (x.toNat - 48) < 10 ^ (i + 1) := by rw [Nat.pow_succ]; omega
      by_cases c4 : 0 < i
      · refine split_t (decide_eq_true (by omega)) ?_
        by_cases c5 : n = 0
        · refine split_t (by subst c5; rfl) ?_
          exact err (fun h => hx h.1) (.inr (.inr ⟨c4, c5⟩))
        · refine split_f (by show ((n : Int) == 0) = false; rw [beq_eq_false_iff_ne]; omega) ?_
          refine ⟨(i + 1, 10 * n + (x.toNat - 48)), ⟨rfl, congrArg _ ew, rfl, congrArg _ (i_down (by omega)), trivial⟩, ⟨hlt, by show i + 1 ≤ 7; omega, hn', go (fun h => hx h.1) (fun h => ?_), hb⟩, by show t.length - (i + 1) < t.length - i; omega⟩
          rcases h with h | h | h
          · rw [hd] at h; cases h
          · exact c3 h
          · exact c5 h.2
      · refine split_f (decide_eq_false (by omega)) ?_
        refine ⟨(i + 1, 10 * n + (x.toNat - 48)), ⟨rfl, congrArg _ ew, rfl, congrArg _ (i_down (by omega)), trivial⟩, ⟨hlt, by show i + 1 ≤ 7; omega, hn', go (fun h => hx h.1) (fun h => ?_), hb⟩, by show t.length - (i + 1) < t.length - i; omega⟩
        rcases h with h | h | h
        · rw [hd] at h; cases h
        · exact c3 h
        · exact c4 h.1
  · refine split_f (decide_eq_false (by rw [hsz]; omega)) ?_
    rw [List.drop_of_length_le (by omega), szGo] at he
    refine ⟨?_, hb⟩
    rw [← he]
    rfl
end Go.Proofs.YtokglimimnelaaaGreatDoor
section
namespace Go.Vc
open Go Go.RowKit
set_option maxRecDepth 100000
section
variable {S0 S : Nat → Prop} {w0 w w' : World} {l : List LB} {e sz : Nat} {A : Option Addr} {n cap : Nat} {xs : List Value} {n0 : Nat}
theorem Locs.turned {S : Nat → Prop} {n0 : Nat} {w w' : World} : ∀ {l : List LB} {k g T : Nat} {cs cs' : List Value}, Locs S n0 w l → l[k]? = some (g, T, cs) → Blk w' g T cs' → (∀ b, b < w.heap.size → b ≠ g → w'.heap[b]? = w.heap[b]?) → Locs S n0 w' (setLoc l k cs')
  | (g', T', c) :: r, k, g, T, cs, cs', ⟨h1, h2, h3, h4, h5⟩, hk, hb, ho => by
    cases k with
    | zero =>
      simp at hk
      obtain ⟨rfl, rfl, rfl⟩ := hk
      exact ⟨h1, h2, hb, h4, h5.mono (fun x hx => ho _ (h5.lt x hx) (h4 x hx)) (fun _ _ h => h)⟩
    | succ k =>
      have hk' : r[k]? = some (g, T, cs) := by simpa using hk
      have hne : g ≠ g' := h4 _ (List.mem_of_getElem? hk')
      refine ⟨h1, h2, h3.of_eq (ho _ h3.lt (Ne.symm hne)), fun x hx => ?_, h5.turned hk' hb ho⟩
      obtain ⟨y, hy, e⟩ := setLoc_mem hx
      rw [← e]; exact h4 y hy
theorem Ctx.turned (hc : Ctx S0 w0 S w l) (k : Nat) {g T : Nat} {cs cs' : List Value} (h : l[k]? = some (g, T, cs)) (hg : w.grownBy w' (some g)) (hB : Blk w' g T cs') :
    Ctx S0 w0 S w' (setLoc l k cs') ∧ Fut S w S w' := by
  obtain ⟨hn, hge⟩ := hc.locs.notS h
  refine ⟨⟨hc.below.grown hg hc.below.size (fun k hk => by cases hk; exact hge), hc.sub, hc.new, fun b hb => Nat.lt_of_lt_of_le (hc.lt b hb) hg.size, hc.locs.turned h hB (fun b hb hne => hg.block b hb (fun e => hne (Option.some.inj e)))⟩,
    ⟨fun _ h => h, fun b hb => hg.block b (hc.lt b hb) (fun e => hn ((Option.some.inj e) ▸ hb))⟩⟩
theorem Ctx.fresh (hc : Ctx S0 w0 S w l) (hb : Below w.heap.size w w') (ho : w'.ownsRow w.heap.size e sz (.slice A n cap) n xs) :
    Ctx S0 w0 S w' l ∧ Fut S w S w' ∧ Own S w0.heap.size w' l e sz A n cap xs := by
  obtain ⟨h1, h2⟩ := hc.quiet hb
  refine ⟨h1, h2, ?_, fun a ha => ?_⟩
  · refine ⟨ho.1, ?_⟩
    rcases ho.2 with h | ⟨g, cp, cur, h3, h4, h5⟩
    · exact .inl h
    · exact .inr ⟨g, cp, cur, h3, Nat.le_trans hc.below.size h4, h5⟩
  · subst ha
    have hlt := (ho.lt a.block rfl).1
    exact ⟨fun hs => by have := hc.lt _ hs; omega, fun x hx e1 => by have := hc.locs.lt x hx; omega⟩
theorem Own.opened (h : Own S w0.heap.size w l e sz A n cap xs) (hc : Ctx S0 w0 S w l) {a : Addr} (hA : A = some a) :
    ∃ g cur, A = some ⟨g, 0, none⟩ ∧ Ctx S0 w0 S w ((g, e, cur) :: l) ∧ cur.length = cap * sz ∧ cur.take (n * sz) = xs ∧ n ≤ cap ∧ cap ≤ maxLen := by
  subst hA
  rcases h.row.2 with ⟨h3, _⟩ | ⟨g, cp, cur, h3, h4, h5, h6, h7, h8, h9⟩
  · cases h3
  · cases h3
    refine ⟨g, cur.toList, rfl, ⟨hc.below, hc.sub, hc.new, hc.lt, ?_⟩, by simpa using h8, h9, h6, h7⟩
    refine ⟨h4, (h.out _ rfl).1, ?_, (h.out _ rfl).2, hc.locs⟩
    unfold Blk
    simpa using h5
theorem Ctx.closed {g : Nat} {cur : List Value} (hc : Ctx S0 w0 S w ((g, e, cur) :: l)) (sz n cap : Nat) (h1 : n ≤ cap) (h2 : cap ≤ maxLen) (h3 : cur.length = cap * sz) :
    Ctx S0 w0 S w l ∧ Own S w0.heap.size w l e sz (some ⟨g, 0, none⟩) n cap (cur.take (n * sz)) := by
  obtain ⟨k1, k2, k3, k4, k5⟩ := hc.locs
  refine ⟨hc.drop, ⟨?_, .inr ⟨g, cap, cur.toArray, rfl, k1, k3, h1, h2, by simpa using h3, by simp⟩⟩, fun a ha => ?_⟩
  · rw [List.length_take, h3]
    exact Nat.min_eq_left (Nat.mul_le_mul_right _ h1)
  · cases ha
    exact ⟨k2, k4⟩
theorem Own.made (hc : Ctx S0 w0 S w l) {cs : List Value} {g : Nat} (hN : New w cs e g w') (sz n : Nat) (h : cs.length = n * sz) (hn : n ≤ maxLen) : Ctx S0 w0 S w' l ∧ Fut S w S w' ∧ Own S w0.heap.size w' l e sz (some ⟨g, 0, none⟩) n n cs := by
  obtain ⟨h1, h2⟩ := hc.loc hN
  obtain ⟨h3, h4⟩ := h1.closed sz n n (Nat.le_refl _) hn h
  refine ⟨h3, h2, ?_⟩
  rw [List.take_of_length_le (Nat.le_of_eq h)] at h4
  exact h4
theorem Own.none' (h : Own S n0 w l e sz A n cap xs) (hA : A = none) : n = 0 ∧ cap = 0 ∧ xs = [] := by
  subst hA
  rcases h.row.2 with ⟨h3, h4⟩ | ⟨g, cp, cur, h3, _⟩
  · cases h3
    have := h.row.1
    rw [Nat.zero_mul] at this
    exact ⟨rfl, rfl, List.eq_nil_of_length_eq_zero this⟩
  · cases h3
end
theorem Keeps.look {w x : World} (h : Keeps (fun b => b < w.heap.size) w x) {a : Addr} {v : Value} (hc : w.cell? a = some v) : x.cell? a = some v := h.at hc (World.block_lt_of_cell? w a hc)
theorem Keeps.looks {w x : World} (h : Keeps (fun b => b < w.heap.size) w x) {a : Addr} : ∀ (cs : List Value) (i : Nat), Go.Vc.cellsAt w a cs i → Go.Vc.cellsAt x a cs i
  | [], _, _ => trivial
  | v :: r, i, hc => ⟨h.look hc.1, h.looks r (i + 1) hc.2⟩
theorem back_eq (g cap k : Nat) (j : Int) (i : Nat) (hj : j = i) (hne : cap ≠ i) : (if (cap : Int) = j then some (⟨g, 0, none⟩ : Addr) else (some (⟨g, 0, none⟩ : Addr)).map (·.add (j.toNat * k))) = some ⟨g, i * k, none⟩ := by
  rw [if_neg (by omega), Option.map_some, Addr.add_lit, Nat.zero_add, hj, Int.toNat_natCast]
theorem Row.front {S : Nat → Prop} {w : World} {A : Option Addr} {n cap k : Nat} {xs : List Value} (hR : Row S w A n cap xs) (sz : Nat) (hk : k ≤ n) : Row S w A k cap (xs.take (k * sz)) :=
  ⟨Nat.le_trans hk hR.1, hR.2.1, fun hx => by
    obtain ⟨ad, e, hs, hc⟩ := hR.2.2 (fun h => hx (by rw [h]; simp))
    refine ⟨ad, e, hs, fun j u hu => ?_⟩
    rw [List.getElem?_take] at hu
    split at hu
    · exact hc j u hu
    · cases hu⟩
theorem front_eq (A : Option Addr) (cap sz : Nat) : (if (cap : Int) = 0 then A else A.map (·.add ((0 : Int).toNat * sz))) = A := by
  have e : ∀ a : Addr, a.add ((0 : Int).toNat * sz) = a := fun a => by unfold Addr.add; simp
  split
  · rfl
  · cases A with
    | none => rfl
    | some a => rw [Option.map_some, e]
theorem Row.back {S : Nat → Prop} {w : World} {A : Option Addr} {n cap : Nat} {xs : List Value} (hR : Row S w A n cap xs) (sz : Nat) (hx : xs.length = n * sz) (i : Nat) (j : Int) (hj : j = i) (hi : i ≤ n) :
    Row S w (if (cap : Int) = j then A else A.map (·.add (j.toNat * sz))) (n - i) (cap - i) (xs.drop (i * sz)) := by
  have hjn : j.toNat = i := by omega
  refine ⟨Nat.sub_le_sub_right hR.1 i, Nat.le_trans (Nat.sub_le _ _) hR.2.1, fun h0 => ?_⟩
  have hlt : i * sz < xs.length := by
    rcases Nat.lt_or_ge (i * sz) xs.length with h | h
    · exact h
    · rw [List.drop_of_length_le h] at h0; exact absurd rfl h0
  have hin : i < n := by
    rcases Nat.lt_or_ge i n with h | h
    · exact h
    · have := Nat.mul_le_mul_right sz h
      omega
  have hcap := hR.1
  rw [if_neg (by omega), hjn]
  obtain ⟨ad, e, hs, hc⟩ := hR.2.2 (fun h => by subst h; simp at hlt)
  subst e
  refine ⟨ad.add (i * sz), rfl, by rw [add_block]; exact hs, fun k u hu => ?_⟩
  rw [add_add]
  rw [List.getElem?_drop] at hu
  exact hc _ _ hu
theorem putAt_eq : ∀ (xs cs : List Value) (o : Nat), o + xs.length ≤ cs.length → putAt cs o xs = cs.take o ++ xs ++ cs.drop (o + xs.length)
  | [], cs, o, h => by simp [putAt]
  | x :: r, cs, o, h => by
    simp only [List.length_cons] at h
    rw [putAt, putAt_eq r (cs.set o x) (o + 1) (by simp; omega), List.take_set, List.drop_set, if_pos (by omega), List.length_cons, show o + 1 + r.length = o + (r.length + 1) by omega]
    have e : (cs.take (o + 1)).set o x = cs.take o ++ [x] := by
      have hl : o < cs.length := by omega
      rw [List.take_add_one, List.getElem?_eq_getElem hl]
      simp only [Option.toList_some]
      rw [List.set_append_right _ _ (by rw [List.length_take]; omega)]
      have : o - (cs.take o).length = 0 := by rw [List.length_take]; omega
      rw [this]
      rfl
    rw [e]
    simp
theorem putAt_len : ∀ (xs cs : List Value) (o : Nat), (putAt cs o xs).length = cs.length
  | [], _, _ => rfl
  | x :: r, cs, o => by rw [putAt, putAt_len r]; simp
section
variable {P : Program} {w : World} {e sz bytes : Nat} {K : Value → World → Prop} {z : Value}
theorem app_room {S0 S : Nat → Prop} {w0 : World} {l : List LB} {t T g n cap m c : Nat} {cs : Array Bool} {cur ys : List Value} (ht : P.underlying t = some (.slice e)) (hi : (P.info? e).map (fun i => (i.zero, i.size, i.bytes)) = some (some z, sz, bytes))
    (hc : Ctx S0 w0 S w ((g, e, cur) :: l)) (hcur : cur.length = cap * sz) (hroom : n + m ≤ cap) {ad : Addr} (hl : ys.length = m * sz) (hy : cellsAt w ad ys 0) (h1 : allOne ys = true)
    {x y : Value} (ex : x = .slice (some ⟨g, 0, none⟩) n cap) (ey : y = .slice (some ad) m c)
    (k : ∀ w', Ctx S0 w0 S w' ((g, e, cur.take (n * sz) ++ ys ++ cur.drop ((n + m) * sz)) :: l) → Fut S w S w' → K (.slice (some ⟨g, 0, none⟩) (n + m) cap) w') :
    ∃ v w', (builtin .append #[t, t] T cs #[x, y]).run P w = .ok (.value v) w' ∧ K v w' := by
  subst ex
  subst ey
  obtain ⟨i, h2, h3, h4, h5⟩ := info_parts hi
  subst h4
  have hB := hc.blk 0 rfl
  have cellsOf : ∀ (ys : List Value) (i : Nat), cellsAt w ad ys i → ∀ j u, ys[j]? = some u → w.cell? (ad.add (i + j)) = some u := by
    intro ys
    induction ys with
    | nil => intro i _ j u h; cases h
    | cons v r ih =>
      intro i h j u hu
      cases j with
      | zero => cases hu; exact h.1
      | succ j => rw [show i + (j + 1) = i + 1 + j from by omega]; exact ih (i + 1) h.2 j u hu
  have hfit : n * i.size + ys.length ≤ cur.length := by rw [hl, hcur, ← Nat.add_mul]; exact Nat.mul_le_mul_right _ hroom
  have hr := run_append_room (P := P) w t T e i ht h2 g n cap cur.toArray hB ad m c ys hl (fun j u hu => by have := cellsOf ys 0 hy j u hu; rwa [Nat.zero_add] at this) (allOne_mem h1) hroom (by simpa using hfit)
  have hlen : n * i.size + ys.length = (n + m) * i.size := by rw [hl, Nat.add_mul]
  rw [hlen] at hr
  have hB' : Blk (w.setRow g (cur.toArray.toList.take (n * i.size) ++ ys ++ cur.toArray.toList.drop ((n + m) * i.size)).toArray) g e (cur.take (n * i.size) ++ ys ++ cur.drop ((n + m) * i.size)) := by
    have := setRow_heap w g cur.toArray (cur.toArray.toList.take (n * i.size) ++ ys ++ cur.toArray.toList.drop ((n + m) * i.size)).toArray e (0, 0) hB
    exact this
  have hg : w.grownBy (w.setRow g (cur.toArray.toList.take (n * i.size) ++ ys ++ cur.toArray.toList.drop ((n + m) * i.size)).toArray) (some g) :=
    ⟨rfl, rfl, rfl, by simp, fun k _ hk => setRow_other w g k _ (fun e => hk (by simp [e]))⟩
  obtain ⟨k1, k2⟩ := hc.turned 0 rfl hg hB'
  refine ⟨_, _, ?_, k _ k1 k2⟩
  show (do pure (Next.value (← Builtin.append_ #[t, t] T #[.slice (some ⟨g, 0, none⟩) n cap, .slice (some ad) m c])) : Sem Next).run P w = _
  simp only [Sem.run_bind, hr, Result.andThen_ok, Sem.run_pure]
theorem app_row {S0 S S' : Nat → Prop} {w0 : World} {l : List LB} {t T n cap m c : Nat} {A B : Option Addr} {cs : Array Bool} {xs ys : List Value} (ht : P.underlying t = some (.slice e)) (hi : (P.info? e).map (fun i => (i.zero, i.size, i.bytes)) = some (some z, sz, bytes))
    (hzs : z.cells.size = sz) (hsz : 0 < sz) (hc : Ctx S0 w0 S w l) (ho : Own S w0.heap.size w l e sz A n cap xs) (hR : Row S' w B m c ys) (hl : ys.length = m * sz) (h1 : allOne ys = true) (h63 : n + m ≤ 34359738368) (hby : bytes ≤ 4096)
    (k : ∀ A' cap' w', Ctx S0 w0 S w' l → Fut S w S w' → Own S w0.heap.size w' l e sz A' (n + m) cap' (xs ++ ys) → w.grownBy w' (Value.slice A n cap).ownBlock → K (.slice A' (n + m) cap') w') :
    ∃ v w', (builtin .append #[t, t] T cs #[.slice A n cap, .slice B m c]).run P w = .ok (.value v) w' ∧ K v w' := by
  cases B with
  | some ad =>
    refine app_own ht hi hzs hsz hc ho hl ?_ h1 h63 hby k
    rcases ys with _ | ⟨y, r⟩
    · trivial
    · obtain ⟨ad', e1, hcell⟩ := hR.get (i := 0) (by simp)
      cases e1
      have := row_cells hcell 0 (y :: r) 0 (fun j u hu => by simpa using hu)
      have e0 : ad.add 0 = ad := by unfold Addr.add; simp
      rw [e0] at this
      exact this
  | none =>
    have hys : ys = [] := by
      rcases ys with _ | ⟨y, r⟩
      · rfl
      · obtain ⟨ad', e1, _⟩ := hR.get (i := 0) (by simp)
        cases e1
    subst hys
    have hm : m = 0 := by
      rcases Nat.eq_zero_or_pos m with h | h
      · exact h
      · have := Nat.mul_pos h hsz
        rw [← hl] at this
        simp at this
    subst hm
    obtain ⟨i, h2, h3, h4, h5⟩ := info_parts hi
    obtain ⟨f1, f2⟩ := ho.fit
    have hr : (Builtin.append_ #[t, t] T #[.slice A n cap, .slice none 0 c]).run P w = .ok (.slice A n cap) w := by
      cases A <;> simp [Builtin.append_, run_underlying ht, sizeOf, typeInfo, h2, Builtin.lenOf, Builtin.firstCells, f1, storeCells]
    refine ⟨_, _, ?_, k A cap w hc (Fut.refl _ _) (by rw [List.append_nil]; exact ho) ⟨rfl, rfl, rfl, Nat.le_refl _, fun _ _ _ => rfl⟩⟩
    show (do pure (Next.value (← Builtin.append_ #[t, t] T #[.slice A n cap, .slice none 0 c])) : Sem Next).run P w = _
    simp only [Sem.run_bind, hr, Result.andThen_ok, Sem.run_pure]
    rfl
theorem app_zeros {S0 S : Nat → Prop} {w0 : World} {l : List LB} {t tn T g n cap k : Nat} {kn kq : IntKind} {cs : Array Bool} {cur : List Value} (ht : P.underlying t = some (.slice e)) (htn : P.underlying tn = some (.int kn)) (hi : (P.info? e).map (fun i => (i.zero, i.size, i.bytes)) = some (some z, sz, bytes))
    (hzs : z.cells.size = sz) (hsz : 0 < sz) (hc : Ctx S0 w0 S w ((g, e, cur) :: l)) (hcur : cur.length = cap * sz) (hn : n ≤ cap) (h0 : 0 < k) (hg : cap < n + k) (hk : n + k ≤ 34359738368) (hby : bytes ≤ 4096)
    {x y : Value} (ex : x = .slice (some ⟨g, 0, none⟩) n cap) (ey : y = .int kq k)
    (K' : ∀ g2 cap2 cur2 w', Ctx S0 w0 S w' ((g2, e, cur2) :: (g, e, cur) :: l) → Fut S w S w' → cur2.length = cap2 * sz → n + k ≤ cap2 → cap2 ≤ maxLen → cur2.take (n * sz) = cur.take (n * sz) → K (.slice (some ⟨g2, 0, none⟩) (n + k) cap2) w') :
    ∃ v w', (builtin .append #[t, tn] T cs #[x, y]).run P w = .ok (.value v) w' ∧ K v w' := by
  subst ex
  subst ey
  obtain ⟨i, h2, h3, h4, h5⟩ := info_parts hi
  subst h4
  subst h5
  have hle : n * i.size ≤ cur.length := by rw [hcur]; exact Nat.mul_le_mul_right _ hn
  have hcd := hc.drew
  have hB := hcd.blk 0 rfl
  have hold := run_firstCells_some (P := P) w.drew i.size n ⟨g, 0, none⟩ n cap (cur.take (n * i.size)) (by rw [List.length_take]; exact Nat.min_eq_left hle) (fun j u hu => by
    rw [List.getElem?_take] at hu
    split at hu
    · rw [Addr.add_lit, Nat.zero_add, hB.cell j]; exact hu
    · cases hu)
  have hbytes : (n + k) * i.bytes ≤ 140737488355328 := Nat.le_trans (Nat.mul_le_mul hk hby) (by decide)
  have hr := Lib.run_append_grow_zeros (P := P) w t tn T e i z kq kn ht htn h2 h3 (some ⟨g, 0, none⟩) n cap (cur.take (n * i.size)) hold k h0 hsz hg (by omega) (Nat.le_trans (Nat.mul_le_mul_right _ (by omega : k ≤ n + k)) (Nat.le_trans hbytes (by decide))) (growslice_fits (by omega) hbytes)
  have hge := grownCap_ge w (n + k) cap e
  have hmx := grownCap_le_maxLen w (n + k) cap e (by simp only [maxLen]; omega)
  have hloc := hcd.loc (cs := ((cur.take (n * i.size)).toArray ++ Builtin.zeroCells z.cells k ++ Builtin.zeroCells z.cells (grownCap w (n + k) cap e - (n + k))).toList) (T := e) (g := w.heap.size)
    (w' := w.drew.alloc (.cells ((cur.take (n * i.size)).toArray ++ Builtin.zeroCells z.cells k ++ Builtin.zeroCells z.cells (grownCap w (n + k) cap e - (n + k))) e)) ⟨rfl, by rw [Array.toArray_toList]⟩
  refine ⟨_, _, ?_, K' _ (grownCap w (n + k) cap e) _ _ hloc.1 hloc.2 ?_ hge hmx ?_⟩
  · show (do pure (Next.value (← Builtin.append_ #[t, tn] T #[.slice (some ⟨g, 0, none⟩) n cap, .int kq k])) : Sem Next).run P w = _
    simp only [Sem.run_bind, hr, Result.andThen_ok, Sem.run_pure]
  · rw [Array.length_toList, Array.size_append, Array.size_append, size_zeroCells, size_zeroCells, hzs, List.size_toArray, List.length_take, Nat.min_eq_left hle, ← Nat.add_mul, ← Nat.add_mul]
    congr 1
    omega
  · have e1 : (cur.take (n * i.size)).length = n * i.size := by rw [List.length_take]; exact Nat.min_eq_left hle
    rw [Array.toList_append, Array.toList_append, List.append_assoc, List.take_left' (by simpa using e1)]
theorem cap_run {P : Program} {t T e : Nat} {cs : Array Bool} (ht : P.underlying t = some (.slice e)) (A : Option Addr) (n c : Nat) (w : World) : (builtin .cap #[t] T cs #[.slice A n c]).run P w = .ok (.value (.int .i64 c)) w := by
  show (do pure (Next.value (← Builtin.cap_ #[t] T #[.slice A n c])) : Sem Next).run P w = _
  simp [Builtin.cap_, run_underlying ht, goInt]
theorem copy_run {t T : Nat} {cs : Array Bool} (ht : P.underlying t = some (.slice e)) (hi : (P.info? e).map (fun i => (i.zero, i.size, i.bytes)) = some (some z, sz, bytes)) {da sa : Addr} {dn dc sn sc : Nat} {xs : List Value}
    (hl : xs.length = Nat.min sn dn * sz) (hx : cellsAt w sa xs 0) (hm : mayStore w da xs 0) {x y : Value} (ex : x = .slice (some da) dn dc) (ey : y = .slice (some sa) sn sc) (k : ∀ w', Stored w da xs w' → K (.int .i64 (Nat.min sn dn : Nat)) w') :
    ∃ v w', (builtin .copy #[t, t] T cs #[x, y]).run P w = .ok (.value v) w' ∧ K v w' := by
  subst ex
  subst ey
  obtain ⟨i, h2, h3, h4, h5⟩ := info_parts hi
  subst h4
  refine ⟨_, _, ?_, k _ rfl⟩
  show (do pure (Next.value (← Builtin.copy_ #[t, t] T #[.slice (some da) dn dc, .slice (some sa) sn sc])) : Sem Next).run P w = _
  have cellsOf : ∀ (ys : List Value) (i : Nat), cellsAt w sa ys i → ∀ j u, ys[j]? = some u → w.cell? (sa.add (i + j)) = some u := by
    intro ys
    induction ys with
    | nil => intro i _ j u h; cases h
    | cons v r ih =>
      intro i h j u hu
      cases j with
      | zero => cases hu; exact h.1
      | succ j => rw [show i + (j + 1) = i + 1 + j from by omega]; exact ih (i + 1) h.2 j u hu
  have hf := run_firstCells_some (P := P) w i.size (Nat.min sn dn) sa sn sc xs hl (fun j u hu => by have := cellsOf xs 0 hx j u hu; rwa [Nat.zero_add] at this)
  have hst := run_storeCells (P := P) xs w 0 hm
  simp [Builtin.copy_, run_underlying ht, Builtin.lenOf, sizeOf, typeInfo, h2, hf, hst, goInt]
theorem clear_run {t T : Nat} {cs : Array Bool} (ht : P.underlying t = some (.slice e)) (hz : ∀ w, (zeroValue e).run P w = .ok z w) {a : Addr} {n c : Nat} (hn : 0 < n) {x : Value} (ex : x = .slice (some a) n c) {zs : List Value} (ez : (Builtin.zeroCells z.cells n).toList = zs) (hm : mayStore w a zs 0) (k : ∀ w', Stored w a zs w' → K (.tuple #[]) w') :
    ∃ v w', (builtin .clear #[t] T cs #[x]).run P w = .ok (.value v) w' ∧ K v w' := by
  subst ex
  subst ez
  refine ⟨_, _, ?_, k _ rfl⟩
  show (do pure (Next.value (← Builtin.clear_ #[t] T #[.slice (some a) n c])) : Sem Next).run P w = _
  have hst := run_storeCells (P := P) (Builtin.zeroCells z.cells n).toList w 0 hm
  cases n with
  | zero => exact absurd hn (Nat.lt_irrefl _)
  | succ n => simp [Builtin.clear_, run_underlying ht, hz, hst]
end
end Go.Vc
end
section
namespace Go.Proofs.YtokglimimnelaaaGreatDoor
open Go.Vc Go.RowKit Go.Fl
set_option maxRecDepth 100000
structure Env (w : World) : Prop where
  tab : Tab w
  syn : ∃ tp p, w.var? Tryz.prog "strconv.ErrSyntax" = some #[.iface tp p]
  rng : ∃ tp p, w.var? Tryz.prog "strconv.ErrRange" = some #[.iface tp p]
theorem var_below {w w' : World} {n : String} {x : Array Value} (h : w.var? Tryz.prog n = some x) (hb : Below w.heap.size w w') : w'.var? Tryz.prog n = some x := by
  unfold World.var? at *
  cases hg : Tryz.prog.globalNamed n with
  | none => simp [hg] at h
  | some g =>
    simp only [hg, Option.bind_some] at h ⊢
    have hlt : g < w.heap.size := by
      rcases Nat.lt_or_ge g w.heap.size with h' | h'
      · exact h'
      · rw [Array.getElem?_eq_none h'] at h; cases h
    rw [hb.block g hlt]
    exact h
theorem Env.below {w w' : World} (h : Env w) (hb : Below w.heap.size w w') : Env w' :=
  ⟨h.tab.below hb, by obtain ⟨a, b, c⟩ := h.syn; exact ⟨a, b, var_below c hb⟩, by obtain ⟨a, b, c⟩ := h.rng; exact ⟨a, b, var_below c hb⟩⟩
theorem ba_extract (t : List UInt8) (a b : Nat) : (⟨t.toArray⟩ : ByteArray).extract a b = ⟨((t.drop a).take (b - a)).toArray⟩ := by
  apply ByteArray.ext
  rw [ByteArray.data_extract]
  simp [List.extract]
theorem neq_nil_run (w : World) (ox : Operand) : (do eqGuard .neq 232 ox (.const .nilIface) .nilIface .nilIface; Go.binOp .neq 232 .nilIface .nilIface : Sem Value).run Tryz.prog w = .ok (.bool false) w := by
  have h : (Go.binOp .neq 232 .nilIface .nilIface).run Tryz.prog w = .ok (.bool false) w := by kernel_rfl
  simp [eqGuard, h]
theorem neq_err_run (w : World) (ox : Operand) (tp : TypeId) (p : Value) : (do eqGuard .neq 232 ox (.const .nilIface) (.iface tp p) .nilIface; Go.binOp .neq 232 (.iface tp p) .nilIface : Sem Value).run Tryz.prog w = .ok (.bool true) w := by
  have h : (Go.binOp .neq 232 (.iface tp p) .nilIface).run Tryz.prog w = .ok (.bool true) w := by kernel_rfl
  simp [eqGuard, h]
theorem bytes_below {w w' : World} {e : TypeId} (h : w' = w ∨ ∃ t, w' = Lib.bytesWorld w e t) : Below w.heap.size w w' := by
  rcases h with rfl | ⟨t, rfl⟩
  · exact Below.refl _ _
  · exact Lib.bytesWorld_below w e t
theorem parse_ok (t : List UInt8) (ht : t.length ≤ 1073741824) (n : Int) (h : Lib.parseIntB 64 t = .ok n) (w : World) : Calls Tryz.prog 223 #[.string ⟨t.toArray⟩, .int .i64 10, .int .i64 64] w (RetB (.tuple #[.int .i64 n, .nilIface]) w) :=
  (Tryz.strconv_ParseInt_10_at64_ok ⟨t.toArray⟩ (by rw [ba_size]; omega) n h w).mono fun e w' he => ⟨he.1, bytes_below he.2⟩
theorem parse_bad (t : List UInt8) (ht : t.length ≤ 1073741824) (h : ∀ n, Lib.parseIntB 64 t ≠ .ok n) (w : World) (hw : Env w) :
    Calls Tryz.prog 223 #[.string ⟨t.toArray⟩, .int .i64 10, .int .i64 64] w (fun e w' => ∃ x tp p, e = .returned (.tuple #[.int .i64 x, .iface tp p]) ∧ Below w.heap.size w w') := by
  have hl : (⟨t.toArray⟩ : ByteArray).size ≤ 281474976710656 := by rw [ba_size]; omega
  rcases hp : Lib.parseIntB 64 t with n | _ | _
  · exact absurd hp (h n)
  · obtain ⟨tp, p, hv⟩ := hw.syn
    refine (Any.strconv_ParseInt_10_at64_syntax_var Tryz.laysC174 ⟨t.toArray⟩ hl hp tp p w hv).mono fun e w' he => ?_
    obtain ⟨N, h1, _, _, h2⟩ := he
    exact ⟨_, _, _, h1, h2⟩
  · obtain ⟨tp, p, hv⟩ := hw.rng
    refine (Tryz.strconv_ParseInt_10_at64_range_var ⟨t.toArray⟩ hl hp tp p w hv).mono fun e w' he => ?_
    obtain ⟨N, h1, _, _, h2⟩ := he
    exact ⟨_, _, _, h1, h2⟩
def numR (t : List UInt8) : Int × Int × Int := match numP t with | some n => (1, n, 0) | none => (0, 0, 1)
theorem number_any (t : List UInt8) (ht : t.length ≤ 1073741824) (w : World) (hw : Env w) :
    Calls Tryz.prog 200 #[.string ⟨t.toArray⟩] w (RetB (.tuple #[.agg #[.int .i64 (numR t).1, .int .i64 (numR t).2.1, .string ⟨#[]⟩, .slice none 0 0], .int .i64 (numR t).2.2]) w) := by
  refine calls_vc lay_ok Tryz.func200 rfl (by kernel_rfl) (by kernel_rfl) ?_
  have hc := Ctx.start w no (fun _ h => h.elim)
  repeat (first | (intro gA wA hA; have hc := (hc.loc hA).1) | refine ⟨_, hc.cell 0 rfl _ rfl, ?_⟩ | (refine ⟨_, ?_, hc.cells 0 rfl, ?_⟩; (· rfl)) | (refine ⟨hc.may 0 rfl _ _ (nle rfl) rfl, ?_⟩; intro wA hA; have hc := (hc.set 0 rfl hA).1) | refine ⟨_, hc.cell 1 rfl _ rfl, ?_⟩ | (refine ⟨_, ?_, hc.cells 1 rfl, ?_⟩; (· rfl)) | (refine ⟨hc.may 1 rfl _ _ (nle rfl) rfl, ?_⟩; intro wA hA; have hc := (hc.set 1 rfl hA).1) | refine ⟨_, hc.cell 2 rfl _ rfl, ?_⟩ | (refine ⟨_, ?_, hc.cells 2 rfl, ?_⟩; (· rfl)) | (refine ⟨hc.may 2 rfl _ _ (nle rfl) rfl, ?_⟩; intro wA hA; have hc := (hc.set 2 rfl hA).1) | refine ⟨_, hc.cell 3 rfl _ rfl, ?_⟩ | (refine ⟨_, ?_, hc.cells 3 rfl, ?_⟩; (· rfl)) | (refine ⟨hc.may 3 rfl _ _ (nle rfl) rfl, ?_⟩; intro wA hA; have hc := (hc.set 3 rfl hA).1) | refine ⟨_, hc.cell 4 rfl _ rfl, ?_⟩ | (refine ⟨_, ?_, hc.cells 4 rfl, ?_⟩; (· rfl)) | (refine ⟨hc.may 4 rfl _ _ (nle rfl) rfl, ?_⟩; intro wA hA; have hc := (hc.set 4 rfl hA).1))
  have bad : numP t = none → numR t = (0, 0, 1) := fun h => by rw [numR, h]
  rcases hp : Lib.parseIntB 64 t with n | _ | _
  · have hn : i64ok n := by
      have hb := Lib.parseIntB_bounds hp
      simp only [show (2 : Nat) ^ (64 - 1) = 9223372036854775808 by decide] at hb
      unfold i64ok
      omega
    refine call_b (parse_ok t ht n hp _) ?_
    intro w3 h3
    have hc := (hc.quiet h3).1
    refine ⟨_, fun w => neq_nil_run w _, ?_⟩
    refine call_b (fmt_any n hn _ (hw.tab.below hc.below)) ?_
    intro w4 h4
    have hc := (hc.quiet h4).1
    by_cases he : Lib.itoa n = t
    · refine split_f (by show (!strEq _ _) = false; rw [he]; simp [strEq]) ?_
      repeat (first | (intro gA wA hA; have hc := (hc.loc hA).1) | refine ⟨_, hc.cell 0 rfl _ rfl, ?_⟩ | (refine ⟨_, ?_, hc.cells 0 rfl, ?_⟩; (· rfl)) | (refine ⟨hc.may 0 rfl _ _ (nle rfl) rfl, ?_⟩; intro wA hA; have hc := (hc.set 0 rfl hA).1) | refine ⟨_, hc.cell 1 rfl _ rfl, ?_⟩ | (refine ⟨_, ?_, hc.cells 1 rfl, ?_⟩; (· rfl)) | (refine ⟨hc.may 1 rfl _ _ (nle rfl) rfl, ?_⟩; intro wA hA; have hc := (hc.set 1 rfl hA).1) | refine ⟨_, hc.cell 2 rfl _ rfl, ?_⟩ | (refine ⟨_, ?_, hc.cells 2 rfl, ?_⟩; (· rfl)) | (refine ⟨hc.may 2 rfl _ _ (nle rfl) rfl, ?_⟩; intro wA hA; have hc := (hc.set 2 rfl hA).1) | refine ⟨_, hc.cell 3 rfl _ rfl, ?_⟩ | (refine ⟨_, ?_, hc.cells 3 rfl, ?_⟩; (· rfl)) | (refine ⟨hc.may 3 rfl _ _ (nle rfl) rfl, ?_⟩; intro wA hA; have hc := (hc.set 3 rfl hA).1) | refine ⟨_, hc.cell 4 rfl _ rfl, ?_⟩ | (refine ⟨_, ?_, hc.cells 4 rfl, ?_⟩; (· rfl)) | (refine ⟨hc.may 4 rfl _ _ (nle rfl) rfl, ?_⟩; intro wA hA; have hc := (hc.set 4 rfl hA).1))
      refine ⟨?_, hc.below⟩
      have e : numR t = (1, n, 0) := by rw [numR, numP, hp]; simp [he]
      rw [e]
      rfl
    · refine split_t (by show (!strEq _ _) = true; simp [strEq, he]) ?_
      repeat (first | (intro gA wA hA; have hc := (hc.loc hA).1) | refine ⟨_, hc.cell 0 rfl _ rfl, ?_⟩ | (refine ⟨_, ?_, hc.cells 0 rfl, ?_⟩; (· rfl)) | (refine ⟨hc.may 0 rfl _ _ (nle rfl) rfl, ?_⟩; intro wA hA; have hc := (hc.set 0 rfl hA).1) | refine ⟨_, hc.cell 1 rfl _ rfl, ?_⟩ | (refine ⟨_, ?_, hc.cells 1 rfl, ?_⟩; (· rfl)) | (refine ⟨hc.may 1 rfl _ _ (nle rfl) rfl, ?_⟩; intro wA hA; have hc := (hc.set 1 rfl hA).1) | refine ⟨_, hc.cell 2 rfl _ rfl, ?_⟩ | (refine ⟨_, ?_, hc.cells 2 rfl, ?_⟩; (· rfl)) | (refine ⟨hc.may 2 rfl _ _ (nle rfl) rfl, ?_⟩; intro wA hA; have hc := (hc.set 2 rfl hA).1) | refine ⟨_, hc.cell 3 rfl _ rfl, ?_⟩ | (refine ⟨_, ?_, hc.cells 3 rfl, ?_⟩; (· rfl)) | (refine ⟨hc.may 3 rfl _ _ (nle rfl) rfl, ?_⟩; intro wA hA; have hc := (hc.set 3 rfl hA).1) | refine ⟨_, hc.cell 4 rfl _ rfl, ?_⟩ | (refine ⟨_, ?_, hc.cells 4 rfl, ?_⟩; (· rfl)) | (refine ⟨hc.may 4 rfl _ _ (nle rfl) rfl, ?_⟩; intro wA hA; have hc := (hc.set 4 rfl hA).1))
      refine ⟨?_, hc.below⟩
      have e : numR t = (0, 0, 1) := bad (by rw [numP, hp]; simp [he])
      rw [e]
      rfl
  · refine ⟨(parse_bad t ht (fun n h => by rw [hp] at h; cases h) _ (hw.below hc.below)).mono fun e w3 he => ?_⟩
    obtain ⟨x, tp, p, e1, h3⟩ := he
    refine ⟨_, e1, ?_⟩
    have hc := (hc.quiet h3).1
    refine ⟨_, fun w => neq_err_run w _ tp p, ?_⟩
    repeat (first | (intro gA wA hA; have hc := (hc.loc hA).1) | refine ⟨_, hc.cell 0 rfl _ rfl, ?_⟩ | (refine ⟨_, ?_, hc.cells 0 rfl, ?_⟩; (· rfl)) | (refine ⟨hc.may 0 rfl _ _ (nle rfl) rfl, ?_⟩; intro wA hA; have hc := (hc.set 0 rfl hA).1) | refine ⟨_, hc.cell 1 rfl _ rfl, ?_⟩ | (refine ⟨_, ?_, hc.cells 1 rfl, ?_⟩; (· rfl)) | (refine ⟨hc.may 1 rfl _ _ (nle rfl) rfl, ?_⟩; intro wA hA; have hc := (hc.set 1 rfl hA).1) | refine ⟨_, hc.cell 2 rfl _ rfl, ?_⟩ | (refine ⟨_, ?_, hc.cells 2 rfl, ?_⟩; (· rfl)) | (refine ⟨hc.may 2 rfl _ _ (nle rfl) rfl, ?_⟩; intro wA hA; have hc := (hc.set 2 rfl hA).1) | refine ⟨_, hc.cell 3 rfl _ rfl, ?_⟩ | (refine ⟨_, ?_, hc.cells 3 rfl, ?_⟩; (· rfl)) | (refine ⟨hc.may 3 rfl _ _ (nle rfl) rfl, ?_⟩; intro wA hA; have hc := (hc.set 3 rfl hA).1) | refine ⟨_, hc.cell 4 rfl _ rfl, ?_⟩ | (refine ⟨_, ?_, hc.cells 4 rfl, ?_⟩; (· rfl)) | (refine ⟨hc.may 4 rfl _ _ (nle rfl) rfl, ?_⟩; intro wA hA; have hc := (hc.set 4 rfl hA).1))
    refine ⟨?_, hc.below⟩
    have e : numR t = (0, 0, 1) := bad (by rw [numP, hp])
    rw [e]
    rfl
  · refine ⟨(parse_bad t ht (fun n h => by rw [hp] at h; cases h) _ (hw.below hc.below)).mono fun e w3 he => ?_⟩
    obtain ⟨x, tp, p, e1, h3⟩ := he
    refine ⟨_, e1, ?_⟩
    have hc := (hc.quiet h3).1
    refine ⟨_, fun w => neq_err_run w _ tp p, ?_⟩
    repeat (first | (intro gA wA hA; have hc := (hc.loc hA).1) | refine ⟨_, hc.cell 0 rfl _ rfl, ?_⟩ | (refine ⟨_, ?_, hc.cells 0 rfl, ?_⟩; (· rfl)) | (refine ⟨hc.may 0 rfl _ _ (nle rfl) rfl, ?_⟩; intro wA hA; have hc := (hc.set 0 rfl hA).1) | refine ⟨_, hc.cell 1 rfl _ rfl, ?_⟩ | (refine ⟨_, ?_, hc.cells 1 rfl, ?_⟩; (· rfl)) | (refine ⟨hc.may 1 rfl _ _ (nle rfl) rfl, ?_⟩; intro wA hA; have hc := (hc.set 1 rfl hA).1) | refine ⟨_, hc.cell 2 rfl _ rfl, ?_⟩ | (refine ⟨_, ?_, hc.cells 2 rfl, ?_⟩; (· rfl)) | (refine ⟨hc.may 2 rfl _ _ (nle rfl) rfl, ?_⟩; intro wA hA; have hc := (hc.set 2 rfl hA).1) | refine ⟨_, hc.cell 3 rfl _ rfl, ?_⟩ | (refine ⟨_, ?_, hc.cells 3 rfl, ?_⟩; (· rfl)) | (refine ⟨hc.may 3 rfl _ _ (nle rfl) rfl, ?_⟩; intro wA hA; have hc := (hc.set 3 rfl hA).1) | refine ⟨_, hc.cell 4 rfl _ rfl, ?_⟩ | (refine ⟨_, ?_, hc.cells 4 rfl, ?_⟩; (· rfl)) | (refine ⟨hc.may 4 rfl _ _ (nle rfl) rfl, ?_⟩; intro wA hA; have hc := (hc.set 4 rfl hA).1))
    refine ⟨?_, hc.below⟩
    have e : numR t = (0, 0, 1) := bad (by rw [numP, hp])
    rw [e]
    rfl
def GetC (f : Nat) : Prop := ∀ (t : List UInt8) (depth : Int) (w : World), depth = 7 - (f : Int) → t.length ≤ 1073741824 → Env w →
  Calls Tryz.prog 170 #[.string ⟨t.toArray⟩, .int .i64 depth] w (fun e w' => ∃ cs, e = .returned (.tuple #[.agg cs.toArray, .int .i64 ((getP f t).2.1 : Nat), .int .i64 (getP f t).2.2]) ∧ Below w.heap.size w w' ∧ RepC (ext no w w') w' (getP f t).1 cs)
def listR (f : Nat) (t : List UInt8) : V × Int := match lstGo (getP f) 6000 t with | some l => (.mk 3 0 ⟨#[]⟩ l, 0) | none => (V0, 1)
theorem RepC.V0 (S : Nat → Prop) (w : World) : RepC S w V0 [.int .i64 0, .int .i64 0, .string ⟨#[]⟩, .slice none 0 0] := by
  rw [Go.Proofs.YtokglimimnelaaaGreatDoor.V0, RepC]
  exact ⟨none, 0, [], rfl, by rw [RepL], Nat.le_refl _, Nat.zero_le _, fun h => absurd rfl h⟩
theorem RepC.sub {S S' : Nat → Prop} {w : World} {v : V} {cs : List Value} (h : RepC S w v cs) (hs : ∀ b, S b → S' b) : RepC S' w v cs := RepC.map (fun h => h.sub hs) h
theorem RepL.sub {S S' : Nat → Prop} {w : World} {v : List V} {cs : List Value} (h : RepL S w v cs) (hs : ∀ b, S b → S' b) : RepL S' w v cs := RepL.map (fun h => h.sub hs) h
theorem RepC.fut {S S' : Nat → Prop} {w w' : World} {v : V} {cs : List Value} (h : RepC S w v cs) (f : Fut S w S' w') : RepC S' w' v cs := RepC.map (fun h => h.fut f) h
theorem RepL.fut {S S' : Nat → Prop} {w w' : World} {v : List V} {cs : List Value} (h : RepL S w v cs) (f : Fut S w S' w') : RepL S' w' v cs := RepL.map (fun h => h.fut f) h
theorem RepL.snoc {S : Nat → Prop} {w : World} {x : V} {c : List Value} (hx : RepC S w x c) : ∀ {l : List V} {xs : List Value}, RepL S w l xs → RepL S w (l ++ [x]) (xs ++ c)
  | [], xs, h => by
    rw [RepL] at h
    subst h
    rw [List.nil_append, List.nil_append, RepL]
    exact ⟨c, [], hx, by rw [RepL], by simp⟩
  | v :: r, xs, h => by
    rw [RepL] at h
    obtain ⟨cs, ys, h1, h2, e⟩ := h
    rw [List.cons_append, RepL]
    exact ⟨cs, ys ++ c, h1, RepL.snoc hx h2, by rw [e, List.append_assoc]⟩
theorem info_val : (Tryz.prog.info? 108).map (fun i => (i.zero, i.size, i.bytes)) = some (some (.agg #[.int .i64 0, .int .i64 0, .string ⟨#[]⟩, .slice none 0 0]), 4, 56) := by kernel_rfl
set_option maxRecDepth 100000 in
attribute [local irreducible] Int.subNatNat in
theorem list_any (f : Nat) (hf : f ≤ 6) (ih : GetC f) (t : List UInt8) (depth : Int) (w : World) (hd : depth = 6 - (f : Int)) (ht : t.length ≤ 1073741824) (hw : Env w) :
    Calls Tryz.prog 201 #[.string ⟨t.toArray⟩, .int .i64 depth] w (fun e w' => ∃ cs, e = .returned (.tuple #[.agg cs.toArray, .int .i64 (listR f t).2]) ∧ Below w.heap.size w w' ∧ RepC (ext no w w') w' (listR f t).1 cs) := by
  refine calls_vc lay_ok Tryz.func201 rfl (by kernel_rfl) (by kernel_rfl) ?_
  intro g4 w1 h1
  have hc := ((Ctx.start w no (fun _ h => h.elim)).loc h1).1
  intro g6 w2 h2
  have hc := (hc.loc h2).1
  refine ⟨hc.may 0 rfl 0 _ (Nat.le_refl 4) rfl, ?_⟩
  intro w3 h3
  have hc := (hc.set 0 rfl h3).1
  refine ⟨(Nat → Prop) × Option Addr × Nat × List V × List Value × List UInt8, fun x => [(0, .string ⟨x.2.2.2.2.2.toArray⟩), (1, .int .i64 depth), (4, .pointer (some ⟨g4, 0, none⟩)), (6, .pointer (some ⟨g6, 0, none⟩))],
    fun x w' => Ctx no w x.1 w' [(g6, 108, [.int .i64 3, .int .i64 0, .string ⟨#[]⟩, .slice x.2.1 x.2.2.2.1.length x.2.2.1]), (g4, 108, [.int .i64 0, .int .i64 0, .string ⟨#[]⟩, .slice none 0 0])] ∧
      Own x.1 w.heap.size w' [(g6, 108, [.int .i64 3, .int .i64 0, .string ⟨#[]⟩, .slice x.2.1 x.2.2.2.1.length x.2.2.1]), (g4, 108, [.int .i64 0, .int .i64 0, .string ⟨#[]⟩, .slice none 0 0])] 108 4 x.2.1 x.2.2.2.1.length x.2.2.1 x.2.2.2.2.1 ∧
      RepL x.1 w' x.2.2.2.1 x.2.2.2.2.1 ∧ x.2.2.2.1.length ≤ 6000 ∧ x.2.2.2.2.2.length ≤ 1073741824 ∧
      lstGo (getP f) 6000 t = (lstGo (getP f) (6000 - x.2.2.2.1.length) x.2.2.2.2.2).map (x.2.2.2.1 ++ ·),
    fun x _ => x.2.2.2.2.2.length, (no, none, 0, [], [], t), ⟨rfl, rfl, rfl, rfl, trivial⟩, ⟨hc, Own.nil, by rw [RepL], Nat.zero_le _, ht, ?_⟩, ?_⟩
  · show lstGo (getP f) 6000 t = (lstGo (getP f) (6000 - 0) t).map ([] ++ ·)
    cases lstGo (getP f) 6000 t <;> simp
  rintro ⟨S, A, cap, l, xs, rest⟩ w' u ⟨hc, ho, hL, hl, hrest, he⟩
  simp only at hc ho hL hl hrest he
  cases rest with
  | nil =>
    refine split_f (decide_eq_false (Int.lt_irrefl 0)) ?_
    refine split_f (decide_eq_false (Int.lt_irrefl 0)) ?_
    obtain ⟨hc, hf, hrow⟩ := ho.told hc
    have hrow := hrow ho.fit.1 ho.fit.2
    have hL := hL.fut hf
    refine ⟨_, ?_, hc.cells 0 rfl, ?_⟩
    · rfl
    refine ⟨hc.may 1 rfl 0 _ (Nat.le_refl 4) rfl, ?_⟩
    intro w4 h4
    have hq := hc.set 1 rfl h4
    have hc := hq.1
    refine ⟨_, ?_, hc.cells 1 rfl, ?_⟩
    · rfl
    have e : listR f t = (.mk 3 0 ⟨#[]⟩ l, 0) := by
      rw [listR, he, lstGo]
      simp
    refine ⟨[.int .i64 3, .int .i64 0, .string ⟨#[]⟩, .slice A l.length cap], ?_, hc.below, ?_⟩
    · rw [e]; rfl
    · rw [e, RepC]
      exact ⟨A, cap, xs, rfl, (hL.fut hq.2).fut hc.out, (hrow.fut hq.2).fut hc.out⟩
  | cons c r =>
    have hpos : (0 : Int) < (((⟨(c :: r).toArray⟩ : ByteArray).size : Nat) : Int) := by rw [ba_size, List.length_cons]; omega
    refine split_t (decide_eq_true hpos) ?_
    refine ⟨_, hc.cell 0 rfl _ rfl, ?_⟩
    have fail : lstGo (getP f) 6000 t = none → ∀ w4 : World, (hq : Below w.heap.size w w4) → ∃ cs : List Value, Ending.returned (.tuple #[.agg #[.int .i64 0, .int .i64 0, .string ⟨#[]⟩, .slice none 0 0], .int .i64 1]) = .returned (.tuple #[.agg cs.toArray, .int .i64 (listR f t).2]) ∧ Below w.heap.size w w4 ∧ RepC (ext no w w4) w4 (listR f t).1 cs := by
      intro hn w4 hq
      have e : listR f t = (Go.Proofs.YtokglimimnelaaaGreatDoor.V0, 1) := by rw [listR, hn]
      rw [e]
      exact ⟨[.int .i64 0, .int .i64 0, .string ⟨#[]⟩, .slice none 0 0], rfl, hq, RepC.V0 _ _⟩
    refine split_ (fun h6 => ?_) (fun h6 => ?_)
    · have h6 : l.length < 6000 := by have := of_decide_eq_true h6; omega
      have hdw : IntKind.i64.wrap (depth + 1) = 7 - (f : Int) := by rw [wrap_add _ _ (by omega) (by omega)]; omega
      refine ⟨(ih (c :: r) (IntKind.i64.wrap (depth + 1)) w' hdw hrest (hw.below hc.below)).mono fun e w4 hq => ?_⟩
      obtain ⟨cs, e1, hb4, hr4⟩ := hq
      refine ⟨_, e1, ?_⟩
      have hstep : lstGo (getP f) (6000 - l.length) (c :: r) = if (getP f (c :: r)).2.2 ≠ 0 then none else (lstGo (getP f) (6000 - (l.length + 1)) ((c :: r).drop (getP f (c :: r)).2.1)).map ((getP f (c :: r)).1 :: ·) := by
        rw [show 6000 - l.length = (6000 - (l.length + 1)) + 1 by omega, lstGo]
      have hget := getP_get f (c :: r)
      have hgp : ∀ v n, getP f (c :: r) = (v, n, 0) → 0 < n := by
        intro v n hq
        have h1 := (hget v n hq).2.1
        rcases Nat.eq_zero_or_pos n with h | h
        · subst h
          have h2 := congrArg List.length h1
          rw [putV_len] at h2
          simp at h2
        · exact h
      generalize hgen : getP f (c :: r) = q at *
      obtain ⟨v, n, er⟩ := q
      simp only at hstep hr4
      obtain ⟨k', n', s', l'⟩ := v
      have hr4' := hr4
      rw [RepC] at hr4'
      obtain ⟨A', cap', xs', rfl, _, _⟩ := hr4'
      have hC := hc.call hb4
      have hc := hC.1
      have ho := ho.below hb4
      have hL := hL.fut hC.2
      have hr := hr4.sub (S' := ext S w' w4) (fun b hb => .inr (hb.resolve_left (fun h => h.elim)))
      intro g7 w5 h5
      have ho := ho.loc h5
      have hC := hc.loc h5
      have hc := hC.1
      have hL := hL.fut hC.2
      have hr := hr.fut hC.2
      refine ⟨hc.may 0 rfl 0 _ (Nat.le_refl 4) rfl, ?_⟩
      intro w6 h6'
      have ho := ho.set hc 0 rfl h6'
      have hC := hc.set 0 rfl h6'
      have hc := hC.1
      have hL := hL.fut hC.2
      have hr := hr.fut hC.2
      by_cases her : er = 0
      · subst her
        refine ⟨_, hc.cell 1 rfl _ rfl, ?_⟩
        refine ⟨_, ?_, hc.cells 0 rfl, ?_⟩
        · rfl
        intro g8 w7 h7
        have ho := ho.loc h7
        have hC := hc.loc h7
        have hc := hC.1
        have hL := hL.fut hC.2
        have hr := hr.fut hC.2
        refine app_own Tryz.underlying106 info_val rfl (by decide) hc ho (ys := [.int .i64 k', .int .i64 n', .string s', .slice A' l'.length cap']) rfl (hc.cells 0 rfl) rfl (by omega) (by decide) ?_
        intro B capB w8 hc hf8 ho _
        have hL := hL.fut hf8
        have hr := hr.fut hf8
        refine ⟨hc.may 2 rfl 3 _ (Nat.le_refl 4) rfl, ?_⟩
        intro w9 h9
        have ho := ho.set hc 2 rfl h9
        have hC := hc.set 2 rfl h9
        have hc := hC.1
        have hL := hL.fut hC.2
        have hr := hr.fut hC.2
        obtain ⟨hn1, _, _⟩ := hget _ _ rfl
        have hnpos := hgp _ _ rfl
        refine ⟨⟨Int.natCast_nonneg _, by rw [ba_size]; exact Int.ofNat_le.2 hn1, Int.le_refl _⟩, ?_⟩
        have hstep : lstGo (getP f) (6000 - l.length) (c :: r) = (lstGo (getP f) (6000 - (l.length + 1)) ((c :: r).drop n)).map (V.mk k' n' s' l' :: ·) := by simpa using hstep
        refine ⟨(_, B, capB, l ++ [V.mk k' n' s' l'], xs ++ [.int .i64 k', .int .i64 n', .string s', .slice A' l'.length cap'], (c :: r).drop n), ⟨?_, rfl, rfl, rfl, trivial⟩, ⟨?_, ?_, hL.snoc hr, ?_, ?_, ?_⟩, ?_⟩
        · refine congrArg _ ((ba_extract (c :: r) _ _).trans ?_)
          rw [List.take_of_length_le (by rw [List.length_drop, Int.toNat_natCast, Int.toNat_natCast, ba_size]; exact Nat.le_refl _), Int.toNat_natCast]
        · have := hc.drop.drop
          rw [List.length_append, List.length_singleton]
          exact this
        · have := ho.drop.drop
          rw [List.length_append, List.length_singleton]
          exact this
        · show (l ++ [V.mk k' n' s' l']).length ≤ 6000
          rw [List.length_append, List.length_singleton]; omega
        · show ((c :: r).drop n).length ≤ _
          rw [List.length_drop]; omega
        · show lstGo (getP f) 6000 t = (lstGo (getP f) (6000 - (l ++ [V.mk k' n' s' l']).length) ((c :: r).drop n)).map ((l ++ [V.mk k' n' s' l']) ++ ·)
          rw [he, hstep, Option.map_map, List.length_append, List.length_singleton]
          congr 1
          funext z
          simp
        · show ((c :: r).drop n).length < (c :: r).length
          rw [List.length_drop, List.length_cons] at *; omega
      · refine split_t (by show (er != 0) = true; simpa using her) ?_
        refine ⟨hc.may 2 rfl 0 _ (Nat.le_refl 4) rfl, ?_⟩
        intro w7 h7
        have hc := (hc.set 2 rfl h7).1
        refine ⟨_, ?_, hc.cells 2 rfl, ?_⟩
        · rfl
        exact fail (by rw [he, hstep, if_pos her]; rfl) _ hc.below
    · have h6 : ¬ l.length < 6000 := by have := of_decide_eq_false h6; omega
      refine split_t (decide_eq_true hpos) ?_
      refine ⟨hc.may 1 rfl 0 _ (Nat.le_refl 4) rfl, ?_⟩
      intro w7 h7
      have hc := (hc.set 1 rfl h7).1
      refine ⟨_, ?_, hc.cells 1 rfl, ?_⟩
      · rfl
      exact fail (by rw [he, show 6000 - l.length = 0 by omega, lstGo]; rfl) _ hc.below
end Go.Proofs.YtokglimimnelaaaGreatDoor
end
namespace Go.Proofs.YtokglimimnelaaaGreatDoor
open Go.Vc Go.RowKit Go.Fl
set_option maxRecDepth 100000
theorem szGo_range : ∀ (s : List UInt8) (i n : Nat), i ≤ 7 → n < 10 ^ i → (szGo s i n).1 < 10000000 ∧ (szGo s i n).2.1 ≤ 8 ∧ 0 ≤ (szGo s i n).2.2 ∧ (szGo s i n).2.2 ≤ 2
  | [], i, n, _, _ => by rw [szGo]; simp
  | c :: r, i, n, hi, hn => by
    rw [szGo]
    split
    · have : 10 ^ i ≤ 10 ^ 7 := Nat.pow_le_pow_right (by decide) hi
      simp only
      omega
    · split
      · simp
      · rename_i h
        have hd : dgt c = true := by
          cases e : dgt c
          · exact absurd (.inl e) h
          · rfl
        have hd := dgt_iff.1 hd
        have h7 : ¬ 7 ≤ i := fun e => h (.inr (.inl e))
        exact szGo_range r (i + 1) _ (by omega) (by rw [Nat.pow_succ]; omega)
def ResG (q : V × Nat × Int) (w : World) (e : Ending) (w' : World) : Prop := ∃ cs, e = .returned (.tuple #[.agg cs.toArray, .int .i64 (q.2.1 : Nat), .int .i64 q.2.2]) ∧ Below w.heap.size w w' ∧ RepC (ext no w w') w' q.1 cs
theorem ResG.err {w w' : World} (hb : Below w.heap.size w w') (e : Int) : ResG (V0, 0, e) w (.returned (.tuple #[.agg #[.int .i64 0, .int .i64 0, .string ⟨#[]⟩, .slice none 0 0], .int .i64 0, .int .i64 e])) w' :=
  ⟨[.int .i64 0, .int .i64 0, .string ⟨#[]⟩, .slice none 0 0], rfl, hb, RepC.V0 _ _⟩
theorem get_any : ∀ f : Nat, f ≤ 6 → GetC f := by
  intro f
  induction f with
  | zero =>
    intro _ t depth w hd ht hw
    show Calls _ _ _ _ (ResG (getP 0 t) w)
    refine calls_vc lay_ok Tryz.func170 rfl (by kernel_rfl) (by kernel_rfl) ?_
    have hc := Ctx.start w no (fun _ h => h.elim)
    repeat (first | (intro gA wA hA; have hc := (hc.loc hA).1) | refine ⟨_, hc.cell 0 rfl _ rfl, ?_⟩ | (refine ⟨_, ?_, hc.cells 0 rfl, ?_⟩; (· rfl)) | (refine ⟨hc.may 0 rfl _ _ (nle rfl) rfl, ?_⟩; intro wA hA; have hc := (hc.set 0 rfl hA).1) | refine ⟨_, hc.cell 1 rfl _ rfl, ?_⟩ | (refine ⟨_, ?_, hc.cells 1 rfl, ?_⟩; (· rfl)) | (refine ⟨hc.may 1 rfl _ _ (nle rfl) rfl, ?_⟩; intro wA hA; have hc := (hc.set 1 rfl hA).1) | refine ⟨_, hc.cell 2 rfl _ rfl, ?_⟩ | (refine ⟨_, ?_, hc.cells 2 rfl, ?_⟩; (· rfl)) | (refine ⟨hc.may 2 rfl _ _ (nle rfl) rfl, ?_⟩; intro wA hA; have hc := (hc.set 2 rfl hA).1) | refine ⟨_, hc.cell 3 rfl _ rfl, ?_⟩ | (refine ⟨_, ?_, hc.cells 3 rfl, ?_⟩; (· rfl)) | (refine ⟨hc.may 3 rfl _ _ (nle rfl) rfl, ?_⟩; intro wA hA; have hc := (hc.set 3 rfl hA).1) | refine ⟨_, hc.cell 4 rfl _ rfl, ?_⟩ | (refine ⟨_, ?_, hc.cells 4 rfl, ?_⟩; (· rfl)) | (refine ⟨hc.may 4 rfl _ _ (nle rfl) rfl, ?_⟩; intro wA hA; have hc := (hc.set 4 rfl hA).1))
    refine call_b (psize_any t ht _) ?_
    intro w3 h3
    have hc := (hc.quiet h3).1
    have eg : getP 0 t = if (szGo t 0 0).2.2 ≠ 0 then (V0, 0, (szGo t 0 0).2.2) else (V0, 0, 1) := by rw [getP]
    rw [eg]
    generalize szGo t 0 0 = q at *
    obtain ⟨n, a, e⟩ := q
    simp only
    by_cases he : e = 0
    · subst he
      refine split_t (decide_eq_true (by omega)) ?_
      repeat (first | (intro gA wA hA; have hc := (hc.loc hA).1) | refine ⟨_, hc.cell 0 rfl _ rfl, ?_⟩ | (refine ⟨_, ?_, hc.cells 0 rfl, ?_⟩; (· rfl)) | (refine ⟨hc.may 0 rfl _ _ (nle rfl) rfl, ?_⟩; intro wA hA; have hc := (hc.set 0 rfl hA).1) | refine ⟨_, hc.cell 1 rfl _ rfl, ?_⟩ | (refine ⟨_, ?_, hc.cells 1 rfl, ?_⟩; (· rfl)) | (refine ⟨hc.may 1 rfl _ _ (nle rfl) rfl, ?_⟩; intro wA hA; have hc := (hc.set 1 rfl hA).1) | refine ⟨_, hc.cell 2 rfl _ rfl, ?_⟩ | (refine ⟨_, ?_, hc.cells 2 rfl, ?_⟩; (· rfl)) | (refine ⟨hc.may 2 rfl _ _ (nle rfl) rfl, ?_⟩; intro wA hA; have hc := (hc.set 2 rfl hA).1) | refine ⟨_, hc.cell 3 rfl _ rfl, ?_⟩ | (refine ⟨_, ?_, hc.cells 3 rfl, ?_⟩; (· rfl)) | (refine ⟨hc.may 3 rfl _ _ (nle rfl) rfl, ?_⟩; intro wA hA; have hc := (hc.set 3 rfl hA).1) | refine ⟨_, hc.cell 4 rfl _ rfl, ?_⟩ | (refine ⟨_, ?_, hc.cells 4 rfl, ?_⟩; (· rfl)) | (refine ⟨hc.may 4 rfl _ _ (nle rfl) rfl, ?_⟩; intro wA hA; have hc := (hc.set 4 rfl hA).1))
      exact ResG.err hc.below 1
    · refine split_t (by show (e != 0) = true; simpa using he) ?_
      repeat (first | (intro gA wA hA; have hc := (hc.loc hA).1) | refine ⟨_, hc.cell 0 rfl _ rfl, ?_⟩ | (refine ⟨_, ?_, hc.cells 0 rfl, ?_⟩; (· rfl)) | (refine ⟨hc.may 0 rfl _ _ (nle rfl) rfl, ?_⟩; intro wA hA; have hc := (hc.set 0 rfl hA).1) | refine ⟨_, hc.cell 1 rfl _ rfl, ?_⟩ | (refine ⟨_, ?_, hc.cells 1 rfl, ?_⟩; (· rfl)) | (refine ⟨hc.may 1 rfl _ _ (nle rfl) rfl, ?_⟩; intro wA hA; have hc := (hc.set 1 rfl hA).1) | refine ⟨_, hc.cell 2 rfl _ rfl, ?_⟩ | (refine ⟨_, ?_, hc.cells 2 rfl, ?_⟩; (· rfl)) | (refine ⟨hc.may 2 rfl _ _ (nle rfl) rfl, ?_⟩; intro wA hA; have hc := (hc.set 2 rfl hA).1) | refine ⟨_, hc.cell 3 rfl _ rfl, ?_⟩ | (refine ⟨_, ?_, hc.cells 3 rfl, ?_⟩; (· rfl)) | (refine ⟨hc.may 3 rfl _ _ (nle rfl) rfl, ?_⟩; intro wA hA; have hc := (hc.set 3 rfl hA).1) | refine ⟨_, hc.cell 4 rfl _ rfl, ?_⟩ | (refine ⟨_, ?_, hc.cells 4 rfl, ?_⟩; (· rfl)) | (refine ⟨hc.may 4 rfl _ _ (nle rfl) rfl, ?_⟩; intro wA hA; have hc := (hc.set 4 rfl hA).1))
      rw [if_pos he]
      exact ResG.err hc.below e
  | succ f ih =>
    intro hf t depth w hd ht hw
    have ih := ih (by omega)
    show Calls _ _ _ _ (ResG (getP (f + 1) t) w)
    refine calls_vc lay_ok Tryz.func170 rfl (by kernel_rfl) (by kernel_rfl) ?_
    intro g4 w1 h1
    have hc := ((Ctx.start w no (fun _ h => h.elim)).loc h1).1
    refine call_b (psize_any t ht _) ?_
    intro w3 h3
    have hc := (hc.quiet h3).1
    have hr := szGo_range t 0 0 (Nat.zero_le _) Nat.one_pos
    have eg : getP (f + 1) t = if (szGo t 0 0).2.2 ≠ 0 then (V0, 0, (szGo t 0 0).2.2) else if t.length ≤ (szGo t 0 0).2.1 + (szGo t 0 0).1 then (V0, 0, 2)
        else match bodyP (getP f) (t.getD ((szGo t 0 0).2.1 + (szGo t 0 0).1) 0) ((t.drop (szGo t 0 0).2.1).take (szGo t 0 0).1) with
          | none => (V0, 0, 1)
          | some v => (v, (szGo t 0 0).2.1 + (szGo t 0 0).1 + 1, 0) := by first | (rw [getP]; done) | (rw [getP]; rfl)
    rw [eg]
    clear eg
    generalize szGo t 0 0 = q at *
    obtain ⟨n, a, e⟩ := q
    simp only at hr ⊢
    by_cases he : e = 0
    rotate_left
    · refine split_t (by show (e != 0) = true; simpa using he) ?_
      repeat (first | (intro gA wA hA; have hc := (hc.loc hA).1) | refine ⟨_, hc.cell 0 rfl _ rfl, ?_⟩ | (refine ⟨_, ?_, hc.cells 0 rfl, ?_⟩; (· rfl)) | (refine ⟨hc.may 0 rfl _ _ (nle rfl) rfl, ?_⟩; intro wA hA; have hc := (hc.set 0 rfl hA).1) | refine ⟨_, hc.cell 1 rfl _ rfl, ?_⟩ | (refine ⟨_, ?_, hc.cells 1 rfl, ?_⟩; (· rfl)) | (refine ⟨hc.may 1 rfl _ _ (nle rfl) rfl, ?_⟩; intro wA hA; have hc := (hc.set 1 rfl hA).1) | refine ⟨_, hc.cell 2 rfl _ rfl, ?_⟩ | (refine ⟨_, ?_, hc.cells 2 rfl, ?_⟩; (· rfl)) | (refine ⟨hc.may 2 rfl _ _ (nle rfl) rfl, ?_⟩; intro wA hA; have hc := (hc.set 2 rfl hA).1) | refine ⟨_, hc.cell 3 rfl _ rfl, ?_⟩ | (refine ⟨_, ?_, hc.cells 3 rfl, ?_⟩; (· rfl)) | (refine ⟨hc.may 3 rfl _ _ (nle rfl) rfl, ?_⟩; intro wA hA; have hc := (hc.set 3 rfl hA).1) | refine ⟨_, hc.cell 4 rfl _ rfl, ?_⟩ | (refine ⟨_, ?_, hc.cells 4 rfl, ?_⟩; (· rfl)) | (refine ⟨hc.may 4 rfl _ _ (nle rfl) rfl, ?_⟩; intro wA hA; have hc := (hc.set 4 rfl hA).1))
      rw [if_pos he]
      exact ResG.err hc.below e
    subst he
    refine split_f (decide_eq_false (by omega)) ?_
    have hwr : IntKind.i64.wrap ((a : Int) + (n : Int)) = ((a + n : Nat) : Int) := by rw [wrap_add _ _ (by omega) (by omega)]; rfl
    simp only [ne_eq, not_true_eq_false, if_false]
    have hsz : (((⟨t.toArray⟩ : ByteArray).size : Nat) : Int) = t.length := by rw [ba_size]
    by_cases hlen : t.length ≤ a + n
    · refine split_t (decide_eq_true (by rw [hsz, hwr]; omega)) ?_
      repeat (first | (intro gA wA hA; have hc := (hc.loc hA).1) | refine ⟨_, hc.cell 0 rfl _ rfl, ?_⟩ | (refine ⟨_, ?_, hc.cells 0 rfl, ?_⟩; (· rfl)) | (refine ⟨hc.may 0 rfl _ _ (nle rfl) rfl, ?_⟩; intro wA hA; have hc := (hc.set 0 rfl hA).1) | refine ⟨_, hc.cell 1 rfl _ rfl, ?_⟩ | (refine ⟨_, ?_, hc.cells 1 rfl, ?_⟩; (· rfl)) | (refine ⟨hc.may 1 rfl _ _ (nle rfl) rfl, ?_⟩; intro wA hA; have hc := (hc.set 1 rfl hA).1) | refine ⟨_, hc.cell 2 rfl _ rfl, ?_⟩ | (refine ⟨_, ?_, hc.cells 2 rfl, ?_⟩; (· rfl)) | (refine ⟨hc.may 2 rfl _ _ (nle rfl) rfl, ?_⟩; intro wA hA; have hc := (hc.set 2 rfl hA).1) | refine ⟨_, hc.cell 3 rfl _ rfl, ?_⟩ | (refine ⟨_, ?_, hc.cells 3 rfl, ?_⟩; (· rfl)) | (refine ⟨hc.may 3 rfl _ _ (nle rfl) rfl, ?_⟩; intro wA hA; have hc := (hc.set 3 rfl hA).1) | refine ⟨_, hc.cell 4 rfl _ rfl, ?_⟩ | (refine ⟨_, ?_, hc.cells 4 rfl, ?_⟩; (· rfl)) | (refine ⟨hc.may 4 rfl _ _ (nle rfl) rfl, ?_⟩; intro wA hA; have hc := (hc.set 4 rfl hA).1))
      rw [if_pos hlen]
      exact ResG.err hc.below 2
    refine split_f (decide_eq_false (by rw [hsz, hwr]; omega)) ?_
    rw [if_neg hlen]
    refine ⟨⟨by omega, by rw [hwr]; omega, by rw [hsz, hwr]; omega⟩, ?_⟩
    have ex : (⟨t.toArray⟩ : ByteArray).extract (a : Int).toNat (IntKind.i64.wrap ((a : Int) + (n : Int))).toNat = ⟨((t.drop a).take n).toArray⟩ := by
      rw [ba_extract, hwr, Int.toNat_natCast, Int.toNat_natCast, Nat.add_sub_cancel_left]
    generalize (⟨t.toArray⟩ : ByteArray).extract (a : Int).toNat (IntKind.i64.wrap ((a : Int) + (n : Int))).toNat = sub at ex ⊢
    subst ex
    have hbl : ((t.drop a).take n).length ≤ 1073741824 := by rw [List.length_take, List.length_drop]; omega
    generalize (t.drop a).take n = b at hbl ⊢
    intro g10 w4 h4
    have hc := (hc.loc h4).1
    refine ⟨hc.may 0 rfl 0 _ (Nat.le_refl 4) rfl, ?_⟩
    intro w5 h5
    have hc := (hc.set 0 rfl h5).1
    refine ⟨⟨by rw [hwr]; omega, by rw [hsz, hwr]; omega⟩, ?_⟩
    have ec : (⟨t.toArray⟩ : ByteArray).data.toList.getD (IntKind.i64.wrap ((a : Int) + (n : Int))).toNat 0 = t.getD (a + n) 0 := by rw [hwr, Int.toNat_natCast]
    generalize (⟨t.toArray⟩ : ByteArray).data.toList.getD (IntKind.i64.wrap ((a : Int) + (n : Int))).toNat 0 = x at ec ⊢
    rw [← ec]
    clear ec
    have hx : ∀ m : Nat, m < 256 → ((x.toNat : Int) == (m : Int)) = decide (x = UInt8.ofNat m) := fun m hm => by
      rw [Bool.eq_iff_iff, beq_iff_eq, decide_eq_true_eq]
      constructor
      · intro h
        exact UInt8.toNat_inj.1 (by rw [u8_ofNat_toNat m hm]; omega)
      · intro h; rw [h, u8_ofNat_toNat m hm]
    have hend : IntKind.i64.wrap (IntKind.i64.wrap ((a : Int) + (n : Int)) + 1) = ((a + n + 1 : Nat) : Int) := by rw [hwr, i_down (by omega)]
    by_cases x1 : x = 35
    · refine split_t ((hx 35 (by decide)).trans (decide_eq_true x1)) ?_
      refine ⟨_, hc.cell 0 rfl _ rfl, ?_⟩
      refine call_b (number_any b hbl _ (hw.below hc.below)) ?_
      intro w6 h6
      have hc := (hc.quiet h6).1
      refine ⟨hc.may 0 rfl 0 _ (Nat.le_refl 4) rfl, ?_⟩
      intro w7 h7
      have hc := (hc.set 0 rfl h7).1
      have eb : bodyP (getP f) x b = (numP b).map fun n => .mk 1 n ⟨#[]⟩ [] := by rw [bodyP, if_pos x1]
      rw [eb]
      clear eb
      cases hn : numP b with
      | none =>
        have e : numR b = (0, 0, 1) := by rw [numR, hn]
        generalize numR b = q at *
        subst e
        repeat (first | (intro gA wA hA; have hc := (hc.loc hA).1) | refine ⟨_, hc.cell 0 rfl _ rfl, ?_⟩ | (refine ⟨_, ?_, hc.cells 0 rfl, ?_⟩; (· rfl)) | (refine ⟨hc.may 0 rfl _ _ (nle rfl) rfl, ?_⟩; intro wA hA; have hc := (hc.set 0 rfl hA).1) | refine ⟨_, hc.cell 1 rfl _ rfl, ?_⟩ | (refine ⟨_, ?_, hc.cells 1 rfl, ?_⟩; (· rfl)) | (refine ⟨hc.may 1 rfl _ _ (nle rfl) rfl, ?_⟩; intro wA hA; have hc := (hc.set 1 rfl hA).1) | refine ⟨_, hc.cell 2 rfl _ rfl, ?_⟩ | (refine ⟨_, ?_, hc.cells 2 rfl, ?_⟩; (· rfl)) | (refine ⟨hc.may 2 rfl _ _ (nle rfl) rfl, ?_⟩; intro wA hA; have hc := (hc.set 2 rfl hA).1) | refine ⟨_, hc.cell 3 rfl _ rfl, ?_⟩ | (refine ⟨_, ?_, hc.cells 3 rfl, ?_⟩; (· rfl)) | (refine ⟨hc.may 3 rfl _ _ (nle rfl) rfl, ?_⟩; intro wA hA; have hc := (hc.set 3 rfl hA).1) | refine ⟨_, hc.cell 4 rfl _ rfl, ?_⟩ | (refine ⟨_, ?_, hc.cells 4 rfl, ?_⟩; (· rfl)) | (refine ⟨hc.may 4 rfl _ _ (nle rfl) rfl, ?_⟩; intro wA hA; have hc := (hc.set 4 rfl hA).1))
        exact ResG.err hc.below 1
      | some m =>
        have e : numR b = (1, m, 0) := by rw [numR, hn]
        generalize numR b = q at *
        subst e
        repeat (first | (intro gA wA hA; have hc := (hc.loc hA).1) | refine ⟨_, hc.cell 0 rfl _ rfl, ?_⟩ | (refine ⟨_, ?_, hc.cells 0 rfl, ?_⟩; (· rfl)) | (refine ⟨hc.may 0 rfl _ _ (nle rfl) rfl, ?_⟩; intro wA hA; have hc := (hc.set 0 rfl hA).1) | refine ⟨_, hc.cell 1 rfl _ rfl, ?_⟩ | (refine ⟨_, ?_, hc.cells 1 rfl, ?_⟩; (· rfl)) | (refine ⟨hc.may 1 rfl _ _ (nle rfl) rfl, ?_⟩; intro wA hA; have hc := (hc.set 1 rfl hA).1) | refine ⟨_, hc.cell 2 rfl _ rfl, ?_⟩ | (refine ⟨_, ?_, hc.cells 2 rfl, ?_⟩; (· rfl)) | (refine ⟨hc.may 2 rfl _ _ (nle rfl) rfl, ?_⟩; intro wA hA; have hc := (hc.set 2 rfl hA).1) | refine ⟨_, hc.cell 3 rfl _ rfl, ?_⟩ | (refine ⟨_, ?_, hc.cells 3 rfl, ?_⟩; (· rfl)) | (refine ⟨hc.may 3 rfl _ _ (nle rfl) rfl, ?_⟩; intro wA hA; have hc := (hc.set 3 rfl hA).1) | refine ⟨_, hc.cell 4 rfl _ rfl, ?_⟩ | (refine ⟨_, ?_, hc.cells 4 rfl, ?_⟩; (· rfl)) | (refine ⟨hc.may 4 rfl _ _ (nle rfl) rfl, ?_⟩; intro wA hA; have hc := (hc.set 4 rfl hA).1))
        refine ⟨[.int .i64 1, .int .i64 m, .string ⟨#[]⟩, .slice none 0 0], ?_, hc.below, ?_⟩
        · show Ending.returned (.tuple #[_, .int .i64 (IntKind.i64.wrap (IntKind.i64.wrap ((a : Int) + (n : Int)) + 1)), _]) = _
          rw [hend]; rfl
        · simp only [Option.map_some]
          rw [RepC]
          exact ⟨none, 0, [], rfl, by rw [RepL], Nat.le_refl _, Nat.zero_le _, fun h => absurd rfl h⟩
    refine split_f ((hx 35 (by decide)).trans (decide_eq_false x1)) ?_
    by_cases x2 : x = 93
    · refine split_t ((hx 93 (by decide)).trans (decide_eq_true x2)) ?_
      refine ⟨_, hc.cell 0 rfl _ rfl, ?_⟩
      refine ⟨(list_any f (by omega) ih b depth _ (by omega) hbl (hw.below hc.below)).mono fun e w6 hq => ?_⟩
      obtain ⟨cs, e1, h6, hrep⟩ := hq
      refine ⟨_, e1, ?_⟩
      have hC := hc.call h6
      have hc := hC.1
      have hrep := hrep.sub (S' := ext no w5 w6) (fun _ h => h)
      have eb : bodyP (getP f) x b = (lstGo (getP f) 6000 b).map fun l => .mk 3 0 ⟨#[]⟩ l := by rw [bodyP, if_neg x1, if_pos x2]
      rw [eb]
      clear eb
      have hL := hrep.len
      cases hl : lstGo (getP f) 6000 b with
      | none =>
        have e : listR f b = (V0, 1) := by rw [listR, hl]
        generalize listR f b = q at *
        subst e
        match cs, hL with
        | [c1, c2, c3, c4], _ =>
        have hone : allOne [c1, c2, c3, c4] = true := by
          rw [V0, RepC] at hrep
          obtain ⟨_, _, _, e, _⟩ := hrep
          rw [e]; rfl
        refine ⟨hc.may 0 rfl 0 _ (Nat.le_refl 4) hone, ?_⟩
        intro w7 h7
        have hc := (hc.set 0 rfl h7).1
        repeat (first | (intro gA wA hA; have hc := (hc.loc hA).1) | refine ⟨_, hc.cell 0 rfl _ rfl, ?_⟩ | (refine ⟨_, ?_, hc.cells 0 rfl, ?_⟩; (· rfl)) | (refine ⟨hc.may 0 rfl _ _ (nle rfl) rfl, ?_⟩; intro wA hA; have hc := (hc.set 0 rfl hA).1) | refine ⟨_, hc.cell 1 rfl _ rfl, ?_⟩ | (refine ⟨_, ?_, hc.cells 1 rfl, ?_⟩; (· rfl)) | (refine ⟨hc.may 1 rfl _ _ (nle rfl) rfl, ?_⟩; intro wA hA; have hc := (hc.set 1 rfl hA).1) | refine ⟨_, hc.cell 2 rfl _ rfl, ?_⟩ | (refine ⟨_, ?_, hc.cells 2 rfl, ?_⟩; (· rfl)) | (refine ⟨hc.may 2 rfl _ _ (nle rfl) rfl, ?_⟩; intro wA hA; have hc := (hc.set 2 rfl hA).1) | refine ⟨_, hc.cell 3 rfl _ rfl, ?_⟩ | (refine ⟨_, ?_, hc.cells 3 rfl, ?_⟩; (· rfl)) | (refine ⟨hc.may 3 rfl _ _ (nle rfl) rfl, ?_⟩; intro wA hA; have hc := (hc.set 3 rfl hA).1) | refine ⟨_, hc.cell 4 rfl _ rfl, ?_⟩ | (refine ⟨_, ?_, hc.cells 4 rfl, ?_⟩; (· rfl)) | (refine ⟨hc.may 4 rfl _ _ (nle rfl) rfl, ?_⟩; intro wA hA; have hc := (hc.set 4 rfl hA).1))
        exact ResG.err hc.below 1
      | some l =>
        have e : listR f b = (.mk 3 0 ⟨#[]⟩ l, 0) := by rw [listR, hl]
        generalize listR f b = q at *
        subst e
        match cs, hL with
        | [c1, c2, c3, c4], _ =>
        have hone : allOne [c1, c2, c3, c4] = true := by
          rw [RepC] at hrep
          obtain ⟨_, _, _, e, _⟩ := hrep
          rw [e]; rfl
        refine ⟨hc.may 0 rfl 0 _ (Nat.le_refl 4) hone, ?_⟩
        intro w7 h7
        have hC := hc.set 0 rfl h7
        have hc := hC.1
        have hrep := hrep.fut hC.2
        refine ⟨_, ?_, hc.cells 0 rfl, ?_⟩
        · rfl
        refine ⟨hc.may 1 rfl 0 _ (Nat.le_refl 4) hone, ?_⟩
        intro w8 h8
        have hC := hc.set 1 rfl h8
        have hc := hC.1
        have hrep := hrep.fut hC.2
        refine ⟨_, ?_, hc.cells 1 rfl, ?_⟩
        · rfl
        refine ⟨[c1, c2, c3, c4], ?_, hc.below, ?_⟩
        · show Ending.returned (.tuple #[_, .int .i64 (IntKind.i64.wrap (IntKind.i64.wrap ((a : Int) + (n : Int)) + 1)), _]) = _
          rw [hend]; rfl
        · exact hrep.fut hc.out
    refine split_f ((hx 93 (by decide)).trans (decide_eq_false x2)) ?_
    by_cases x3 : x = 44
    · refine split_t ((hx 44 (by decide)).trans (decide_eq_true x3)) ?_
      have eb : bodyP (getP f) x b = some (.mk 2 0 ⟨b.toArray⟩ []) := by rw [bodyP, if_neg x1, if_neg x2, if_pos x3]
      rw [eb]
      clear eb
      repeat (first | (intro gA wA hA; have hc := (hc.loc hA).1) | refine ⟨_, hc.cell 0 rfl _ rfl, ?_⟩ | (refine ⟨_, ?_, hc.cells 0 rfl, ?_⟩; (· rfl)) | (refine ⟨hc.may 0 rfl _ _ (nle rfl) rfl, ?_⟩; intro wA hA; have hc := (hc.set 0 rfl hA).1) | refine ⟨_, hc.cell 1 rfl _ rfl, ?_⟩ | (refine ⟨_, ?_, hc.cells 1 rfl, ?_⟩; (· rfl)) | (refine ⟨hc.may 1 rfl _ _ (nle rfl) rfl, ?_⟩; intro wA hA; have hc := (hc.set 1 rfl hA).1) | refine ⟨_, hc.cell 2 rfl _ rfl, ?_⟩ | (refine ⟨_, ?_, hc.cells 2 rfl, ?_⟩; (· rfl)) | (refine ⟨hc.may 2 rfl _ _ (nle rfl) rfl, ?_⟩; intro wA hA; have hc := (hc.set 2 rfl hA).1) | refine ⟨_, hc.cell 3 rfl _ rfl, ?_⟩ | (refine ⟨_, ?_, hc.cells 3 rfl, ?_⟩; (· rfl)) | (refine ⟨hc.may 3 rfl _ _ (nle rfl) rfl, ?_⟩; intro wA hA; have hc := (hc.set 3 rfl hA).1) | refine ⟨_, hc.cell 4 rfl _ rfl, ?_⟩ | (refine ⟨_, ?_, hc.cells 4 rfl, ?_⟩; (· rfl)) | (refine ⟨hc.may 4 rfl _ _ (nle rfl) rfl, ?_⟩; intro wA hA; have hc := (hc.set 4 rfl hA).1))
      refine ⟨[.int .i64 2, .int .i64 0, .string ⟨b.toArray⟩, .slice none 0 0], ?_, hc.below, ?_⟩
      · show Ending.returned (.tuple #[_, .int .i64 (IntKind.i64.wrap (IntKind.i64.wrap ((a : Int) + (n : Int)) + 1)), _]) = _
        rw [hend]; rfl
      · simp only
        rw [RepC]
        exact ⟨none, 0, [], rfl, by rw [RepL], Nat.le_refl _, Nat.zero_le _, fun h => absurd rfl h⟩
    · refine split_f ((hx 44 (by decide)).trans (decide_eq_false x3)) ?_
      have eb : bodyP (getP f) x b = none := by rw [bodyP, if_neg x1, if_neg x2, if_neg x3]
      rw [eb]
      clear eb
      repeat (first | (intro gA wA hA; have hc := (hc.loc hA).1) | refine ⟨_, hc.cell 0 rfl _ rfl, ?_⟩ | (refine ⟨_, ?_, hc.cells 0 rfl, ?_⟩; (· rfl)) | (refine ⟨hc.may 0 rfl _ _ (nle rfl) rfl, ?_⟩; intro wA hA; have hc := (hc.set 0 rfl hA).1) | refine ⟨_, hc.cell 1 rfl _ rfl, ?_⟩ | (refine ⟨_, ?_, hc.cells 1 rfl, ?_⟩; (· rfl)) | (refine ⟨hc.may 1 rfl _ _ (nle rfl) rfl, ?_⟩; intro wA hA; have hc := (hc.set 1 rfl hA).1) | refine ⟨_, hc.cell 2 rfl _ rfl, ?_⟩ | (refine ⟨_, ?_, hc.cells 2 rfl, ?_⟩; (· rfl)) | (refine ⟨hc.may 2 rfl _ _ (nle rfl) rfl, ?_⟩; intro wA hA; have hc := (hc.set 2 rfl hA).1) | refine ⟨_, hc.cell 3 rfl _ rfl, ?_⟩ | (refine ⟨_, ?_, hc.cells 3 rfl, ?_⟩; (· rfl)) | (refine ⟨hc.may 3 rfl _ _ (nle rfl) rfl, ?_⟩; intro wA hA; have hc := (hc.set 3 rfl hA).1) | refine ⟨_, hc.cell 4 rfl _ rfl, ?_⟩ | (refine ⟨_, ?_, hc.cells 4 rfl, ?_⟩; (· rfl)) | (refine ⟨hc.may 4 rfl _ _ (nle rfl) rfl, ?_⟩; intro wA hA; have hc := (hc.set 4 rfl hA).1))
      exact ResG.err hc.below 1
theorem Get_any (t : List UInt8) (w : World) (ht : t.length ≤ 1073741824) (hw : Env w) : Calls Tryz.prog 119 #[.string ⟨t.toArray⟩] w (ResG (getV t) w) := by
  refine calls_vc lay_ok Tryz.func119 rfl (by kernel_rfl) (by kernel_rfl) ?_
  intro g2 w1 h1
  have hc := ((Ctx.start w no (fun _ h => h.elim)).loc h1).1
  refine ⟨(get_any 6 (Nat.le_refl _) t 1 _ rfl ht (hw.below hc.below)).mono fun e w6 hq => ?_⟩
  obtain ⟨cs, e1, h6, hrep⟩ := hq
  refine ⟨_, e1, ?_⟩
  have hC := hc.call h6
  have hc := hC.1
  have eg : getV t = if (getP 6 t).2.2 = 0 ∧ mayV (getP 6 t).1 = false then (V0, 0, 1) else getP 6 t := by rw [getV]
  rw [eg]
  clear eg
  generalize getP 6 t = q at *
  obtain ⟨v, n, er⟩ := q
  simp only at hrep ⊢
  have hshape : ∃ k' n' s' A' len' cap', cs = [.int .i64 k', .int .i64 n', .string s', .slice A' len' cap'] := by
    obtain ⟨k', n', s', l'⟩ := v
    rw [RepC] at hrep
    obtain ⟨A', cap', xs', e, _, _⟩ := hrep
    exact ⟨_, _, _, _, _, _, e⟩
  obtain ⟨k', n', s', A', len', cap', rfl⟩ := hshape
  intro g5 w7 h7
  have hC := hc.loc h7
  have hc := hC.1
  have hrep := hrep.fut hC.2
  refine ⟨hc.may 0 rfl 0 _ (Nat.le_refl 4) rfl, ?_⟩
  intro w8 h8
  have hC := hc.set 0 rfl h8
  have hc := hC.1
  have hrep := hrep.fut hC.2
  by_cases he : er = 0
  · refine split_t (by show (er == 0) = true; simpa using he) ?_
    refine ⟨_, ?_, hc.cells 0 rfl, ?_⟩
    · rfl
    refine call_b (vmay_any v k' n' s' A' len' cap' _ _ hrep) ?_
    intro w9 h9
    have hC := hc.quiet h9
    have hc := hC.1
    have hrep := hrep.fut hC.2
    by_cases hm : mayV v = true
    · refine split_f (by rw [hm]; rfl) ?_
      refine ⟨_, ?_, hc.cells 0 rfl, ?_⟩
      · rfl
      refine ⟨hc.may 1 rfl 0 _ (Nat.le_refl 4) rfl, ?_⟩
      intro w10 h10
      have hC := hc.set 1 rfl h10
      have hc := hC.1
      have hrep := hrep.fut hC.2
      refine ⟨_, ?_, hc.cells 1 rfl, ?_⟩
      · rfl
      rw [if_neg (fun h => by rw [hm] at h; cases h.2)]
      exact ⟨[.int .i64 k', .int .i64 n', .string s', .slice A' len' cap'], rfl, hc.below, hrep.fut hc.out⟩
    · have hm : mayV v = false := by simpa using hm
      refine split_t (by rw [hm]; rfl) ?_
      repeat (first | (intro gA wA hA; have hc := (hc.loc hA).1) | refine ⟨_, hc.cell 0 rfl _ rfl, ?_⟩ | (refine ⟨_, ?_, hc.cells 0 rfl, ?_⟩; (· rfl)) | (refine ⟨hc.may 0 rfl _ _ (nle rfl) rfl, ?_⟩; intro wA hA; have hc := (hc.set 0 rfl hA).1) | refine ⟨_, hc.cell 1 rfl _ rfl, ?_⟩ | (refine ⟨_, ?_, hc.cells 1 rfl, ?_⟩; (· rfl)) | (refine ⟨hc.may 1 rfl _ _ (nle rfl) rfl, ?_⟩; intro wA hA; have hc := (hc.set 1 rfl hA).1) | refine ⟨_, hc.cell 2 rfl _ rfl, ?_⟩ | (refine ⟨_, ?_, hc.cells 2 rfl, ?_⟩; (· rfl)) | (refine ⟨hc.may 2 rfl _ _ (nle rfl) rfl, ?_⟩; intro wA hA; have hc := (hc.set 2 rfl hA).1) | refine ⟨_, hc.cell 3 rfl _ rfl, ?_⟩ | (refine ⟨_, ?_, hc.cells 3 rfl, ?_⟩; (· rfl)) | (refine ⟨hc.may 3 rfl _ _ (nle rfl) rfl, ?_⟩; intro wA hA; have hc := (hc.set 3 rfl hA).1) | refine ⟨_, hc.cell 4 rfl _ rfl, ?_⟩ | (refine ⟨_, ?_, hc.cells 4 rfl, ?_⟩; (· rfl)) | (refine ⟨hc.may 4 rfl _ _ (nle rfl) rfl, ?_⟩; intro wA hA; have hc := (hc.set 4 rfl hA).1))
      rw [if_pos ⟨he, hm⟩]
      exact ResG.err hc.below 1
  · refine split_f (by show (er == 0) = false; simpa using he) ?_
    refine ⟨_, ?_, hc.cells 0 rfl, ?_⟩
    · rfl
    refine ⟨hc.may 1 rfl 0 _ (Nat.le_refl 4) rfl, ?_⟩
    intro w10 h10
    have hC := hc.set 1 rfl h10
    have hc := hC.1
    have hrep := hrep.fut hC.2
    refine ⟨_, ?_, hc.cells 1 rfl, ?_⟩
    · rfl
    rw [if_neg (fun h => he h.1)]
    exact ⟨[.int .i64 k', .int .i64 n', .string s', .slice A' len' cap'], rfl, hc.below, hrep.fut hc.out⟩
theorem All_any (t : List UInt8) (w : World) (ht : t.length ≤ 1073741824) (hw : Env w) :
    Calls Tryz.prog 75 #[.string ⟨t.toArray⟩] w (fun e w' => ∃ k n s A len cap, e = .returned (.tuple #[.agg #[.int .i64 k, .int .i64 n, .string s, .slice A len cap], .int .i64 (allV t).2]) ∧ Below w.heap.size w w' ∧ RepC (ext no w w') w' (allV t).1 [.int .i64 k, .int .i64 n, .string s, .slice A len cap]) := by
  refine calls_vc lay_ok Tryz.func75 rfl (by kernel_rfl) (by kernel_rfl) ?_
  intro g2 w1 h1
  have hc := ((Ctx.start w no (fun _ h => h.elim)).loc h1).1
  refine ⟨(Get_any t _ ht (hw.below hc.below)).mono fun e w6 hq => ?_⟩
  obtain ⟨cs, e1, h6, hrep⟩ := hq
  refine ⟨_, e1, ?_⟩
  have hC := hc.call h6
  have hc := hC.1
  have eg : allV t = if (getV t).2.2 ≠ 0 ∨ (getV t).2.1 ≠ t.length then (V0, 1) else ((getV t).1, 0) := by rw [allV]
  rw [eg]
  clear eg
  generalize getV t = q at *
  obtain ⟨v, n, er⟩ := q
  simp only at hrep ⊢
  have hshape : ∃ k' n' s' A' len' cap', cs = [.int .i64 k', .int .i64 n', .string s', .slice A' len' cap'] := by
    obtain ⟨k', n', s', l'⟩ := v
    rw [RepC] at hrep
    obtain ⟨A', cap', xs', e, _, _⟩ := hrep
    exact ⟨_, _, _, _, _, _, e⟩
  obtain ⟨k', n', s', A', len', cap', rfl⟩ := hshape
  intro g5 w7 h7
  have hC := hc.loc h7
  have hc := hC.1
  have hrep := hrep.fut hC.2
  refine ⟨hc.may 0 rfl 0 _ (Nat.le_refl 4) rfl, ?_⟩
  intro w8 h8
  have hC := hc.set 0 rfl h8
  have hc := hC.1
  have hrep := hrep.fut hC.2
  have hsz : (((⟨t.toArray⟩ : ByteArray).size : Nat) : Int) = t.length := by rw [ba_size]
  by_cases he : er = 0
  · refine split_f (by show (er != 0) = false; simpa using he) ?_
    by_cases hn : n = t.length
    · refine split_f (by show ((n : Int) != ((⟨t.toArray⟩ : ByteArray).size : Nat)) = false; rw [hsz, hn]; simp) ?_
      refine ⟨_, ?_, hc.cells 0 rfl, ?_⟩
      · rfl
      refine ⟨hc.may 1 rfl 0 _ (Nat.le_refl 4) rfl, ?_⟩
      intro w10 h10
      have hC := hc.set 1 rfl h10
      have hc := hC.1
      have hrep := hrep.fut hC.2
      refine ⟨_, ?_, hc.cells 1 rfl, ?_⟩
      · rfl
      rw [if_neg (fun h => by rcases h with h | h; exact h he; exact h hn)]
      exact ⟨_, _, _, _, _, _, rfl, hc.below, hrep.fut hc.out⟩
    · refine split_t (by show ((n : Int) != ((⟨t.toArray⟩ : ByteArray).size : Nat)) = true; rw [hsz, bne_iff_ne]; omega) ?_
      repeat (first | (intro gA wA hA; have hc := (hc.loc hA).1) | refine ⟨_, hc.cell 0 rfl _ rfl, ?_⟩ | (refine ⟨_, ?_, hc.cells 0 rfl, ?_⟩; (· rfl)) | (refine ⟨hc.may 0 rfl _ _ (nle rfl) rfl, ?_⟩; intro wA hA; have hc := (hc.set 0 rfl hA).1) | refine ⟨_, hc.cell 1 rfl _ rfl, ?_⟩ | (refine ⟨_, ?_, hc.cells 1 rfl, ?_⟩; (· rfl)) | (refine ⟨hc.may 1 rfl _ _ (nle rfl) rfl, ?_⟩; intro wA hA; have hc := (hc.set 1 rfl hA).1) | refine ⟨_, hc.cell 2 rfl _ rfl, ?_⟩ | (refine ⟨_, ?_, hc.cells 2 rfl, ?_⟩; (· rfl)) | (refine ⟨hc.may 2 rfl _ _ (nle rfl) rfl, ?_⟩; intro wA hA; have hc := (hc.set 2 rfl hA).1) | refine ⟨_, hc.cell 3 rfl _ rfl, ?_⟩ | (refine ⟨_, ?_, hc.cells 3 rfl, ?_⟩; (· rfl)) | (refine ⟨hc.may 3 rfl _ _ (nle rfl) rfl, ?_⟩; intro wA hA; have hc := (hc.set 3 rfl hA).1) | refine ⟨_, hc.cell 4 rfl _ rfl, ?_⟩ | (refine ⟨_, ?_, hc.cells 4 rfl, ?_⟩; (· rfl)) | (refine ⟨hc.may 4 rfl _ _ (nle rfl) rfl, ?_⟩; intro wA hA; have hc := (hc.set 4 rfl hA).1))
      rw [if_pos (.inr hn)]
      exact ⟨0, 0, ⟨#[]⟩, none, 0, 0, rfl, hc.below, RepC.V0 _ _⟩
  · refine split_t (by show (er != 0) = true; simpa using he) ?_
    repeat (first | (intro gA wA hA; have hc := (hc.loc hA).1) | refine ⟨_, hc.cell 0 rfl _ rfl, ?_⟩ | (refine ⟨_, ?_, hc.cells 0 rfl, ?_⟩; (· rfl)) | (refine ⟨hc.may 0 rfl _ _ (nle rfl) rfl, ?_⟩; intro wA hA; have hc := (hc.set 0 rfl hA).1) | refine ⟨_, hc.cell 1 rfl _ rfl, ?_⟩ | (refine ⟨_, ?_, hc.cells 1 rfl, ?_⟩; (· rfl)) | (refine ⟨hc.may 1 rfl _ _ (nle rfl) rfl, ?_⟩; intro wA hA; have hc := (hc.set 1 rfl hA).1) | refine ⟨_, hc.cell 2 rfl _ rfl, ?_⟩ | (refine ⟨_, ?_, hc.cells 2 rfl, ?_⟩; (· rfl)) | (refine ⟨hc.may 2 rfl _ _ (nle rfl) rfl, ?_⟩; intro wA hA; have hc := (hc.set 2 rfl hA).1) | refine ⟨_, hc.cell 3 rfl _ rfl, ?_⟩ | (refine ⟨_, ?_, hc.cells 3 rfl, ?_⟩; (· rfl)) | (refine ⟨hc.may 3 rfl _ _ (nle rfl) rfl, ?_⟩; intro wA hA; have hc := (hc.set 3 rfl hA).1) | refine ⟨_, hc.cell 4 rfl _ rfl, ?_⟩ | (refine ⟨_, ?_, hc.cells 4 rfl, ?_⟩; (· rfl)) | (refine ⟨hc.may 4 rfl _ _ (nle rfl) rfl, ?_⟩; intro wA hA; have hc := (hc.set 4 rfl hA).1))
    rw [if_pos (.inl he)]
    exact ⟨0, 0, ⟨#[]⟩, none, 0, 0, rfl, hc.below, RepC.V0 _ _⟩
end Go.Proofs.YtokglimimnelaaaGreatDoor
