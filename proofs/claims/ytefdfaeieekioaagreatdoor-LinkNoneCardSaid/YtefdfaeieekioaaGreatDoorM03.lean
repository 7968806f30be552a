import Derived.Test.YtefdfaeieekioaaGreatDoorM02
import Derived.Lib.Builder
import Derived.Lib.AppendStr
import Derived.Shelf.Strings.Builder1
import Derived.Shelf.Small.Strs
import Derived.Shelf.Strings.BuilderF
import Derived.Shelf.Strings.BuilderK
import Derived.Shelf.Strconv.Itoa0
import Derived.Shelf.Strconv.Itoa1
import Derived.Shelf.LaysM
import Derived.Shelf.Strconv.Itoa2
import Derived.Shelf.Strconv.Itoa3
import Derived.Shelf.Strconv.Itoa4
import Derived.Shelf.Strconv.ParseIntEmpty
import Derived.Shelf.Strconv.Clone
import Derived.Shelf.Strconv.SyntaxError
import Derived.Shelf.LaysC
import Derived.Shelf.Strconv.ToError
import Derived.Shelf.Strconv.Lower
import Derived.Shelf.Strconv.ParseUint10
import Derived.Shelf.Strconv.ParseUint10Empty
import Derived.Shelf.Strconv.ParseUint10Any
import Derived.Shelf.Strconv.ParseInt10
import Derived.Shelf.Strconv.RangeError
import Derived.Shelf.Strconv.ToErrorRange
import Derived.Shelf.Strconv.ParseUintEmpty
import Derived.Shelf.Strconv.ParseUint10b64
import Derived.Shelf.Strconv.ParseUint10b32
import Derived.Shelf.Strconv.ParseUint10b16
import Derived.Shelf.Strconv.ParseUint10b8
import Derived.Shelf.Strconv.ParseUint10At
import Derived.Shelf.Strconv.ParseInt10At64
import Derived.Shelf.Strconv.ParseInt10At32
import Derived.Shelf.Strconv.ParseInt10At16
import Derived.Shelf.Strconv.ParseInt10At8
import Derived.Shelf.Strconv.ParseInt10All
import Derived.Shelf.Strconv.ParseIntPublic10
import Derived.Shelf.Strconv.ErrVarParseInt
import Derived.Shelf.Strings.Search1
import Derived.Shelf.Strings.Prefix
import Derived.Ground.Names2Prog
import Derived.Shelf.Slices.Clone
import Derived.Shelf.Slices.Delete
import Derived.Shelf.Slices.Cells
import Derived.Shelf.Slices.Empties
import Derived.Ground.SlgnProg
import Derived.Shelf.SlicesG.SearchI
import Derived.Shelf.SlicesE.Clone
import Derived.Test.YtefdfaeieekioaaGreatDoorProg
import Derived.Lib.AppendIntMem
import Derived.Lib.ItoaLen
import Derived.Lib.ParseIntBTie
import Derived.Lib.ParseIntBCases
import Derived.Lib.AppendZerosOnto
import Derived.Laws.StructEq
import Derived.Lib.Overlaps
import Derived.Test.YtefdfaeieekioaaGreatDoorRows
import Derived.Test.YtefdfaeieekioaaGreatDoorCards
import Derived.Test.YtefdfaeieekioaaGreatDoorTie
import Derived.WalkKit
import Derived.ProofKit
import Derived.OpenShut
import Derived.Deep.DeepHandedRow
import Derived.Deep.DeepWitnessRowRef
import Derived.Lib.LaidTab
import Derived.Stop.LaidErr
import Derived.Lay
import Derived.Carry
import Derived.RowKit3
set_option maxRecDepth 100000
set_option maxHeartbeats 40000000
set_option linter.unusedVariables false
set_option linter.unusedSimpArgs false
namespace Go.Proofs.YtefdfaeieekioaaGreatDoor
open Go.Vc Go.RowKit Go.Fl
mutual
def eqV:V->V->Bool
 | .mk k n s l,.mk k' n' s' l'=>k==k'&&n==n'&&strEq s s'&&eqL l l'
def eqL:List V->List V->Bool
 | [],[]=>true
 | x::r,y::t=>eqV x y&&eqL r t
 | [],_::_=>false
 | _::_,[]=>false
end
theorem noEscape_run (x:Value) (w:World):(callFunc 284 #[x]).run Tryz.prog w=.ok (.value x) w:=by
 rw [run_callFunc_extern Tryz.func284 (by kernel_rfl) (by kernel_rfl) (by kernel_rfl) (show Extern.find _=some Extern.AbiNoEscape.same by kernel_rfl)]
 rfl
end Go.Proofs.YtefdfaeieekioaaGreatDoor
section
namespace Go.Proofs
open Go.Shelf
def Tryz.lays137_ren:Go.Shelf.Ren:=⟨fun | 137=>173 | 217=>217 | 266=>258 | n=>n,fun | 9=>9 | 5=>5 | 3=>3 | n=>n,fun | n=>n⟩
theorem Tryz.lays137:Go.Proofs.Lays.n137 Tryz.prog Tryz.lays137_ren:={
 mixed:=by kernel_rfl
 f137:=Tryz.func173.trans (congrArg some (by kernel_rfl))
 f217:=Tryz.func217.trans (congrArg some (by kernel_rfl))
 f266:=Tryz.func258.trans (congrArg some (by kernel_rfl))
 t3:=Tryz.underlying3
 a3:=Tryz.isAgg3
 z3:=Tryz.sizeOf3
 v3:=Tryz.zeroValue3
 t5:=Tryz.underlying5
 a5:=Tryz.isAgg5
 z5:=Tryz.sizeOf5
 v5:=Tryz.zeroValue5
 t9:=Tryz.underlying9
 a9:=Tryz.isAgg9
 z9:=Tryz.sizeOf9
 v9:=Tryz.zeroValue9 }
open Go.RowKit in
theorem Tryz.strings_IndexByte (s:ByteArray) (c:Int) (w:World):
  Calls Tryz.prog 173 #[.string s,.int .u8 c] w fun e w'=>e=.returned (.int .i64 (Lib.indexByte s.data.toList c.toNat.toUInt8))/\w'=w:=Any.strings_IndexByte Tryz.lays137 s c w
def Tryz.laysM171_ren:Go.Shelf.Ren:=⟨fun | 171=>216 | 243=>257 | 246=>255 | 283=>280 | 284=>281 | 285=>282 | 286=>283 | 129=>312 | 317=>311 | 318=>313 | 319=>314 | 320=>315 | 337=>330 | 338=>331 | n=>n,fun | 3=>3 | 9=>9 | 2=>2 | 4=>4 | 171=>294 | 0=>0 | 53=>295 | 37=>207 | 5=>5 | 173=>298 | 212=>330 | 51=>331 | 20=>20 | 213=>332 | 46=>305 | 232=>352 | 233=>353 | n=>n,fun | 17=>2 | 18=>3 | 19=>4 | n=>n⟩
theorem Tryz.laysM171:Go.Proofs.LaysM.n171 Tryz.prog Tryz.laysM171_ren:={
 mixed:=by kernel_rfl
 f129:=Tryz.func312.trans (congrArg some (by kernel_rfl))
 f171:=Tryz.func216.trans (congrArg some (by kernel_rfl))
 f243:=Tryz.func257.trans (congrArg some (by kernel_rfl))
 f246:=Tryz.func255.trans (congrArg some (by kernel_rfl))
 f283:=Tryz.func280.trans (congrArg some (by kernel_rfl))
 f284:=Tryz.func281.trans (congrArg some (by kernel_rfl))
 f285:=Tryz.func282.trans (congrArg some (by kernel_rfl))
 f286:=Tryz.func283.trans (congrArg some (by kernel_rfl))
 f317:=Tryz.func311.trans (congrArg some (by kernel_rfl))
 f318:=Tryz.func313.trans (congrArg some (by kernel_rfl))
 f319:=Tryz.func314.trans (congrArg some (by kernel_rfl))
 f320:=Tryz.func315.trans (congrArg some (by kernel_rfl))
 f337:=Tryz.func330.trans (congrArg some (by kernel_rfl))
 f338:=Tryz.func331.trans (congrArg some (by kernel_rfl))
 t0:=Tryz.underlying0
 a0:=Tryz.isAgg0
 z0:=Tryz.sizeOf0
 v0:=Tryz.zeroValue0
 t2:=Tryz.underlying2
 a2:=Tryz.isAgg2
 z2:=Tryz.sizeOf2
 v2:=Tryz.zeroValue2
 t3:=Tryz.underlying3
 a3:=Tryz.isAgg3
 z3:=Tryz.sizeOf3
 v3:=Tryz.zeroValue3
 t4:=Tryz.underlying4
 a4:=Tryz.isAgg4
 z4:=Tryz.sizeOf4
 v4:=Tryz.zeroValue4
 t5:=Tryz.underlying5
 a5:=Tryz.isAgg5
 z5:=Tryz.sizeOf5
 v5:=Tryz.zeroValue5
 t9:=Tryz.underlying9
 a9:=Tryz.isAgg9
 z9:=Tryz.sizeOf9
 v9:=Tryz.zeroValue9
 t20:=Tryz.underlying20
 a20:=Tryz.isAgg20
 z20:=Tryz.sizeOf20
 v20:=Tryz.zeroValue20
 t37:=Tryz.underlying207
 a37:=Tryz.isAgg207
 z37:=Tryz.sizeOf207
 v37:=Tryz.zeroValue207
 t46:=Tryz.underlying305
 a46:=Tryz.isAgg305
 z46:=Tryz.sizeOf305
 v46:=Tryz.zeroValue305
 t51:=Tryz.underlying331
 a51:=Tryz.isAgg331
 z51:=Tryz.sizeOf331
 v51:=Tryz.zeroValue331
 t53:=Tryz.underlying295
 a53:=Tryz.isAgg295
 z53:=Tryz.sizeOf295
 v53:=Tryz.zeroValue295
 t171:=Tryz.underlying294
 a171:=Tryz.isAgg294
 z171:=Tryz.sizeOf294
 v171:=Tryz.zeroValue294
 t173:=Tryz.underlying298
 a173:=Tryz.isAgg298
 z173:=Tryz.sizeOf298
 v173:=Tryz.zeroValue298
 t212:=Tryz.underlying330
 a212:=Tryz.isAgg330
 z212:=Tryz.sizeOf330
 v212:=Tryz.zeroValue330
 t213:=Tryz.underlying332
 a213:=Tryz.isAgg332
 z213:=Tryz.sizeOf332
 t232:=Tryz.underlying352
 a232:=Tryz.isAgg352
 z232:=Tryz.sizeOf352
 v232:=Tryz.zeroValue352
 t233:=Tryz.underlying353
 a233:=Tryz.isAgg353
 z233:=Tryz.sizeOf353
 v233:=Tryz.zeroValue353
 g17:=by kernel_rfl
 g18:=by kernel_rfl
 g19:=by kernel_rfl
 i0:=by kernel_rfl
 i2:=by kernel_rfl
 i3:=by kernel_rfl
 i4:=by kernel_rfl
 i5:=by kernel_rfl
 i9:=by kernel_rfl
 i20:=by kernel_rfl
 i37:=by kernel_rfl
 i46:=by kernel_rfl
 i51:=by kernel_rfl
 i53:=by kernel_rfl
 i171:=by kernel_rfl
 i173:=by kernel_rfl
 i212:=by kernel_rfl
 i232:=by kernel_rfl
 i233:=by kernel_rfl
 m17:=by kernel_rfl
 m18:=by kernel_rfl
 m19:=by kernel_rfl }
open Go.RowKit Go.Sort Go.Lib in
theorem Tryz.strconv_Itoa (n:Int) (h0 : -9223372036854775808<=n) (h1:n<=9223372036854775807) (w:World) (htab:Lib.TabIs Tryz.prog w "internal/strconv.uint64pow10" .u64 Lib.pow10Tab):
  Calls Tryz.prog 216 #[.int .i64 n] w fun e w'=>e=.returned (.string ⟨(Lib.itoa n).toArray⟩)/\∃ k os,w'=grow (w.drewN k) os:=Any.strconv_Itoa Tryz.laysM171 n h0 h1 w htab
def Tryz.laysM173_ren:Go.Shelf.Ren:=⟨fun | 173=>213 | 246=>255 | 283=>280 | 284=>281 | 285=>282 | 286=>283 | 129=>312 | 317=>311 | 318=>313 | 319=>314 | 320=>315 | 337=>330 | 338=>331 | n=>n,fun | 2=>2 | 3=>3 | 9=>9 | 4=>4 | 171=>294 | 0=>0 | 53=>295 | 37=>207 | 5=>5 | 173=>298 | 212=>330 | 51=>331 | 20=>20 | 213=>332 | 46=>305 | 232=>352 | 233=>353 | n=>n,fun | 17=>2 | 18=>3 | 19=>4 | n=>n⟩
theorem Tryz.laysM173:Go.Proofs.LaysM.n173 Tryz.prog Tryz.laysM173_ren:={
 mixed:=by kernel_rfl
 f129:=Tryz.func312.trans (congrArg some (by kernel_rfl))
 f173:=Tryz.func213.trans (congrArg some (by kernel_rfl))
 f246:=Tryz.func255.trans (congrArg some (by kernel_rfl))
 f283:=Tryz.func280.trans (congrArg some (by kernel_rfl))
 f284:=Tryz.func281.trans (congrArg some (by kernel_rfl))
 f285:=Tryz.func282.trans (congrArg some (by kernel_rfl))
 f286:=Tryz.func283.trans (congrArg some (by kernel_rfl))
 f317:=Tryz.func311.trans (congrArg some (by kernel_rfl))
 f318:=Tryz.func313.trans (congrArg some (by kernel_rfl))
 f319:=Tryz.func314.trans (congrArg some (by kernel_rfl))
 f320:=Tryz.func315.trans (congrArg some (by kernel_rfl))
 f337:=Tryz.func330.trans (congrArg some (by kernel_rfl))
 f338:=Tryz.func331.trans (congrArg some (by kernel_rfl))
 t0:=Tryz.underlying0
 a0:=Tryz.isAgg0
 z0:=Tryz.sizeOf0
 v0:=Tryz.zeroValue0
 t2:=Tryz.underlying2
 a2:=Tryz.isAgg2
 z2:=Tryz.sizeOf2
 v2:=Tryz.zeroValue2
 t3:=Tryz.underlying3
 a3:=Tryz.isAgg3
 z3:=Tryz.sizeOf3
 v3:=Tryz.zeroValue3
 t4:=Tryz.underlying4
 a4:=Tryz.isAgg4
 z4:=Tryz.sizeOf4
 v4:=Tryz.zeroValue4
 t5:=Tryz.underlying5
 a5:=Tryz.isAgg5
 z5:=Tryz.sizeOf5
 v5:=Tryz.zeroValue5
 t9:=Tryz.underlying9
 a9:=Tryz.isAgg9
 z9:=Tryz.sizeOf9
 v9:=Tryz.zeroValue9
 t20:=Tryz.underlying20
 a20:=Tryz.isAgg20
 z20:=Tryz.sizeOf20
 v20:=Tryz.zeroValue20
 t37:=Tryz.underlying207
 a37:=Tryz.isAgg207
 z37:=Tryz.sizeOf207
 v37:=Tryz.zeroValue207
 t46:=Tryz.underlying305
 a46:=Tryz.isAgg305
 z46:=Tryz.sizeOf305
 v46:=Tryz.zeroValue305
 t51:=Tryz.underlying331
 a51:=Tryz.isAgg331
 z51:=Tryz.sizeOf331
 v51:=Tryz.zeroValue331
 t53:=Tryz.underlying295
 a53:=Tryz.isAgg295
 z53:=Tryz.sizeOf295
 v53:=Tryz.zeroValue295
 t171:=Tryz.underlying294
 a171:=Tryz.isAgg294
 z171:=Tryz.sizeOf294
 v171:=Tryz.zeroValue294
 t173:=Tryz.underlying298
 a173:=Tryz.isAgg298
 z173:=Tryz.sizeOf298
 v173:=Tryz.zeroValue298
 t212:=Tryz.underlying330
 a212:=Tryz.isAgg330
 z212:=Tryz.sizeOf330
 v212:=Tryz.zeroValue330
 t213:=Tryz.underlying332
 a213:=Tryz.isAgg332
 z213:=Tryz.sizeOf332
 t232:=Tryz.underlying352
 a232:=Tryz.isAgg352
 z232:=Tryz.sizeOf352
 v232:=Tryz.zeroValue352
 t233:=Tryz.underlying353
 a233:=Tryz.isAgg353
 z233:=Tryz.sizeOf353
 v233:=Tryz.zeroValue353
 g17:=by kernel_rfl
 g18:=by kernel_rfl
 g19:=by kernel_rfl
 i0:=by kernel_rfl
 i2:=by kernel_rfl
 i3:=by kernel_rfl
 i4:=by kernel_rfl
 i5:=by kernel_rfl
 i9:=by kernel_rfl
 i20:=by kernel_rfl
 i37:=by kernel_rfl
 i46:=by kernel_rfl
 i51:=by kernel_rfl
 i53:=by kernel_rfl
 i171:=by kernel_rfl
 i173:=by kernel_rfl
 i212:=by kernel_rfl
 i232:=by kernel_rfl
 i233:=by kernel_rfl
 m17:=by kernel_rfl
 m18:=by kernel_rfl
 m19:=by kernel_rfl }
open Go.RowKit Go.Sort Go.Lib in
theorem Tryz.strconv_FormatInt_10 (n:Int) (h0 : -9223372036854775808<=n) (h1:n<=9223372036854775807) (w:World) (htab:Lib.TabIs Tryz.prog w "internal/strconv.uint64pow10" .u64 Lib.pow10Tab):
  Calls Tryz.prog 213 #[.int .i64 n,.int .i64 10] w fun e w'=>e=.returned (.string ⟨(Lib.itoa n).toArray⟩)/\∃ k os,w'=grow (w.drewN k) os:=Any.strconv_FormatInt_10 Tryz.laysM173 n h0 h1 w htab
def Tryz.laysC174_ren:Go.Shelf.Ren:=⟨fun | 174=>286 | 247=>317 | 245=>318 | 287=>332 | 279=>333 | 280=>334 | 281=>335 | 282=>336 | 321=>341 | 322=>342 | 316=>343 | 171=>216 | 205=>344 | 243=>257 | 246=>255 | 283=>280 | 284=>281 | 285=>282 | 286=>283 | 129=>312 | 317=>311 | 318=>313 | 319=>314 | 320=>315 | 337=>330 | 338=>331 | n=>n,fun | 9=>9 | 3=>3 | 2=>2 | 75=>245 | 85=>303 | 4=>4 | 167=>343 | 5=>5 | 53=>295 | 175=>344 | 46=>305 | 168=>346 | 37=>207 | 0=>0 | 210=>356 | 21=>21 | 127=>278 | 145=>360 | 143=>358 | 171=>294 | 173=>298 | 212=>330 | 51=>331 | 20=>20 | 213=>332 | 232=>352 | 233=>353 | 80=>113 | n=>n,fun | 15=>5 | 16=>6 | 17=>2 | 18=>3 | 19=>4 | n=>n⟩
theorem Tryz.laysC174:Go.Proofs.LaysC.n174 Tryz.prog Tryz.laysC174_ren:={
 mixed:=by kernel_rfl
 f129:=Tryz.func312.trans (congrArg some (by kernel_rfl))
 f171:=Tryz.func216.trans (congrArg some (by kernel_rfl))
 f174:=Tryz.func286.trans (congrArg some (by kernel_rfl))
 f205:=Tryz.func344.trans (congrArg some (by kernel_rfl))
 f243:=Tryz.func257.trans (congrArg some (by kernel_rfl))
 f245:=Tryz.func318.trans (congrArg some (by kernel_rfl))
 f246:=Tryz.func255.trans (congrArg some (by kernel_rfl))
 f247:=Tryz.func317.trans (congrArg some (by kernel_rfl))
 f279:=Tryz.func333.trans (congrArg some (by kernel_rfl))
 f280:=Tryz.func334.trans (congrArg some (by kernel_rfl))
 f281:=Tryz.func335.trans (congrArg some (by kernel_rfl))
 f282:=Tryz.func336.trans (congrArg some (by kernel_rfl))
 f283:=Tryz.func280.trans (congrArg some (by kernel_rfl))
 f284:=Tryz.func281.trans (congrArg some (by kernel_rfl))
 f285:=Tryz.func282.trans (congrArg some (by kernel_rfl))
 f286:=Tryz.func283.trans (congrArg some (by kernel_rfl))
 f287:=Tryz.func332.trans (congrArg some (by kernel_rfl))
 f316:=Tryz.func343.trans (congrArg some (by kernel_rfl))
 f317:=Tryz.func311.trans (congrArg some (by kernel_rfl))
 f318:=Tryz.func313.trans (congrArg some (by kernel_rfl))
 f319:=Tryz.func314.trans (congrArg some (by kernel_rfl))
 f320:=Tryz.func315.trans (congrArg some (by kernel_rfl))
 f321:=Tryz.func341.trans (congrArg some (by kernel_rfl))
 f322:=Tryz.func342.trans (congrArg some (by kernel_rfl))
 f337:=Tryz.func330.trans (congrArg some (by kernel_rfl))
 f338:=Tryz.func331.trans (congrArg some (by kernel_rfl))
 t0:=Tryz.underlying0
 a0:=Tryz.isAgg0
 z0:=Tryz.sizeOf0
 v0:=Tryz.zeroValue0
 t2:=Tryz.underlying2
 a2:=Tryz.isAgg2
 z2:=Tryz.sizeOf2
 v2:=Tryz.zeroValue2
 t3:=Tryz.underlying3
 a3:=Tryz.isAgg3
 z3:=Tryz.sizeOf3
 v3:=Tryz.zeroValue3
 t4:=Tryz.underlying4
 a4:=Tryz.isAgg4
 z4:=Tryz.sizeOf4
 v4:=Tryz.zeroValue4
 t5:=Tryz.underlying5
 a5:=Tryz.isAgg5
 z5:=Tryz.sizeOf5
 v5:=Tryz.zeroValue5
 t9:=Tryz.underlying9
 a9:=Tryz.isAgg9
 z9:=Tryz.sizeOf9
 v9:=Tryz.zeroValue9
 t20:=Tryz.underlying20
 a20:=Tryz.isAgg20
 z20:=Tryz.sizeOf20
 v20:=Tryz.zeroValue20
 t21:=Tryz.underlying21
 a21:=Tryz.isAgg21
 z21:=Tryz.sizeOf21
 v21:=Tryz.zeroValue21
 t37:=Tryz.underlying207
 a37:=Tryz.isAgg207
 z37:=Tryz.sizeOf207
 v37:=Tryz.zeroValue207
 t46:=Tryz.underlying305
 a46:=Tryz.isAgg305
 z46:=Tryz.sizeOf305
 v46:=Tryz.zeroValue305
 t51:=Tryz.underlying331
 a51:=Tryz.isAgg331
 z51:=Tryz.sizeOf331
 v51:=Tryz.zeroValue331
 t53:=Tryz.underlying295
 a53:=Tryz.isAgg295
 z53:=Tryz.sizeOf295
 v53:=Tryz.zeroValue295
 t75:=Tryz.underlying245
 a75:=Tryz.isAgg245
 z75:=Tryz.sizeOf245
 v75:=Tryz.zeroValue245
 t85:=Tryz.underlying303
 a85:=Tryz.isAgg303
 z85:=Tryz.sizeOf303
 v85:=Tryz.zeroValue303
 t127:=Tryz.underlying278
 a127:=Tryz.isAgg278
 z127:=Tryz.sizeOf278
 v127:=Tryz.zeroValue278
 t143:=Tryz.underlying358
 a143:=Tryz.isAgg358
 z143:=Tryz.sizeOf358
 v143:=Tryz.zeroValue358
 t145:=Tryz.underlying360
 a145:=Tryz.isAgg360
 z145:=Tryz.sizeOf360
 v145:=Tryz.zeroValue360
 t167:=Tryz.underlying343
 a167:=Tryz.isAgg343
 z167:=Tryz.sizeOf343
 v167:=Tryz.zeroValue343
 t168:=Tryz.underlying346
 a168:=Tryz.isAgg346
 z168:=Tryz.sizeOf346
 v168:=Tryz.zeroValue346
 t171:=Tryz.underlying294
 a171:=Tryz.isAgg294
 z171:=Tryz.sizeOf294
 v171:=Tryz.zeroValue294
 t173:=Tryz.underlying298
 a173:=Tryz.isAgg298
 z173:=Tryz.sizeOf298
 v173:=Tryz.zeroValue298
 t175:=Tryz.underlying344
 a175:=Tryz.isAgg344
 z175:=Tryz.sizeOf344
 v175:=Tryz.zeroValue344
 t210:=Tryz.underlying356
 a210:=Tryz.isAgg356
 z210:=Tryz.sizeOf356
 v210:=Tryz.zeroValue356
 t212:=Tryz.underlying330
 a212:=Tryz.isAgg330
 z212:=Tryz.sizeOf330
 v212:=Tryz.zeroValue330
 t213:=Tryz.underlying332
 a213:=Tryz.isAgg332
 z213:=Tryz.sizeOf332
 t232:=Tryz.underlying352
 a232:=Tryz.isAgg352
 z232:=Tryz.sizeOf352
 v232:=Tryz.zeroValue352
 t233:=Tryz.underlying353
 a233:=Tryz.isAgg353
 z233:=Tryz.sizeOf353
 v233:=Tryz.zeroValue353
 g15:=by kernel_rfl
 g16:=by kernel_rfl
 g17:=by kernel_rfl
 g18:=by kernel_rfl
 g19:=by kernel_rfl
 t80:=Tryz.underlying113
 a80:=Tryz.isAgg113
 z80:=Tryz.sizeOf113
 v80:=Tryz.zeroValue113
 i0:=by kernel_rfl
 i2:=by kernel_rfl
 i3:=by kernel_rfl
 i4:=by kernel_rfl
 i5:=by kernel_rfl
 i9:=by kernel_rfl
 i20:=by kernel_rfl
 i21:=by kernel_rfl
 i37:=by kernel_rfl
 i46:=by kernel_rfl
 i51:=by kernel_rfl
 i53:=by kernel_rfl
 i75:=by kernel_rfl
 i80:=by kernel_rfl
 i85:=by kernel_rfl
 i127:=by kernel_rfl
 i143:=by kernel_rfl
 i145:=by kernel_rfl
 i167:=by kernel_rfl
 i168:=by kernel_rfl
 i171:=by kernel_rfl
 i173:=by kernel_rfl
 i175:=by kernel_rfl
 i210:=by kernel_rfl
 i212:=by kernel_rfl
 i232:=by kernel_rfl
 i233:=by kernel_rfl
 m15:=by kernel_rfl
 m16:=by kernel_rfl
 m17:=by kernel_rfl
 m18:=by kernel_rfl
 m19:=by kernel_rfl
 c0:=by kernel_rfl
 c2:=by kernel_rfl
 c3:=by kernel_rfl
 c4:=by kernel_rfl
 c5:=by kernel_rfl
 c9:=by kernel_rfl
 c20:=by kernel_rfl
 c21:=by kernel_rfl
 c37:=by kernel_rfl
 c46:=by kernel_rfl
 c51:=by kernel_rfl
 c53:=by kernel_rfl
 c75:=by kernel_rfl
 c80:=by kernel_rfl
 c85:=by kernel_rfl
 c127:=by kernel_rfl
 c143:=by kernel_rfl
 c145:=by kernel_rfl
 c167:=by kernel_rfl
 c168:=by kernel_rfl
 c171:=by kernel_rfl
 c173:=by kernel_rfl
 c175:=by kernel_rfl
 c210:=by kernel_rfl
 c212:=by kernel_rfl
 c213:=by kernel_rfl
 c232:=by kernel_rfl
 c233:=by kernel_rfl }
open Go.RowKit in
theorem Tryz.strconv_ParseInt_10_at64_ok (s:ByteArray) (hmax:s.size<=9223372036854775806) (v:Int) (h:Lib.parseIntB 64 s.data.toList=.ok v) (w:World):
  Calls Tryz.prog 286 #[.string s,.int .i64 10,.int .i64 64] w fun e w'=>e=.returned (.tuple #[.int .i64 v,.nilIface])/\(w'=w\/∃ t,w'=Lib.bytesWorld w 5 t):=Any.strconv_ParseInt_10_at64_ok Tryz.laysC174 s hmax v h w
end Go.Proofs
end
namespace Go.Proofs.YtefdfaeieekioaaGreatDoor
open Go.Vc Go.RowKit Go.Fl
def Tab (w:World):Prop:=Lib.TabIs Tryz.prog w "internal/strconv.uint64pow10" .u64 Lib.pow10Tab
theorem Tab.below {w w':World} (h:Tab w) (hb:Below w.heap.size w w'):Tab w':=by
 unfold Tab Lib.TabIs World.var? at*
 cases hg:Tryz.prog.globalNamed "internal/strconv.uint64pow10" with
 | none=>simp [hg] at h
 | some g=>
  simp only [hg,Option.bind_some] at h ⊢
  have hlt:g<w.heap.size:=by
   rcases Nat.lt_or_ge g w.heap.size with h' | h'
   ·exact h'
   ·rw [Array.getElem?_eq_none h'] at h;cases h
  rw [hb.block g hlt]
  exact h
theorem grow_below {w w':World} (h:∃ k os,w'=Sort.grow (w.drewN k) os):Below w.heap.size w w':=by
 obtain⟨k,os,rfl⟩:=h
 exact Lib.below_grow _ _ (Nat.le_refl _) _ _
mutual
def putV:V->List UInt8
 | .mk k n s l=>
  let t:=if k==1 then Lib.itoa n else if k==3 then putL l else s.data.toList
  Lib.itoa (t.length:Int)++58::(t++[if k==1 then 35 else if k==3 then 93 else 44])
def putL:List V->List UInt8
 | []=>[]
 | v::r=>putV v++putL r
end
theorem itoa_any (n:Int) (h:i64ok n) (w:World) (ht:Tab w):Calls Tryz.prog 216 #[.int .i64 n] w (RetB (.string ⟨(Lib.itoa n).toArray⟩) w):=
 (Tryz.strconv_Itoa n h.1 h.2 w ht).mono fun e w' he=>⟨he.1,grow_below he.2⟩
theorem fmt_any (n:Int) (h:i64ok n) (w:World) (ht:Tab w):Calls Tryz.prog 213 #[.int .i64 n,.int .i64 10] w (RetB (.string ⟨(Lib.itoa n).toArray⟩) w):=
 (Tryz.strconv_FormatInt_10 n h.1 h.2 w ht).mono fun e w' he=>⟨he.1,grow_below he.2⟩
theorem putV_mem_le:∀ {l:List V} {v:V},v∈l->(putV v).length<=(putL l).length
 | x::r,v,hm=>by
  rw [putL,List.length_append]
  cases hm with
  | head=>omega
  | tail _ hm=>have:=putV_mem_le hm;omega
def V0:V:=.mk 0 0 ⟨#[]⟩ []
def txtV:V->List UInt8
 | .mk k n s l=>if k==1 then Lib.itoa n else if k==3 then putL l else s.data.toList
def endV:V->UInt8
 | .mk k n s l=>if k==1 then 35 else if k==3 then 93 else 44
theorem itoa_nat (n:Nat):Lib.itoa (n:Int)=Lib.decDigits n:=by
 unfold Lib.itoa
 rw [if_neg (by omega),Int.toNat_natCast]
theorem putV_eq (v:V):putV v=Lib.decDigits (txtV v).length++58::(txtV v++[endV v]):=by
 obtain⟨k,n,s,l⟩:=v
 rw [putV,<-itoa_nat]
 rfl
theorem putV_len (v:V):(putV v).length=(Lib.decDigits (txtV v).length).length+1+(txtV v).length+1:=by
 rw [putV_eq];simp;omega
theorem cntL_le (g:V->Int) (hg:∀ v,1<=g v):∀ (l:List V) (n:Int),cntL g l n<=6000->n+l.length<=cntL g l n/\∀ x∈l,g x<=6000-n
 | [],n,h=>by rw [cntL];simp
 | x::r,n,h=>by
  rw [cntL_cons] at h ⊢
  by_cases h1:6000<n+g x
  ·rw [if_pos h1] at h;omega
  ·rw [if_neg h1] at h ⊢
   have hx:=hg x
   obtain⟨h2,h3⟩:=cntL_le g hg r _ h
   refine⟨by rw [List.length_cons];omega,fun y hy=>?_⟩
   cases hy with
   | head=>omega
   | tail _ hy=>have:=h3 y hy;omega
theorem mt_empty {s:ByteArray} (h:mt s=true):s=⟨#[]⟩:=by
 have h2:strEq s ⟨#[]⟩=true:=h
 apply ByteArray.ext
 simpa [strEq] using h2
end Go.Proofs.YtefdfaeieekioaaGreatDoor
section
namespace Go.Vc
open Go Go.RowKit
section
variable {S0 S:Nat->Prop} {w0 w w':World} {l:List LB} {e sz:Nat} {A:Option Addr} {n cap:Nat} {xs:List Value} {n0:Nat}
theorem Locs.turned {S:Nat->Prop} {n0:Nat} {w w':World}:∀ {l:List LB} {k g T:Nat} {cs cs':List Value},Locs S n0 w l->l[k]?=some (g,T,cs)->Blk w' g T cs'->(∀ b,b<w.heap.size->b≠g->w'.heap[b]?=w.heap[b]?)->Locs S n0 w' (setLoc l k cs')
 | (g',T',c)::r,k,g,T,cs,cs',⟨h1,h2,h3,h4,h5⟩,hk,hb,ho=>by
  cases k with
  | zero=>
   simp at hk
   obtain⟨rfl,rfl,rfl⟩:=hk
   exact⟨h1,h2,hb,h4,h5.mono (fun x hx=>ho _ (h5.lt x hx) (h4 x hx)) (fun _ _ h=>h)⟩
  | succ k=>
   have hk':r[k]?=some (g,T,cs):=by simpa using hk
   have hne:g≠g':=h4 _ (List.mem_of_getElem? hk')
   refine⟨h1,h2,h3.of_eq (ho _ h3.lt (Ne.symm hne)),fun x hx=>?_,h5.turned hk' hb ho⟩
   obtain⟨y,hy,e⟩:=setLoc_mem hx
   rw [<-e];exact h4 y hy
theorem Ctx.turned (hc:Ctx S0 w0 S w l) (k:Nat) {g T:Nat} {cs cs':List Value} (h:l[k]?=some (g,T,cs)) (hg:w.grownBy w' (some g)) (hB:Blk w' g T cs'):
  Ctx S0 w0 S w' (setLoc l k cs')/\Fut S w S w':=by
 obtain⟨hn,hge⟩:=hc.locs.notS h
 refine⟨⟨hc.below.grown hg hc.below.size (fun k hk=>by cases hk;exact hge),hc.sub,hc.new,fun b hb=>Nat.lt_of_lt_of_le (hc.lt b hb) hg.size,hc.locs.turned h hB (fun b hb hne=>hg.block b hb (fun e=>hne (Option.some.inj e)))⟩,
  ⟨fun _ h=>h,fun b hb=>hg.block b (hc.lt b hb) (fun e=>hn ((Option.some.inj e)▸hb))⟩⟩
theorem Ctx.closed {g:Nat} {cur:List Value} (hc:Ctx S0 w0 S w ((g,e,cur)::l)) (sz n cap:Nat) (h1:n<=cap) (h2:cap<=maxLen) (h3:cur.length=cap*sz):
  Ctx S0 w0 S w l/\Own S w0.heap.size w l e sz (some ⟨g,0,none⟩) n cap (cur.take (n*sz)):=by
 obtain⟨k1,k2,k3,k4,k5⟩:=hc.locs
 refine⟨hc.drop,⟨?_,.inr ⟨g,cap,cur.toArray,rfl,k1,k3,h1,h2,by simpa using h3,by simp⟩⟩,fun a ha=>?_⟩
 ·rw [List.length_take,h3]
  exact Nat.min_eq_left (Nat.mul_le_mul_right _ h1)
 ·cases ha
  exact⟨k2,k4⟩
theorem Own.made (hc:Ctx S0 w0 S w l) {cs:List Value} {g:Nat} (hN:New w cs e g w') (sz n:Nat) (h:cs.length=n*sz) (hn:n<=maxLen):Ctx S0 w0 S w' l/\Fut S w S w'/\Own S w0.heap.size w' l e sz (some ⟨g,0,none⟩) n n cs:=by
 obtain⟨h1,h2⟩:=hc.loc hN
 obtain⟨h3,h4⟩:=h1.closed sz n n (Nat.le_refl _) hn h
 refine⟨h3,h2,?_⟩
 rw [List.take_of_length_le (Nat.le_of_eq h)] at h4
 exact h4
end
theorem Keeps.look {w x:World} (h:Keeps (fun b=>b<w.heap.size) w x) {a:Addr} {v:Value} (hc:w.cell? a=some v):x.cell? a=some v:=h.at hc (World.block_lt_of_cell? w a hc)
theorem Keeps.looks {w x:World} (h:Keeps (fun b=>b<w.heap.size) w x) {a:Addr}:∀ (cs:List Value) (i:Nat),Go.Vc.cellsAt w a cs i->Go.Vc.cellsAt x a cs i
 | [],_,_=>trivial
 | v::r,i,hc=>⟨h.look hc.1,h.looks r (i+1) hc.2⟩
theorem Row.back {S:Nat->Prop} {w:World} {A:Option Addr} {n cap:Nat} {xs:List Value} (hR:Row S w A n cap xs) (sz:Nat) (hx:xs.length=n*sz) (i:Nat) (j:Int) (hj:j=i) (hi:i<=n):
  Row S w (if (cap:Int)=j then A else A.map (·.add (j.toNat*sz))) (n-i) (cap-i) (xs.drop (i*sz)):=by
 have hjn:j.toNat=i:=by omega
 refine⟨Nat.sub_le_sub_right hR.1 i,Nat.le_trans (Nat.sub_le _ _) hR.2.1,fun h0=>?_⟩
 have hlt:i*sz<xs.length:=by
  rcases Nat.lt_or_ge (i*sz) xs.length with h | h
  ·exact h
  ·rw [List.drop_of_length_le h] at h0;exact absurd rfl h0
 have hin:i<n:=by
  rcases Nat.lt_or_ge i n with h | h
  ·exact h
  ·have:=Nat.mul_le_mul_right sz h
   omega
 have hcap:=hR.1
 rw [if_neg (by omega),hjn]
 obtain⟨ad,e,hs,hc⟩:=hR.2.2 (fun h=>by subst h;simp at hlt)
 subst e
 refine⟨ad.add (i*sz),rfl,by rw [add_block];exact hs,fun k u hu=>?_⟩
 rw [add_add]
 rw [List.getElem?_drop] at hu
 exact hc _ _ hu
theorem putAt_len:∀ (xs cs:List Value) (o:Nat),(putAt cs o xs).length=cs.length
 | [],_,_=>rfl
 | x::r,cs,o=>by rw [putAt,putAt_len r];simp
section
variable {P:Program} {w:World} {e sz bytes:Nat} {K:Value->World->Prop} {z:Value}
end
end Go.Vc
end
namespace Go.Proofs.YtefdfaeieekioaaGreatDoor
open Go.Vc Go.RowKit Go.Fl
structure Env (w:World):Prop where
 tab:Tab w
 syn:∃ tp p,w.var? Tryz.prog "strconv.ErrSyntax"=some #[.iface tp p]
 rng:∃ tp p,w.var? Tryz.prog "strconv.ErrRange"=some #[.iface tp p]
theorem var_below {w w':World} {n:String} {x:Array Value} (h:w.var? Tryz.prog n=some x) (hb:Below w.heap.size w w'):w'.var? Tryz.prog n=some x:=by
 unfold World.var? at*
 cases hg:Tryz.prog.globalNamed n with
 | none=>simp [hg] at h
 | some g=>
  simp only [hg,Option.bind_some] at h ⊢
  have hlt:g<w.heap.size:=by
   rcases Nat.lt_or_ge g w.heap.size with h' | h'
   ·exact h'
   ·rw [Array.getElem?_eq_none h'] at h;cases h
  rw [hb.block g hlt]
  exact h
theorem Env.below {w w':World} (h:Env w) (hb:Below w.heap.size w w'):Env w':=
 ⟨h.tab.below hb,by obtain⟨a,b,c⟩:=h.syn;exact⟨a,b,var_below c hb⟩,by obtain⟨a,b,c⟩:=h.rng;exact⟨a,b,var_below c hb⟩⟩
theorem bytes_below {w w':World} {e:TypeId} (h:w'=w\/∃ t,w'=Lib.bytesWorld w e t):Below w.heap.size w w':=by
 rcases h with rfl | ⟨t,rfl⟩
 ·exact Below.refl _ _
 ·exact Lib.bytesWorld_below w e t
theorem parse_ok (t:List UInt8) (ht:t.length<=1073741824) (n:Int) (h:Lib.parseIntB 64 t=.ok n) (w:World):Calls Tryz.prog 286 #[.string ⟨t.toArray⟩,.int .i64 10,.int .i64 64] w (RetB (.tuple #[.int .i64 n,.nilIface]) w):=
 (Tryz.strconv_ParseInt_10_at64_ok ⟨t.toArray⟩ (by rw [ba_size];omega) n h w).mono fun e w' he=>⟨he.1,bytes_below he.2⟩
theorem RepC.V0 (S:Nat->Prop) (w:World):RepC S w V0 [.int .i64 0,.int .i64 0,.string ⟨#[]⟩,.slice none 0 0]:=by
 rw [Go.Proofs.YtefdfaeieekioaaGreatDoor.V0,RepC]
 exact⟨none,0,[],rfl,by rw [RepL],Nat.le_refl _,Nat.zero_le _,fun h=>absurd rfl h⟩
theorem RepC.sub {S S':Nat->Prop} {w:World} {v:V} {cs:List Value} (h:RepC S w v cs) (hs:∀ b,S b->S' b):RepC S' w v cs:=RepC.map (fun h=>h.sub hs) h
theorem RepL.sub {S S':Nat->Prop} {w:World} {v:List V} {cs:List Value} (h:RepL S w v cs) (hs:∀ b,S b->S' b):RepL S' w v cs:=RepL.map (fun h=>h.sub hs) h
theorem RepC.fut {S S':Nat->Prop} {w w':World} {v:V} {cs:List Value} (h:RepC S w v cs) (f:Fut S w S' w'):RepC S' w' v cs:=RepC.map (fun h=>h.fut f) h
theorem RepL.fut {S S':Nat->Prop} {w w':World} {v:List V} {cs:List Value} (h:RepL S w v cs) (f:Fut S w S' w'):RepL S' w' v cs:=RepL.map (fun h=>h.fut f) h
def ResG (q:V × Nat × Int) (w:World) (e:Ending) (w':World):Prop:=∃ cs,e=.returned (.tuple #[.agg cs.toArray,.int .i64 (q.2.1:Nat),.int .i64 q.2.2])/\Below w.heap.size w w'/\RepC (ext no w w') w' q.1 cs
theorem ResG.err {w w':World} (hb:Below w.heap.size w w') (e:Int):ResG (V0,0,e) w (.returned (.tuple #[.agg #[.int .i64 0,.int .i64 0,.string ⟨#[]⟩,.slice none 0 0],.int .i64 0,.int .i64 e])) w':=
 ⟨[.int .i64 0,.int .i64 0,.string ⟨#[]⟩,.slice none 0 0],rfl,hb,RepC.V0 _ _⟩
structure Ver where
 ver:Int
 gone:Bool
 body:ByteArray
structure Ent where
 key:ByteArray
 vs:List Ver
structure Res where
 err:Int
 ver:Int
structure Mem where
 req:Int
 res:Res
structure Stt where
 seq:Int
 l:List Ent
 ms:List Mem
 lows:List Int
def verC (v:Ver):List Value:=[.int .i64 v.ver,.bool v.gone,.string v.body]
def memC (m:Mem):List Value:=[.int .i64 m.req,.int .i64 m.res.err,.int .i64 m.res.ver]
def lowC (n:Int):Value:=.int .i64 n
def Flat (k:Nat) (css:List (List Value)):Prop:=∀ c∈css,c.length=k/\allOne c=true
theorem Flat.len {k:Nat}:∀ {css:List (List Value)},Flat k css->css.flatten.length=css.length*k
 | [],_=>by simp
 | c::r,h=>by
  rw [List.flatten_cons,List.length_append,(h c (by simp)).1,Flat.len (fun x hx=>h x (by simp [hx])),List.length_cons,Nat.succ_mul,Nat.add_comm]
theorem Flat.get {k:Nat}:∀ {css:List (List Value)},Flat k css->∀ (i:Nat) (hi:i<css.length) (j:Nat) (u:Value),css[i][j]?=some u->css.flatten[i*k+j]?=some u
 | c::r,h,0,_,j,u,hu=>by
  have hj:j<c.length:=by
   rcases Nat.lt_or_ge j c.length with h | h
   ·exact h
   ·rw [List.getElem_cons_zero,List.getElem?_eq_none h] at hu;cases hu
  rw [List.flatten_cons,Nat.zero_mul,Nat.zero_add,List.getElem?_append_left hj]
  exact hu
 | c::r,h,i+1,hi,j,u,hu=>by
  have hc:=(h c (by simp)).1
  rw [List.flatten_cons,List.getElem?_append_right (by rw [hc,Nat.succ_mul];omega),hc,show (i+1)*k+j-k=i*k+j from by rw [Nat.succ_mul];omega]
  exact Flat.get (fun x hx=>h x (by simp [hx])) i (Nat.lt_of_succ_lt_succ hi) j u hu
theorem Flat.take {k:Nat} {css:List (List Value)} (h:Flat k css) (n:Nat):Flat k (css.take n):=fun c hc=>h c (List.mem_of_mem_take hc)
theorem Flat.drop {k:Nat} {css:List (List Value)} (h:Flat k css) (n:Nat):Flat k (css.drop n):=fun c hc=>h c (List.mem_of_mem_drop hc)
theorem Flat.append {k:Nat} {a b:List (List Value)} (ha:Flat k a) (hb:Flat k b):Flat k (a++b):=fun c hc=>by
 rw [List.mem_append] at hc
 rcases hc with h | h
 ·exact ha c h
 ·exact hb c h
theorem Flat.map {α:Type} {k:Nat} (f:α->List Value) (hf:∀ a,(f a).length=k/\allOne (f a)=true) (l:List α):Flat k (l.map f):=fun c hc=>by
 obtain⟨a,_,rfl⟩:=List.mem_map.1 hc
 exact hf a
theorem Row.elemF {S:Nat->Prop} {w:World} {A:Option Addr} {n cap k:Nat} {css:List (List Value)} (hR:Row S w A n cap css.flatten) (hk:0<k) (hF:Flat k css) (i:Nat) (hi:i<css.length):
  ∃ ad,A=some ad/\Go.Vc.cellsAt w (ad.add (i*k)) css[i] 0:=by
 have hx:=hF.len
 have h1:(i+1)*k<=css.length*k:=Nat.mul_le_mul_right _ hi
 rw [Nat.succ_mul] at h1
 obtain⟨ad,e,hc⟩:=hR.get (i:=i*k) (by omega)
 refine⟨ad,e,?_⟩
 exact row_cells hc (i*k) css[i] 0 (fun j u hu=>by rw [Nat.add_zero];exact hF.get i hi j u hu)
def RepE (S:Nat->Prop) (w:World) (e:Ent) (cs:List Value):Prop:=∃ A cap,cs=[.string e.key,.slice A e.vs.length cap]/\Row S w A e.vs.length cap (e.vs.map verC).flatten
def RepEs (S:Nat->Prop) (w:World):List Ent->List (List Value)->Prop
 | [],css=>css=[]
 | e::r,css=>∃ c t,css=c::t/\RepE S w e c/\RepEs S w r t
theorem RepE.map {S S':Nat->Prop} {w w':World} (h:∀ {A:Option Addr} {n cap:Nat} {xs:List Value},Row S w A n cap xs->Row S' w' A n cap xs) {e:Ent} {cs:List Value} (hr:RepE S w e cs):RepE S' w' e cs:=by
 obtain⟨A,cap,e1,e2⟩:=hr
 exact⟨A,cap,e1,h e2⟩
theorem RepEs.map {S S':Nat->Prop} {w w':World} (h:∀ {A:Option Addr} {n cap:Nat} {xs:List Value},Row S w A n cap xs->Row S' w' A n cap xs):∀ {l:List Ent} {css:List (List Value)},RepEs S w l css->RepEs S' w' l css
 | [],_,hr=>hr
 | e::r,_,⟨c,t,e1,e2,e3⟩=>⟨c,t,e1,e2.map h,RepEs.map h e3⟩
theorem RepE.below {S:Nat->Prop} {w w':World} {e:Ent} {cs:List Value} (h:RepE S w e cs) (hb:Below w.heap.size w w'):RepE S w' e cs:=h.map (fun h=>h.below hb)
theorem RepEs.below {S:Nat->Prop} {w w':World} {l:List Ent} {css:List (List Value)} (h:RepEs S w l css) (hb:Below w.heap.size w w'):RepEs S w' l css:=h.map (fun h=>h.below hb)
theorem RepEs.len {S:Nat->Prop} {w:World}:∀ {l:List Ent} {css:List (List Value)},RepEs S w l css->css.length=l.length
 | [],_,h=>by rw [show _=[] from h];rfl
 | e::r,_,⟨c,t,e1,e2,e3⟩=>by rw [e1,List.length_cons,e3.len,List.length_cons]
theorem RepEs.get {S:Nat->Prop} {w:World}:∀ {l:List Ent} {css:List (List Value)},RepEs S w l css->∀ (i:Nat) (hi:i<l.length) (hj:i<css.length),RepE S w l[i] css[i]
 | e::r,_,⟨c,t,e1,e2,e3⟩,0,_,_=>by subst e1;exact e2
 | e::r,_,⟨c,t,e1,e2,e3⟩,i+1,hi,hj=>by subst e1;exact e3.get i (Nat.lt_of_succ_lt_succ hi) (Nat.lt_of_succ_lt_succ hj)
theorem RepEs.append {S:Nat->Prop} {w:World}:∀ {l m:List Ent} {a b:List (List Value)},RepEs S w l a->RepEs S w m b->RepEs S w (l++m) (a++b)
 | [],_,_,_,h,hb=>by rw [show _=[] from h];exact hb
 | e::r,_,_,_,⟨c,t,e1,e2,e3⟩,hb=>by subst e1;exact⟨c,_,rfl,e2,e3.append hb⟩
theorem RepEs.take {S:Nat->Prop} {w:World}:∀ {l:List Ent} {css:List (List Value)} (i:Nat),RepEs S w l css->RepEs S w (l.take i) (css.take i)
 | _,_,0,_=>by simp [RepEs]
 | [],_,i+1,h=>by rw [show _=[] from h];simp [RepEs]
 | e::r,_,i+1,⟨c,t,e1,e2,e3⟩=>by subst e1;exact⟨c,_,rfl,e2,e3.take i⟩
theorem RepEs.drop {S:Nat->Prop} {w:World}:∀ {l:List Ent} {css:List (List Value)} (i:Nat),RepEs S w l css->RepEs S w (l.drop i) (css.drop i)
 | _,_,0,h=>h
 | [],_,i+1,h=>by rw [show _=[] from h];simp [RepEs]
 | e::r,_,i+1,⟨c,t,e1,e2,e3⟩=>by subst e1;exact e3.drop i
def RepS (S:Nat->Prop) (w:World) (s:Stt) (cs:List Value):Prop:=
 ∃ A cap css B cap',cs=[.int .i64 s.seq,.slice A s.l.length cap,.slice B s.ms.length cap']++s.lows.map lowC/\s.lows.length=5/\RepEs S w s.l css/\Row S w A s.l.length cap css.flatten/\Row S w B s.ms.length cap' (s.ms.map memC).flatten
theorem RepS.map {S S':Nat->Prop} {w w':World} (h:∀ {A:Option Addr} {n cap:Nat} {xs:List Value},Row S w A n cap xs->Row S' w' A n cap xs) {s:Stt} {cs:List Value} (hr:RepS S w s cs):RepS S' w' s cs:=by
 obtain⟨A,cap,css,B,cap',e1,e2,e3,e4,e5⟩:=hr
 exact⟨A,cap,css,B,cap',e1,e2,e3.map h,h e4,h e5⟩
theorem RepS.below {S:Nat->Prop} {w w':World} {s:Stt} {cs:List Value} (h:RepS S w s cs) (hb:Below w.heap.size w w'):RepS S w' s cs:=h.map (fun h=>h.below hb)
def Ver0:Ver:=⟨0,false,⟨#[]⟩⟩
def eqVer (a b:Ver):Bool:=a.ver==b.ver&&a.gone==b.gone&&strEq a.body b.body
theorem strEq_iff {a b:ByteArray}:strEq a b=true↔a=b:=by
 unfold strEq
 rw [beq_iff_eq]
 constructor
 ·intro h
  cases a;cases b
  simpa using h
 ·intro h;rw [h]
def eqMem (a b:Mem):Bool:=a.req==b.req&&a.res.err==b.res.err&&a.res.ver==b.res.ver
def eqAll {α:Type} (p:α->α->Bool):List α->List α->Bool
 | [],[]=>true
 | a::r,b::t=>p a b&&eqAll p r t
 | [],_::_=>false
 | _::_,[]=>false
def eqE (a b:Ent):Bool:=strEq a.key b.key&&eqAll eqVer a.vs b.vs
def verOk (v:Ver):Bool:=decide (1<=v.ver)&&decide (v.ver<=1099511627776)&&decide ((v.body.size:Int)<=300)&&(!v.gone||mt v.body)
def risV:Int->List Ver->Bool
 | _,[]=>true
 | a,v::r=>verOk v&&decide (a<v.ver)&&risV v.ver r
def mayE (e:Ent):Bool:=risV 0 e.vs&&keyB e.key&&decide (1<=e.vs.length)&&decide (e.vs.length<=12)
def lastV (l:List Ver):Ver:=l.getLastD Ver0
def nowE (e:Ent):Ver × Bool:=if e.vs.length=0 then (Ver0,false) else (lastV e.vs,!(lastV e.vs).gone)
def idxV:List Ver->Int->Option Nat
 | [],_=>none
 | v::r,n=>if v.ver==n then some 0 else (idxV r n).map (·+1)
def tagOf (s:ByteArray):ByteArray:=⟨(zText (zOn (0,1) s.data.toList)).toArray⟩
def holdsE (e:Ent) (c:Int) (tag:ByteArray):Bool:=if c==0 then true else if c==1 then !(nowE e).2 else if c==2 then (nowE e).2&&strEq (tagOf (nowE e).1.body) tag else false
def maxN:Int:=1099511627776
def risE (seq:Int):Option ByteArray->List Ent->Bool
 | _,[]=>true
 | p,e::r=>mayE e&&decide ((lastV e.vs).ver<=seq)&&(match p with | none=>true | some k=>strLt k e.key)&&risE seq (some e.key) r
def lowsB:Nat->List Int->Bool
 | _,[]=>true
 | i,x::r=>(x==0||homeI x==(i:Int)+1)&&lowsB (i+1) r
def lowAt (lows:List Int) (h:Int):Int:=lows.getD (h-1).toNat 0
def memB (lows:List Int) (seq:Int):Option Int->List Mem->Bool
 | _,[]=>true
 | p,m::r=>!(homeI m.req==0)&&decide (lowAt lows (homeI m.req)<=m.req)&&(match p with | none=>true | some q=>decide (q<m.req))&&
   decide (0<=m.res.err)&&decide (m.res.err<=13)&&decide (0<=m.res.ver)&&decide (m.res.ver<=seq)&&memB lows seq (some m.req) r
def mayS (s:Stt):Bool:=
 decide (0<=s.seq)&&decide (s.seq<=maxN)&&decide (s.l.length<=40)&&decide (s.ms.length<=100)&&risE s.seq none s.l&&lowsB 0 s.lows&&memB s.lows s.seq none s.ms
def posK:List Ent->ByteArray->Nat
 | [],_=>0
 | e::r,k=>if strLt e.key k then posK r k+1 else 0
def posM:List Mem->Int->Nat
 | [],_=>0
 | m::r,n=>if m.req<n then posM r n+1 else 0
def entAt (l:List Ent) (k:ByteArray):Option Ent:=
 match l[posK l k]? with
 | some e=>if strEq e.key k then some e else none
 | none=>none
def memAt (l:List Mem) (n:Int):Option Mem:=
 match l[posM l n]? with
 | some m=>if m.req==n then some m else none
 | none=>none
def putK (l:List Ent) (k:ByteArray) (has:Bool) (e:List Ent):List Ent:=l.take (posK l k)++e++l.drop (if has then posK l k+1 else posK l k)
def doK (l:List Ent) (seq:Int) (d:D):List Ent × Res:=
 let has:=(entAt l d.key).isSome
 let e:=(entAt l d.key).getD ⟨d.key,[]⟩
 if d.kind==3 then
  match idxV e.vs d.ver with
  | none=>(l,⟨6,0⟩)
  | some j=>(putK l d.key has (if (e.vs.take j++e.vs.drop (j+1)).length=0 then [] else [⟨e.key,e.vs.take j++e.vs.drop (j+1)⟩]),⟨0,d.ver⟩)
 else if d.kind==1&&!holdsE e d.cond d.tag then (l,⟨9,0⟩)
 else if d.kind==2&&!has then (l,⟨6,0⟩)
 else if 12<=e.vs.length||(!has&&decide (40<=l.length)) then (l,⟨5,0⟩)
 else (putK l d.key has [⟨e.key,e.vs++[⟨seq,d.kind==2,d.body⟩]⟩],⟨0,seq⟩)
def keepM (low:Int) (h:Int) (l:List Mem):List Mem:=l.filter fun m=>!(decide (m.req<low)&&homeI m.req==h)
def doS (s:Stt) (d:D):Stt × Res:=
 if !mayS s||!mayD d then (s,⟨1,0⟩)
 else if maxN<=s.seq then (s,⟨5,0⟩)
 else if d.req<lowAt s.lows (homeI d.req) then (⟨s.seq+1,s.l,s.ms,s.lows⟩,⟨12,0⟩)
 else match memAt s.ms d.req with
  | some m=>(⟨s.seq+1,s.l,s.ms,s.lows⟩,m.res)
  | none=>
   if 100<=s.ms.length then (⟨s.seq+1,s.l,s.ms,s.lows⟩,⟨5,0⟩)
   else
    let q:=doK s.l (s.seq+1) d
    let ms:=s.ms.take (posM s.ms d.req)++⟨d.req,q.2⟩::s.ms.drop (posM s.ms d.req)
    if lowAt s.lows (homeI d.req)<d.low/\homeI d.low=homeI d.req then
     (⟨s.seq+1,q.1,keepM d.low (homeI d.req) ms,s.lows.set (homeI d.req-1).toNat d.low⟩,q.2)
    else (⟨s.seq+1,q.1,ms,s.lows⟩,q.2)
def vStr (s:ByteArray):V:=.mk 2 0 s []
def vN:V->Int | .mk _ n _ _=>n
def vS:V->ByteArray | .mk _ _ s _=>s
def vL:V->List V | .mk _ _ _ l=>l
def atV (v:V) (i:Nat):V:=(vL v).getD i V0
def Stt0:Stt:=⟨0,[],[],[0,0,0,0,0]⟩
mutual
theorem eqV_eq:∀ (a b:V),eqV a b=true->a=b
 | .mk k n s l,.mk k' n' s' l',h=>by
  rw [eqV] at h
  simp only [Bool.and_eq_true,beq_iff_eq] at h
  obtain⟨⟨⟨h1,h2⟩,h3⟩,h4⟩:=h
  rw [h1,h2,strEq_iff.1 h3,eqL_eq l l' h4]
theorem eqL_eq:∀ (a b:List V),eqL a b=true->a=b
 | [],[],_=>rfl
 | x::r,y::t,h=>by
  rw [eqL] at h
  simp only [Bool.and_eq_true] at h
  rw [eqV_eq x y h.1,eqL_eq r t h.2]
 | [],_::_,h=>by rw [eqL] at h;cases h
 | _::_,[],h=>by rw [eqL] at h;cases h
end
def vK:V->Int | .mk k _ _ _=>k
theorem RepL.cons {S:Nat->Prop} {w:World} {v:V} {r:List V} {c xs:List Value} (h:RepC S w v c) (h2:RepL S w r xs):RepL S w (v::r) (c++xs):=by
 rw [RepL]
 exact⟨c,xs,h,h2,rfl⟩
theorem RepL.nil (S:Nat->Prop) (w:World):RepL S w [] []:=by rw [RepL]
def dC (d:D):List Value:=[.int .i64 d.kind,.string d.key,.string d.body,.int .i64 d.ver,.int .i64 d.cond,.string d.tag,.int .i64 d.req,.int .i64 d.low]
theorem small_strs {f:Nat} {x:V} (h:cnt f x<=6000):(vS x).size<=(putV x).length:=by
 obtain⟨k,n,s,l⟩:=x
 cases f with
 | zero=>rw [cnt] at h;omega
 | succ f=>
  rw [cnt] at h
  show s.size<=_
  rw [putV_len]
  by_cases h1:(k==1&&mt s&&((l.length:Int)==0))||(k==2&&n==0&&((l.length:Int)==0))
  ·simp only [Bool.or_eq_true,Bool.and_eq_true,beq_iff_eq] at h1
   rcases h1 with ⟨⟨h1,h2⟩,h3⟩ | ⟨⟨h1,h2⟩,h3⟩
   ·rw [mt_empty h2];exact Nat.zero_le _
   ·subst h1
    have e:(txtV (.mk 2 n s l)).length=s.size:=ba_len s
    rw [e];omega
  ·rw [if_neg h1] at h
   by_cases h2:(k != 3||!(n==0)||!mt s)=true
   ·rw [if_pos h2] at h;omega
   ·simp only [Bool.or_eq_true,not_or,Bool.not_eq_true] at h2
    have h4:mt s=true:=by simpa using h2.2
    rw [mt_empty h4];exact Nat.zero_le _
def okM (lows:List Int) (seq:Int) (m:Mem):Bool:=!(homeI m.req==0)&&decide (lowAt lows (homeI m.req)<=m.req)&&decide (0<=m.res.err)&&decide (m.res.err<=13)&&decide (0<=m.res.ver)&&decide (m.res.ver<=seq)
theorem toList_strEq (a b:ByteArray):(a.toList==b.toList)=strEq a b:=by
 rw [ByteArray.toList_eq,ByteArray.toList_eq]
 rfl
theorem eqVer_in (d:Nat) (w:World) (a b:Ver):(Op.equalIn (d+2) 147 (.agg (verC a).toArray) (.agg (verC b).toArray)).run Tryz.prog w=.ok (eqVer a b) w:=by
 have e:=run_equalIn_struct (P:=Tryz.prog) w (d+1) 147 (verC a).toArray (verC b).toArray (by kernel_rfl) (by kernel_rfl)
 rw [e]
 have hf:(Tryz.prog.fieldsOf 147).toList=(match Tryz.prog.underlying 147 with | some (.struct fs)=>fs.toList | _=>[]):=by kernel_rfl
 rw [hf,Tryz.underlying147]
 simp [verC,eqVer,<-toList_strEq,Op.eqFields,run_equalIn_int _ _ _ _ _ _ _ Tryz.underlying2,run_equalIn_bool' _ _ _ _ _ Tryz.underlying4,run_equalIn_string _ _ _ _ _ Tryz.underlying9,part,isAgg,run_underlying Tryz.underlying2,run_underlying Tryz.underlying4,run_underlying Tryz.underlying9]
 by_cases h1:a.ver=b.ver<;>by_cases h2:a.gone=b.gone<;>by_cases h3:a.body.toList=b.body.toList<;>simp [h1,h2,h3]
theorem eqRes_in (d:Nat) (w:World) (a b:Res):(Op.equalIn (d+2) 36 (.agg #[.int .i64 a.err,.int .i64 a.ver]) (.agg #[.int .i64 b.err,.int .i64 b.ver])).run Tryz.prog w=.ok (a.err==b.err&&a.ver==b.ver) w:=by
 have e:=run_equalIn_struct (P:=Tryz.prog) w (d+1) 36 #[.int .i64 a.err,.int .i64 a.ver] #[.int .i64 b.err,.int .i64 b.ver] (by kernel_rfl) (by kernel_rfl)
 rw [e]
 have hf:(Tryz.prog.fieldsOf 36).toList=(match Tryz.prog.underlying 36 with | some (.struct fs)=>fs.toList | _=>[]):=by kernel_rfl
 rw [hf,Tryz.underlying36]
 simp [Op.eqFields,run_equalIn_int _ _ _ _ _ _ _ Tryz.underlying2,run_equalIn_int _ _ _ _ _ _ _ Tryz.underlying34,part,isAgg,run_underlying Tryz.underlying2,run_underlying Tryz.underlying34]
 by_cases h1:a.err=b.err<;>by_cases h2:a.ver=b.ver<;>simp [h1,h2]
theorem size_res (w:World):(Go.sizeOf 36).run Tryz.prog w=.ok 2 w:=by kernel_rfl
theorem eqMem_in (d:Nat) (w:World) (a b:Mem):(Op.equalIn (d+3) 101 (.agg (memC a).toArray) (.agg (memC b).toArray)).run Tryz.prog w=.ok (eqMem a b) w:=by
 have e:=run_equalIn_struct (P:=Tryz.prog) w (d+2) 101 (memC a).toArray (memC b).toArray (by kernel_rfl) (by kernel_rfl)
 rw [e]
 have hf:(Tryz.prog.fieldsOf 101).toList=(match Tryz.prog.underlying 101 with | some (.struct fs)=>fs.toList | _=>[]):=by kernel_rfl
 rw [hf,Tryz.underlying101]
 have hr:∀ w,(Op.equalIn (d+2) 36 (.agg #[.int .i64 a.res.err,.int .i64 a.res.ver]) (.agg #[.int .i64 b.res.err,.int .i64 b.res.ver])).run Tryz.prog w=.ok (a.res.err==b.res.err&&a.res.ver==b.res.ver) w:=fun w=>eqRes_in d w a.res b.res
 simp [memC,eqMem,Op.eqFields,run_equalIn_int _ _ _ _ _ _ _ Tryz.underlying2,part,isAgg,run_underlying Tryz.underlying2,run_underlying Tryz.underlying36,size_res,hr]
 by_cases h1:a.req=b.req<;>by_cases h2:a.res.err=b.res.err<;>by_cases h3:a.res.ver=b.res.ver<;>simp [h1,h2,h3]
def eqD (a b:D):Bool:=a.kind==b.kind&&(strEq a.key b.key&&(strEq a.body b.body&&(a.ver==b.ver&&(a.cond==b.cond&&(strEq a.tag b.tag&&(a.req==b.req&&a.low==b.low))))))
theorem eqD_in (d:Nat) (w:World) (a b:D):(Op.equalIn (d+2) 45 (.agg (dC a).toArray) (.agg (dC b).toArray)).run Tryz.prog w=.ok (eqD a b) w:=by
 have e:=run_equalIn_struct (P:=Tryz.prog) w (d+1) 45 (dC a).toArray (dC b).toArray (by kernel_rfl) (by kernel_rfl)
 rw [e]
 have hf:(Tryz.prog.fieldsOf 45).toList=(match Tryz.prog.underlying 45 with | some (.struct fs)=>fs.toList | _=>[]):=by kernel_rfl
 rw [hf,Tryz.underlying45]
 simp [dC,eqD,<-toList_strEq,Op.eqFields,run_equalIn_int _ _ _ _ _ _ _ Tryz.underlying2,run_equalIn_int _ _ _ _ _ _ _ Tryz.underlying3,run_equalIn_string _ _ _ _ _ Tryz.underlying9,part,isAgg,run_underlying Tryz.underlying2,run_underlying Tryz.underlying3,run_underlying Tryz.underlying9]
 by_cases h1:a.kind=b.kind
 rotate_left
 ·simp [h1]
 by_cases h2:a.key.toList=b.key.toList
 rotate_left
 ·simp [h1,h2]
 by_cases h3:a.body.toList=b.body.toList
 rotate_left
 ·simp [h1,h2,h3]
 by_cases h4:a.ver=b.ver
 rotate_left
 ·simp [h1,h2,h3,h4]
 by_cases h5:a.cond=b.cond
 rotate_left
 ·simp [h1,h2,h3,h4,h5]
 by_cases h6:a.tag.toList=b.tag.toList
 rotate_left
 ·simp [h1,h2,h3,h4,h5,h6]
 by_cases h7:a.req=b.req<;>by_cases h8:a.low=b.low<;>simp [h1,h2,h3,h4,h5,h6,h7,h8]
theorem eql_run {T:TypeId} {xs ys:Array Value} {r:Bool} (hm:Tryz.prog.eqGuardType Tryz.prog.depth T=false) (h:∀ w,(Op.equalIn 10000 T (.agg xs) (.agg ys)).run Tryz.prog w=.ok r w) (ox oy:Operand) (w:World):
  (do eqGuard .eql T ox oy (.agg xs) (.agg ys);Go.binOp .eql T (.agg xs) (.agg ys):Sem Value).run Tryz.prog w=.ok (.bool r) w:=by
 simp only [Sem.run_bind,run_eqGuard_agg w .eql T ox oy xs ys hm,Result.andThen_ok,run_eql_struct,h]
theorem neq_run {T:TypeId} {xs ys:Array Value} {r:Bool} (hm:Tryz.prog.eqGuardType Tryz.prog.depth T=false) (h:∀ w,(Op.equalIn 10000 T (.agg xs) (.agg ys)).run Tryz.prog w=.ok r w) (ox oy:Operand) (w:World):
  (do eqGuard .neq T ox oy (.agg xs) (.agg ys);Go.binOp .neq T (.agg xs) (.agg ys):Sem Value).run Tryz.prog w=.ok (.bool (!r)) w:=by
 simp only [Sem.run_bind,run_eqGuard_agg w .neq T ox oy xs ys hm,Result.andThen_ok,run_neq_struct,h]
theorem gd_ver:Tryz.prog.eqGuardType Tryz.prog.depth 147=false:=by kernel_rfl
theorem gd_res:Tryz.prog.eqGuardType Tryz.prog.depth 36=false:=by kernel_rfl
theorem gd_mem:Tryz.prog.eqGuardType Tryz.prog.depth 101=false:=by kernel_rfl
theorem gd_deed:Tryz.prog.eqGuardType Tryz.prog.depth 45=false:=by kernel_rfl
theorem Row.cut {S:Nat->Prop} {w:World} {A:Option Addr} {n cap k:Nat} {css:List (List Value)} (hR:Row S w A n cap css.flatten) (hF:Flat k css) (hk:0<k) (hn:css.length=n) (hA:A=none):n=0/\css.flatten=[]:=by
 subst hA
 rcases Nat.eq_zero_or_pos n with h | h
 ·refine⟨h,List.eq_nil_of_length_eq_zero ?_⟩
  rw [hF.len,hn,h,Nat.zero_mul]
 ·obtain⟨ad,e,_⟩:=Row.elemF hR hk hF 0 (by omega)
  cases e
theorem RepS.shape {S:Nat->Prop} {w:World} {s:Stt} {cs:List Value} (h:RepS S w s cs):∃ A cap css B cap' l0 l1 l2 l3 l4,cs=[.int .i64 s.seq,.slice A s.l.length cap,.slice B s.ms.length cap',.int .i64 l0,.int .i64 l1,.int .i64 l2,.int .i64 l3,.int .i64 l4]/\
  s.lows=[l0,l1,l2,l3,l4]/\RepEs S w s.l css/\Row S w A s.l.length cap css.flatten/\Row S w B s.ms.length cap' (s.ms.map memC).flatten:=by
 obtain⟨A,cap,css,B,cap',e1,e2,e3,e4,e5⟩:=h
 match hl:s.lows,e2 with
 | [l0,l1,l2,l3,l4],_=>
  rw [hl] at e1
  exact⟨A,cap,css,B,cap',l0,l1,l2,l3,l4,e1,rfl,e3,e4,e5⟩
theorem lows_in (d:Nat) (w:World) (a0 a1 a2 a3 a4 b0 b1 b2 b3 b4:Int):(Op.equalIn (d+2) 39 (.agg #[.int .i64 a0,.int .i64 a1,.int .i64 a2,.int .i64 a3,.int .i64 a4]) (.agg #[.int .i64 b0,.int .i64 b1,.int .i64 b2,.int .i64 b3,.int .i64 b4])).run Tryz.prog w=.ok ([a0,a1,a2,a3,a4]==[b0,b1,b2,b3,b4]) w:=by
 have hs:∀ w,(Go.sizeOf 2).run Tryz.prog w=.ok 1 w:=fun w=>by kernel_rfl
 have step:∀ (x y:Int) w,(Op.equalIn (d+1) 2 (.int .i64 x) (.int .i64 y)).run Tryz.prog w=.ok (x==y) w:=fun x y w=>run_equalIn_int w d 2 .i64 .i64 x y Tryz.underlying2
 rw [Op.equalIn]
 generalize Op.equalIn (d+1)=F at step ⊢
 simp only [Sem.run_bind,run_underlying Tryz.underlying39,Result.andThen_ok,hs,Std.Legacy.Range.forIn_eq_forIn_range',Std.Legacy.Range.size]
 simp [List.range',part,isAgg,run_underlying Tryz.underlying2,step]
 by_cases h0:a0=b0
 rotate_left
 ·simp [h0]
 by_cases h1:a1=b1
 rotate_left
 ·simp [h0,h1]
 by_cases h2:a2=b2
 rotate_left
 ·simp [h0,h1,h2]
 by_cases h3:a3=b3<;>by_cases h4:a4=b4<;>simp [h0,h1,h2,h3,h4]
theorem gd_lows:Tryz.prog.eqGuardType Tryz.prog.depth 39=false:=by kernel_rfl
structure Ver.Ok (v:Ver):Prop where
 ver:i64ok v.ver
 body:strok v.body
structure Ent.Ok (e:Ent):Prop where
 key:strok e.key
 vs:∀ v∈e.vs,v.Ok
structure Mem.Ok (m:Mem):Prop where
 req:i64ok m.req
 err:i64ok m.res.err
 ver:i64ok m.res.ver
structure Stt.Ok (s:Stt):Prop where
 seq:i64ok s.seq
 l:∀ e∈s.l,e.Ok
 ms:∀ m∈s.ms,m.Ok
 lows:∀ x∈s.lows,i64ok x
theorem Blk.shape {w:World} {g T:Nat} {cs:List Value} (h:Blk w g T cs):w.shape? g=some (T,cs.length):=by
 unfold Blk at h
 unfold World.shape?
 rw [h]
 simp
theorem Own.seen {S:Nat->Prop} {w:World} {l:List LB} {e sz:Nat} {A:Option Addr} {n cap:Nat} {xs:List Value} {n0:Nat} (h:Own S n0 w l e sz A n cap xs):Row (fun b=>∃ a,A=some a/\a.block=b) w A n cap xs:=by
 obtain⟨f1,f2⟩:=h.fit
 refine⟨f1,f2,fun hx=>?_⟩
 obtain⟨e0,h3⟩:=h.row
 rcases h3 with ⟨h3,rfl⟩ | ⟨g,cp,cur,e1,_,_,_,_,_,_⟩
 ·rw [Nat.zero_mul] at e0
  exact absurd (List.eq_nil_of_length_eq_zero e0) hx
 ·cases e1
  exact⟨_,rfl,⟨_,rfl,rfl⟩,h.row.cells rfl⟩
end Go.Proofs.YtefdfaeieekioaaGreatDoor
section
namespace Go.Vc
open Go Go.RowKit
structure CtxR (S0:Nat->Prop) (w0:World) (S:Nat->Prop) (w:World) (l:List LB) (R:World->Prop):Prop where
 ctx:Ctx S0 w0 S w l
 row:R w
 stab:∀ w1 w2,R w1->Fut S w1 S w2->R w2
section
variable {S0 S:Nat->Prop} {w0 w w':World} {l l':List LB} {R:World->Prop}
theorem CtxR.re (hc:CtxR S0 w0 S w l R) (h:Ctx S0 w0 S w l'):CtxR S0 w0 S w l' R:=⟨h,hc.row,hc.stab⟩
theorem CtxR.via (hc:CtxR S0 w0 S w l R) (h:Ctx S0 w0 S w' l') (f:Fut S w S w'):CtxR S0 w0 S w' l' R:=⟨h,hc.stab _ _ hc.row f,hc.stab⟩
theorem CtxR.below (hc:CtxR S0 w0 S w l R):Below w0.heap.size w0 w:=hc.ctx.below
theorem CtxR.loc (hc:CtxR S0 w0 S w l R) {cs:List Value} {T g:Nat} (hN:New w cs T g w'):CtxR S0 w0 S w' ((g,T,cs)::l) R/\Fut S w S w':=
 ⟨hc.via (hc.ctx.loc hN).1 (hc.ctx.loc hN).2,(hc.ctx.loc hN).2⟩
theorem CtxR.quiet (hc:CtxR S0 w0 S w l R) (hb:Below w.heap.size w w'):CtxR S0 w0 S w' l R/\Fut S w S w':=
 ⟨hc.via (hc.ctx.quiet hb).1 (hc.ctx.quiet hb).2,(hc.ctx.quiet hb).2⟩
theorem CtxR.blk (hc:CtxR S0 w0 S w l R) (k:Nat) {g T:Nat} {cs:List Value} (h:l[k]?=some (g,T,cs)):Blk w g T cs:=hc.ctx.blk k h
theorem CtxR.cell (hc:CtxR S0 w0 S w l R) (k:Nat) {g T:Nat} {cs:List Value} (h:l[k]?=some (g,T,cs)) (i:Nat) {v:Value} (hv:cs[i]?=some v):w.cell? ⟨g,i,none⟩=some v:=hc.ctx.cell k h i hv
theorem CtxR.cells (hc:CtxR S0 w0 S w l R) (k:Nat) {g T:Nat} {cs:List Value} (h:l[k]?=some (g,T,cs)):Go.Vc.cellsAt w ⟨g,0,none⟩ cs 0:=hc.ctx.cells k h
theorem CtxR.cellsAt (hc:CtxR S0 w0 S w l R) (k:Nat) {g T:Nat} {cs:List Value} (h:l[k]?=some (g,T,cs)) (o:Nat) (xs:List Value) (hx:(cs.drop o).take xs.length=xs):Go.Vc.cellsAt w ⟨g,o,none⟩ xs 0:=hc.ctx.cellsAt k h o xs hx
theorem CtxR.may (hc:CtxR S0 w0 S w l R) (k:Nat) {g T:Nat} {cs:List Value} (h:l[k]?=some (g,T,cs)) (o:Nat) (xs:List Value) (hl:o+xs.length<=cs.length) (h1:allOne xs=true):mayStore w ⟨g,o,none⟩ xs 0:=hc.ctx.may k h o xs hl h1
theorem CtxR.set (hc:CtxR S0 w0 S w l R) (k:Nat) {g T:Nat} {cs:List Value} (h:l[k]?=some (g,T,cs)) {o:Nat} {xs:List Value} (hS:Stored w ⟨g,o,none⟩ xs w'):
  CtxR S0 w0 S w' (setLoc l k (putAt cs o xs)) R/\Fut S w S w':=⟨hc.via (hc.ctx.set k h hS).1 (hc.ctx.set k h hS).2,(hc.ctx.set k h hS).2⟩
section
variable {S0 S:Nat->Prop} {w0 w:World} {l:List LB} {R:World->Prop} {g T:Nat} {cs xs:List Value} {o:Nat} {K:World->Prop}
theorem CtxR.s (hc:CtxR S0 w0 S w l R) (k:Nat) (h:l[k]?=some (g,T,cs)) (hk:∀ w',Stored w ⟨g,o,none⟩ xs w'->CtxR S0 w0 S w' (setLoc l k (putAt cs o xs)) R->K w') (hl:Nat.ble (o+xs.length) cs.length=true:=by rfl) (h1:allOne xs=true:=by rfl):mayStore w ⟨g,o,none⟩ xs 0/\∀ w',Stored w ⟨g,o,none⟩ xs w'->K w':=
 ⟨hc.may k h o xs (Nat.le_of_ble_eq_true hl) h1,fun w' hS=>hk w' hS (hc.set k h hS).1⟩
theorem CtxR.s' (hc:CtxR S0 w0 S w l R) (k:Nat) (h:l[k]?=some (g,T,cs)) (hk:∀ w',Stored w ⟨g,o,none⟩ xs w'->CtxR S0 w0 S w' (setLoc l k (putAt cs o xs)) R->K w') (hl:Nat.ble (o+xs.length) cs.length=true:=by rfl) (h1:allOne xs=true:=by rfl):mayStore w ⟨g,o,none⟩ xs 0/\∀ w',Stored w ⟨g,o,none⟩ xs w'->True/\K w':=
 ⟨hc.may k h o xs (Nat.le_of_ble_eq_true hl) h1,fun w' hS=>⟨trivial,hk w' hS (hc.set k h hS).1⟩⟩
theorem CtxR.a (hc:CtxR S0 w0 S w l R) (k:Nat) (h:l[k]?=some (g,T,cs)) {n:Nat} {K:List Value->Prop} (hn:cs.length=n) (hk:K cs):∃ ds:List Value,ds.length=n/\Go.Vc.cellsAt w ⟨g,0,none⟩ ds 0/\K ds:=⟨cs,hn,hc.cells k h,hk⟩
theorem CtxR.a' (hc:CtxR S0 w0 S w l R) (k:Nat) (h:l[k]?=some (g,T,cs)) {n:Nat} {K:List Value->Prop} (hn:cs.length=n) (hk:K cs):∃ ds:List Value,ds.length=n/\Go.Vc.cellsAt w ⟨g,0,none⟩ ds 0/\True/\K ds:=⟨cs,hn,hc.cells k h,trivial,hk⟩
theorem CtxR.n (hc:CtxR S0 w0 S w l R) {K:Nat->World->Prop} (hk:∀ g w',New w cs T g w'->CtxR S0 w0 S w' ((g,T,cs)::l) R->K g w'):∀ g w',New w cs T g w'->K g w':=fun g w' h=>hk g w' h (hc.loc h).1
theorem CtxR.n' (hc:CtxR S0 w0 S w l R) {K:Nat->World->Prop} (hk:∀ g w',New w cs T g w'->CtxR S0 w0 S w' ((g,T,cs)::l) R->K g w'):∀ g w',New w cs T g w'->True/\K g w':=fun g w' h=>⟨trivial,hk g w' h (hc.loc h).1⟩
theorem CtxR.q (hc:CtxR S0 w0 S w l R) {P:Program} {n:Nat} {args:List Value} {v:Value} {K:Value->World->Prop} (h:Calls P n args.toArray w (RetB v w)) (hk:∀ w',Below w.heap.size w w'->CtxR S0 w0 S w' l R->K v w'):CallVc P n args w K:=call_b h fun w' hb=>hk w' hb (hc.quiet hb).1
theorem CtxR.q' (hc:CtxR S0 w0 S w l R) {P:Program} {n:Nat} {args:List Value} {v:Value} {K:Value->World->Prop} (h:Calls P n args.toArray w (RetB v w)) (hk:∀ w',Below w.heap.size w w'->CtxR S0 w0 S w' l R->K v w'):CallVc P n args w (fun v w'=>True/\K v w'):=call_b h fun w' hb=>⟨trivial,hk w' hb (hc.quiet hb).1⟩
end
theorem CtxR.drop {x:LB} (h:CtxR S0 w0 S w (x::l) R):CtxR S0 w0 S w l R:=h.re h.ctx.drop
theorem CtxR.drew (h:CtxR S0 w0 S w l R):CtxR S0 w0 S w.drew l R:=h.via h.ctx.drew ⟨fun _ h=>h,fun _ _=>rfl⟩
theorem ownsRow_fit {n0 e sz n cap:Nat} {A:Option Addr} {xs:List Value} (ho:w'.ownsRow n0 e sz (.slice A n cap) n xs):n<=cap/\cap<=maxLen:=by
 obtain⟨e0,h3⟩:=ho
 rcases h3 with ⟨h3,rfl⟩ | ⟨g,cp,cur,e1,_,_,h4,h5,_,_⟩
 ·cases h3;exact⟨Nat.le_refl _,Nat.zero_le _⟩
 ·cases e1;exact⟨h4,h5⟩
theorem told_row {n0 e sz n cap:Nat} {A:Option Addr} {xs:List Value} (ho:w'.ownsRow n0 e sz (.slice A n cap) n xs) (hS:∀ b,n0<=b->b<w'.heap.size->S b):Row S w' A n cap xs:=by
 obtain⟨f1,f2⟩:=ownsRow_fit ho
 refine⟨f1,f2,fun hx=>?_⟩
 have ho':=ho
 obtain⟨e0,h3⟩:=ho'
 rcases h3 with ⟨h3,rfl⟩ | ⟨g,cp,cur,e1,_⟩
 ·rw [Nat.zero_mul] at e0
  exact absurd (List.eq_nil_of_length_eq_zero e0) hx
 ·cases e1
  have h:=ho.lt g rfl
  exact⟨_,rfl,hS _ h.1 h.2,ho.cells rfl⟩
theorem Own.ext {Sg:Nat->Prop} {n cap e sz:Nat} {A:Option Addr} {xs:List Value} (ho:Own S w0.heap.size w l e sz A n cap xs):Row (ext Sg w0 w) w A n cap xs:=told_row ho.row fun _ h1 h2=>.inr ⟨h1,h2⟩
theorem Row.wide {S':Nat->Prop} {A:Option Addr} {n cap:Nat} {xs:List Value} (h:Row S w A n cap xs) (f:∀ b,S b->S' b):Row S' w A n cap xs:=h.fut ⟨f,fun _ _=>rfl⟩
theorem Row.ret {Sg:Nat->Prop} {A:Option Addr} {n cap:Nat} {xs:List Value} (h:Row S w A n cap xs) (hc:Ctx S0 w0 S w l) (h0:∀ b,¬ S0 b):Row (ext Sg w0 w) w A n cap xs:=
 h.wide fun b hb=>by
  rcases hc.new b hb with h | h
  ·exact (h0 b h).elim
  ·exact .inr ⟨h,hc.lt b hb⟩
theorem Row.old {Sg:Nat->Prop} {A:Option Addr} {n cap:Nat} {xs:List Value} (h:Row Sg w0 A n cap xs) (hb:Below w0.heap.size w0 w):Row (ext Sg w0 w) w A n cap xs:=
 (h.below hb).wide fun _ hb=>.inl hb
theorem CtxR.told (hc:CtxR S0 w0 S w l R) {e sz n cap:Nat} {A:Option Addr} {xs:List Value} (ho:Own S w0.heap.size w l e sz A n cap xs):
  ∃ S':Nat->Prop,(∀ b,S b->S' b)/\CtxR S0 w0 S' w l (fun x=>R x/\Row S' x A n cap xs):=by
 obtain⟨h1,h2,h3⟩:=ho.told hc.ctx
 refine⟨_,fun b hb=>.inl hb,h1,⟨hc.row,h3 ho.fit.1 ho.fit.2⟩,fun x1 x2 hx f=>⟨hc.stab x1 x2 hx.1 ⟨fun _ h=>h,fun b hb=>f.2 b (.inl hb)⟩,hx.2.fut f⟩⟩
end
end Go.Vc
namespace Go.Proofs.YtefdfaeieekioaaGreatDoor
open Go.Vc Go.RowKit Go.Fl
theorem RepEs.old {S:Nat->Prop} {w w':World} {l:List Ent} {css:List (List Value)} (h:RepEs S w l css) (hb:Below w.heap.size w w'):RepEs (ext S w w') w' l css:=h.map (fun h=>h.old hb)
def RetK (s:Stt) (B:Option Addr) (cap':Nat) (l0 l1 l2 l3 l4:Int) (S:Nat->Prop) (q:List Ent × Res) (w:World) (en:Ending) (w':World):Prop:=
 ∃ A c css,en=.returned (.tuple #[.agg #[.int .i64 s.seq,.slice A q.1.length c,.slice B s.ms.length cap',.int .i64 l0,.int .i64 l1,.int .i64 l2,.int .i64 l3,.int .i64 l4],.agg #[.int .i64 q.2.err,.int .i64 q.2.ver]])/\
  Below w.heap.size w w'/\RepEs (ext S w w') w' q.1 css/\Row (ext S w w') w' A q.1.length c css.flatten
end Go.Proofs.YtefdfaeieekioaaGreatDoor
end
section
namespace Go.Vc
open Go Go.RowKit
structure OR where
 e:Nat
 sz:Nat
 A:Option Addr
 n:Nat
 cap:Nat
 xs:List Value
def Owns (S:Nat->Prop) (n0:Nat) (w:World) (l:List LB):List OR->Prop
 | []=>True
 | o::r=>Own S n0 w l o.e o.sz o.A o.n o.cap o.xs/\(∀ p∈r,∀ a b,o.A=some a->p.A=some b->a.block≠b.block)/\Owns S n0 w l r
abbrev Kn:=(Nat->Prop)->World->Prop
def Stab (R:Kn):Prop:=∀ S w S' w',R S w->Fut S w S' w'->R S' w'
theorem Stab.and {R X:Kn} (h:Stab R) (k:Stab X):Stab (fun S w=>R S w/\X S w):=fun _ _ _ _ hx f=>⟨h _ _ _ _ hx.1 f,k _ _ _ _ hx.2 f⟩
theorem Stab.true:Stab (fun _ _=>True):=fun _ _ _ _ _ _=>trivial
structure CtxF (S0:Nat->Prop) (w0:World) (S:Nat->Prop) (w:World) (l:List LB) (os:List OR) (R:Kn):Prop where
 ctx:Ctx S0 w0 S w l
 own:Owns S w0.heap.size w l os
 row:R S w
 stab:Stab R
section
variable {S0 S S':Nat->Prop} {w0 w w':World} {l l':List LB} {os:List OR} {R:Kn} {n0:Nat}
theorem Owns.step:∀ {os:List OR},Owns S n0 w l os->(∀ o∈os,∀ a,o.A=some a->w'.heap[a.block]?=w.heap[a.block]?/\¬ S' a.block/\∀ x∈l',x.1≠a.block)->Owns S' n0 w' l' os
 | [],_,_=>trivial
 | o::r,⟨h1,h2,h3⟩,hh=>
  ⟨⟨h1.kept fun a ha=>(hh o (List.mem_cons_self ..) a ha).1,fun a ha=>(hh o (List.mem_cons_self ..) a ha).2⟩,h2,h3.step fun p hp=>hh p (List.mem_cons_of_mem _ hp)⟩
theorem Owns.mem:∀ {os:List OR},Owns S n0 w l os->∀ o∈os,Own S n0 w l o.e o.sz o.A o.n o.cap o.xs
 | o::r,⟨h1,h2,h3⟩,p,hp=>by
  cases hp with
  | head=>exact h1
  | tail _ h=>exact h3.mem p h
theorem CtxF.below (hc:CtxF S0 w0 S w l os R):Below w0.heap.size w0 w:=hc.ctx.below
theorem CtxF.start (w0:World) (S0:Nat->Prop) (h:∀ b,S0 b->b<w0.heap.size) {R:Kn} (hr:R S0 w0) (hs:Stab R):CtxF S0 w0 S0 w0 [] [] R:=⟨Ctx.start w0 S0 h,trivial,hr,hs⟩
theorem CtxF.loc (hc:CtxF S0 w0 S w l os R) {cs:List Value} {T g:Nat} (hN:New w cs T g w'):CtxF S0 w0 S w' ((g,T,cs)::l) os R/\Fut S w S w':=by
 obtain⟨h1,h2⟩:=hc.ctx.loc hN
 refine⟨⟨h1,hc.own.step fun o ho a ha=>?_,hc.stab _ _ _ _ hc.row h2,hc.stab⟩,h2⟩
 have hO:=hc.own.mem o ho
 refine⟨hN.below.block _ (hO.lt ha).2,(hO.out a ha).1,fun x hx=>?_⟩
 cases hx with
 | head=>have:=(hO.lt ha).2;have:=hN.1;show g≠a.block;omega
 | tail _ hx=>exact (hO.out a ha).2 x hx
theorem CtxF.quiet (hc:CtxF S0 w0 S w l os R) (hb:Below w.heap.size w w'):CtxF S0 w0 S w' l os R/\Fut S w S w':=by
 obtain⟨h1,h2⟩:=hc.ctx.quiet hb
 exact⟨⟨h1,hc.own.step fun o ho a ha=>⟨hb.block _ ((hc.own.mem o ho).lt ha).2,(hc.own.mem o ho).out a ha⟩,hc.stab _ _ _ _ hc.row h2,hc.stab⟩,h2⟩
theorem CtxF.call (hc:CtxF S0 w0 S w l os R) (hb:Below w.heap.size w w'):CtxF S0 w0 (ext S w w') w' l os R/\Fut S w (ext S w w') w':=by
 obtain⟨h1,h2⟩:=hc.ctx.call hb
 refine⟨⟨h1,hc.own.step fun o ho a ha=>⟨hb.block _ ((hc.own.mem o ho).lt ha).2,fun hs=>?_,((hc.own.mem o ho).out a ha).2⟩,hc.stab _ _ _ _ hc.row h2,hc.stab⟩,h2⟩
 rcases hs with hs | hs
 ·exact ((hc.own.mem o ho).out a ha).1 hs
 ·have:=((hc.own.mem o ho).lt ha).2;omega
theorem CtxF.now (hc:CtxF S0 w0 S w l os R) {X:Kn} (h:R S w->X S w) (hs:Stab X):CtxF S0 w0 S w l os X:=⟨hc.ctx,hc.own,h hc.row,hs⟩
theorem CtxF.blk (hc:CtxF S0 w0 S w l os R) (k:Nat) {g T:Nat} {cs:List Value} (h:l[k]?=some (g,T,cs)):Blk w g T cs:=hc.ctx.blk k h
theorem CtxF.cell (hc:CtxF S0 w0 S w l os R) (k:Nat) {g T:Nat} {cs:List Value} (h:l[k]?=some (g,T,cs)) (i:Nat) {v:Value} (hv:cs[i]?=some v):w.cell? ⟨g,i,none⟩=some v:=hc.ctx.cell k h i hv
theorem CtxF.cells (hc:CtxF S0 w0 S w l os R) (k:Nat) {g T:Nat} {cs:List Value} (h:l[k]?=some (g,T,cs)):Go.Vc.cellsAt w ⟨g,0,none⟩ cs 0:=hc.ctx.cells k h
theorem CtxF.cellsAt (hc:CtxF S0 w0 S w l os R) (k:Nat) {g T:Nat} {cs:List Value} (h:l[k]?=some (g,T,cs)) (o:Nat) (xs:List Value) (hx:(cs.drop o).take xs.length=xs):Go.Vc.cellsAt w ⟨g,o,none⟩ xs 0:=hc.ctx.cellsAt k h o xs hx
theorem CtxF.may (hc:CtxF S0 w0 S w l os R) (k:Nat) {g T:Nat} {cs:List Value} (h:l[k]?=some (g,T,cs)) (o:Nat) (xs:List Value) (hl:o+xs.length<=cs.length) (h1:allOne xs=true):mayStore w ⟨g,o,none⟩ xs 0:=hc.ctx.may k h o xs hl h1
theorem CtxF.set (hc:CtxF S0 w0 S w l os R) (k:Nat) {g T:Nat} {cs:List Value} (h:l[k]?=some (g,T,cs)) {o:Nat} {xs:List Value} (hS:Stored w ⟨g,o,none⟩ xs w'):
  CtxF S0 w0 S w' (setLoc l k (putAt cs o xs)) os R/\Fut S w S w':=by
 obtain⟨h1,h2⟩:=hc.ctx.set k h hS
 refine⟨⟨h1,hc.own.step fun p hp a ha=>?_,hc.stab _ _ _ _ hc.row h2,hc.stab⟩,h2⟩
 have hO:=(hc.own.mem p hp).set hc.ctx k h hS
 obtain⟨_,k2,_⟩:=stored_blk o xs w 0 cs (hc.blk k h)
 rw [<-(show w'=_ from hS)] at k2
 exact⟨k2 _ fun e=>((hc.own.mem p hp).out a ha).2 _ (List.mem_of_getElem? h) e.symm,hO.out a ha⟩
theorem CtxF.drop {x:LB} (h:CtxF S0 w0 S w (x::l) os R):CtxF S0 w0 S w l os R:=
 ⟨h.ctx.drop,h.own.step fun o ho a ha=>⟨rfl,((h.own.mem o ho).out a ha).1,fun y hy=>((h.own.mem o ho).out a ha).2 y (List.mem_cons_of_mem _ hy)⟩,h.row,h.stab⟩
theorem CtxF.drew (hc:CtxF S0 w0 S w l os R):CtxF S0 w0 S w.drew l os R:=
 ⟨hc.ctx.drew,hc.own.step fun o ho a ha=>⟨rfl,(hc.own.mem o ho).out a ha⟩,hc.stab _ _ _ _ hc.row ⟨fun _ h=>h,fun _ _=>rfl⟩,hc.stab⟩
theorem CtxF.hold (hc:CtxF S0 w0 S w l os R) {e sz n cap:Nat} {A:Option Addr} {xs:List Value} (ho:Own S w0.heap.size w l e sz A n cap xs) (hd:∀ p∈os,∀ a b,A=some a->p.A=some b->a.block≠b.block):CtxF S0 w0 S w l (⟨e,sz,A,n,cap,xs⟩::os) R:=
 ⟨hc.ctx,⟨ho,hd,hc.own⟩,hc.row,hc.stab⟩
theorem CtxF.nil (hc:CtxF S0 w0 S w l os R) (e sz:Nat):CtxF S0 w0 S w l (⟨e,sz,none,0,0,[]⟩::os) R:=hc.hold Own.nil (fun p hp a b h=>by cases h)
theorem CtxF.fst {o:OR} (hc:CtxF S0 w0 S w l (o::os) R):Own S w0.heap.size w l o.e o.sz o.A o.n o.cap o.xs:=hc.own.1
theorem CtxF.rest {o:OR} (hc:CtxF S0 w0 S w l (o::os) R):CtxF S0 w0 S w l os R:=⟨hc.ctx,hc.own.2.2,hc.row,hc.stab⟩
theorem CtxF.told {o:OR} (hc:CtxF S0 w0 S w l (o::os) R):∃ S':Nat->Prop,(∀ b,S b->S' b)/\CtxF S0 w0 S' w l os (fun S w=>R S w/\Row S w o.A o.n o.cap o.xs):=by
 obtain⟨h1,h2,h3⟩:=hc.fst.told hc.ctx
 refine⟨_,fun b hb=>.inl hb,h1,hc.own.2.2.step fun p hp a ha=>⟨rfl,?_,((hc.own.2.2.mem p hp).out a ha).2⟩,⟨hc.stab _ _ _ _ hc.row h2,h3 hc.fst.fit.1 hc.fst.fit.2⟩,hc.stab.and fun _ _ _ _ h f=>h.fut f⟩
 rintro (hs | ⟨b,hb,e⟩)
 ·exact ((hc.own.2.2.mem p hp).out a ha).1 hs
 ·exact hc.own.2.1 p hp b a hb ha e
theorem CtxF.closed {e g:Nat} {cur:List Value} (hc:CtxF S0 w0 S w ((g,e,cur)::l) os R) (sz n cap:Nat) (h1:n<=cap) (h2:cap<=maxLen) (h3:cur.length=cap*sz):
  CtxF S0 w0 S w l (⟨e,sz,some ⟨g,0,none⟩,n,cap,cur.take (n*sz)⟩::os) R:=by
 obtain⟨k1,k2⟩:=Ctx.closed hc.ctx sz n cap h1 h2 h3
 refine hc.drop.hold k2 fun p hp a b ha hb e1=>?_
 cases ha
 exact ((hc.own.mem p hp).out b hb).2 _ (List.mem_cons_self ..) e1
theorem CtxF.made (hc:CtxF S0 w0 S w l os R) {cs:List Value} {e g:Nat} (hN:New w cs e g w') (sz n:Nat) (h:cs.length=n*sz) (hn:n<=maxLen):CtxF S0 w0 S w' l (⟨e,sz,some ⟨g,0,none⟩,n,n,cs⟩::os) R:=by
 have h4:=(hc.loc hN).1.closed sz n n (Nat.le_refl _) hn h
 rw [List.take_of_length_le (Nat.le_of_eq h)] at h4
 exact h4
theorem CtxF.out (hc:CtxF S0 w0 S w l os R):R (ext S0 w0 w) w:=hc.stab _ _ _ _ hc.row hc.ctx.out
theorem CtxF.old (hc:CtxF S0 w0 S w l os R) {X:Kn} (hs:Stab X) (h:X S0 w0) (hlt:∀ b,S0 b->b<w0.heap.size):X S w:=hs _ _ _ _ h ⟨hc.ctx.sub,fun b hb=>hc.below.block b (hlt b hb)⟩
def Oth (S:Nat->Prop) (os:List OR):Nat->Prop:=fun b=>S b\/∃ p∈os,∃ a,p.A=some a/\a.block=b
theorem CtxF.others {o:OR} (hc:CtxF S0 w0 S w l (o::os) R):Ctx S0 w0 (Oth S os) w l/\Own (Oth S os) w0.heap.size w l o.e o.sz o.A o.n o.cap o.xs:=by
 obtain⟨h1,h2,h3⟩:=hc.own
 refine⟨⟨hc.below,fun b hb=>.inl (hc.ctx.sub b hb),fun b hb=>?_,fun b hb=>?_,hc.ctx.locs.mono (fun _ _=>rfl) (fun x hx hs=>?_)⟩,h1.row,fun a ha=>⟨fun hs=>?_,(h1.out a ha).2⟩⟩
 ·rcases hb with hb | ⟨p,hp,a,ha,rfl⟩
  ·exact hc.ctx.new b hb
  ·exact .inr ((h3.mem p hp).lt ha).1
 ·rcases hb with hb | ⟨p,hp,a,ha,rfl⟩
  ·exact hc.ctx.lt b hb
  ·exact ((h3.mem p hp).lt ha).2
 ·rcases hs with hs | ⟨p,hp,a,ha,e1⟩
  ·exact hs
  ·exact absurd e1.symm (((h3.mem p hp).out a ha).2 x hx)
 ·rcases hs with hs | ⟨p,hp,b,hb,e1⟩
  ·exact (h1.out a ha).1 hs
  ·exact h2 p hp a b ha hb e1.symm
theorem CtxF.back {o o':OR} (hc:CtxF S0 w0 S w l (o::os) R) (h1:Ctx S0 w0 (Oth S os) w' l') (h2:Fut (Oth S os) w (Oth S os) w') (h3:Own (Oth S os) w0.heap.size w' l' o'.e o'.sz o'.A o'.n o'.cap o'.xs) (hl:∀ x∈l',∃ y∈l,y.1=x.1):
  CtxF S0 w0 S w' l' (o'::os) R:=by
 have hlo:∀ x∈l',∀ a:Addr,(∀ y∈l,y.1≠a.block)->x.1≠a.block:=fun x hx a h=>by
  obtain⟨y,hy,e⟩:=hl x hx
  rw [<-e];exact h y hy
 refine⟨⟨h1.below,hc.ctx.sub,hc.ctx.new,fun b hb=>h1.lt b (.inl hb),h1.locs.mono (fun _ _=>rfl) (fun _ _ h=>.inl h)⟩,⟨⟨h3.row,fun a ha=>⟨fun hs=>(h3.out a ha).1 (.inl hs),(h3.out a ha).2⟩⟩,fun p hp a b ha hb e1=>(h3.out a ha).1 (.inr ⟨p,hp,b,hb,e1.symm⟩),?_⟩,?_,hc.stab⟩
 ·exact hc.own.2.2.step fun p hp b hb=>⟨h2.2 _ (.inr ⟨p,hp,b,hb,rfl⟩),((hc.own.2.2.mem p hp).out b hb).1,fun x hx=>hlo x hx b ((hc.own.2.2.mem p hp).out b hb).2⟩
 ·exact hc.stab _ _ _ _ hc.row ⟨fun _ h=>h,fun b hb=>h2.2 b (.inl hb)⟩
end
section
variable {P:Program} {S0 S:Nat->Prop} {w0 w:World} {l:List LB} {os:List OR} {R:Kn} {n:Nat} {args:List Value} {K:Value->World->Prop}
section
variable {e sz bytes:Nat} {A B:Option Addr} {m cap c:Nat} {xs ys:List Value} {z:Value}
end
end
section
variable {S0 S:Nat->Prop} {w0 w:World} {l:List LB} {os:List OR} {R:Kn} {g T:Nat} {cs xs:List Value} {o:Nat} {K:World->Prop}
theorem CtxF.s (hc:CtxF S0 w0 S w l os R) (k:Nat) (h:l[k]?=some (g,T,cs)) (hk:∀ w',Stored w ⟨g,o,none⟩ xs w'->CtxF S0 w0 S w' (setLoc l k (putAt cs o xs)) os R->K w') (hl:Nat.ble (o+xs.length) cs.length=true:=by rfl) (h1:allOne xs=true:=by rfl):mayStore w ⟨g,o,none⟩ xs 0/\∀ w',Stored w ⟨g,o,none⟩ xs w'->K w':=
 ⟨hc.may k h o xs (Nat.le_of_ble_eq_true hl) h1,fun w' hS=>hk w' hS (hc.set k h hS).1⟩
theorem CtxF.s' (hc:CtxF S0 w0 S w l os R) (k:Nat) (h:l[k]?=some (g,T,cs)) (hk:∀ w',Stored w ⟨g,o,none⟩ xs w'->CtxF S0 w0 S w' (setLoc l k (putAt cs o xs)) os R->K w') (hl:Nat.ble (o+xs.length) cs.length=true:=by rfl) (h1:allOne xs=true:=by rfl):mayStore w ⟨g,o,none⟩ xs 0/\∀ w',Stored w ⟨g,o,none⟩ xs w'->True/\K w':=
 ⟨hc.may k h o xs (Nat.le_of_ble_eq_true hl) h1,fun w' hS=>⟨trivial,hk w' hS (hc.set k h hS).1⟩⟩
theorem CtxF.a (hc:CtxF S0 w0 S w l os R) (k:Nat) (h:l[k]?=some (g,T,cs)) {n:Nat} {K:List Value->Prop} (hn:cs.length=n) (hk:K cs):∃ ds:List Value,ds.length=n/\Go.Vc.cellsAt w ⟨g,0,none⟩ ds 0/\K ds:=⟨cs,hn,hc.cells k h,hk⟩
theorem CtxF.a' (hc:CtxF S0 w0 S w l os R) (k:Nat) (h:l[k]?=some (g,T,cs)) {n:Nat} {K:List Value->Prop} (hn:cs.length=n) (hk:K cs):∃ ds:List Value,ds.length=n/\Go.Vc.cellsAt w ⟨g,0,none⟩ ds 0/\True/\K ds:=⟨cs,hn,hc.cells k h,trivial,hk⟩
theorem CtxF.n (hc:CtxF S0 w0 S w l os R) {K:Nat->World->Prop} (hk:∀ g w',New w cs T g w'->CtxF S0 w0 S w' ((g,T,cs)::l) os R->K g w'):∀ g w',New w cs T g w'->K g w':=fun g w' h=>hk g w' h (hc.loc h).1
theorem CtxF.n' (hc:CtxF S0 w0 S w l os R) {K:Nat->World->Prop} (hk:∀ g w',New w cs T g w'->CtxF S0 w0 S w' ((g,T,cs)::l) os R->K g w'):∀ g w',New w cs T g w'->True/\K g w':=fun g w' h=>⟨trivial,hk g w' h (hc.loc h).1⟩
theorem CtxF.q (hc:CtxF S0 w0 S w l os R) {P:Program} {n:Nat} {args:List Value} {v:Value} {K:Value->World->Prop} (h:Calls P n args.toArray w (RetB v w)) (hk:∀ w',Below w.heap.size w w'->CtxF S0 w0 S w' l os R->K v w'):CallVc P n args w K:=call_b h fun w' hb=>hk w' hb (hc.quiet hb).1
theorem CtxF.q' (hc:CtxF S0 w0 S w l os R) {P:Program} {n:Nat} {args:List Value} {v:Value} {K:Value->World->Prop} (h:Calls P n args.toArray w (RetB v w)) (hk:∀ w',Below w.heap.size w w'->CtxF S0 w0 S w' l os R->K v w'):CallVc P n args w (fun v w'=>True/\K v w'):=call_b h fun w' hb=>⟨trivial,hk w' hb (hc.quiet hb).1⟩
end
end Go.Vc
end
namespace Go.Proofs.YtefdfaeieekioaaGreatDoor
open Go.Vc Go.RowKit Go.Fl
theorem ext_cut {S:Nat->Prop} {w w':World}:∀ b,ext (fun b=>S b/\b<w.heap.size) w w' b->ext S w w' b:=fun b h=>by
 rcases h with h | h
 ·exact .inl h.1
 ·exact .inr h
theorem RepEs.wide {S S':Nat->Prop} {w:World} {l:List Ent} {css:List (List Value)} (h:RepEs S w l css) (f:∀ b,S b->S' b):RepEs S' w l css:=h.map (fun h=>h.wide f)
theorem RepEs.fut {S S':Nat->Prop} {w w':World} {l:List Ent} {css:List (List Value)} (h:RepEs S w l css) (f:Fut S w S' w'):RepEs S' w' l css:=h.map (fun h=>h.fut f)
theorem RetK.wide {s:Stt} {B:Option Addr} {cap':Nat} {l0 l1 l2 l3 l4:Int} {S:Nat->Prop} {q:List Ent × Res} {w w':World} {en:Ending} (h:RetK s B cap' l0 l1 l2 l3 l4 (fun b=>S b/\b<w.heap.size) q w en w'):RetK s B cap' l0 l1 l2 l3 l4 S q w en w':=by
 obtain⟨A,c,css,h1,h2,h3,h4⟩:=h
 exact⟨A,c,css,h1,h2,h3.wide ext_cut,h4.wide ext_cut⟩
theorem RepEs.stab (l:List Ent) (css:List (List Value)):Stab (fun S w=>RepEs S w l css):=fun _ _ _ _ h f=>RepEs.fut h f
inductive Done (s:Stt) (d:D):Prop where
 | form (h:mayS s=false\/mayD d=false) (e:doS s d=(s,⟨1,0⟩))
 | top (h:maxN<=s.seq) (e:doS s d=(s,⟨5,0⟩))
 | old (hs:mayS s=true) (hd:mayD d=true) (hq:s.seq<maxN) (h:d.req<lowAt s.lows (homeI d.req)) (e:doS s d=(⟨s.seq+1,s.l,s.ms,s.lows⟩,⟨12,0⟩))
 | told (hs:mayS s=true) (hd:mayD d=true) (hq:s.seq<maxN) (h:lowAt s.lows (homeI d.req)<=d.req) (m:Mem) (hm:memAt s.ms d.req=some m) (e:doS s d=(⟨s.seq+1,s.l,s.ms,s.lows⟩,m.res))
 | full (hs:mayS s=true) (hd:mayD d=true) (hq:s.seq<maxN) (h:lowAt s.lows (homeI d.req)<=d.req) (hm:memAt s.ms d.req=none) (hf:100<=s.ms.length) (e:doS s d=(⟨s.seq+1,s.l,s.ms,s.lows⟩,⟨5,0⟩))
 | new (hs:mayS s=true) (hd:mayD d=true) (hq:s.seq<maxN) (h:lowAt s.lows (homeI d.req)<=d.req) (hm:memAt s.ms d.req=none) (hf:s.ms.length<100) (ms:List Mem) (lows:List Int)
   (hx:∀ m,m∈ms↔(m=⟨d.req,(doK s.l (s.seq+1) d).2⟩\/m∈s.ms)/\¬ (m.req<d.low/\homeI m.req=homeI d.req/\lowAt s.lows (homeI d.req)<d.low/\homeI d.low=homeI d.req))
   (hl:lows=if lowAt s.lows (homeI d.req)<d.low/\homeI d.low=homeI d.req then s.lows.set (homeI d.req-1).toNat d.low else s.lows)
   (e:doS s d=(⟨s.seq+1,(doK s.l (s.seq+1) d).1,ms,lows⟩,(doK s.l (s.seq+1) d).2))
def RetR (S:Nat->Prop) (q:List Ent × Res) (w:World) (en:Ending) (w':World):Prop:=
 ∃ A c css,en=.returned (.tuple #[.slice A q.1.length c,.agg #[.int .i64 q.2.err,.int .i64 q.2.ver]])/\Below w.heap.size w w'/\RepEs (ext S w w') w' q.1 css/\Row (ext S w w') w' A q.1.length c css.flatten
theorem RetR.wide {S:Nat->Prop} {q:List Ent × Res} {w w':World} {en:Ending} (h:RetR (fun b=>S b/\b<w.heap.size) q w en w'):RetR S q w en w':=by
 obtain⟨A,c,css,h1,h2,h3,h4⟩:=h
 exact⟨A,c,css,h1,h2,h3.wide ext_cut,h4.wide ext_cut⟩
def cellsV (v:V) (A:Option Addr) (cap:Nat):List Value:=[.int .i64 (vK v),.int .i64 (vN v),.string (vS v),.slice A (vL v).length cap]
theorem RepC.cells {S:Nat->Prop} {w:World} {v:V} {cs:List Value} (h:RepC S w v cs):∃ A cap,cs=cellsV v A cap:=by
 obtain⟨k,n,s,l⟩:=v
 rw [RepC] at h
 obtain⟨A,cap,xs,e,_,_⟩:=h
 exact⟨A,cap,e⟩
theorem RepC.rows {S:Nat->Prop} {w:World} {v:V} {A:Option Addr} {cap:Nat} (h:RepC S w v (cellsV v A cap)):∃ xs,RepL S w (vL v) xs/\Row S w A (vL v).length cap xs:=by
 obtain⟨k,n,s,l⟩:=v
 rw [RepC] at h
 obtain⟨A',cap',xs,e,h1,h2⟩:=h
 cases e
 exact⟨xs,h1,h2⟩
def Sm (f N:Nat) (v:V):Prop:=v=V0\/(cnt f v<=6000/\(putV v).length<=N)
theorem Sm.mem {f N:Nat} {v:V} (h:Sm (f+1) N v):(vL v).length<=6000/\∀ x∈vL v,Sm f N x:=by
 rcases h with rfl | ⟨hc,hp⟩
 ·exact⟨Nat.zero_le _,fun x hx=>by cases hx⟩
 obtain⟨k,n,s,l⟩:=v
 show l.length<=6000/\∀ x∈l,_
 rw [cnt] at hc
 by_cases h1:(k==1&&mt s&&((l.length:Int)==0))||(k==2&&n==0&&((l.length:Int)==0))
 ·have h0:l=[]:=by
   simp only [Bool.or_eq_true,Bool.and_eq_true,beq_iff_eq] at h1
   have:l.length=0:=by omega
   exact List.eq_nil_of_length_eq_zero this
  subst h0
  exact⟨Nat.zero_le _,fun x hx=>by cases hx⟩
 rw [if_neg h1] at hc
 by_cases h2:(k != 3||!(n==0)||!mt s)=true
 ·rw [if_pos h2] at hc;omega
 rw [if_neg h2] at hc
 obtain⟨h3,h4⟩:=cntL_le (cnt f) (fun v=>(cnt_range f v).1) l 1 hc
 have e3:k=3:=by
  simp only [Bool.or_eq_true,not_or,Bool.not_eq_true] at h2
  simpa using h2.1.1
 subst e3
 have ht:txtV (.mk 3 n s l)=putL l:=by simp [txtV]
 have h6:(putL l).length<=N:=by rw [putV_len,ht] at hp;omega
 exact⟨by omega,fun x hx=>.inr ⟨by have:=h4 x hx;omega,Nat.le_trans (putV_mem_le hx) h6⟩⟩
theorem Sm.at {f N:Nat} {v:V} (h:Sm (f+1) N v) (i:Nat):Sm f N (atV v i):=by
 unfold atV
 rw [List.getD_eq_getElem?_getD]
 cases hg:(vL v)[i]? with
 | none=>exact .inl rfl
 | some x=>exact h.mem.2 x (List.mem_of_getElem? hg)
theorem Sm.str {f N:Nat} {v:V} (h:Sm f N v):(vS v).size<=N:=by
 rcases h with rfl | ⟨hc,hp⟩
 ·exact Nat.zero_le _
 ·exact Nat.le_trans (small_strs hc) hp
def stt0C:List Value:=[.int .i64 0,.slice none 0 0,.slice none 0 0,.int .i64 0,.int .i64 0,.int .i64 0,.int .i64 0,.int .i64 0]
theorem row0 (S:Nat->Prop) (w:World):Row S w none 0 0 []:=⟨Nat.le_refl _,Nat.zero_le _,fun h=>absurd rfl h⟩
theorem rep0 (S:Nat->Prop) (w:World):RepS S w Stt0 stt0C:=⟨none,0,[],none,0,rfl,rfl,rfl,row0 S w,row0 S w⟩
def cut (s:ByteArray) (n:Nat):ByteArray:=s.extract 0 (min s.size n)
end Go.Proofs.YtefdfaeieekioaaGreatDoor
namespace Go.Proofs.YtefdfaeieekioaaGreatDoor
open Go.Vc Go.RowKit Go.Fl Go.ChangeShapes Go.WideShapes Go.ChangeAt
abbrev laid5:List (String × DataW Unit):=[("math/bits.deBruijn32tab",Rows.laid_math_bits_deBruijn32tab),("math/bits.deBruijn64tab",Rows.laid_math_bits_deBruijn64tab),("internal/strconv.uint64pow10",Rows.laid_internal_strconv_uint64pow10),("strconv.ErrRange",Rows.laid_strconv_ErrRange),("strconv.ErrSyntax",Rows.laid_strconv_ErrSyntax)]
theorem ownK:ownKnob Tryz.prog.godebug=none:=by kernel_rfl
theorem gTab:∃ g,Tryz.prog.globalNamed "internal/strconv.uint64pow10"=some g/\(Tryz.prog.globals[g]?).map (·.type)=some 330:=⟨2,by kernel_rfl,by kernel_rfl⟩
theorem gES:∃ g,Tryz.prog.globalNamed "strconv.ErrSyntax"=some g/\(Tryz.prog.globals[g]?).map (·.type)=some 245:=⟨5,by kernel_rfl,by kernel_rfl⟩
theorem gER:∃ g,Tryz.prog.globalNamed "strconv.ErrRange"=some g/\(Tryz.prog.globals[g]?).map (·.type)=some 245:=⟨6,by kernel_rfl,by kernel_rfl⟩
theorem cTab:Tryz.prog.cellsOf 330=20:=by kernel_rfl
theorem cU64:Tryz.prog.cellsOf 295=1:=by kernel_rfl
theorem cES:Tryz.prog.cellsOf 360=1:=by kernel_rfl
theorem cStr:Tryz.prog.cellsOf 9=1:=by kernel_rfl
theorem starE : "*" ++ "errors.errorString" = "*errors.errorString":=by decide
theorem rowES (u:TypeId) (h:Tryz.prog.typeName? 3 u=some "*errors.errorString"):u=358:=
 typeName_ptr_named (nm := "errors.errorString") (by rw [starE];kernel_rfl) (by kernel_rfl) (by decide) u (by rw [starE];exact h)
theorem env_laid {W:World} (h:laidMetH Tryz.prog laid5 W):Env W:=by
 rw [MakeChecks.laidMetH_plain _ _ _ (by kernel_rfl)] at h
 obtain⟨g1,a1,a2⟩:=gTab
 obtain⟨g2,b1,b2⟩:=gER
 obtain⟨g3,c1,c2⟩:=gES
 have ht:=Lib.tabIs_of_head (k:=.u64) (zs:=Lib.pow10Tab) a1 a2 Tryz.underlying330 Tryz.underlying295 cU64 cTab h.tail.tail
 obtain⟨x0,s0,hv0,-,-,-⟩:=laid_sentinel h.tail.tail.tail b1 b2 Tryz.underlying245 rowES Tryz.underlying358 Tryz.underlying360 rfl rfl Tryz.underlying9 cES cStr
 obtain⟨x1,s1,hv1,-,-,-⟩:=laid_sentinel h.tail.tail.tail.tail c1 c2 Tryz.underlying245 rowES Tryz.underlying358 Tryz.underlying360 rfl rfl Tryz.underlying9 cES cStr
 exact⟨ht,⟨_,_,hv1⟩,⟨_,_,hv0⟩⟩
theorem laid_met (os:Os) (args:Array Value):laidMetH Tryz.prog laid5 ((World.laidAll Tryz.prog os laid5).forCall (fun _ _=>0) ⟨#[],args,[]⟩).memory:=by
 rw [MakeChecks.laidMetH_plain _ _ _ (by kernel_rfl)]
 exact laidMet_laidAll args (by kernel_rfl) (by kernel_rfl)
theorem and2 {a b:Bool} (h:a=true) (k:b=true):(a&&b)=true:=by rw [h,k];rfl
theorem lay5:laidOutB Tryz.prog=true:=by kernel_rfl
theorem all_stays {H:Type} {enc:TypeId × Value->H} {P:Program} (hP:laidOutB P=true) {W W':World} {sp:Nat->Bool} (hb:Below W.heap.size W W') (ts:List TypeId):∀ {vs:List Value} {ds:List (DataW H)} {ps:List MemPlace},
  ts.all (fun t=>P.readableRec t&&decide (t<P.types.size))=true->DataW.TrodAll enc P W 0 (fun _=>true) true ts vs ds ps->(∀ x∈ps,x.block<W.heap.size)->(∀ x∈ps,sp x.block=true)->
  DataW.TrodAll enc P W' 0 sp true ts vs ds ps:=by
 induction ts with
 | nil=>
  intro _ _ _ _ h _ _
  obtain⟨rfl,rfl,rfl⟩:=trodAll_nil h
  exact trodAll_mk0
 | cons t ts ih=>
  intro _ _ _ hr h hl hs
  obtain⟨v,vs1,d,ds1,a,b,rfl,rfl,rfl,h1,h2⟩:=trodAll_cons h
  rw [List.all_cons,Bool.and_eq_true,Bool.and_eq_true,decide_eq_true_eq] at hr
  exact trodAll_cons_mk (WideElems.Trod_stays hP hr.1.1 hr.1.2 h1 (fun x hx=>hb.same (hl x (List.mem_append_left _ hx))) (fun x hx=>hs x (List.mem_append_left _ hx)))
   (ih hr.2 h2 (fun x hx=>hl x (List.mem_append_right _ hx)) (fun x hx=>hs x (List.mem_append_right _ hx)))
theorem post_true {H:Type} {enc:TypeId × Value->H} {f:Func} {s:ChangeSpec} {W W':World} {args:Array Value} {ds gs:List (DataW H)} {before:List MemPlace} (hv:s.vars=[]) (hr:f.resultTypes=#[4])
  (hrd:f.params.toList.all (fun t=>Tryz.prog.readableRec t&&decide (t<Tryz.prog.types.size))=true) (hfn:gs=[]->s.fn H (ds++gs)={ results:=[.lit (.bool true)],args:=ds })
  (hW:DataW.Whole enc Tryz.prog f.params.toList s.vars false W args.toList ds gs before) (hb:Below W.heap.size W W'):
  s.post enc Tryz.prog f false true false false W args (.bool true) W':=by
 have hlt:=fun x (hx:x∈before)=>hW.lt x hx
 have hW':=hW
 obtain⟨p,q,hA,hV,rfl,hfz,hnd⟩:=hW
 rw [hv] at hV
 obtain⟨rfl,rfl⟩:=trodVars_none hV
 have hfn:=hfn rfl
 refine⟨ds,[],p++[],[],p,[],hW',?_,?_,?_,hb.frame _,fun h=>by cases h⟩
 ·rw [hfn,hr]
  exact trodAll_mk1 (shut_bool Tryz.underlying4 true)
 ·rw [hfn]
  exact all_stays lay5 hb _ hrd hA (fun x hx=>hlt x (List.mem_append_left _ hx)) (fun x hx=>by simpa using hlt x (List.mem_append_left _ hx))
 ·rw [hfn,hv]
  rfl
end Go.Proofs.YtefdfaeieekioaaGreatDoor
namespace Go.Proofs.YtefdfaeieekioaaGreatDoor
theorem factRowed:mapsRowed Tryz.prog=true:=by kernel_rfl
theorem factHeard:Tryz.prog.stopsHeard=true:=by kernel_rfl
theorem factEnter:Tryz.prog.mayEnter=true:=by kernel_rfl
theorem factKeys:(Rows.linkNoneRow.plainKeys==Tryz.prog.plainKeys)=true:=by kernel_rfl
theorem factLifted:(Rows.linkNoneRow.lifted==Tryz.prog.liftsFinal)=true:=by kernel_rfl
theorem factMake:(Tryz.prog.make==some Rows.linkNoneRow.make)=true:=by kernel_rfl
theorem factKeys' (c:OpenClaim) (h:c.plainKeys=Rows.linkNoneRow.plainKeys):(c.plainKeys==Tryz.prog.plainKeys)=true:=h▸factKeys
theorem factLifted' (c:OpenClaim) (h:c.lifted=Rows.linkNoneRow.lifted):(c.lifted==Tryz.prog.liftsFinal)=true:=h▸factLifted
theorem factMake' (c:OpenClaim) (h:c.make=Rows.linkNoneRow.make):(Tryz.prog.make==some c.make)=true:=h▸factMake
end Go.Proofs.YtefdfaeieekioaaGreatDoor
section
namespace Go.Vx
open Go Go.Vc Go.RowKit
inductive Tr (α:Type) where
 | e
 | n (v:Option α) (l r:Tr α)
section
variable {α:Type}
noncomputable def Tr.get (t:Tr α):Nat->Option α:=
 Tr.rec (motive:=fun _=>Nat->Option α) (fun _=>none) (fun v _ _ il ir k=>Nat.rec v (fun k' _=>cond (Nat.beq (Nat.mod k' 2) 0) (il (Nat.div k' 2)) (ir (Nat.div k' 2))) k) t
noncomputable def Tr.mkK (f:Nat):Nat->α->(Tr α->Bool)->Bool:=
 Nat.rec (motive:=fun _=>Nat->α->(Tr α->Bool)->Bool) (fun _ _ _=>false)
  (fun _ ih k x K=>Nat.rec (K (.n (some x) .e .e)) (fun k' _=>cond (Nat.beq (Nat.mod k' 2) 0) (ih (Nat.div k' 2) x fun l=>K (.n none l .e)) (ih (Nat.div k' 2) x fun r=>K (.n none .e r))) k) f
noncomputable def Tr.setK (t:Tr α):Nat->α->(Tr α->Bool)->Bool:=
 Tr.rec (motive:=fun _=>Nat->α->(Tr α->Bool)->Bool) (fun k x K=>Tr.mkK 40 k x K)
  (fun v l r il ir k x K=>Nat.rec (K (.n (some x) l r)) (fun k' _=>cond (Nat.beq (Nat.mod k' 2) 0) (il (Nat.div k' 2) x fun l'=>K (.n v l' r)) (ir (Nat.div k' 2) x fun r'=>K (.n v l r'))) k) t
theorem Tr.mkK_ok:∀ (f k:Nat) (x:α) (K:Tr α->Bool),Tr.mkK f k x K=true->∃ t',K t'=true/\∀ j,t'.get j=if j=k then some x else none
 | 0,_,_,_,h=>by cases h
 | f+1,k,x,K,h=>by
  cases k with
  | zero=>
   refine⟨_,h,fun j=>?_⟩
   cases j with
   | zero=>rfl
   | succ j=>rw [if_neg (Nat.succ_ne_zero j)];show cond (Nat.beq (j % 2) 0) none none=none;cases Nat.beq (j % 2) 0<;>rfl
  | succ k=>
   have h:cond (Nat.beq (k % 2) 0) (Tr.mkK f (k / 2) x fun l=>K (.n none l .e)) (Tr.mkK f (k / 2) x fun r=>K (.n none .e r))=true:=h
   have key:∀ (j:Nat) (l r:Tr α),(Tr.n none l r).get (j+1)=cond (Nat.beq (j % 2) 0) (l.get (j / 2)) (r.get (j / 2)):=fun _ _ _=>rfl
   have e9:∀ j:Nat,(Tr.e:Tr α).get j=none:=fun _=>rfl
   cases hb:Nat.beq (k % 2) 0 with
   | true=>
    rw [hb] at h
    obtain⟨l',h1,h2⟩:=mkK_ok f _ _ _ h
    have e0:k % 2=0:=Nat.eq_of_beq_eq_true hb
    refine⟨_,h1,fun j=>?_⟩
    cases j with
    | zero=>rw [if_neg (fun e=>by cases e)];rfl
    | succ j=>
     rw [key,h2,e9]
     cases hj:Nat.beq (j % 2) 0 with
     | true=>
      have e1:j % 2=0:=Nat.eq_of_beq_eq_true hj
      show (if j / 2=k / 2 then some x else none)=_
      by_cases e:j=k
      ·subst e;rw [if_pos rfl,if_pos rfl]
      ·rw [if_neg (by omega),if_neg (by omega)]
     | false=>
      have e1:j % 2≠0:=fun e=>by rw [e] at hj;cases hj
      rw [if_neg (show ¬ j+1=k+1 from fun e=>e1 (by omega))]
      rfl
   | false=>
    rw [hb] at h
    obtain⟨r',h1,h2⟩:=mkK_ok f _ _ _ h
    have e0:k % 2≠0:=fun e=>by rw [e] at hb;cases hb
    refine⟨_,h1,fun j=>?_⟩
    cases j with
    | zero=>rw [if_neg (fun e=>by cases e)];rfl
    | succ j=>
     rw [key,h2,e9]
     cases hj:Nat.beq (j % 2) 0 with
     | true=>
      have e1:j % 2=0:=Nat.eq_of_beq_eq_true hj
      rw [if_neg (show ¬ j+1=k+1 from fun e=>e0 (by omega))]
      rfl
     | false=>
      have e1:j % 2≠0:=fun e=>by rw [e] at hj;cases hj
      show (if j / 2=k / 2 then some x else none)=_
      by_cases e:j=k
      ·subst e;rw [if_pos rfl,if_pos rfl]
      ·rw [if_neg (by omega),if_neg (by omega)]
theorem Tr.setK_ok:∀ (t:Tr α) (k:Nat) (x:α) (K:Tr α->Bool),t.setK k x K=true->∃ t',K t'=true/\∀ j,t'.get j=if j=k then some x else t.get j
 | .e,k,x,K,h=>Tr.mkK_ok 40 k x K h
 | .n v l r,k,x,K,h=>by
  cases k with
  | zero=>
   refine⟨.n (some x) l r,h,fun j=>?_⟩
   cases j with
   | zero=>rfl
   | succ j=>rw [if_neg (Nat.succ_ne_zero j)];rfl
  | succ k=>
   have h:cond (Nat.beq (k % 2) 0) (l.setK (k / 2) x fun l'=>K (.n v l' r)) (r.setK (k / 2) x fun r'=>K (.n v l r'))=true:=h
   have key:∀ (j:Nat) (l r:Tr α),(Tr.n v l r).get (j+1)=cond (Nat.beq (j % 2) 0) (l.get (j / 2)) (r.get (j / 2)):=fun _ _ _=>rfl
   cases hb:Nat.beq (k % 2) 0 with
   | true=>
    rw [hb] at h
    obtain⟨l',h1,h2⟩:=setK_ok l _ _ _ h
    have e0:k % 2=0:=Nat.eq_of_beq_eq_true hb
    refine⟨_,h1,fun j=>?_⟩
    cases j with
    | zero=>rw [if_neg (fun e=>by cases e)];rfl
    | succ j=>
     rw [key,key,h2]
     cases hj:Nat.beq (j % 2) 0 with
     | true=>
      have e1:j % 2=0:=Nat.eq_of_beq_eq_true hj
      by_cases e:j=k
      ·subst e;rw [if_pos rfl,if_pos rfl];rfl
      ·rw [if_neg (by omega),if_neg (by omega)]
     | false=>
      have e1:j % 2≠0:=fun e=>by rw [e] at hj;cases hj
      rw [if_neg (show ¬ j+1=k+1 from fun e=>e1 (by omega))]
      rfl
   | false=>
    rw [hb] at h
    obtain⟨r',h1,h2⟩:=setK_ok r _ _ _ h
    have e0:k % 2≠0:=fun e=>by rw [e] at hb;cases hb
    refine⟨_,h1,fun j=>?_⟩
    cases j with
    | zero=>rw [if_neg (fun e=>by cases e)];rfl
    | succ j=>
     rw [key,key,h2]
     cases hj:Nat.beq (j % 2) 0 with
     | true=>
      have e1:j % 2=0:=Nat.eq_of_beq_eq_true hj
      rw [if_neg (show ¬ j+1=k+1 from fun e=>e0 (by omega))]
      rfl
     | false=>
      have e1:j % 2≠0:=fun e=>by rw [e] at hj;cases hj
      by_cases e:j=k
      ·subst e;rw [if_pos rfl,if_pos rfl];rfl
      ·rw [if_neg (by omega),if_neg (by omega)]
theorem Tr.keys:∀ (t:Tr α),∃ ks:List Nat,∀ k x,t.get k=some x->k∈ks
 | .e=>⟨[],fun _ _ h=>by cases h⟩
 | .n v l r=>by
  obtain⟨a,ha⟩:=keys l
  obtain⟨b,hb⟩:=keys r
  refine⟨0::(a.map (2*·+1)++b.map (2*·+2)),fun k x h=>?_⟩
  cases k with
  | zero=>exact List.mem_cons_self ..
  | succ k=>
   have h:cond (Nat.beq (k % 2) 0) (l.get (k / 2)) (r.get (k / 2))=some x:=h
   refine List.mem_cons_of_mem _ (List.mem_append.2 ?_)
   cases hb':Nat.beq (k % 2) 0 with
   | true=>
    rw [hb'] at h
    have:=Nat.eq_of_beq_eq_true hb'
    exact .inl (List.mem_map.2 ⟨k / 2,ha _ _ h,by omega⟩)
   | false=>
    rw [hb'] at h
    have:k % 2≠0:=fun e=>by rw [e] at hb';cases hb'
    exact .inr (List.mem_map.2 ⟨k / 2,hb _ _ h,by omega⟩)
end
noncomputable def fN (n:Nat) (K:Nat->Bool):Bool:=Nat.rec (K 0) (fun k _=>K (Nat.succ k)) n
noncomputable def fI (n:Int) (K:Int->Bool):Bool:=Int.rec (fun a=>fN a fun a=>K (.ofNat a)) (fun a=>fN a fun a=>K (.negSucc a)) n
noncomputable def fL {α:Type} (l:List α) (K:List α->Bool):Bool:=List.rec (motive:=fun _=>(List α->Bool)->Bool) (fun K=>K []) (fun x _ ih K=>ih fun r=>K (x::r)) l K
theorem fN_eq (n:Nat) (K:Nat->Bool):fN n K=K n:=by cases n<;>rfl
theorem fI_eq (n:Int) (K:Int->Bool):fI n K=K n:=by
 cases n with
 | ofNat a=>exact fN_eq a fun a=>K (.ofNat a)
 | negSucc a=>exact fN_eq a fun a=>K (.negSucc a)
theorem fL_eq {α:Type}:∀ (l:List α) (K:List α->Bool),fL l K=K l
 | [],_=>rfl
 | x::r,K=>fL_eq r fun r=>K (x::r)
noncomputable def eqI (a b:Int):Bool:=Int.rec (fun a=>Int.rec (fun b=>Nat.beq a b) (fun _=>false) b) (fun a=>Int.rec (fun _=>false) (fun b=>Nat.beq a b) b) a
noncomputable def leI (a b:Int):Bool:=Int.rec (fun a=>Int.rec (fun b=>Nat.ble a b) (fun _=>false) b) (fun a=>Int.rec (fun _=>true) (fun b=>Nat.ble b a) b) a
theorem eqI_eq (a b:Int):eqI a b=(a==b):=by
 rw [Bool.eq_iff_iff,beq_iff_eq]
 cases a<;>cases b
 ·exact⟨fun h=>congrArg _ (Nat.eq_of_beq_eq_true h),fun h=>by cases h;exact Nat.beq_refl _⟩
 ·exact⟨fun h=>(by cases h),fun h=>(by cases h)⟩
 ·exact⟨fun h=>(by cases h),fun h=>(by cases h)⟩
 ·exact⟨fun h=>congrArg _ (Nat.eq_of_beq_eq_true h),fun h=>by cases h;exact Nat.beq_refl _⟩
theorem leI_eq (a b:Int):leI a b=decide (a<=b):=by
 have e1:∀ a:Nat,Int.ofNat a=(a:Int):=fun _=>rfl
 have e2:∀ a:Nat,Int.negSucc a = -((a:Int)+1):=fun a=>Int.negSucc_eq a
 rw [Bool.eq_iff_iff,decide_eq_true_iff]
 cases a<;>cases b
 ·exact⟨fun h=>Int.ofNat_le.2 (Nat.le_of_ble_eq_true h),fun h=>Nat.ble_eq_true_of_le (Int.ofNat_le.1 h)⟩
 ·rw [e1,e2];exact⟨fun h=>(by cases h),fun h=>by omega⟩
 ·rw [e1,e2];exact⟨fun _=>by omega,fun _=>rfl⟩
 ·rename_i a b
  rw [e2,e2]
  exact⟨fun h=>by have:=Nat.le_of_ble_eq_true (show Nat.ble b a=true from h);omega,fun h=>show Nat.ble b a=true from Nat.ble_eq_true_of_le (by omega)⟩
inductive EC where
 | k (c:Nat)
 | j (d b:Nat)
 | z (d:Nat)
inductive EB where
 | l (v:Value)
 | p (N o:Nat)
 | s (N o n:Nat) (c:EC)
 | m (N:Nat)
 | f (g:Nat) (cs:List (Nat × Nat))
 | rg (k:IntKind) (lo hi:Int)
 | bo
inductive EV where
 | o (x:EB)
 | a (xs:List EB)
 | t (xs:List (Bool × List EB))
structure Pl where
 b:Nat
 o:Nat
 c:Nat
abbrev Sg:=Nat->Option Pl
def Ex (σ τ:Sg):Prop:=∀ N q,σ N=some q->τ N=some q
theorem Ex.refl (σ:Sg):Ex σ σ:=fun _ _ h=>h
theorem Ex.trans {σ τ υ:Sg} (h:Ex σ τ) (k:Ex τ υ):Ex σ υ:=fun N q e=>k N q (h N q e)
def All2 {α β:Type} (R:α->β->Prop):List α->List β->Prop
 | [],[]=>True
 | a::al,b::bs=>R a b/\All2 R al bs
 | _,_=>False
section
variable {α β:Type} {R R':α->β->Prop}
theorem All2.len:∀ {al:List α} {bs:List β},All2 R al bs->bs.length=al.length
 | [],[],_=>rfl
 | a::al,b::bs,h=>congrArg (·+1) (All2.len h.2)
theorem All2.mono (k:∀ a b,R a b->R' a b):∀ {al:List α} {bs:List β},All2 R al bs->All2 R' al bs
 | [],[],_=>trivial
 | a::al,b::bs,h=>⟨k _ _ h.1,All2.mono k h.2⟩
theorem All2.get:∀ {al:List α} {bs:List β},All2 R al bs->∀ {i:Nat} {a:α},al[i]?=some a->∃ b,bs[i]?=some b/\R a b
 | a::al,b::bs,h,0,x,e=>by cases e;exact⟨b,rfl,h.1⟩
 | a::al,b::bs,h,i+1,x,e=>All2.get h.2 (i:=i) (by simpa using e)
theorem All2.append:∀ {al al':List α} {bs bs':List β},All2 R al bs->All2 R al' bs'->All2 R (al++al') (bs++bs')
 | [],_,[],_,_,k=>k
 | a::al,_,b::bs,_,h,k=>⟨h.1,All2.append h.2 k⟩
theorem All2.take:∀ {al:List α} {bs:List β},All2 R al bs->∀ n,All2 R (al.take n) (bs.take n)
 | [],[],_,n=>by rw [List.take_nil,List.take_nil];trivial
 | a::al,b::bs,h,0=>trivial
 | a::al,b::bs,h,n+1=>⟨h.1,All2.take h.2 n⟩
theorem All2.drop:∀ {al:List α} {bs:List β},All2 R al bs->∀ n,All2 R (al.drop n) (bs.drop n)
 | [],[],_,n=>by rw [List.drop_nil,List.drop_nil];trivial
 | a::al,b::bs,h,0=>h
 | a::al,b::bs,h,n+1=>All2.drop h.2 n
theorem All2.set:∀ {al:List α} {bs:List β} {a:α} {b:β},All2 R al bs->R a b->∀ i,All2 R (al.set i a) (bs.set i b)
 | [],[],_,_,_,_,_=>trivial
 | a::al,b::bs,_,_,h,k,0=>⟨k,h.2⟩
 | a::al,b::bs,_,_,h,k,i+1=>⟨h.1,All2.set h.2 k i⟩
theorem All2.map {γ:Type} (f:γ->α) (g:γ->β) (h:∀ c,R (f c) (g c)):∀ l:List γ,All2 R (l.map f) (l.map g)
 | []=>trivial
 | c::l=>⟨h c,All2.map f g h l⟩
end
def CR:EC->Pl->Nat->Nat->Addr->Nat->Prop
 | .k c,q,o,n,a,cp=>a=⟨q.b,q.o+o,none⟩/\cp=c/\n<=c
 | .j d b,q,o,n,a,cp=>a=⟨q.b,q.o+o,none⟩/\cp+d=q.c/\n<=b/\b<=cp
 | .z d,q,o,n,a,cp=>n=0/\a.spot=none/\(cp=0\/a=⟨q.b,q.o+o,none⟩/\cp+d=q.c)
def PR (σ:Sg) (c:Nat × Nat) (v:Value):Prop:=∃ q,σ c.1=some q/\v=.pointer (some ⟨q.b,q.o+c.2,none⟩)
def BR (σ:Sg):EB->Value->Prop
 | .l v,u=>u=v
 | .p N o,u=>PR σ (N,o) u
 | .s N o n c,u=>∃ q a cp,σ N=some q/\CR c q o n a cp/\u=.slice (some a) n cp
 | .m N,u=>∃ q,σ N=some q/\u=.map (some q.b)
 | .f g cs,u=>∃ vs,All2 (PR σ) cs vs/\u=.func (.func g) #[] vs.toArray
 | .rg k lo hi,u=>∃ a,u=.int k a/\lo<=a/\a<=hi
 | .bo,u=>∃ b,u=.bool b
def TR (σ:Sg) (x:Bool × List EB) (u:Value):Prop:=∃ cs,All2 (BR σ) x.2 cs/\(x.1=true/\u=.agg cs.toArray\/x.1=false/\cs=[u])
def VR (σ:Sg):EV->Value->Prop
 | .o x,u=>BR σ x u
 | .a xs,u=>∃ cs,All2 (BR σ) xs cs/\u=.agg cs.toArray
 | .t ys,u=>∃ vs,All2 (TR σ) ys vs/\u=.tuple vs.toArray
section
variable {σ τ:Sg}
theorem PR.ex (h:Ex σ τ) (c:Nat × Nat) (v:Value) (k:PR σ c v):PR τ c v:=by
 obtain⟨q,k1,k2⟩:=k
 exact⟨q,h _ _ k1,k2⟩
theorem BR.ex (h:Ex σ τ) (x:EB) (v:Value) (k:BR σ x v):BR τ x v:=by
 cases x with
 | l u=>exact k
 | p N o=>exact PR.ex h _ _ k
 | s N o n c=>obtain⟨q,a,cp,k1,k2⟩:=k;exact⟨q,a,cp,h _ _ k1,k2⟩
 | m N=>obtain⟨q,k1,k2⟩:=k;exact⟨q,h _ _ k1,k2⟩
 | f g cs=>obtain⟨vs,k1,k2⟩:=k;exact⟨vs,k1.mono (PR.ex h),k2⟩
 | rg k lo hi=>exact k
 | bo=>exact k
theorem TR.ex (h:Ex σ τ) (x:Bool × List EB) (v:Value) (k:TR σ x v):TR τ x v:=by
 obtain⟨cs,k1,k2⟩:=k
 exact⟨cs,k1.mono (BR.ex h),k2⟩
theorem VR.ex (h:Ex σ τ) {x:EV} {v:Value} (k:VR σ x v):VR τ x v:=by
 cases x with
 | o x=>exact BR.ex h _ _ k
 | a xs=>obtain⟨cs,k1,k2⟩:=k;exact⟨cs,k1.mono (BR.ex h),k2⟩
 | t ys=>obtain⟨vs,k1,k2⟩:=k;exact⟨vs,k1.mono (TR.ex h),k2⟩
end
def FR (σ:Sg) (F:Tr EV) (f:Fr):Prop:=∀ t v,F.get t=some v->VR σ v (f t)
theorem FR.ex {σ τ:Sg} (h:Ex σ τ) {F:Tr EV} {f:Fr} (k:FR σ F f):FR τ F f:=fun t v e=>(k t v e).ex h
theorem FR.upd {σ:Sg} {F F':Tr EV} {f:Fr} {t:Nat} {x:EV} {u:Value} (k:FR σ F f) (hx:VR σ x u) (h:∀ j,F'.get j=if j=t then some x else F.get j):FR σ F' (upd f t u):=fun j v e=>by
 rw [h] at e
 show VR σ v (bif Nat.beq j t then u else f j)
 by_cases ej:j=t
 ·subst ej
  rw [if_pos rfl] at e
  cases e
  rw [show Nat.beq j j=true from Nat.beq_refl j]
  exact hx
 ·rw [if_neg ej] at e
  rw [show Nat.beq j t=false from Bool.eq_false_iff.2 fun h=>ej (Nat.eq_of_beq_eq_true h)]
  exact k _ _ e
def ofV:Value->EV
 | .agg cs=>.a (cs.toList.map .l)
 | v=>.o (.l v)
theorem ofV_ok (σ:Sg) (v:Value):VR σ (ofV v) v:=by
 cases v
 case agg cs=>exact⟨cs.toList,by
  have:=All2.map (R:=BR σ) EB.l id (fun _=>rfl) cs.toList
  rwa [List.map_id] at this,by simp⟩
 all_goals exact rfl
noncomputable def xEv (F:Tr EV) (x:Operand):Option EV:=
 match x with
 | .tmp t=>F.get t
 | .const v=>some (ofV v)
 | .global g=>some (.o (.l (.pointer (some ⟨g,0,none⟩))))
 | .func n=>some (.o (.f n []))
theorem xEv_ok {σ:Sg} {F:Tr EV} {f:Fr} (h:FR σ F f) {x:Operand} {v:EV} (e:xEv F x=some v):VR σ v (ev f x):=by
 cases x with
 | tmp t=>exact h _ _ e
 | const u=>cases e;exact ofV_ok _ _
 | «global» g=>cases e;rfl
 | func n=>cases e;exact⟨[],trivial,rfl⟩
end Go.Vx
end
