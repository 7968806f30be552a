import Derived.Test.YtokglimimnelaaaGreatDoorM02
import Derived.Laws.BitsLemmas
import Derived.Lib.Builder
import Derived.Lib.AppendStr
import Derived.Shelf.Strings.Builder1
import Derived.Shelf.Small.Strs
import Derived.Shelf.Strings.BuilderF
import Derived.Shelf.Strings.BuilderK
import Derived.Shelf.Strconv.Itoa0
import Derived.Shelf.Strconv.Itoa1
import Derived.Shelf.LaysM
import Derived.Shelf.Strconv.Itoa2
import Derived.Shelf.Strconv.Itoa3
import Derived.Shelf.Strconv.Itoa4
import Derived.Shelf.Strconv.ParseIntEmpty
import Derived.Shelf.Strconv.Clone
import Derived.Shelf.Strconv.SyntaxError
import Derived.Shelf.LaysC
import Derived.Shelf.Strconv.ToError
import Derived.Shelf.Strconv.Lower
import Derived.Shelf.Strconv.ParseUint10
import Derived.Shelf.Strconv.ParseUint10Empty
import Derived.Shelf.Strconv.ParseUint10Any
import Derived.Shelf.Strconv.ParseInt10
import Derived.Shelf.Strconv.RangeError
import Derived.Shelf.Strconv.ToErrorRange
import Derived.Shelf.Strconv.ParseUintEmpty
import Derived.Shelf.Strconv.ParseUint10b64
import Derived.Shelf.Strconv.ParseUint10b32
import Derived.Shelf.Strconv.ParseUint10b16
import Derived.Shelf.Strconv.ParseUint10b8
import Derived.Shelf.Strconv.ParseUint10At
import Derived.Shelf.Strconv.ParseInt10At64
import Derived.Shelf.Strconv.ParseInt10At32
import Derived.Shelf.Strconv.ParseInt10At16
import Derived.Shelf.Strconv.ParseInt10At8
import Derived.Shelf.Strconv.ParseInt10All
import Derived.Shelf.Strconv.ParseIntPublic10
import Derived.Shelf.Strconv.ErrVarParseInt
import Derived.Shelf.Strings.Search1
import Derived.Shelf.Strings.Prefix
import Derived.Ground.Names2Prog
import Derived.Shelf.Slices.Clone
import Derived.Ground.SlgnProg
import Derived.Shelf.SlicesG.SearchI
import Derived.Shelf.SlicesE.Clone
import Derived.Test.YtokglimimnelaaaGreatDoorProg
set_option linter.unusedVariables false
set_option linter.unusedSimpArgs false
namespace Go.Proofs.YtokglimimnelaaaGreatDoor
open Go.Vc Go.RowKit Go.Fl
set_option maxRecDepth 100000
theorem cv_int {x:Nat} {a:Int} (hx:Is x a) (h0 : -9223372036854775808<=a) (h1:a<=9223372036854775807) (w:World):(Go.convert 202 2 (.float .f64 x)).run Tryz.prog w=.ok (.int .i64 a) w:=by
 unfold Go.convert
 simp only [Sem.run_bind,run_underlying Tryz.underlying202,run_underlying Tryz.underlying2,Result.andThen_ok]
 unfold Conv.floatToInt
 rw [show FloatKind.f64.decode x=Ieee.double.read x from rfl,toInt_is hx]
 have hc:IntKind.i64.min<=a/\a<=IntKind.i64.max:=⟨h0,h1⟩
 simp only [if_pos hc,Sem.run_pure]
theorem cv_int3 {x:Nat} {a:Int} (hx:Is x a) (h0 : -9223372036854775808<=a) (h1:a<=9223372036854775807) (w:World):(Go.convert 202 3 (.float .f64 x)).run Tryz.prog w=.ok (.int .i64 a) w:=by
 unfold Go.convert
 simp only [Sem.run_bind,run_underlying Tryz.underlying202,run_underlying Tryz.underlying3,Result.andThen_ok]
 unfold Conv.floatToInt
 rw [show FloatKind.f64.decode x=Ieee.double.read x from rfl,toInt_is hx]
 have hc:IntKind.i64.min<=a/\a<=IntKind.i64.max:=⟨h0,h1⟩
 simp only [if_pos hc,Sem.run_pure]
theorem cv_fl {a:Int} (h:a.natAbs<2 ^ 53) (w:World):(Go.convert 2 202 (.int .i64 a)).run Tryz.prog w=.ok (.float .f64 (dbl a)) w:=by
 unfold Go.convert
 simp only [Sem.run_bind,run_underlying Tryz.underlying202,run_underlying Tryz.underlying2,Result.andThen_ok]
 unfold Conv.intToFloat
 rw [nearest_is a h]
 rfl
theorem cv_fl3 {a:Int} (h:a.natAbs<2 ^ 53) (w:World):(Go.convert 3 202 (.int .i64 a)).run Tryz.prog w=.ok (.float .f64 (dbl a)) w:=by
 unfold Go.convert
 simp only [Sem.run_bind,run_underlying Tryz.underlying202,run_underlying Tryz.underlying3,Result.andThen_ok]
 unfold Conv.intToFloat
 rw [nearest_is a h]
 rfl
theorem cv_fl8 {a:Int} (h:a.natAbs<2 ^ 53) (w:World):(Go.convert 5 202 (.int .u8 a)).run Tryz.prog w=.ok (.float .f64 (dbl a)) w:=by
 unfold Go.convert
 simp only [Sem.run_bind,run_underlying Tryz.underlying202,run_underlying Tryz.underlying5,Result.andThen_ok]
 unfold Conv.intToFloat
 rw [nearest_is a h]
 rfl
theorem archTrunc_run {x:Nat} {a:Int} (hx:Is x a) (h:a.natAbs<2 ^ 53) (w:World):(callFunc 235 #[.float .f64 x]).run Tryz.prog w=.ok (.value (.float .f64 (dbl a))) w:=by
 rw [run_callFunc_extern Tryz.func235 (by kernel_rfl) (by kernel_rfl) (by kernel_rfl) (show Extern.find _=some (Extern.MathFloor.toIntegral "math.archTrunc" .zero) by kernel_rfl)]
 obtain⟨k,e⟩:=hx
 have e':FloatKind.f64.decode x=_:=e
 show ((match FloatKind.f64.decode x with
  | .nan s t=>if FloatKind.f64.format.quiet t=t then pure (.float .f64 x) else do
   let kept <-choose (.extern "math.Floor,Ceil,Trunc,RoundToEven.signallingNaN kept" 2)
   pure (.float .f64 (if kept==1 then x else FloatKind.f64.encode (.nan s (FloatKind.f64.format.quiet t))))
  | d=>pure (.float .f64 (FloatKind.f64.encode (d.integral .zero))):Sem Value).run Tryz.prog w).andThen (fun v w1=>.ok (Next.value v) w1)=_
 rw [e']
 simp only [integral_is,Sem.run_pure,Result.andThen_ok]
 rw [show FloatKind.f64.encode _=Ieee.double.write (.number (decide (a<0)) (a.natAbs*2 ^ 0) (-((0:Nat):Int))) by rw [Nat.pow_zero,Nat.mul_one];rfl,write_is a 0 h]
theorem trunc_any {x:Nat} {a:Int} (hx:Is x a) (h:a.natAbs<2 ^ 53) (w:World):Calls Tryz.prog 218 #[.float .f64 x] w (RetB (.float .f64 (dbl a)) w):=by
 refine vE Tryz.func218 ?_
 exact⟨_,_,archTrunc_run hx h w,rfl,Below.refl _ _⟩
theorem whole_any {x y z:Nat} {a b c:Int} (hx:Is x a) (hy:Is y b) (hz:Is z c) (h:a.natAbs<2 ^ 53) (w:World):Calls Tryz.prog 191 #[.float .f64 x,.float .f64 y,.float .f64 z] w (RetB (.bool (decide (b<=a)&&decide (a<=c))) w):=by
 refine vE Tryz.func191 ?_
 refine fl_geq hx hy ?_
 by_cases h1:b<=a
 ·refine split_t (decide_eq_true h1) ?_
  refine fl_leq hx hz ?_
  by_cases h2:a<=c
  ·refine split_t (decide_eq_true h2) ?_
   refine call_b (trunc_any hx h _) ?_
   intro w' hb
   refine fl_eql hx (dbl_is a h) ?_
   refine⟨ret_bool ?_,hb⟩
   simp [h1,h2]
  ·refine split_f (decide_eq_false h2) ?_
   refine⟨ret_bool ?_,Below.refl _ _⟩
   simp [h2]
 ·refine split_f (decide_eq_false h1) ?_
  refine⟨ret_bool ?_,Below.refl _ _⟩
  simp [h1]
theorem is_lit (n:Int) (b:Nat) (h:n.natAbs<2 ^ 53) (e:dbl n=b):Is b n:=e▸dbl_is n h
theorem is0:Is 0 0:=is_lit 0 0 (by decide) (by kernel_rfl)
theorem is1:Is 4607182418800017408 1:=is_lit 1 _ (by decide) (by kernel_rfl)
theorem is3:Is 4613937818241073152 3:=is_lit 3 _ (by decide) (by kernel_rfl)
theorem is5:Is 4617315517961601024 5:=is_lit 5 _ (by decide) (by kernel_rfl)
theorem isP:Is 4679237813814689792 65520:=is_lit 65520 _ (by decide) (by kernel_rfl)
theorem isM:Is 4832362400168542208 1125899906842624:=is_lit 1125899906842624 _ (by decide) (by kernel_rfl)
theorem isN:Is 14055734437023318016 (-1125899906842624):=is_lit (-1125899906842624) _ (by decide) (by kernel_rfl)
def inP (a:Int):Bool:=decide (0<=a)&&decide (a<=65520)
theorem gMay_any {x y:Nat} {a b:Int} (hx:Is x a) (hy:Is y b) (ha:a.natAbs<2 ^ 53) (hb:b.natAbs<2 ^ 53) (w:World):Calls Tryz.prog 142 #[.complex .f64 x y] w (RetB (.bool (inP a&&inP b)) w):=by
 refine vE Tryz.func142 ?_
 refine call_b (whole_any hx is0 isP ha _) ?_
 intro w1 h1
 cases e:inP a
 ·refine split_f e ?_
  exact⟨ret_bool rfl,h1⟩
 ·refine split_t e ?_
  refine call_b (whole_any hy is0 isP hb _) ?_
  intro w2 h2
  exact⟨ret_bool rfl,h1.trans (h2.mono h1.size)⟩
theorem tmodP (a:Int):(if a.tmod 65521<0 then a.tmod 65521+65521 else a.tmod 65521)=a % 65521:=by
 by_cases h:0<=a
 ·rw [Int.tmod_eq_emod_of_nonneg h,if_neg (by omega)]
 ·have e:a.tmod 65521 = -((-a) % 65521):=by
   have h2:(-a).tmod 65521=(-a) % 65521:=Int.tmod_eq_emod_of_nonneg (by omega)
   rw [Int.neg_tmod] at h2
   omega
  rw [e]
  by_cases h3 : -((-a) % 65521)<0
  ·rw [if_pos h3];omega
  ·rw [if_neg h3];omega
theorem gPart_any {x:Nat} {a:Int} (hx:Is x a) (ha:a.natAbs<2 ^ 53) (w:World):Calls Tryz.prog 237 #[.float .f64 x] w (RetB (.float .f64 (dbl (a % 65521))) w):=by
 refine vE Tryz.func237 ?_
 refine⟨_,_,cv_int hx (by omega) (by omega) _,?_⟩
 refine vc_nz (by decide) ?_
 have hm:=tmodP a
 by_cases h:a.tmod 65521<0
 ·refine split_t (decide_eq_true h) ?_
  have e3:IntKind.i64.wrap (a.tmod 65521+65521)=a.tmod 65521+65521:=wrap_add _ _ (by omega) (by omega)
  rw [if_pos h] at hm
  refine⟨_,_,cv_fl (a:=IntKind.i64.wrap (a.tmod 65521+65521)) (by rw [e3];omega) _,?_⟩
  exact⟨by rw [e3,hm];rfl,Below.refl _ _⟩
 ·refine split_f (decide_eq_false h) ?_
  rw [if_neg h] at hm
  refine⟨_,_,cv_fl (a:=a.tmod 65521) (by omega) _,?_⟩
  exact⟨by rw [hm];rfl,Below.refl _ _⟩
theorem gMod_any {x y:Nat} {a b:Int} (hx:Is x a) (hy:Is y b) (ha:a.natAbs<=1125899906842624) (hb:b.natAbs<=1125899906842624) (w:World):
  Calls Tryz.prog 222 #[.complex .f64 x y] w (RetB (.complex .f64 (dbl (a % 65521)) (dbl (b % 65521))) w):=by
 refine vE Tryz.func222 ?_
 have in_:∀ c:Int,c.natAbs<=1125899906842624->(decide (-1125899906842624<=c)&&decide (c<=1125899906842624))=true:=by
  intro c hc
  simp
  omega
 refine call_b (whole_any hx isN isM (by omega) _) ?_
 intro w1 h1
 refine split_f (by rw [in_ a ha];rfl) ?_
 refine call_b (whole_any hy isN isM (by omega) _) ?_
 intro w2 h2
 refine split_f (by rw [in_ b hb];rfl) ?_
 refine call_b (gPart_any hx (by omega) _) ?_
 intro w3 h3
 refine call_b (gPart_any hy (by omega) _) ?_
 intro w4 h4
 have h12:=h1.trans (h2.mono h1.size)
 have h13:=h12.trans (h3.mono h12.size)
 exact⟨rfl,h13.trans (h4.mono h13.size)⟩
theorem inP_t {a:Int} (h:0<=a/\a<65521):inP a=true:=by
 unfold inP
 simp
 omega
theorem gAdd_any {x y x' y':Nat} {a b c d:Int} (hx:Is x a) (hy:Is y b) (hx':Is x' c) (hy':Is y' d) (ha:0<=a/\a<65521) (hb:0<=b/\b<65521) (hc:0<=c/\c<65521) (hd:0<=d/\d<65521) (w:World):
  Calls Tryz.prog 198 #[.complex .f64 x y,.complex .f64 x' y'] w (RetB (.complex .f64 (dbl ((a+c) % 65521)) (dbl ((b+d) % 65521))) w):=by
 refine vE Tryz.func198 ?_
 refine call_b (gMay_any hx hy (by omega) (by omega) _) ?_
 intro w1 h1
 refine split_f (by rw [inP_t ha,inP_t hb];rfl) ?_
 refine call_b (gMay_any hx' hy' (by omega) (by omega) _) ?_
 intro w2 h2
 refine split_f (by rw [inP_t hc,inP_t hd];rfl) ?_
 refine fl_cadd hx hy hx' hy' (by omega) (by omega) ?_
 refine call_b (gMod_any (dbl_is _ (by omega)) (dbl_is _ (by omega)) (by omega) (by omega) _) ?_
 intro w3 h3
 have h12:=h1.trans (h2.mono h1.size)
 exact⟨rfl,h12.trans (h3.mono h12.size)⟩
theorem mul_lim {u v:Int} (hu:0<=u/\u<65521) (hv:0<=v/\v<65521):0<=u*v/\u*v<4294967296:=by
 refine⟨Int.mul_nonneg hu.1 hv.1,?_⟩
 have h1:u*v<=u*65521:=Int.mul_le_mul_of_nonneg_left (by omega) hu.1
 omega
theorem gMul_any {x y x' y':Nat} {a b c d:Int} (hx:Is x a) (hy:Is y b) (hx':Is x' c) (hy':Is y' d) (ha:0<=a/\a<65521) (hb:0<=b/\b<65521) (hc:0<=c/\c<65521) (hd:0<=d/\d<65521) (w:World):
  Calls Tryz.prog 196 #[.complex .f64 x y,.complex .f64 x' y'] w (RetB (.complex .f64 (dbl ((a*c-b*d) % 65521)) (dbl ((a*d+b*c) % 65521))) w):=by
 refine vE Tryz.func196 ?_
 refine call_b (gMay_any hx hy (by omega) (by omega) _) ?_
 intro w1 h1
 refine split_f (by rw [inP_t ha,inP_t hb];rfl) ?_
 refine call_b (gMay_any hx' hy' (by omega) (by omega) _) ?_
 intro w2 h2
 refine split_f (by rw [inP_t hc,inP_t hd];rfl) ?_
 have l1:=mul_lim ha hc
 have l2:=mul_lim hb hd
 have l3:=mul_lim ha hd
 have l4:=mul_lim hb hc
 refine fl_cmul hx hy hx' hy' (by omega) (by omega) (by omega) (by omega) ?_
 refine call_b (gMod_any (dbl_is _ (by omega)) (dbl_is _ (by omega)) (by omega) (by omega) _) ?_
 intro w3 h3
 have h12:=h1.trans (h2.mono h1.size)
 exact⟨rfl,h12.trans (h3.mono h12.size)⟩
def zStep (z:Int × Int) (c:UInt8):Int × Int:=
 ((((z.1*3-z.2*5) % 65521)+((c.toNat:Int)+1)) % 65521,(((z.1*5+z.2*3) % 65521)+0) % 65521)
def zOn (z:Int × Int) (l:List UInt8):Int × Int:=l.foldl zStep z
def zOk (z:Int × Int):Prop:=(0<=z.1/\z.1<65521)/\(0<=z.2/\z.2<65521)
theorem zStep_ok (z:Int × Int) (c:UInt8):zOk (zStep z c):=by
 unfold zOk zStep
 omega
theorem zOn_ok (l:List UInt8):∀ z:Int × Int,zOk z->zOk (zOn z l):=by
 induction l with
 | nil=>intro z h;exact h
 | cons c r ih=>intro z h;exact ih _ (zStep_ok z c)
theorem zOn_take (z:Int × Int) (l:List UInt8) (k:Nat) (h:k<l.length):zOn z (l.take (k+1))=zStep (zOn z (l.take k)) (l.getD k 0):=by
 unfold zOn
 rw [List.take_succ_eq_append_getElem h,List.foldl_append,List.getD_eq_getElem?_getD,List.getElem?_eq_getElem h]
 rfl
theorem i_down {n:Nat} (h:n<9223372036854775807):IntKind.i64.wrap ((n:Int)+1)=((n+1:Nat):Int):=by rw [wrap_add _ _ (by omega) (by omega)];rfl
theorem gOn_any {z:Int × Int} (hz:zOk z) {S:Nat->Prop} {A:Option Addr} {n cap:Nat} {l:List UInt8} (hn:n=l.length) (hM:n<=9223372036854775807) (w:World) (hR:Row S w A n cap (bv l)):
  Calls Tryz.prog 169 #[.complex .f64 (dbl z.1) (dbl z.2),.slice A n cap] w (RetB (.complex .f64 (dbl (zOn z l).1) (dbl (zOn z l).2)) w):=by
 refine vE Tryz.func169 ?_
 refine call_b (gMay_any (dbl_is z.1 (by have:=hz.1;omega)) (dbl_is z.2 (by have:=hz.2;omega)) (by have:=hz.1;omega) (by have:=hz.2;omega) _) ?_
 intro w0 h0
 refine split_f (by rw [inP_t hz.1,inP_t hz.2];rfl) ?_
 refine⟨Nat,fun k=>[(0,.complex .f64 (dbl (zOn z (l.take k)).1) (dbl (zOn z (l.take k)).2)),(10,.slice A n cap),(11,.int .i64 n),(12,.int .i64 k)],fun k w'=>k<=n/\Below w.heap.size w w',fun k _=>n-k,0,
  ⟨rfl,rfl,rfl,rfl,trivial⟩,⟨Nat.zero_le _,h0⟩,?_⟩
 rintro k w' u ⟨hk,hb⟩
 by_cases hlt:k<n
 ·refine split_t (decide_eq_true (by omega)) ?_
  have hv:=bv_get l k (by omega)
  obtain⟨ad,rfl,hc⟩:=(Row.below hR hb).at hv
  refine⟨⟨by omega,by omega⟩,?_⟩
  refine⟨_,by rw [Int.toNat_natCast,Nat.mul_one];exact hc,?_⟩
  have zk:=zOn_ok (l.take k) z hz
  have hs:=zOn_take z l k (by omega)
  have hc8:(l.getD k 0).toNat<256:=(l.getD k 0).toNat_lt
  refine call_b (gMul_any (dbl_is (zOn z (l.take k)).1 (by have:=zk.1;omega)) (dbl_is (zOn z (l.take k)).2 (by have:=zk.2;omega)) is3 is5 zk.1 zk.2 (by decide) (by decide) _) ?_
  intro w1 h1
  refine⟨_,_,cv_fl8 (by omega) _,?_⟩
  refine fl_add (dbl_is _ (by omega)) is1 (by omega) ?_
  refine call_b (gAdd_any (dbl_is _ (by omega)) (dbl_is _ (by omega)) (dbl_is _ (by omega)) is0 (by omega) (by omega) (by omega) (by omega) _) ?_
  intro w2 h2
  have h12:=h1.trans (h2.mono h1.size)
  refine⟨k+1,⟨?_,rfl,rfl,congrArg _ (i_down (by omega)),trivial⟩,⟨hlt,hb.trans (h12.mono hb.size)⟩,by show n-(k+1)<n-k;omega⟩
  rw [hs]
  rfl
 ·refine split_f (decide_eq_false (by omega)) ?_
  have e:l.take k=l:=List.take_of_length_le (by omega)
  refine⟨?_,hb⟩
  show Ending.returned (.complex .f64 (dbl (zOn z (l.take k)).1) (dbl (zOn z (l.take k)).2))=_
  rw [e]
theorem gMark_any {S:Nat->Prop} {A:Option Addr} {n cap:Nat} {l:List UInt8} (hn:n=l.length) (hM:n<=9223372036854775807) (w:World) (hR:Row S w A n cap (bv l)):
  Calls Tryz.prog 115 #[.slice A n cap] w (RetB (.complex .f64 (dbl (zOn (0,1) l).1) (dbl (zOn (0,1) l).2)) w):=by
 refine vE Tryz.func115 ?_
 refine call_b (gOn_any (z:=(0,1)) ⟨by decide,by decide⟩ hn hM _ hR) ?_
 intro w1 h1
 exact⟨rfl,h1⟩
theorem i64_and15 (n:Int):bits .and .i64 n 15=n % 16:=by
 have h15:(BitVec.ofInt 64 15).toNat=2 ^ 4-1:=by decide
 have key:(BitVec.ofInt 64 n &&& BitVec.ofInt 64 15).toNat=(n % ((2 ^ 64:Nat):Int)).toNat % 2 ^ 4:=by
  rw [BitVec.toNat_and,BitVec.toNat_ofInt,h15,Nat.and_two_pow_sub_one_eq_mod]
 show IntKind.i64.wrap ((BitVec.ofInt 64 n &&& BitVec.ofInt 64 15).toNat:Nat)=n % 16
 rw [key,IntKind.wrap_i64]
 omega
def hexd (d:Nat):UInt8:=if d<10 then UInt8.ofNat (48+d) else UInt8.ofNat (87+d)
def dig (a:Int) (q:Nat):UInt8:=hexd (a / 2 ^ (12-4*q) % 16).toNat
def hex4 (a:Int):List UInt8:=[dig a 0,dig a 1,dig a 2,dig a 3]
def zText (z:Int × Int):List UInt8:=hex4 z.1++hex4 z.2
theorem hexd_toNat (d:Nat) (h:d<16):(hexd d).toNat=if d<10 then 48+d else 87+d:=by
 unfold hexd
 split
 ·rw [UInt8.toNat_ofNat'];omega
 ·rw [UInt8.toNat_ofNat'];omega
theorem hex4_take (a:Int) (q:Nat) (h:q<4):(hex4 a).take (q+1)=(hex4 a).take q++[dig a q]:=by
 match q,h with
 | 0,_=>rfl
 | 1,_=>rfl
 | 2,_=>rfl
 | 3,_=>rfl
theorem dig_range (a:Int) (q:Nat):0<=a / 2 ^ (12-4*q) % 16/\a / 2 ^ (12-4*q) % 16<16:=by omega
def part2 (z:Int × Int) (i:Nat):Int:=if i=0 then z.1 else z.2
theorem inner_shift (q:Nat) (h:q<4):IntKind.i64.wrap (4*(3-(q:Int)))=((12-4*q:Nat):Int):=by
 rw [IntKind.wrap_i64];omega
theorem info_u8:(Tryz.prog.info? 5).map (fun i=>(i.zero,i.size,i.bytes))=some (some (.int .u8 0),1,1):=by kernel_rfl
theorem index_run {a b:Nat} (i:Nat) (hi:i<2) (w:World):(Instr.index 222 (.agg #[.float .f64 a,.float .f64 b]) (.int .i64 i)).run Tryz.prog w=.ok (.float .f64 (if i=0 then a else b)) w:=by
 obtain⟨ti,hsz,_,hs1,_⟩:=info_parts (show (Tryz.prog.info? 202).map (fun i=>(i.zero,i.size,i.bytes))=some (some (.float .f64 0),1,8) by kernel_rfl)
 unfold Instr.index
 simp only [Sem.run_bind,asIntOf,Sem.run_pure,Result.andThen_ok,run_underlying Tryz.underlying222]
 rw [if_pos ⟨by omega,by omega⟩]
 match i,hi with
 | 0,_=>simp [part,isAgg,sizeOf,typeInfo,run_underlying Tryz.underlying202,hsz,hs1]
 | 1,_=>simp [part,isAgg,sizeOf,typeInfo,run_underlying Tryz.underlying202,hsz,hs1]
theorem gText_any {z:Int × Int} (hz:zOk z) (w:World):Calls Tryz.prog 114 #[.complex .f64 (dbl z.1) (dbl z.2)] w (RetB (.string ⟨(zText z).toArray⟩) w):=by
 refine vE Tryz.func114 ?_
 have d1:=dbl_is z.1 (by have:=hz.1;omega)
 have d2:=dbl_is z.2 (by have:=hz.2;omega)
 refine call_b (gMay_any d1 d2 (by have:=hz.1;omega) (by have:=hz.2;omega) _) ?_
 intro w0 h0
 refine split_f (by rw [inP_t hz.1,inP_t hz.2];rfl) ?_
 have c0:=(Ctx.start w (fun _=>False) (fun _ h=>h.elim))
 have c1:=(c0.quiet h0).1
 have step:∀ i:Nat,(zText z).take (4*i)++hex4 (part2 z i)=(zText z).take (4*(i+1))\/2<=i:=by
  intro i
  match i with
  | 0=>exact .inl rfl
  | 1=>exact .inl rfl
  | n+2=>exact .inr (by omega)
 refine⟨Nat × Option Addr × Nat,fun x=>[(3,.slice x.2.1 (4*x.1) x.2.2),(16,.agg #[.float .f64 (dbl z.1),.float .f64 (dbl z.2)]),(17,.int .i64 x.1)],
  fun x w'=>x.1<=2/\Ctx (fun _=>False) w (fun _=>False) w' []/\Own (fun _=>False) w.heap.size w' [] 5 1 x.2.1 (4*x.1) x.2.2 (bv ((zText z).take (4*x.1))),fun x _=>2-x.1,(0,none,0),
  ⟨rfl,rfl,rfl,trivial⟩,⟨Nat.zero_le _,c1,Own.nil⟩,?_⟩
 rintro⟨i,A,cap⟩ w' u ⟨hi,hc,ho⟩
 by_cases hlt:i<2
 ·refine split_t (decide_eq_true (by show (i:Int)<2;omega)) ?_
  have hp:0<=part2 z i/\part2 z i<65521:=by unfold part2;have:=hz.1;have:=hz.2;split<;>omega
  have e1:∀ w,(Instr.index 222 (.agg #[.float .f64 (dbl z.1),.float .f64 (dbl z.2)]) (.int .i64 i)).run Tryz.prog w=.ok (.float .f64 (dbl (part2 z i))) w:=by
   intro w
   match i,hlt with
   | 0,_=>exact index_run 0 (by decide) w
   | 1,_=>exact index_run 1 (by decide) w
  refine⟨_,e1,?_⟩
  refine⟨_,_,cv_int3 (dbl_is (part2 z i) (by omega)) (by omega) (by omega) _,?_⟩
  refine⟨Nat × Option Addr × Nat,fun x=>[(3,.slice x.2.1 (4*i+x.1) x.2.2),(6,.int .i64 (part2 z i)),(7,.int .i64 (3-(x.1:Int))),(16,.agg #[.float .f64 (dbl z.1),.float .f64 (dbl z.2)]),(17,.int .i64 i)],
   fun x w'=>x.1<=4/\Ctx (fun _=>False) w (fun _=>False) w' []/\Own (fun _=>False) w.heap.size w' [] 5 1 x.2.1 (4*i+x.1) x.2.2 (bv ((zText z).take (4*i)++(hex4 (part2 z i)).take x.1)),fun x _=>4-x.1,(0,A,cap),
   ⟨rfl,rfl,rfl,rfl,rfl,trivial⟩,⟨Nat.zero_le _,hc,?_⟩,?_⟩
  ·simpa using ho
  rintro⟨q,A,cap⟩ w' u ⟨hq,hc,ho⟩
  by_cases hq4:q<4
  ·refine split_t (decide_eq_true (by show (0:Int)<=3-q;omega)) ?_
   have es:=inner_shift q hq4
   refine⟨?_,?_⟩
   ·show 0<=IntKind.i64.wrap (4*(3-(q:Int)))/\IntKind.i64.wrap (4*(3-(q:Int)))<=64
    rw [es];omega
   have hD:IntKind.u8.wrap (bits .and .i64 (part2 z i / 2 ^ (IntKind.i64.wrap (4*(3-(q:Int)))).toNat) 15)=part2 z i / 2 ^ (12-4*q) % 16:=by
    rw [es,Int.toNat_natCast,i64_and15]
    have:=dig_range (part2 z i) q
    exact IntWalk.u8_in _ ⟨by omega,by omega⟩
   have hr:=dig_range (part2 z i) q
   have hdv:((dig (part2 z i) q).toNat:Int)=if part2 z i / 2 ^ (12-4*q) % 16<10 then 48+part2 z i / 2 ^ (12-4*q) % 16 else 87+part2 z i / 2 ^ (12-4*q) % 16:=by
    unfold dig
    rw [hexd_toNat _ (by omega)]
    split<;>split<;>omega
   have hn3:IntKind.i64.wrap (3-(q:Int)-1)=3-((q+1:Nat):Int):=by rw [IntWalk.i64_in _ ⟨by omega,by omega⟩];omega
   have fin:∀ (v:Value) (g:Nat) (w1:World),v=.int .u8 ((dig (part2 z i) q).toNat:Int)->New w' [v] 5 g w1->
     Ctx (fun _=>False) w (fun _=>False) w1 [(g,5,[v])]/\Own (fun _=>False) w.heap.size w1 [(g,5,[v])] 5 1 A (4*i+q) cap (bv ((zText z).take (4*i)++(hex4 (part2 z i)).take q))/\allOne [v]=true:=
    fun v g w1 hv hN=>⟨(hc.loc hN).1,ho.loc hN,by rw [hv];rfl⟩
   have next:∀ (v:Value),v=.int .u8 ((dig (part2 z i) q).toNat:Int)->bv ((zText z).take (4*i)++(hex4 (part2 z i)).take q)++[v]=bv ((zText z).take (4*i)++(hex4 (part2 z i)).take (q+1)):=by
    intro v hv
    rw [hex4_take _ _ hq4,hv,<-List.append_assoc,bv_append _ [_]]
    rfl
   by_cases h10:part2 z i / 2 ^ (12-4*q) % 16<10
   ·refine split_t (decide_eq_true (by rw [hD];exact h10)) ?_
    intro g w1 hN
    have hv:Value.int .u8 (IntKind.u8.wrap (48+IntKind.u8.wrap (bits .and .i64 (part2 z i / 2 ^ (IntKind.i64.wrap (4*(3-(q:Int)))).toNat) 15)))=.int .u8 ((dig (part2 z i) q).toNat:Int):=by
     rw [hD,IntWalk.u8_in _ ⟨by omega,by omega⟩,hdv,if_pos h10]
    obtain⟨k1,k2,k3⟩:=fin _ g w1 hv hN
    refine app_own Tryz.underlying181 info_u8 rfl (by decide) k1 k2 rfl (k1.cells 0 rfl) k3 (by omega) (by decide) ?_
    intro A' cap' w2 k4 _ k5 _
    refine⟨(q+1,A',cap'),⟨rfl,rfl,congrArg _ hn3,rfl,rfl,trivial⟩,⟨hq4,k4.drop,?_⟩,by show 4-(q+1)<4-q;omega⟩
    rw [next _ hv] at k5
    exact k5.drop
   ·refine split_f (decide_eq_false (by rw [hD];exact h10)) ?_
    intro g w1 hN
    have hv:Value.int .u8 (IntKind.u8.wrap (IntKind.u8.wrap (97+IntKind.u8.wrap (bits .and .i64 (part2 z i / 2 ^ (IntKind.i64.wrap (4*(3-(q:Int)))).toNat) 15))-10))=.int .u8 ((dig (part2 z i) q).toNat:Int):=by
     rw [hD,IntWalk.u8_in (97+_) ⟨by omega,by omega⟩,IntWalk.u8_in _ ⟨by omega,by omega⟩,hdv,if_neg h10]
     congr 1
     omega
    obtain⟨k1,k2,k3⟩:=fin _ g w1 hv hN
    refine app_own Tryz.underlying181 info_u8 rfl (by decide) k1 k2 rfl (k1.cells 0 rfl) k3 (by omega) (by decide) ?_
    intro A' cap' w2 k4 _ k5 _
    refine⟨(q+1,A',cap'),⟨rfl,rfl,congrArg _ hn3,rfl,rfl,trivial⟩,⟨hq4,k4.drop,?_⟩,by show 4-(q+1)<4-q;omega⟩
    rw [next _ hv] at k5
    exact k5.drop
  ·refine split_f (decide_eq_false (by show ¬ (0:Int)<=3-q;omega)) ?_
   obtain rfl:q=4:=by omega
   have hst:=(step i).resolve_right (by omega)
   refine⟨(i+1,A,cap),⟨rfl,rfl,congrArg _ (i_down (by omega)),trivial⟩,⟨hlt,hc,?_⟩,by show 2-(i+1)<2-i;omega⟩
   rw [<-hst]
   exact ho
 ·refine split_f (decide_eq_false (by show ¬ (i:Int)<2;omega)) ?_
  obtain rfl:i=2:=by omega
  have hR:=(ho.told hc).2.2 ho.fit.1 ho.fit.2
  refine bytes_str Tryz.underlying181 Tryz.underlying5 Tryz.underlying9 hR rfl ?_
  exact⟨rfl,hc.below⟩
set_option maxRecDepth 100000
def no (_:Nat):Prop:=False
theorem rmod_any (n:Int) (h:n.natAbs<9000000000000000000) (w:World):Calls Tryz.prog 246 #[.int .i64 n] w (RetB (.int .i64 (n % 65521)) w):=by
 refine vE Tryz.func246 ?_
 refine vc_nz (by decide) ?_
 have hm:=tmodP n
 by_cases h:n.tmod 65521<0
 ·refine split_t (decide_eq_true h) ?_
  rw [if_pos h] at hm
  refine⟨ret_int ?_,Below.refl _ _⟩
  rw [wrap_add _ _ (by omega) (by omega),hm]
 ·refine split_f (decide_eq_false h) ?_
  rw [if_neg h] at hm
  exact⟨ret_int hm,Below.refl _ _⟩
theorem radd_any (a b c d:Int) (ha:0<=a/\a<65521) (hb:0<=b/\b<65521) (hc:0<=c/\c<65521) (hd:0<=d/\d<65521) (w:World):
  Calls Tryz.prog 233 #[.agg #[.int .i64 a,.int .i64 b],.agg #[.int .i64 c,.int .i64 d]] w (RetB (.agg #[.int .i64 ((a+c) % 65521),.int .i64 ((b+d) % 65521)]) w):=by
 refine vE Tryz.func233 ?_
 intro g2 w2 h2 g3 w3 h3 g4 w4 h4
 have c2:=((Ctx.start w no (fun _ h=>h.elim)).loc h2).1
 have c3:=(c2.loc h3).1
 have c4:=(c3.loc h4).1
 have b2:=c4.blk 2 rfl
 have b3:=c4.blk 1 rfl
 have hlt:∀ b,(b=g2\/b=g3)->b<w4.heap.size:=fun b hb=>by rcases hb with rfl | rfl;exact b2.lt;exact b3.lt
 refine vD (.Q [0,1,2,3,4,6,7,8,9,10] (.n 5 (.n 11 (.q 12 (.z 13)) .stop) .stop)) (Keeps (fun b=>b=g2\/b=g3) w4) (Keeps.start _ _) ?_
 refine⟨_,fun x hx=>hx.cell b2 (.inl rfl) rfl,?_⟩
 refine⟨_,fun x hx=>hx.cell b3 (.inr rfl) rfl,?_⟩
 refine⟨_,fun x hx=>hx.cell b2 (.inl rfl) rfl,?_⟩
 refine⟨_,fun x hx=>hx.cell b3 (.inr rfl) rfl,?_⟩
 have e1:IntKind.i64.wrap (a+c)=a+c:=wrap_add _ _ (by omega) (by omega)
 have e2:IntKind.i64.wrap (b+d)=b+d:=wrap_add _ _ (by omega) (by omega)
 refine⟨call_b (rmod_any (IntKind.i64.wrap (a+c)) (by omega) _) ?_,trivial⟩
 intro w5 h5
 have k5:=(Keeps.start _ _).below hlt h5
 have c5:=(c4.drew.quiet h5).1
 refine⟨k5,?_⟩
 refine⟨call_b (rmod_any (IntKind.i64.wrap (b+d)) (by omega) _) ?_,trivial⟩
 intro w6 h6
 have k6:=k5.below hlt h6
 have c6:=(c5.quiet h6).1
 refine⟨k6,?_⟩
 refine⟨c6.may 0 rfl 0 _ (Nat.le_refl 2) rfl,?_⟩
 intro w7 h7
 have c7:=(c6.set 0 rfl h7).1
 refine⟨_,?_,c7.cells 0 rfl,?_⟩
 ·rfl
 refine⟨?_,c7.below⟩
 rw [e1,e2]
 rfl
theorem rmul_any (a b c d:Int) (ha:0<=a/\a<65521) (hb:0<=b/\b<65521) (hc:0<=c/\c<65521) (hd:0<=d/\d<65521) (w:World):
  Calls Tryz.prog 234 #[.agg #[.int .i64 a,.int .i64 b],.agg #[.int .i64 c,.int .i64 d]] w (RetB (.agg #[.int .i64 ((a*c-b*d) % 65521),.int .i64 ((a*d+b*c) % 65521)]) w):=by
 refine vE Tryz.func234 ?_
 intro g2 w2 h2 g3 w3 h3 g4 w4 h4
 have c2:=((Ctx.start w no (fun _ h=>h.elim)).loc h2).1
 have c3:=(c2.loc h3).1
 have c4:=(c3.loc h4).1
 have b2:=c4.blk 2 rfl
 have b3:=c4.blk 1 rfl
 have hlt:∀ b,(b=g2\/b=g3)->b<w4.heap.size:=fun b hb=>by rcases hb with rfl | rfl;exact b2.lt;exact b3.lt
 have l1:=mul_lim ha hc
 have l2:=mul_lim hb hd
 have l3:=mul_lim ha hd
 have l4:=mul_lim hb hc
 have e1:IntKind.i64.wrap (a*c)=a*c:=IntWalk.i64_in _ ⟨by omega,by omega⟩
 have e2:IntKind.i64.wrap (b*d)=b*d:=IntWalk.i64_in _ ⟨by omega,by omega⟩
 have e3:IntKind.i64.wrap (a*d)=a*d:=IntWalk.i64_in _ ⟨by omega,by omega⟩
 have e4:IntKind.i64.wrap (b*c)=b*c:=IntWalk.i64_in _ ⟨by omega,by omega⟩
 have e5:IntKind.i64.wrap (a*c-b*d)=a*c-b*d:=IntWalk.i64_in _ ⟨by omega,by omega⟩
 have e6:IntKind.i64.wrap (a*d+b*c)=a*d+b*c:=IntWalk.i64_in _ ⟨by omega,by omega⟩
 refine vD (.Q [0,1,2,3,4,5,6,7,8,9,10,12,13,14,15,16,17,18,19,20,21,22] (.n 11 (.n 23 (.q 24 (.z 25)) .stop) .stop)) (Keeps (fun b=>b=g2\/b=g3) w4) (Keeps.start _ _) ?_
 refine⟨_,fun x hx=>hx.cell b2 (.inl rfl) rfl,?_⟩
 refine⟨_,fun x hx=>hx.cell b3 (.inr rfl) rfl,?_⟩
 refine⟨_,fun x hx=>hx.cell b2 (.inl rfl) rfl,?_⟩
 refine⟨_,fun x hx=>hx.cell b3 (.inr rfl) rfl,?_⟩
 refine⟨_,fun x hx=>hx.cell b2 (.inl rfl) rfl,?_⟩
 refine⟨_,fun x hx=>hx.cell b3 (.inr rfl) rfl,?_⟩
 refine⟨_,fun x hx=>hx.cell b2 (.inl rfl) rfl,?_⟩
 refine⟨_,fun x hx=>hx.cell b3 (.inr rfl) rfl,?_⟩
 refine⟨call_b (rmod_any (IntKind.i64.wrap (IntKind.i64.wrap (a*c)-IntKind.i64.wrap (b*d))) (by rw [e1,e2,e5];omega) _) ?_,trivial⟩
 intro w5 h5
 have k5:=(Keeps.start _ _).below hlt h5
 have c5:=(c4.drew.quiet h5).1
 refine⟨k5,?_⟩
 refine⟨call_b (rmod_any (IntKind.i64.wrap (IntKind.i64.wrap (a*d)+IntKind.i64.wrap (b*c))) (by rw [e3,e4,e6];omega) _) ?_,trivial⟩
 intro w6 h6
 have k6:=k5.below hlt h6
 have c6:=(c5.quiet h6).1
 refine⟨k6,?_⟩
 refine⟨c6.may 0 rfl 0 _ (Nat.le_refl 2) rfl,?_⟩
 intro w7 h7
 have c7:=(c6.set 0 rfl h7).1
 refine⟨_,?_,c7.cells 0 rfl,?_⟩
 ·rfl
 refine⟨?_,c7.below⟩
 rw [e1,e2,e3,e4,e5,e6]
 rfl
theorem ron_any {z:Int × Int} (hz:zOk z) (t:ByteArray) (hM:t.size<=9223372036854775807) (w:World):
  Calls Tryz.prog 217 #[.agg #[.int .i64 z.1,.int .i64 z.2],.string t] w (RetB (.agg #[.int .i64 (zOn z t.data.toList).1,.int .i64 (zOn z t.data.toList).2]) w):=by
 refine vE Tryz.func217 ?_
 intro g2 w2 h2 g4 w4 h4
 have c2:=((Ctx.start w no (fun _ h=>h.elim)).loc h2).1
 have c4:=(c2.loc h4).1
 have hln:=ba_len t
 refine⟨Nat,fun k=>[(1,.string t),(2,.pointer (some ⟨g2,0,none⟩)),(4,.pointer (some ⟨g4,0,none⟩)),(5,.int .i64 k)],
  fun k w'=>k<=t.size/\Ctx no w no w' [(g4,118,[.int .i64 0,.int .i64 0]),(g2,118,[.int .i64 (zOn z (t.data.toList.take k)).1,.int .i64 (zOn z (t.data.toList.take k)).2])],fun k _=>t.size-k,0,
  ⟨rfl,rfl,rfl,rfl,trivial⟩,⟨Nat.zero_le _,c4⟩,?_⟩
 rintro k w' u ⟨hk,hc⟩
 by_cases hlt:k<t.size
 ·refine split_t (decide_eq_true (by omega)) ?_
  have b2:=hc.blk 1 rfl
  have hl2:∀ b,b=g2->b<w'.heap.size:=fun b hb=>by rw [hb];exact b2.lt
  have zk:=zOn_ok (t.data.toList.take k) z hz
  have hs:=zOn_take z t.data.toList k (by omega)
  have hc8:(t.data.toList.getD k 0).toNat<256:=(t.data.toList.getD k 0).toNat_lt
  refine vD (.Q [0,1,3,4,5,6,7,8] (.n 2 (.n 9 (.z 10) .stop) .stop)) (Keeps (fun b=>b=g2) w') (Keeps.start _ _) ?_
  refine⟨_,?_,fun x hx=>hx.cells b2 rfl,?_⟩
  ·rfl
  refine⟨⟨by omega,by omega⟩,?_⟩
  refine⟨call_b (rmul_any _ _ 3 5 zk.1 zk.2 (by decide) (by decide) _) ?_,trivial⟩
  intro w5 h5
  have k5:=(Keeps.start _ _).below hl2 h5
  have c5:=(hc.drew.quiet h5).1
  refine⟨k5,?_⟩
  refine⟨?_,trivial⟩
  have e8:IntKind.i64.wrap ((t.data.toList.getD (k:Int).toNat 0).toNat:Int)=((t.data.toList.getD k 0).toNat:Int):=IntWalk.i64_in _ ⟨by rw [Int.toNat_natCast];omega,by rw [Int.toNat_natCast];omega⟩
  have e9:IntKind.i64.wrap (IntKind.i64.wrap ((t.data.toList.getD (k:Int).toNat 0).toNat:Int)+1)=((t.data.toList.getD k 0).toNat:Int)+1:=by rw [e8];exact wrap_add _ _ (by omega) (by omega)
  refine call_b (radd_any _ _ (IntKind.i64.wrap (IntKind.i64.wrap ((t.data.toList.getD (k:Int).toNat 0).toNat:Int)+1)) 0 (by omega) (by omega) (by rw [e9];omega) (by decide) _) ?_
  intro w6 h6
  have k6:=k5.below hl2 h6
  have c6:=(c5.quiet h6).1
  refine⟨k6,?_⟩
  refine⟨c6.may 1 rfl 0 _ (Nat.le_refl 2) rfl,?_⟩
  intro w7 h7
  have c7:=(c6.set 1 rfl h7).1
  refine⟨k+1,⟨rfl,rfl,rfl,congrArg _ (i_down (by omega)),trivial⟩,⟨hlt,?_⟩,by show t.size-(k+1)<t.size-k;omega⟩
  rw [hs]
  rw [e9] at c7
  exact c7
 ·refine split_f (decide_eq_false (by omega)) ?_
  refine hc.a 1 rfl rfl ?_
  refine⟨hc.may 0 rfl 0 _ (Nat.le_refl 2) rfl,?_⟩
  intro w7 h7
  have c7:=(hc.set 0 rfl h7).1
  refine⟨_,?_,c7.cells 0 rfl,?_⟩
  ·rfl
  refine⟨?_,c7.below⟩
  have e:t.data.toList.take k=t.data.toList:=List.take_of_length_le (by omega)
  rw [e]
  rfl
theorem rmark_any (t:ByteArray) (hM:t.size<=9223372036854775807) (w:World):
  Calls Tryz.prog 190 #[.string t] w (RetB (.agg #[.int .i64 (zOn (0,1) t.data.toList).1,.int .i64 (zOn (0,1) t.data.toList).2]) w):=by
 refine vE Tryz.func190 ?_
 intro g2 w2 h2
 have c2:=((Ctx.start w no (fun _ h=>h.elim)).loc h2).1
 refine call_b (ron_any (z:=(0,1)) ⟨by decide,by decide⟩ t hM _) ?_
 intro w3 h3
 have c3:=(c2.quiet h3).1
 refine⟨c3.may 0 rfl 0 _ (Nat.le_refl 2) rfl,?_⟩
 intro w7 h7
 have c7:=(c3.set 0 rfl h7).1
 refine⟨_,?_,c7.cells 0 rfl,?_⟩
 ·rfl
 exact⟨rfl,c7.below⟩
theorem digs_get:∀ k:Nat,k<16->(({ data:=#[48,49,50,51,52,53,54,55,56,57,97,98,99,100,101,102] }:ByteArray).data.toList.getD k 0)=hexd k:=by decide
theorem rfour_any (n:Int) (hn:0<=n/\n<65536) (w:World):Calls Tryz.prog 216 #[.int .i64 n] w (RetB (.string ⟨(hex4 n).toArray⟩) w):=by
 refine vE Tryz.func216 ?_
 have q1:IntKind.i64.wrap (n.tdiv 4096)=n / 4096:=by rw [Int.tdiv_eq_ediv_of_nonneg hn.1];exact IntWalk.i64_in _ ⟨by omega,by omega⟩
 have q2:IntKind.i64.wrap (n.tdiv 256)=n / 256:=by rw [Int.tdiv_eq_ediv_of_nonneg hn.1];exact IntWalk.i64_in _ ⟨by omega,by omega⟩
 have q3:IntKind.i64.wrap (n.tdiv 16)=n / 16:=by rw [Int.tdiv_eq_ediv_of_nonneg hn.1];exact IntWalk.i64_in _ ⟨by omega,by omega⟩
 have m1:(IntKind.i64.wrap (n.tdiv 4096)).tmod 16=n / 4096 % 16:=by rw [q1];exact Int.tmod_eq_emod_of_nonneg (by omega)
 have m2:(IntKind.i64.wrap (n.tdiv 256)).tmod 16=n / 256 % 16:=by rw [q2];exact Int.tmod_eq_emod_of_nonneg (by omega)
 have m3:(IntKind.i64.wrap (n.tdiv 16)).tmod 16=n / 16 % 16:=by rw [q3];exact Int.tmod_eq_emod_of_nonneg (by omega)
 have m4:n.tmod 16=n % 16:=Int.tmod_eq_emod_of_nonneg hn.1
 have lim:∀ x:Int,0<=x % 16/\x % 16<((({ data:=#[48,49,50,51,52,53,54,55,56,57,97,98,99,100,101,102] }:ByteArray).size:Nat):Int):=fun x=>by
  show 0<=x % 16/\x % 16<16
  omega
 refine vD (.Q [0,1,2,3,4,5,6,7,8,9,10,11,12,13,14,15,16,17,18] (.n 19 (.n 20 (.q 21 .fin) .stop) .stop)) (fun _=>True) trivial ?_
 refine vc_nz (by decide) ?_
 refine vc_nz (by decide) ?_
 refine⟨by rw [m1];exact lim _,?_⟩
 refine vc_nz (by decide) ?_
 refine vc_nz (by decide) ?_
 refine⟨by rw [m2];exact lim _,?_⟩
 refine vc_nz (by decide) ?_
 refine vc_nz (by decide) ?_
 refine⟨by rw [m3];exact lim _,?_⟩
 refine vc_nz (by decide) ?_
 refine⟨by rw [m4];exact lim _,?_⟩
 refine⟨fun g w1 hN=>?_,trivial⟩
 refine⟨trivial,?_⟩
 refine⟨?_,trivial⟩
 have hR:=hN.row 4 (by decide)
 have hd:∀ (x:Int) (q:Nat) (m:Int),x=m % 16->m=n / 2 ^ (12-4*q)->Value.int .u8 ((({ data:=#[48,49,50,51,52,53,54,55,56,57,97,98,99,100,101,102] }:ByteArray).data.toList.getD x.toNat 0).toNat:Int)=.int .u8 ((dig n q).toNat:Int):=by
  intro x q m hx hm
  unfold dig
  rw [digs_get x.toNat (by omega),hx,hm]
 have hb:[Value.int .u8 ((({ data:=#[48,49,50,51,52,53,54,55,56,57,97,98,99,100,101,102] }:ByteArray).data.toList.getD ((IntKind.i64.wrap (n.tdiv 4096)).tmod 16).toNat 0).toNat:Int),
   Value.int .u8 ((({ data:=#[48,49,50,51,52,53,54,55,56,57,97,98,99,100,101,102] }:ByteArray).data.toList.getD ((IntKind.i64.wrap (n.tdiv 256)).tmod 16).toNat 0).toNat:Int),
   Value.int .u8 ((({ data:=#[48,49,50,51,52,53,54,55,56,57,97,98,99,100,101,102] }:ByteArray).data.toList.getD ((IntKind.i64.wrap (n.tdiv 16)).tmod 16).toNat 0).toNat:Int),
   Value.int .u8 ((({ data:=#[48,49,50,51,52,53,54,55,56,57,97,98,99,100,101,102] }:ByteArray).data.toList.getD (n.tmod 16).toNat 0).toNat:Int)]=bv (hex4 n):=by
  rw [hd _ 0 _ m1 rfl,hd _ 1 _ m2 rfl,hd _ 2 _ m3 rfl,hd _ 3 n m4 (by omega)]
  rfl
 have hR':Row (fun b=>b=g) w1 (some ⟨g,0,none⟩) 4 4 (bv (hex4 n)):=by rw [<-hb];exact hR
 refine bytes_str Tryz.underlying181 Tryz.underlying5 Tryz.underlying9 hR' rfl ?_
 refine⟨trivial,?_⟩
 exact⟨rfl,((Below.refl w.heap.size w).drew).trans hN.below⟩
theorem ba_append (a b:List UInt8):(⟨a.toArray⟩++⟨b.toArray⟩:ByteArray)=⟨(a++b).toArray⟩:=by
 apply ByteArray.ext
 rw [ByteArray.data_append]
 simp
theorem ba_size (a:List UInt8):(⟨a.toArray⟩:ByteArray).size=a.length:=by
 show a.toArray.size=_
 simp
theorem rtext_any {z:Int × Int} (hz:zOk z) (w:World):Calls Tryz.prog 189 #[.agg #[.int .i64 z.1,.int .i64 z.2]] w (RetB (.string ⟨(zText z).toArray⟩) w):=by
 refine vE Tryz.func189 ?_
 intro g2 w2 h2
 have c2:=((Ctx.start w no (fun _ h=>h.elim)).loc h2).1
 have b2:=c2.blk 0 rfl
 have hl2:∀ b,b=g2->b<w2.heap.size:=fun b hb=>by rw [hb];exact b2.lt
 refine vD (.Q [0,1,3,4] (.n 2 (.n 5 (.Q [6,7] .fin) .stop) .stop)) (Keeps (fun b=>b=g2) w2) (Keeps.start _ _) ?_
 refine⟨_,fun x hx=>hx.cell b2 rfl rfl,?_⟩
 refine⟨_,fun x hx=>hx.cell b2 rfl rfl,?_⟩
 refine⟨call_b (rfour_any _ (by have:=hz.1;omega) _) ?_,trivial⟩
 intro w5 h5
 have k5:=(Keeps.start _ _).below hl2 h5
 have c5:=(c2.drew.quiet h5).1
 refine⟨k5,?_⟩
 refine⟨call_b (rfour_any _ (by have:=hz.2;omega) _) ?_,trivial⟩
 intro w6 h6
 have k6:=k5.below hl2 h6
 have c6:=(c5.quiet h6).1
 refine⟨k6,?_⟩
 refine⟨?_,?_⟩
 ·rw [ba_size,ba_size];show 4+4<=9223372036854775807;decide
 refine⟨?_,c6.below⟩
 rw [ba_append]
 rfl
theorem rtag_any (t:ByteArray) (hM:t.size<=9223372036854775807) (w:World):Calls Tryz.prog 139 #[.string t] w (RetB (.string ⟨(zText (zOn (0,1) t.data.toList)).toArray⟩) w):=by
 refine vE Tryz.func139 ?_
 refine call_b (rmark_any t hM _) ?_
 intro w1 h1
 refine call_b (rtext_any (zOn_ok _ _ ⟨by decide,by decide⟩) _) ?_
 intro w2 h2
 exact⟨rfl,h1.trans (h2.mono h1.size)⟩
theorem tag_any (t:ByteArray) (hM:t.size<=maxLen) (w:World):Calls Tryz.prog 212 #[.string t] w (RetB (.string ⟨(zText (zOn (0,1) t.data.toList)).toArray⟩) w):=by
 refine vE Tryz.func212 ?_
 have hM':t.size<=9223372036854775807:=by simp only [maxLen] at hM;omega
 refine str_bytes no Tryz.underlying9 Tryz.underlying181 Tryz.underlying5 hM ?_
 intro g cap w1 h1 hR
 refine call_b (gMark_any (ba_len t).symm hM' _ hR) ?_
 intro w2 h2
 refine call_b (gText_any (zOn_ok _ _ ⟨by decide,by decide⟩) _) ?_
 intro w3 h3
 have h12:=h1.trans (h2.mono h1.size)
 exact⟨rfl,h12.trans (h3.mono h12.size)⟩
end Go.Proofs.YtokglimimnelaaaGreatDoor
section
namespace Go.Vc
open Go Go.RowKit
open Go.Proofs.YtokglimimnelaaaGreatDoor (no)
set_option maxRecDepth 100000
structure Turn (G:Nat->Prop) (w w':World):Prop where
 os:w'.os=w.os
 tape:w'.tape=w.tape
 output:w'.output=w.output
 block:∀ x,x<w.heap.size->¬ G x->w'.heap[x]?=w.heap[x]?
theorem heap_lt {w w':World} {x:Nat} (h:w'.heap[x]?=w.heap[x]?) (hx:x<w.heap.size):x<w'.heap.size:=by
 rw [Array.getElem?_eq_getElem hx] at h
 exact (Array.getElem?_eq_some_iff.1 h).1
theorem Turn.below {G:Nat->Prop} {w w':World} (h:Below w.heap.size w w'):Turn G w w':=⟨h.os,h.tape,h.output,fun x hx _=>h.block x hx⟩
theorem Turn.trans {G:Nat->Prop} {w w' w'':World} (h:Turn G w w') (k:Turn (fun x=>G x\/w.heap.size<=x) w' w''):Turn G w w'':=
 ⟨k.os.trans h.os,k.tape.trans h.tape,k.output.trans h.output,fun x hx hg=>by
  have h1:=h.block x hx hg
  exact (k.block x (heap_lt h1 hx) (fun e=>e.elim hg (fun e=>by omega))).trans h1⟩
def Sep (n0:Nat) (R O:Kn):Kn:=fun S w=>∃ S1 Sa:Nat->Prop,(∀ x,S1 x->S x/\¬ Sa x)/\(∀ x,Sa x->S x/\n0<=x)/\R S1 w/\O Sa w
theorem Sep.stab {n0:Nat} {R O:Kn} (hR:Stab R) (hO:Stab O):Stab (Sep n0 R O):=fun S w S' w' h f=>by
 obtain⟨S1,Sa,h1,h2,h3,h4⟩:=h
 exact⟨S1,Sa,fun x hx=>⟨f.1 x (h1 x hx).1,(h1 x hx).2⟩,fun x hx=>⟨f.1 x (h2 x hx).1,(h2 x hx).2⟩,hR _ _ _ _ h3 ⟨fun _ h=>h,fun x hx=>f.2 x (h1 x hx).1⟩,hO _ _ _ _ h4 ⟨fun _ h=>h,fun x hx=>f.2 x (h2 x hx).1⟩⟩
theorem Sep.left {n0:Nat} {R O:Kn} (hR:Stab R) {S:Nat->Prop} {w:World} (h:Sep n0 R O S w):R S w:=by
 obtain⟨S1,Sa,h1,h2,h3,h4⟩:=h
 exact hR _ _ _ _ h3 ⟨fun x hx=>(h1 x hx).1,fun _ _=>rfl⟩
theorem Sep.right {n0:Nat} {R O:Kn} (hO:Stab O) {S:Nat->Prop} {w:World} (h:Sep n0 R O S w):O S w:=by
 obtain⟨S1,Sa,h1,h2,h3,h4⟩:=h
 exact hO _ _ _ _ h4 ⟨fun x hx=>(h2 x hx).1,fun _ _=>rfl⟩
theorem Sep.mono {n0:Nat} {R R' O O':Kn} {S:Nat->Prop} {w:World} (h:Sep n0 R O S w) (hR:∀ S,R S w->R' S w) (hO:∀ S,O S w->O' S w):Sep n0 R' O' S w:=by
 obtain⟨S1,Sa,h1,h2,h3,h4⟩:=h
 exact⟨S1,Sa,h1,h2,hR _ h3,hO _ h4⟩
theorem Sep.swap {n0:Nat} {R O P:Kn} {S:Nat->Prop} {w:World} (h:Sep n0 (Sep n0 R O) P S w):Sep n0 (Sep n0 R P) O S w:=by
 obtain⟨S1,Sp,h1,h2,⟨S2,So,k1,k2,k3,k4⟩,h4⟩:=h
 refine⟨fun x=>S2 x\/Sp x,So,fun x hx=>?_,fun x hx=>⟨(h1 x (k2 x hx).1).1,(k2 x hx).2⟩,⟨S2,Sp,fun x hx=>⟨.inl hx,(h1 x (k1 x hx).1).2⟩,fun x hx=>⟨.inr hx,(h2 x hx).2⟩,k3,h4⟩,k4⟩
 rcases hx with hx | hx
 ·exact⟨(h1 x (k1 x hx).1).1,(k1 x hx).2⟩
 ·exact⟨(h2 x hx).1,fun ho=>(h1 x (k2 x ho).1).2 hx⟩
section
variable {w0 w w':World} {S:Nat->Prop} {l:List LB} {os:List OR} {R O O' X:Kn}
theorem CtxF.turn (hc:CtxF no w0 S w l os R) {Sa Sn:Nat->Prop} (hSa:∀ x,Sa x->S x/\w0.heap.size<=x) (hT:Turn Sa w w') (hSn:∀ x,Sn x->(Sa x\/w.heap.size<=x)/\x<w'.heap.size) {Y:Kn} (hY:Y (fun x=>(S x/\¬ Sa x)\/Sn x) w') (hs:Stab Y):
  CtxF no w0 (fun x=>(S x/\¬ Sa x)\/Sn x) w' l os Y:=by
 obtain⟨⟨k1,k2,k3,k4,k5⟩,k6,k7,k8⟩:=hc
 have hblk:∀ x,x<w.heap.size->¬ S x->w'.heap[x]?=w.heap[x]?:=fun x hx hn=>hT.block x hx (fun h=>hn (hSa x h).1)
 have hout:∀ x,x<w.heap.size->¬ S x->¬ ((S x/\¬ Sa x)\/Sn x):=fun x hx hn h=>by
  rcases h with h | h
  ·exact hn h.1
  ·rcases (hSn x h).1 with h | h
   ·exact hn (hSa x h).1
   ·omega
 have hlow:∀ x,x<w0.heap.size->w'.heap[x]?=w0.heap[x]?:=fun x hx=>by
  have h1:=k1.block x hx
  exact (hT.block x (heap_lt h1 hx) (fun h=>by have:=(hSa x h).2;omega)).trans h1
 have hsz:w0.heap.size<=w'.heap.size:=by
  rcases Nat.eq_zero_or_pos w0.heap.size with h0 | h0
  ·omega
  ·have:=heap_lt (hlow (w0.heap.size-1) (by omega)) (by omega)
   omega
 refine⟨⟨⟨hT.os.trans k1.os,hT.tape.trans k1.tape,hT.output.trans k1.output,hsz,hlow⟩,fun _ h=>h.elim,fun x hx=>?_,fun x hx=>?_,?_⟩,?_,hY,hs⟩
 ·rcases hx with hx | hx
  ·exact k3 x hx.1
  ·rcases (hSn x hx).1 with h | h
   ·exact k3 x (hSa x h).1
   ·exact .inr (Nat.le_trans k1.size h)
 ·rcases hx with hx | hx
  ·exact heap_lt (hT.block x (k4 x hx.1) hx.2) (k4 x hx.1)
  ·exact (hSn x hx).2
 ·refine k5.mono (fun x hx=>?_) (fun x hx h=>?_)
  ·obtain⟨i,hi⟩:=List.getElem?_of_mem hx
   obtain⟨g,T,cs⟩:=x
   exact hblk g (k5.lt _ hx) (k5.notS hi).1
  ·obtain⟨i,hi⟩:=List.getElem?_of_mem hx
   obtain⟨g,T,cs⟩:=x
   exact absurd h (hout g (k5.lt _ hx) (k5.notS hi).1)
 ·refine k6.step fun o ho a ha=>⟨hblk _ ((k6.mem o ho).lt ha).2 ((k6.mem o ho).out a ha).1,hout _ ((k6.mem o ho).lt ha).2 ((k6.mem o ho).out a ha).1,((k6.mem o ho).out a ha).2⟩
theorem CtxF.turnO (hc:CtxF no w0 S w l os (Sep w0.heap.size R O)) (hR:Stab R) {S1 Sa Sn:Nat->Prop} (h1:∀ x,S1 x->S x/\¬ Sa x) (h2:∀ x,Sa x->S x/\w0.heap.size<=x) (h3:R S1 w) (hT:Turn Sa w w')
  (hSn:∀ x,Sn x->(Sa x\/w.heap.size<=x)/\x<w'.heap.size) (hO:O' Sn w') (hs:Stab O'):CtxF no w0 (fun x=>(S x/\¬ Sa x)\/Sn x) w' l os (Sep w0.heap.size R O'):=by
 refine hc.turn h2 hT hSn ⟨S1,Sn,fun x hx=>⟨.inl (h1 x hx),fun hn=>?_⟩,fun x hx=>⟨.inr hx,?_⟩,hR _ _ _ _ h3 ⟨fun _ h=>h,fun x hx=>?_⟩,hO⟩ (Sep.stab hR hs)
 ·rcases (hSn x hn).1 with h | h
  ·exact (h1 x hx).2 h
  ·have:=hc.ctx.lt x (h1 x hx).1
   omega
 ·rcases (hSn x hx).1 with h | h
  ·exact (h2 x h).2
  ·have:=hc.ctx.below.size
   omega
 ·exact hT.block x (hc.ctx.lt x (h1 x hx).1) (h1 x hx).2
theorem CtxF.sepKnow (hc:CtxF no w0 S w l os (Sep w0.heap.size R O)) (hR:Stab R) (hO:Stab O) (hb:Below w.heap.size w w') (hX:X (ext no w w') w') (hs:Stab X):CtxF no w0 (ext S w w') w' l os (Sep w0.heap.size (fun S w=>R S w/\X S w) O):=by
 obtain⟨S1,Sa,h1,h2,h3,h4⟩:=hc.row
 refine (hc.call hb).1.now (fun _=>⟨ext S1 w w',Sa,fun x hx=>?_,fun x hx=>⟨.inl (h2 x hx).1,(h2 x hx).2⟩,⟨?_,?_⟩,?_⟩) (Sep.stab (hR.and hs) hO)
 ·rcases hx with hx | hx
  ·exact⟨.inl (h1 x hx).1,(h1 x hx).2⟩
  ·exact⟨.inr hx,fun h=>by have:=hc.ctx.lt x (h2 x h).1;omega⟩
 ·exact hR _ _ _ _ h3 ⟨fun _ h=>.inl h,fun x hx=>hb.block x (hc.ctx.lt x (h1 x hx).1)⟩
 ·exact hs _ _ _ _ hX ⟨fun x h=>h.elim (fun h=>h.elim) .inr,fun _ _=>rfl⟩
 ·exact hO _ _ _ _ h4 ⟨fun _ h=>h,fun x hx=>hb.block x (hc.ctx.lt x (h2 x hx).1)⟩
theorem CtxF.sepNew (hc:CtxF no w0 S w l os R) (hb:Below w.heap.size w w') (hO':O' (ext no w w') w') (hs:Stab O'):CtxF no w0 (ext S w w') w' l os (Sep w0.heap.size R O'):=by
 refine (hc.call hb).1.now (fun _=>⟨S,ext no w w',fun x hx=>⟨.inl hx,fun h=>?_⟩,fun x hx=>?_,?_,hO'⟩) (Sep.stab hc.stab hs)
 ·rcases h with h | h
  ·exact h
  ·have:=hc.ctx.lt x hx
   omega
 ·rcases hx with h | h
  ·exact h.elim
  ·exact⟨.inr h,Nat.le_trans hc.ctx.below.size h.1⟩
 ·exact hc.stab _ _ _ _ hc.row ⟨fun _ h=>h,fun x hx=>hb.block x (hc.ctx.lt x hx)⟩
theorem CtxF.sepNow (hc:CtxF no w0 S w l os (Sep w0.heap.size R O)) {R' O':Kn} (hR:∀ S,R S w->R' S w) (hO:∀ S,O S w->O' S w) (hsR:Stab R') (hsO:Stab O'):CtxF no w0 S w l os (Sep w0.heap.size R' O'):=
 hc.now (fun h=>h.mono hR hO) (Sep.stab hsR hsO)
def bare (w:World):World:={ w with heap:=#[] }
def Keep (w:World) (G:Nat->Prop):Kn:=fun S w'=>∀ x,x<w.heap.size->¬ G x->S x/\w'.heap[x]?=w.heap[x]?
theorem Keep.stab (w:World) (G:Nat->Prop):Stab (Keep w G):=fun S w1 S' w2 h f x hx hg=>⟨f.1 x (h x hx hg).1,(f.2 x (h x hx hg).1).trans (h x hx hg).2⟩
theorem CtxF.enter {S:Nat->Prop} (hlt:∀ x,S x->x<w.heap.size) (hl:Locs S 0 w l) (ho:Owns S 0 w l os) (hr:R S w) (hs:Stab R):CtxF no (bare w) S w l os R:=
 ⟨⟨⟨rfl,rfl,rfl,Nat.zero_le _,fun k hk=>absurd hk (Nat.not_lt_zero _)⟩,fun _ h=>h.elim,fun b _=>.inr (Nat.zero_le _),hlt,hl⟩,ho,hr,hs⟩
theorem CtxF.leave {G S1:Nat->Prop} (hc:CtxF no (bare w) S w' l os R) (hk:Keep w G S1 w'):Turn G w w':=
 ⟨hc.ctx.below.os,hc.ctx.below.tape,hc.ctx.below.output,fun x hx hg=>(hk x hx hg).2⟩
theorem Keep.of {G S0 S1:Nat->Prop} {w w':World} (hk:Keep w G S1 w') {X:Kn} (hs:Stab X) (h:X S0 w) (hlt:∀ x,S0 x->x<w.heap.size/\¬ G x):X S1 w':=
 hs _ _ _ _ h ⟨fun x hx=>(hk x (hlt x hx).1 (hlt x hx).2).1,fun x hx=>(hk x (hlt x hx).1 (hlt x hx).2).2⟩
end
end Go.Vc
end
namespace Go.Proofs.YtokglimimnelaaaGreatDoor
open Go.Vc Go.RowKit Go.Fl
set_option maxRecDepth 100000
def isHex (c:UInt8):Bool:=(decide (48<=c.toNat)&&decide (c.toNat<=57))||(decide (97<=c.toNat)&&decide (c.toNat<=102))
def hv (c:UInt8):Int:=if c.toNat<=57 then (c.toNat:Int)-48 else (c.toNat:Int)-87
def hval (l:List UInt8):Int:=l.foldl (fun a c=>a*16+hv c) 0
def pp (l:List UInt8) (k:Nat):Int × Int:=(hval ((l.take k).take 4),hval ((l.take k).drop 4))
def zRead (l:List UInt8):(Int × Int) × Bool:=
 if l.length=8/\l.all isHex=true/\(pp l 8).1<65521/\(pp l 8).2<65521 then (pp l 8,true) else ((0,0),false)
theorem hval_snoc (l:List UInt8) (c:UInt8):hval (l++[c])=hval l*16+hv c:=by
 unfold hval
 rw [List.foldl_append]
 rfl
theorem take_snoc {α:Type} (l:List α) (k:Nat) (d:α) (h:k<l.length):l.take (k+1)=l.take k++[l.getD k d]:=by
 rw [List.take_succ_eq_append_getElem h,List.getD_eq_getElem?_getD,List.getElem?_eq_getElem h]
 rfl
theorem pp_lo (l:List UInt8) (k:Nat) (h:k<l.length) (h4:k<4):pp l (k+1)=((pp l k).1*16+hv (l.getD k 0),(pp l k).2):=by
 unfold pp
 rw [take_snoc l k 0 h]
 have e1:(l.take k).length=k:=by rw [List.length_take];omega
 rw [List.take_of_length_le (by rw [List.length_append,e1];exact h4),hval_snoc,List.take_of_length_le (i:=4) (by omega),List.drop_of_length_le (by rw [List.length_append,e1];exact h4),List.drop_of_length_le (by omega)]
theorem pp_hi (l:List UInt8) (k:Nat) (h:k<l.length) (h4:4<=k):pp l (k+1)=((pp l k).1,(pp l k).2*16+hv (l.getD k 0)):=by
 unfold pp
 rw [take_snoc l k 0 h]
 have e1:(l.take k).length=k:=by rw [List.length_take];omega
 rw [List.take_append_of_le_length (by omega),List.drop_append_of_le_length (by omega),hval_snoc]
theorem hv_range (c:UInt8) (h:isHex c=true):0<=hv c/\hv c<16:=by
 unfold isHex at h
 unfold hv
 simp only [Bool.or_eq_true,Bool.and_eq_true,decide_eq_true_eq] at h
 split<;>omega
theorem pp_range (l:List UInt8):∀ k:Nat,k<=8->k<=l.length->(l.take k).all isHex=true->(0<=(pp l k).1/\(pp l k).1<16 ^ (min k 4))/\(0<=(pp l k).2/\(pp l k).2<16 ^ (k-4))
 | 0,_,_,_=>⟨by simp [pp,hval],by simp [pp,hval]⟩
 | k+1,h8,hl,ha=>by
  rw [take_snoc l k 0 (by omega),List.all_append,Bool.and_eq_true] at ha
  obtain⟨i1,i2⟩:=pp_range l k (by omega) (by omega) ha.1
  have hr:=hv_range (l.getD k 0) (by simpa using ha.2)
  by_cases h4:k<4
  ·rw [pp_lo l k (by omega) h4]
   have e0:k-4=k+1-4:=by omega
   have e1:min k 4=k:=by omega
   have e2:min (k+1) 4=k+1:=by omega
   rw [e1] at i1
   rw [e2,<-e0,Int.pow_succ]
   refine⟨?_,i2⟩
   generalize (16:Int) ^ k=p at*
   show 0<=(pp l k).1*16+hv (l.getD k 0)/\(pp l k).1*16+hv (l.getD k 0)<p*16
   omega
  ·rw [pp_hi l k (by omega) (by omega)]
   have e1:min k 4=4:=by omega
   have e2:min (k+1) 4=4:=by omega
   have e3:k+1-4=(k-4)+1:=by omega
   rw [e1] at i1
   rw [e2,e3,show (16:Int) ^ (k-4+1)=16 ^ (k-4)*16 from Int.pow_succ _ _]
   refine⟨i1,?_⟩
   generalize (16:Int) ^ (k-4)=p at*
   show 0<=(pp l k).2*16+hv (l.getD k 0)/\(pp l k).2*16+hv (l.getD k 0)<p*16
   omega
theorem pp_lim (l:List UInt8) (k:Nat) (h8:k<=8) (hl:k<=l.length) (ha:(l.take k).all isHex=true):(0<=(pp l k).1/\(pp l k).1<65536)/\(0<=(pp l k).2/\(pp l k).2<65536):=by
 obtain⟨i1,i2⟩:=pp_range l k h8 hl ha
 have p1:(16:Int) ^ (min k 4)<=65536:=by
  have:(16:Nat) ^ (min k 4)<=16 ^ 4:=Nat.pow_le_pow_right (by decide) (Nat.min_le_right _ _)
  have h2:((16 ^ (min k 4):Nat):Int)<=((16 ^ 4:Nat):Int):=Int.ofNat_le.2 this
  rw [Int.natCast_pow] at h2
  exact h2
 have p2:(16:Int) ^ (k-4)<=65536:=by
  have:(16:Nat) ^ (k-4)<=16 ^ 4:=Nat.pow_le_pow_right (by decide) (by omega)
  have h2:((16 ^ (k-4):Nat):Int)<=((16 ^ 4:Nat):Int):=Int.ofNat_le.2 this
  rw [Int.natCast_pow] at h2
  exact h2
 omega
theorem zRead_not (l:List UInt8) (h:l.length≠8\/l.all isHex=false):zRead l=((0,0),false):=by
 unfold zRead
 rw [if_neg]
 rintro⟨h1,h2,_⟩
 rcases h with h | h
 ·exact h h1
 ·rw [h] at h2;cases h2
theorem dbl0:dbl 0=0:=by kernel_rfl
theorem gread_any (t:ByteArray) (w:World):Calls Tryz.prog 98 #[.string t] w
  (RetB (.tuple #[.complex .f64 (dbl (zRead t.data.toList).1.1) (dbl (zRead t.data.toList).1.2),.bool (zRead t.data.toList).2]) w):=by
 refine vE Tryz.func98 ?_
 obtain⟨l,ht⟩:∃ l,t.data.toList=l:=⟨_,rfl⟩
 have hln:=ba_len t
 rw [ht] at hln ⊢
 by_cases h8:l.length=8
 ·refine split_f (by simp;omega) ?_
  intro g w1 h1
  have c1:=((Ctx.start w no (fun _ h=>h.elim)).loc h1).1
  refine⟨Nat,fun k=>[(0,.string t),(4,.pointer (some ⟨g,0,none⟩)),(12,.int .i64 t.size),(13,.int .i64 k)],
   fun k w'=>k<=8/\(l.take k).all isHex=true/\Ctx no w no w' [(g,201,[.int .i64 (pp l k).1,.int .i64 (pp l k).2])],fun k _=>8-k,0,
   ⟨rfl,rfl,rfl,rfl,trivial⟩,⟨Nat.zero_le _,rfl,c1⟩,?_⟩
  rintro k w' u ⟨hk,ha,hc⟩
  by_cases hlt:k<8
  ·refine split_t (decide_eq_true (by omega)) ?_
   have hc8:(l.getD k 0).toNat<256:=(l.getD k 0).toNat_lt
   have lim:=pp_lim l k (by omega) (by omega) ha
   have bad:=all_false isHex l k 0 (by omega)
   refine⟨⟨by omega,by omega⟩,?_⟩
   have hn':((t.data.toList.getD (k:Int).toNat 0).toNat:Int)=((l.getD k 0).toNat:Int):=by rw [ht];rfl
   generalize ((t.data.toList.getD (k:Int).toNat 0).toNat:Int)=n at*
   have hw:IntKind.i64.wrap n=n:=IntWalk.i64_in _ ⟨by omega,by omega⟩
   by_cases hd:48<=n/\n<=57
   ·refine split_t (decide_eq_true (by omega)) ?_
    refine split_t (decide_eq_true (by omega)) ?_
    have hx:isHex (l.getD k 0)=true:=by unfold isHex;simp only [Bool.or_eq_true,Bool.and_eq_true,decide_eq_true_eq];omega
    have hr:=hv_range _ hx
    have h6:IntKind.i64.wrap (IntKind.i64.wrap n-48)=hv (l.getD k 0):=by rw [hw];unfold hv;rw [if_pos (by omega),IntWalk.i64_in _ ⟨by omega,by omega⟩];omega
    by_cases h4:k<4
    ·have hq:IntKind.i64.wrap ((k:Int).tdiv 4)=0:=by rw [Int.tdiv_eq_ediv_of_nonneg (by omega),IntWalk.i64_in _ ⟨by omega,by omega⟩];omega
     have ad:(⟨g,0,Option.none⟩:Addr).add ((IntKind.i64.wrap ((k:Int).tdiv 4)).toNat*1)=⟨g,0,Option.none⟩:=by rw [hq];rfl
     have e7:IntKind.i64.wrap (IntKind.i64.wrap ((pp l k).1*16)+IntKind.i64.wrap (IntKind.i64.wrap n-48))=(pp l k).1*16+hv (l.getD k 0):=by
      rw [h6,IntWalk.i64_in ((pp l k).1*16) ⟨by omega,by omega⟩]
      exact IntWalk.i64_in _ ⟨by omega,by omega⟩
     refine vc_nz (by decide) ?_
     refine vc_nz (by decide) ?_
     refine⟨by rw [hq];decide,?_⟩
     refine⟨.int .i64 (pp l k).1,by rw [ad];exact hc.cell 0 rfl 0 rfl,?_⟩
     refine⟨by rw [hq];decide,?_⟩
     refine⟨by rw [ad];exact hc.may 0 rfl 0 _ (by show 0+1<=2;decide) rfl,?_⟩
     intro w7 h7
     rw [ad] at h7
     have c7:=(hc.set 0 rfl h7).1
     rw [e7] at c7
     refine⟨k+1,⟨rfl,rfl,rfl,congrArg _ (i_down (by omega)),trivial⟩,⟨by omega,by rw [take_snoc l k 0 (by omega),List.all_append,ha];simp only [List.all_cons,List.all_nil,hx];rfl,?_⟩,by show 8-(k+1)<8-k;omega⟩
     rw [pp_lo l k (by omega) h4]
     exact c7
    ·have hq:IntKind.i64.wrap ((k:Int).tdiv 4)=1:=by rw [Int.tdiv_eq_ediv_of_nonneg (by omega),IntWalk.i64_in _ ⟨by omega,by omega⟩];omega
     have ad:(⟨g,0,Option.none⟩:Addr).add ((IntKind.i64.wrap ((k:Int).tdiv 4)).toNat*1)=⟨g,1,Option.none⟩:=by rw [hq];rfl
     have e7:IntKind.i64.wrap (IntKind.i64.wrap ((pp l k).2*16)+IntKind.i64.wrap (IntKind.i64.wrap n-48))=(pp l k).2*16+hv (l.getD k 0):=by
      rw [h6,IntWalk.i64_in ((pp l k).2*16) ⟨by omega,by omega⟩]
      exact IntWalk.i64_in _ ⟨by omega,by omega⟩
     refine vc_nz (by decide) ?_
     refine vc_nz (by decide) ?_
     refine⟨by rw [hq];decide,?_⟩
     refine⟨.int .i64 (pp l k).2,by rw [ad];exact hc.cell 0 rfl 1 rfl,?_⟩
     refine⟨by rw [hq];decide,?_⟩
     refine⟨by rw [ad];exact hc.may 0 rfl 1 _ (by show 1+1<=2;decide) rfl,?_⟩
     intro w7 h7
     rw [ad] at h7
     have c7:=(hc.set 0 rfl h7).1
     rw [e7] at c7
     refine⟨k+1,⟨rfl,rfl,rfl,congrArg _ (i_down (by omega)),trivial⟩,⟨by omega,by rw [take_snoc l k 0 (by omega),List.all_append,ha];simp only [List.all_cons,List.all_nil,hx];rfl,?_⟩,by show 8-(k+1)<8-k;omega⟩
     rw [pp_hi l k (by omega) (by omega)]
     exact c7
   ·by_cases hd2:97<=n/\n<=102
    ·have hx:isHex (l.getD k 0)=true:=by unfold isHex;simp only [Bool.or_eq_true,Bool.and_eq_true,decide_eq_true_eq];omega
     have hr:=hv_range _ hx
     have h6:IntKind.i64.wrap (IntKind.i64.wrap n-87)=hv (l.getD k 0):=by rw [hw];unfold hv;rw [if_neg (by omega),IntWalk.i64_in _ ⟨by omega,by omega⟩];omega
     refine split_t (decide_eq_true (by omega)) ?_
     refine split_f (decide_eq_false (by omega)) ?_
     refine split_t (decide_eq_true (by omega)) ?_
     refine split_t (decide_eq_true (by omega)) ?_
     by_cases h4:k<4
     ·have hq:IntKind.i64.wrap ((k:Int).tdiv 4)=0:=by rw [Int.tdiv_eq_ediv_of_nonneg (by omega),IntWalk.i64_in _ ⟨by omega,by omega⟩];omega
      have ad:(⟨g,0,Option.none⟩:Addr).add ((IntKind.i64.wrap ((k:Int).tdiv 4)).toNat*1)=⟨g,0,Option.none⟩:=by rw [hq];rfl
      have e7:IntKind.i64.wrap (IntKind.i64.wrap ((pp l k).1*16)+IntKind.i64.wrap (IntKind.i64.wrap n-87))=(pp l k).1*16+hv (l.getD k 0):=by
       rw [h6,IntWalk.i64_in ((pp l k).1*16) ⟨by omega,by omega⟩]
       exact IntWalk.i64_in _ ⟨by omega,by omega⟩
      refine vc_nz (by decide) ?_
      refine vc_nz (by decide) ?_
      refine⟨by rw [hq];decide,?_⟩
      refine⟨.int .i64 (pp l k).1,by rw [ad];exact hc.cell 0 rfl 0 rfl,?_⟩
      refine⟨by rw [hq];decide,?_⟩
      refine⟨by rw [ad];exact hc.may 0 rfl 0 _ (by show 0+1<=2;decide) rfl,?_⟩
      intro w7 h7
      rw [ad] at h7
      have c7:=(hc.set 0 rfl h7).1
      rw [e7] at c7
      refine⟨k+1,⟨rfl,rfl,rfl,congrArg _ (i_down (by omega)),trivial⟩,⟨by omega,by rw [take_snoc l k 0 (by omega),List.all_append,ha];simp only [List.all_cons,List.all_nil,hx];rfl,?_⟩,by show 8-(k+1)<8-k;omega⟩
      rw [pp_lo l k (by omega) h4]
      exact c7
     ·have hq:IntKind.i64.wrap ((k:Int).tdiv 4)=1:=by rw [Int.tdiv_eq_ediv_of_nonneg (by omega),IntWalk.i64_in _ ⟨by omega,by omega⟩];omega
      have ad:(⟨g,0,Option.none⟩:Addr).add ((IntKind.i64.wrap ((k:Int).tdiv 4)).toNat*1)=⟨g,1,Option.none⟩:=by rw [hq];rfl
      have e7:IntKind.i64.wrap (IntKind.i64.wrap ((pp l k).2*16)+IntKind.i64.wrap (IntKind.i64.wrap n-87))=(pp l k).2*16+hv (l.getD k 0):=by
       rw [h6,IntWalk.i64_in ((pp l k).2*16) ⟨by omega,by omega⟩]
       exact IntWalk.i64_in _ ⟨by omega,by omega⟩
      refine vc_nz (by decide) ?_
      refine vc_nz (by decide) ?_
      refine⟨by rw [hq];decide,?_⟩
      refine⟨.int .i64 (pp l k).2,by rw [ad];exact hc.cell 0 rfl 1 rfl,?_⟩
      refine⟨by rw [hq];decide,?_⟩
      refine⟨by rw [ad];exact hc.may 0 rfl 1 _ (by show 1+1<=2;decide) rfl,?_⟩
      intro w7 h7
      rw [ad] at h7
      have c7:=(hc.set 0 rfl h7).1
      rw [e7] at c7
      refine⟨k+1,⟨rfl,rfl,rfl,congrArg _ (i_down (by omega)),trivial⟩,⟨by omega,by rw [take_snoc l k 0 (by omega),List.all_append,ha];simp only [List.all_cons,List.all_nil,hx];rfl,?_⟩,by show 8-(k+1)<8-k;omega⟩
      rw [pp_hi l k (by omega) (by omega)]
      exact c7
    ·have hx:isHex (l.getD k 0)=false:=by unfold isHex;simp only [Bool.or_eq_false_iff,Bool.and_eq_false_iff,decide_eq_false_iff_not];omega
     have e0:=zRead_not l (.inr (bad hx))
     rw [e0]
     repeat' (first | refine split_t (by assumption) ?_ | refine split_f (by assumption) ?_ | refine vc_nz (by decide) ?_ | refine split_ (fun _=>?_) (fun _=>?_))
     all_goals simp only [decide_eq_true_eq,decide_eq_false_iff_not] at*
     all_goals first | (exfalso;omega) | skip
     all_goals (refine⟨?_,hc.below⟩;show _=Ending.returned (.tuple #[.complex .f64 (dbl 0) (dbl 0),.bool false]);rw [dbl0];rfl)
  ·refine split_f (decide_eq_false (by omega)) ?_
   obtain rfl:k=8:=by omega
   have lim:=pp_lim l 8 (by omega) (by omega) ha
   refine⟨⟨by decide,by decide⟩,?_⟩
   refine⟨_,hc.cell 0 rfl 0 rfl,?_⟩
   refine⟨_,_,cv_fl3 (by omega) _,?_⟩
   refine⟨⟨by decide,by decide⟩,?_⟩
   refine⟨_,hc.cell 0 rfl 1 rfl,?_⟩
   refine⟨_,_,cv_fl3 (by omega) _,?_⟩
   refine call_b (gMay_any (dbl_is _ (by omega)) (dbl_is _ (by omega)) (by omega) (by omega) _) ?_
   intro w5 h5
   have c5:=(hc.quiet h5).1
   rw [List.take_of_length_le (by omega)] at ha
   by_cases hin:(pp l 8).1<65521/\(pp l 8).2<65521
   ·refine split_f (by rw [inP_t ⟨lim.1.1,hin.1⟩,inP_t ⟨lim.2.1,hin.2⟩];rfl) ?_
    refine⟨?_,c5.below⟩
    unfold zRead
    rw [if_pos ⟨h8,ha,hin⟩]
    rfl
   ·refine split_t (by unfold inP;simp;omega) ?_
    refine⟨?_,c5.below⟩
    unfold zRead
    rw [if_neg (fun h=>hin h.2.2)]
    show _=Ending.returned (.tuple #[.complex .f64 (dbl 0) (dbl 0),.bool false])
    rw [dbl0];rfl
 ·refine split_t (by simp;omega) ?_
  rw [zRead_not l (.inl h8)]
  refine⟨?_,Below.refl _ _⟩
  show _=Ending.returned (.tuple #[.complex .f64 (dbl 0) (dbl 0),.bool false])
  rw [dbl0];rfl
theorem rread_any (t:ByteArray) (w:World):Calls Tryz.prog 56 #[.string t] w
  (RetB (.tuple #[.agg #[.int .i64 (zRead t.data.toList).1.1,.int .i64 (zRead t.data.toList).1.2],.bool (zRead t.data.toList).2]) w):=by
 refine vE Tryz.func56 ?_
 intro gz wz hz
 have cz:=((Ctx.start w no (fun _ h=>h.elim)).loc hz).1
 obtain⟨l,ht⟩:∃ l,t.data.toList=l:=⟨_,rfl⟩
 have hln:=ba_len t
 rw [ht] at hln ⊢
 by_cases h8:l.length=8
 ·refine split_f (by simp;omega) ?_
  intro g w1 h1
  have c1:=(cz.loc h1).1
  refine⟨Nat,fun k=>[(0,.string t),(2,.pointer (some ⟨gz,0,none⟩)),(4,.pointer (some ⟨g,0,none⟩)),(5,.int .i64 k)],
   fun k w'=>k<=8/\(l.take k).all isHex=true/\Ctx no w no w' [(g,154,[.int .i64 (pp l k).1,.int .i64 (pp l k).2]),(gz,118,[.int .i64 0,.int .i64 0])],fun k _=>8-k,0,
   ⟨rfl,rfl,rfl,rfl,trivial⟩,⟨Nat.zero_le _,rfl,c1⟩,?_⟩
  rintro k w' u ⟨hk,ha,hc⟩
  by_cases hlt:k<8
  ·refine split_t (decide_eq_true (by omega)) ?_
   have hc8:(l.getD k 0).toNat<256:=(l.getD k 0).toNat_lt
   have lim:=pp_lim l k (by omega) (by omega) ha
   have bad:=all_false isHex l k 0 (by omega)
   refine⟨⟨by omega,by omega⟩,?_⟩
   have hn':((t.data.toList.getD (k:Int).toNat 0).toNat:Int)=((l.getD k 0).toNat:Int):=by rw [ht];rfl
   generalize ((t.data.toList.getD (k:Int).toNat 0).toNat:Int)=n at*
   have hw:IntKind.i64.wrap n=n:=IntWalk.i64_in _ ⟨by omega,by omega⟩
   by_cases hd:48<=n/\n<=57
   ·refine split_t (decide_eq_true (by omega)) ?_
    refine split_t (decide_eq_true (by omega)) ?_
    have hx:isHex (l.getD k 0)=true:=by unfold isHex;simp only [Bool.or_eq_true,Bool.and_eq_true,decide_eq_true_eq];omega
    have hr:=hv_range _ hx
    have h6:IntKind.i64.wrap (IntKind.i64.wrap n-48)=hv (l.getD k 0):=by rw [hw];unfold hv;rw [if_pos (by omega),IntWalk.i64_in _ ⟨by omega,by omega⟩];omega
    by_cases h4:k<4
    ·have hq:IntKind.i64.wrap ((k:Int).tdiv 4)=0:=by rw [Int.tdiv_eq_ediv_of_nonneg (by omega),IntWalk.i64_in _ ⟨by omega,by omega⟩];omega
     have ad:(⟨g,0,Option.none⟩:Addr).add ((IntKind.i64.wrap ((k:Int).tdiv 4)).toNat*1)=⟨g,0,Option.none⟩:=by rw [hq];rfl
     have e7:IntKind.i64.wrap (IntKind.i64.wrap ((pp l k).1*16)+IntKind.i64.wrap (IntKind.i64.wrap n-48))=(pp l k).1*16+hv (l.getD k 0):=by
      rw [h6,IntWalk.i64_in ((pp l k).1*16) ⟨by omega,by omega⟩]
      exact IntWalk.i64_in _ ⟨by omega,by omega⟩
     refine vc_nz (by decide) ?_
     refine vc_nz (by decide) ?_
     refine⟨by rw [hq];decide,?_⟩
     refine⟨.int .i64 (pp l k).1,by rw [ad];exact hc.cell 0 rfl 0 rfl,?_⟩
     refine⟨by rw [hq];decide,?_⟩
     refine⟨by rw [ad];exact hc.may 0 rfl 0 _ (by show 0+1<=2;decide) rfl,?_⟩
     intro w7 h7
     rw [ad] at h7
     have c7:=(hc.set 0 rfl h7).1
     rw [e7] at c7
     refine⟨k+1,⟨rfl,rfl,rfl,congrArg _ (i_down (by omega)),trivial⟩,⟨by omega,by rw [take_snoc l k 0 (by omega),List.all_append,ha];simp only [List.all_cons,List.all_nil,hx];rfl,?_⟩,by show 8-(k+1)<8-k;omega⟩
     rw [pp_lo l k (by omega) h4]
     exact c7
    ·have hq:IntKind.i64.wrap ((k:Int).tdiv 4)=1:=by rw [Int.tdiv_eq_ediv_of_nonneg (by omega),IntWalk.i64_in _ ⟨by omega,by omega⟩];omega
     have ad:(⟨g,0,Option.none⟩:Addr).add ((IntKind.i64.wrap ((k:Int).tdiv 4)).toNat*1)=⟨g,1,Option.none⟩:=by rw [hq];rfl
     have e7:IntKind.i64.wrap (IntKind.i64.wrap ((pp l k).2*16)+IntKind.i64.wrap (IntKind.i64.wrap n-48))=(pp l k).2*16+hv (l.getD k 0):=by
      rw [h6,IntWalk.i64_in ((pp l k).2*16) ⟨by omega,by omega⟩]
      exact IntWalk.i64_in _ ⟨by omega,by omega⟩
     refine vc_nz (by decide) ?_
     refine vc_nz (by decide) ?_
     refine⟨by rw [hq];decide,?_⟩
     refine⟨.int .i64 (pp l k).2,by rw [ad];exact hc.cell 0 rfl 1 rfl,?_⟩
     refine⟨by rw [hq];decide,?_⟩
     refine⟨by rw [ad];exact hc.may 0 rfl 1 _ (by show 1+1<=2;decide) rfl,?_⟩
     intro w7 h7
     rw [ad] at h7
     have c7:=(hc.set 0 rfl h7).1
     rw [e7] at c7
     refine⟨k+1,⟨rfl,rfl,rfl,congrArg _ (i_down (by omega)),trivial⟩,⟨by omega,by rw [take_snoc l k 0 (by omega),List.all_append,ha];simp only [List.all_cons,List.all_nil,hx];rfl,?_⟩,by show 8-(k+1)<8-k;omega⟩
     rw [pp_hi l k (by omega) (by omega)]
     exact c7
   ·by_cases hd2:97<=n/\n<=102
    ·have hx:isHex (l.getD k 0)=true:=by unfold isHex;simp only [Bool.or_eq_true,Bool.and_eq_true,decide_eq_true_eq];omega
     have hr:=hv_range _ hx
     have h6:IntKind.i64.wrap (IntKind.i64.wrap n-87)=hv (l.getD k 0):=by rw [hw];unfold hv;rw [if_neg (by omega),IntWalk.i64_in _ ⟨by omega,by omega⟩];omega
     refine split_t (decide_eq_true (by omega)) ?_
     refine split_f (decide_eq_false (by omega)) ?_
     refine split_t (decide_eq_true (by omega)) ?_
     refine split_t (decide_eq_true (by omega)) ?_
     by_cases h4:k<4
     ·have hq:IntKind.i64.wrap ((k:Int).tdiv 4)=0:=by rw [Int.tdiv_eq_ediv_of_nonneg (by omega),IntWalk.i64_in _ ⟨by omega,by omega⟩];omega
      have ad:(⟨g,0,Option.none⟩:Addr).add ((IntKind.i64.wrap ((k:Int).tdiv 4)).toNat*1)=⟨g,0,Option.none⟩:=by rw [hq];rfl
      have e7:IntKind.i64.wrap (IntKind.i64.wrap ((pp l k).1*16)+IntKind.i64.wrap (IntKind.i64.wrap n-87))=(pp l k).1*16+hv (l.getD k 0):=by
       rw [h6,IntWalk.i64_in ((pp l k).1*16) ⟨by omega,by omega⟩]
       exact IntWalk.i64_in _ ⟨by omega,by omega⟩
      refine vc_nz (by decide) ?_
      refine vc_nz (by decide) ?_
      refine⟨by rw [hq];decide,?_⟩
      refine⟨.int .i64 (pp l k).1,by rw [ad];exact hc.cell 0 rfl 0 rfl,?_⟩
      refine⟨by rw [hq];decide,?_⟩
      refine⟨by rw [ad];exact hc.may 0 rfl 0 _ (by show 0+1<=2;decide) rfl,?_⟩
      intro w7 h7
      rw [ad] at h7
      have c7:=(hc.set 0 rfl h7).1
      rw [e7] at c7
      refine⟨k+1,⟨rfl,rfl,rfl,congrArg _ (i_down (by omega)),trivial⟩,⟨by omega,by rw [take_snoc l k 0 (by omega),List.all_append,ha];simp only [List.all_cons,List.all_nil,hx];rfl,?_⟩,by show 8-(k+1)<8-k;omega⟩
      rw [pp_lo l k (by omega) h4]
      exact c7
     ·have hq:IntKind.i64.wrap ((k:Int).tdiv 4)=1:=by rw [Int.tdiv_eq_ediv_of_nonneg (by omega),IntWalk.i64_in _ ⟨by omega,by omega⟩];omega
      have ad:(⟨g,0,Option.none⟩:Addr).add ((IntKind.i64.wrap ((k:Int).tdiv 4)).toNat*1)=⟨g,1,Option.none⟩:=by rw [hq];rfl
      have e7:IntKind.i64.wrap (IntKind.i64.wrap ((pp l k).2*16)+IntKind.i64.wrap (IntKind.i64.wrap n-87))=(pp l k).2*16+hv (l.getD k 0):=by
       rw [h6,IntWalk.i64_in ((pp l k).2*16) ⟨by omega,by omega⟩]
       exact IntWalk.i64_in _ ⟨by omega,by omega⟩
      refine vc_nz (by decide) ?_
      refine vc_nz (by decide) ?_
      refine⟨by rw [hq];decide,?_⟩
      refine⟨.int .i64 (pp l k).2,by rw [ad];exact hc.cell 0 rfl 1 rfl,?_⟩
      refine⟨by rw [hq];decide,?_⟩
      refine⟨by rw [ad];exact hc.may 0 rfl 1 _ (by show 1+1<=2;decide) rfl,?_⟩
      intro w7 h7
      rw [ad] at h7
      have c7:=(hc.set 0 rfl h7).1
      rw [e7] at c7
      refine⟨k+1,⟨rfl,rfl,rfl,congrArg _ (i_down (by omega)),trivial⟩,⟨by omega,by rw [take_snoc l k 0 (by omega),List.all_append,ha];simp only [List.all_cons,List.all_nil,hx];rfl,?_⟩,by show 8-(k+1)<8-k;omega⟩
      rw [pp_hi l k (by omega) (by omega)]
      exact c7
    ·have hx:isHex (l.getD k 0)=false:=by unfold isHex;simp only [Bool.or_eq_false_iff,Bool.and_eq_false_iff,decide_eq_false_iff_not];omega
     have e0:=zRead_not l (.inr (bad hx))
     rw [e0]
     repeat' (first | refine split_t (by assumption) ?_ | refine split_f (by assumption) ?_ | refine vc_nz (by decide) ?_ | refine split_ (fun _=>?_) (fun _=>?_))
     all_goals simp only [decide_eq_true_eq,decide_eq_false_iff_not] at*
     all_goals first | (exfalso;omega) | skip
     all_goals (refine⟨hc.may 1 rfl 0 _ (Nat.le_refl 2) rfl,?_⟩;intro w7 h7;have c7:=(hc.set 1 rfl h7).1;exact⟨[.int .i64 0,.int .i64 0],rfl,c7.cells 1 rfl,rfl,c7.below⟩)
  ·refine split_f (decide_eq_false (by omega)) ?_
   obtain rfl:k=8:=by omega
   have lim:=pp_lim l 8 (by omega) (by omega) ha
   rw [List.take_of_length_le (by omega)] at ha
   refine⟨⟨by decide,by decide⟩,?_⟩
   refine⟨_,hc.cell 0 rfl 0 rfl,?_⟩
   have ko:¬ ((pp l 8).1<65521/\(pp l 8).2<65521)->zRead l=((0,0),false):=fun hin=>by
    unfold zRead
    rw [if_neg (fun h=>hin h.2.2)]
   by_cases i1:(pp l 8).1<65521
   ·refine split_f (decide_eq_false (by omega)) ?_
    refine⟨⟨by decide,by decide⟩,?_⟩
    refine⟨_,hc.cell 0 rfl 1 rfl,?_⟩
    by_cases i2:(pp l 8).2<65521
    ·refine split_f (decide_eq_false (by omega)) ?_
     refine⟨⟨by decide,by decide⟩,?_⟩
     refine⟨_,hc.cell 0 rfl 0 rfl,?_⟩
     refine⟨⟨by decide,by decide⟩,?_⟩
     refine⟨_,hc.cell 0 rfl 1 rfl,?_⟩
     refine⟨hc.may 1 rfl 0 _ (Nat.le_refl 2) rfl,?_⟩
     intro w7 h7
     have c7:=(hc.set 1 rfl h7).1
     refine⟨_,?_,c7.cells 1 rfl,?_⟩
     ·rfl
     refine⟨?_,c7.below⟩
     unfold zRead
     rw [if_pos ⟨h8,ha,i1,i2⟩]
     rfl
    ·refine split_t (decide_eq_true (by omega)) ?_
     rw [ko (fun h=>i2 h.2)]
     refine⟨hc.may 1 rfl 0 _ (Nat.le_refl 2) rfl,?_⟩
     intro w7 h7
     have c7:=(hc.set 1 rfl h7).1
     refine⟨_,?_,c7.cells 1 rfl,?_⟩
     ·rfl
     exact⟨rfl,c7.below⟩
   ·refine split_t (decide_eq_true (by omega)) ?_
    rw [ko (fun h=>i1 h.1)]
    refine⟨hc.may 1 rfl 0 _ (Nat.le_refl 2) rfl,?_⟩
    intro w7 h7
    have c7:=(hc.set 1 rfl h7).1
    refine⟨_,?_,c7.cells 1 rfl,?_⟩
    ·rfl
    exact⟨rfl,c7.below⟩
 ·refine split_t (by simp;omega) ?_
  rw [zRead_not l (.inl h8)]
  refine⟨cz.may 0 rfl 0 _ (Nat.le_refl 2) rfl,?_⟩
  intro w7 h7
  have c7:=(cz.set 0 rfl h7).1
  refine⟨_,?_,c7.cells 0 rfl,?_⟩
  ·rfl
  exact⟨rfl,c7.below⟩
set_option maxRecDepth 100000
structure D where
 kind:Int
 key:ByteArray
 body:ByteArray
 ver:Int
 cond:Int
 tag:ByteArray
 req:Int
 low:Int
def i64ok (n:Int):Prop := -9223372036854775808<=n/\n<=9223372036854775807
def strok (s:ByteArray):Prop:=s.size<=9223372036854775807
structure D.Ok (d:D):Prop where
 kind:i64ok d.kind
 key:strok d.key
 body:strok d.body
 ver:i64ok d.ver
 cond:i64ok d.cond
 tag:strok d.tag
 req:i64ok d.req
 low:i64ok d.low
def tagB (s:ByteArray):Bool:=(zRead s.data.toList).2
def mt (s:ByteArray):Bool:=strEq s ⟨#[]⟩
def mayD (d:D):Bool:=
 keyB d.key&&!(homeI d.req==0)&&!decide (d.low<0)&&!decide (d.req<d.low)&&
 (if d.kind==1 then d.ver==0&&decide ((d.body.size:Int)<=300)&&decide (0<=d.cond)&&decide (d.cond<=2)&&(tagB d.tag==(d.cond==2))&&(tagB d.tag||mt d.tag)
  else if d.kind==2 then mt d.body&&d.cond==0&&mt d.tag&&d.ver==0
  else if d.kind==3 then mt d.body&&d.cond==0&&mt d.tag&&decide (1<=d.ver)&&decide (d.ver<=1099511627776)
  else false)
theorem may_any (d:D) (h:d.Ok) (w:World):Calls Tryz.prog 64 #[.agg #[.int .i64 d.kind,.string d.key,.string d.body,.int .i64 d.ver,.int .i64 d.cond,.string d.tag,.int .i64 d.req,.int .i64 d.low]] w (RetB (.bool (mayD d)) w):=by
 refine vE Tryz.func64 ?_
 intro g w1 h1
 have hc:=((Ctx.start w no (fun _ h=>h.elim)).loc h1).1
 repeat' (first | refine split_t (by assumption) ?_ | refine split_f (by assumption) ?_ | refine vc_nz (by decide) ?_ | refine⟨_,hc.cell 0 rfl _ rfl,?_⟩ | (refine call_b (key_any d.key h.key _) ?_;intro w2 h2;have hc:=(hc.quiet h2).1) | (refine call_b (home_any d.req _) ?_;intro w3 h3;have hc:=(hc.quiet h3).1) | (refine call_b (gread_any d.tag _) ?_;intro w4 h4;have hc:=(hc.quiet h4).1) | refine split_ (fun _=>?_) (fun _=>?_))
 all_goals (refine⟨ret_bool ?_,hc.below⟩)
 all_goals clear hc h1
 all_goals simp only [Bool.not_eq_true',Bool.not_eq_false'] at*
 all_goals simp only [mayD,tagB,mt, *]
 all_goals first | rfl | (simp;done) | skip
 all_goals (rename_i e1 e2 e3;rw [e2] at e1;simp only [e1];simp)
theorem mt_tag (s:ByteArray) (h:strEq s ⟨#[]⟩=true):(zRead s.data.toList).2=false:=by
 have e:s.data.toList=[]:=by simpa [strEq] using h
 rw [e]
 rfl
theorem rmay_any (d:D) (h:d.Ok) (w:World):Calls Tryz.prog 27 #[.agg #[.int .i64 d.kind,.string d.key,.string d.body,.int .i64 d.ver,.int .i64 d.cond,.string d.tag,.int .i64 d.req,.int .i64 d.low]] w (RetB (.bool (mayD d)) w):=by
 refine vE Tryz.func27 ?_
 intro g w1 h1
 have hc:=((Ctx.start w no (fun _ h=>h.elim)).loc h1).1
 repeat' (first | refine split_t (by assumption) ?_ | refine split_f (by assumption) ?_ | refine vc_nz (by decide) ?_ | refine⟨_,hc.cell 0 rfl _ rfl,?_⟩ | (refine call_b (rkey_any d.key h.key _) ?_;intro w2 h2;have hc:=(hc.quiet h2).1) | (refine call_b (rhome_any d.req _ h.req.1 h.req.2) ?_;intro w3 h3;have hc:=(hc.quiet h3).1) | (refine call_b (rread_any d.tag _) ?_;intro w4 h4;have hc:=(hc.quiet h4).1;intro g5 w5 h5;have hc:=(hc.loc h5).1;refine⟨hc.may 0 rfl 0 _ (Nat.le_refl 2) rfl,?_⟩;intro w6 h6;have hc:=(hc.set 0 rfl h6).1.drop) | refine split_ (fun _=>?_) (fun _=>?_))
 all_goals (refine⟨ret_bool ?_,hc.below⟩)
 all_goals clear hc h1
 all_goals simp only [Bool.not_eq_true',Bool.not_eq_false'] at*
 all_goals simp only [mayD,tagB,mt, *]
 all_goals first | rfl | (simp;done) | skip
 all_goals first | (exfalso;simp_all;done) | (cases e:strEq d.tag ⟨#[]⟩;(· simp);(· simp [mt_tag d.tag e]))
set_option maxRecDepth 100000
inductive V where
 | mk (k n:Int) (s:ByteArray) (l:List V)
mutual
def RepC (S:Nat->Prop) (w:World):V->List Value->Prop
 | .mk k n s l,cs=>∃ A cap xs,cs=[.int .i64 k,.int .i64 n,.string s,.slice A l.length cap]/\RepL S w l xs/\Row S w A l.length cap xs
def RepL (S:Nat->Prop) (w:World):List V->List Value->Prop
 | [],xs=>xs=[]
 | v::r,xs=>∃ cs ys,RepC S w v cs/\RepL S w r ys/\xs=cs++ys
end
mutual
theorem RepC.map {S S':Nat->Prop} {w w':World} (h:∀ {A:Option Addr} {n cap:Nat} {xs:List Value},Row S w A n cap xs->Row S' w' A n cap xs):∀ {v:V} {cs:List Value},RepC S w v cs->RepC S' w' v cs
 | .mk k n s l,cs,hr=>by
  rw [RepC] at hr ⊢
  obtain⟨A,cap,xs,e,h1,h2⟩:=hr
  exact⟨A,cap,xs,e,RepL.map h h1,h h2⟩
theorem RepL.map {S S':Nat->Prop} {w w':World} (h:∀ {A:Option Addr} {n cap:Nat} {xs:List Value},Row S w A n cap xs->Row S' w' A n cap xs):∀ {l:List V} {xs:List Value},RepL S w l xs->RepL S' w' l xs
 | [],xs,hr=>by rw [RepL] at hr ⊢;exact hr
 | v::r,xs,hr=>by
  rw [RepL] at hr ⊢
  obtain⟨cs,ys,h1,h2,e⟩:=hr
  exact⟨cs,ys,RepC.map h h1,RepL.map h h2,e⟩
end
theorem RepC.len {S:Nat->Prop} {w:World}:∀ {v:V} {cs:List Value},RepC S w v cs->cs.length=4
 | .mk k n s l,cs,hr=>by
  rw [RepC] at hr
  obtain⟨A,cap,xs,e,_,_⟩:=hr
  rw [e];rfl
theorem RepL.len {S:Nat->Prop} {w:World}:∀ {l:List V} {xs:List Value},RepL S w l xs->xs.length=4*l.length
 | [],xs,hr=>by rw [RepL] at hr;rw [hr];rfl
 | v::r,xs,hr=>by
  rw [RepL] at hr
  obtain⟨cs,ys,h1,h2,e⟩:=hr
  rw [e,List.length_append,h1.len,RepL.len h2,List.length_cons]
  omega
theorem RepL.get {S:Nat->Prop} {w:World}:∀ {l:List V} {xs:List Value},RepL S w l xs->∀ (i:Nat) (hi:i<l.length),∃ cs,RepC S w l[i] cs/\∀ j u,cs[j]?=some u->xs[i*4+j]?=some u
 | v::r,xs,hr,0,_=>by
  rw [RepL] at hr
  obtain⟨cs,ys,h1,h2,e⟩:=hr
  refine⟨cs,h1,fun j u hu=>?_⟩
  have hj:j<cs.length:=by
   rcases Nat.lt_or_ge j cs.length with h | h
   ·exact h
   ·rw [List.getElem?_eq_none h] at hu;cases hu
  rw [e,Nat.zero_mul,Nat.zero_add,List.getElem?_append_left hj]
  exact hu
 | v::r,xs,hr,i+1,hi=>by
  rw [RepL] at hr
  obtain⟨cs,ys,h1,h2,e⟩:=hr
  obtain⟨ds,h3,h4⟩:=RepL.get h2 i (Nat.lt_of_succ_lt_succ hi)
  refine⟨ds,h3,fun j u hu=>?_⟩
  rw [e,List.getElem?_append_right (by rw [h1.len];omega),h1.len,show (i+1)*4+j-4=i*4+j from by omega]
  exact h4 j u hu
theorem RepC.below {S:Nat->Prop} {w w':World} {v:V} {cs:List Value} (h:RepC S w v cs) (hb:Below w.heap.size w w'):RepC S w' v cs:=RepC.map (fun h=>h.below hb) h
theorem RepL.below {S:Nat->Prop} {w w':World} {l:List V} {xs:List Value} (h:RepL S w l xs) (hb:Below w.heap.size w w'):RepL S w' l xs:=RepL.map (fun h=>h.below hb) h
theorem Rep.elem {S:Nat->Prop} {w:World} {l:List V} {xs:List Value} {A:Option Addr} {cap:Nat} (h:RepL S w l xs) (hR:Row S w A l.length cap xs) (i:Nat) (hi:i<l.length):
  ∃ ad cs,A=some ad/\RepC S w l[i] cs/\cs.length=4/\Go.Vc.cellsAt w (ad.add (i*4)) cs 0:=by
 obtain⟨cs,h1,h2⟩:=h.get i hi
 have hl:=h1.len
 have hx:=h.len
 obtain⟨ad,e,hc⟩:=hR.get (i:=i*4) (by omega)
 refine⟨ad,cs,e,h1,hl,?_⟩
 exact row_cells hc (i*4) cs 0 (fun j u hu=>by rw [Nat.add_zero];exact h2 j u hu)
def cntL (g:V->Int):List V->Int->Int
 | [],n=>n
 | x::r,n=>if 6000<n+g x then 6001 else cntL g r (n+g x)
def cnt:Nat->V->Int
 | 0,_=>6001
 | f+1,.mk k n s l=>
  if (k==1&&mt s&&((l.length:Int)==0))||(k==2&&n==0&&((l.length:Int)==0)) then 1
  else if k != 3||!(n==0)||!mt s then 6001
  else cntL (cnt f) l 1
theorem cntL_cons (g:V->Int) (x:V) (r:List V) (n:Int):cntL g (x::r) n=if 6000<n+g x then 6001 else cntL g r (n+g x):=by rw [cntL]
theorem cntL_range (g:V->Int) (hg:∀ v,1<=g v):∀ (l:List V) (n:Int),1<=n->n<=6000->1<=cntL g l n/\cntL g l n<=6001
 | [],n,h1,h2=>by unfold cntL;omega
 | x::r,n,h1,h2=>by
  unfold cntL
  have:=hg x
  split
  ·omega
  ·exact cntL_range g hg r _ (by omega) (by omega)
theorem cnt_range:∀ (f:Nat) (v:V),1<=cnt f v/\cnt f v<=6001
 | 0,_=>by unfold cnt;omega
 | f+1,.mk k n s l=>by
  unfold cnt
  split
  ·omega
  ·split
   ·omega
   ·exact cntL_range _ (fun v=>(cnt_range f v).1) l 1 (by omega) (by omega)
theorem count_any:∀ (f:Nat) (depth:Int),depth=7-f->f<=6->∀ (v:V) (cs:List Value) (S:Nat->Prop) (w:World),RepC S w v cs->Calls Tryz.prog 172 #[.agg cs.toArray,.int .i64 depth] w (RetB (.int .i64 (cnt f v)) w):=by
 intro f
 induction f with
 | zero=>
  intro depth hd hf v cs S w hr
  obtain⟨k,n,s,l⟩:=v
  rw [RepC] at hr
  obtain⟨A,cap,xs,rfl,hL,hR⟩:=hr
  refine vE Tryz.func172 ?_
  intro g2 w2 h2
  have hc:=((Ctx.start w no (fun _ h=>h.elim)).loc h2).1
  have b2:=hc.blk 0 rfl
  refine vD (.Q [0,1,2,3,4,5,6,7,8,9,10,11,12] .fin) (Keeps (fun b=>b=g2) w2) (Keeps.start _ _) ?_
  refine⟨_,fun x hx=>hx.cell b2 rfl rfl,?_⟩
  refine⟨_,fun x hx=>hx.cell b2 rfl rfl,?_⟩
  refine⟨_,fun x hx=>hx.cell b2 rfl rfl,?_⟩
  refine split_t (decide_eq_true (by omega)) ?_
  exact⟨rfl,hc.drew.below⟩
 | succ f ih=>
  intro depth hd hf v cs S w hr
  obtain⟨k,n,s,l⟩:=v
  rw [RepC] at hr
  obtain⟨A,cap,xs,rfl,hL,hR⟩:=hr
  refine vE Tryz.func172 ?_
  intro g2 w2 h2
  have hc:=((Ctx.start w no (fun _ h=>h.elim)).loc h2).1
  have b2:=hc.blk 0 rfl
  refine vD (.Q [0,1,2,3,4,5,6,7,8,9,10,11,12] .fin) (Keeps (fun b=>b=g2) w2) (Keeps.start _ _) ?_
  refine⟨_,fun x hx=>hx.cell b2 rfl rfl,?_⟩
  refine⟨_,fun x hx=>hx.cell b2 rfl rfl,?_⟩
  refine⟨_,fun x hx=>hx.cell b2 rfl rfl,?_⟩
  refine split_f (decide_eq_false (by omega)) ?_
  have hc:=hc.drew
  have out:∀ x:Int,cnt (f+1) (.mk k n s l)=x->RetB (.int .i64 (cnt (f+1) (.mk k n s l))) w (.returned (.int .i64 x)) w2.drew:=fun x e=>⟨by rw [e],hc.below⟩
  by_cases k3:k=3
  ·subst k3
   refine⟨_,hc.cell 0 rfl _ rfl,?_⟩
   refine⟨_,hc.cell 0 rfl _ rfl,?_⟩
   refine⟨_,hc.cell 0 rfl _ rfl,?_⟩
   cases e1:(n==0)
   ·refine out 6001 ?_
    simp [cnt,e1]
   cases e2:mt s
   ·refine split_t (by show (!strEq s ⟨#[]⟩)=true;rw [show strEq s ⟨#[]⟩=false from e2];rfl) ?_
    refine out 6001 ?_
    simp [cnt,e2]
   refine split_f (by show (!strEq s ⟨#[]⟩)=false;rw [show strEq s ⟨#[]⟩=true from e2];rfl) ?_
   have ec:cnt (f+1) (.mk 3 n s l)=cntL (cnt f) l 1:=by simp [cnt,e1,e2]
   rw [ec]
   refine⟨_,hc.cell 0 rfl _ rfl,?_⟩
   refine⟨Nat × Int,fun q=>[(1,.int .i64 depth),(8,.int .i64 q.2),(56,.slice A l.length cap),(57,.int .i64 l.length),(58,.int .i64 q.1)],
    fun q w'=>q.1<=l.length/\1<=q.2/\q.2<=6000/\cntL (cnt f) (l.drop q.1) q.2=cntL (cnt f) l 1/\Below w.heap.size w w',fun q _=>l.length-q.1,(0,1),
    ⟨rfl,rfl,rfl,rfl,rfl,trivial⟩,⟨Nat.zero_le _,by decide,by decide,rfl,hc.below⟩,?_⟩
   rintro⟨i,m⟩ w' u ⟨hi,hm1,hm2,he,hb⟩
   have hM:l.length<=9223372036854775807:=Nat.le_trans (Nat.le_trans hR.1 hR.2.1) (by decide)
   by_cases hlt:i<l.length
   ·refine split_t (decide_eq_true (by show (i:Int)<(l.length:Int);omega)) ?_
    obtain⟨ad,es,rfl,hre,hl4,hcell⟩:=Rep.elem (hL.below hb) (hR.below hb) i hlt
    rw [List.drop_eq_getElem_cons hlt] at he
    rw [cntL_cons] at he
    generalize l[i]=v at*
    have hre0:=hre
    obtain⟨k',n',s',l'⟩:=v
    rw [RepC] at hre
    obtain⟨A',cap',xs',rfl,_,_⟩:=hre
    refine⟨⟨by omega,by omega⟩,?_⟩
    refine⟨_,hl4,hcell,?_⟩
    intro g5 w5 h5
    have c5:=((Ctx.start w' no (fun _ h=>h.elim)).loc h5).1
    refine⟨c5.may 0 rfl 0 _ (Nat.le_refl 4) rfl,?_⟩
    intro w6 h6
    have c6:=(c5.set 0 rfl h6).1
    refine⟨_,?_,c6.cells 0 rfl,?_⟩
    ·rfl
    have hd1:IntKind.i64.wrap (depth+1)=7-(f:Int):=by rw [wrap_add _ _ (by omega) (by omega)];omega
    refine call_b (ih (IntKind.i64.wrap (depth+1)) hd1 (by omega) _ _ S w6 (hre0.below c6.below)) ?_
    intro w7 h7
    have c7:=(c6.quiet h7).1
    have hb7:=hb.trans (c7.below.mono hb.size)
    have hr:=cnt_range f (.mk k' n' s' l')
    have hw:IntKind.i64.wrap (m+cnt f (.mk k' n' s' l'))=m+cnt f (.mk k' n' s' l'):=wrap_add _ _ (by omega) (by omega)
    by_cases hov:6000<m+cnt f (.mk k' n' s' l')
    ·refine split_t (decide_eq_true (by rw [hw];exact hov)) ?_
     rw [if_pos hov] at he
     refine⟨?_,hb7⟩
     rw [<-he]
     rfl
    ·refine split_f (decide_eq_false (by rw [hw];exact hov)) ?_
     rw [if_neg hov] at he
     refine⟨(i+1,m+cnt f (.mk k' n' s' l')),⟨rfl,congrArg _ hw,rfl,rfl,congrArg _ (i_down (by omega)),trivial⟩,⟨hlt,by show 1<=m+cnt f (.mk k' n' s' l');omega,by show m+cnt f (.mk k' n' s' l')<=6000;omega,he,hb7⟩,by show l.length-(i+1)<l.length-i;omega⟩
   ·refine split_f (decide_eq_false (by show ¬ (i:Int)<(l.length:Int);omega)) ?_
    rw [List.drop_of_length_le (by omega)] at he
    refine⟨?_,hb⟩
    rw [<-he]
    rfl
  ·have e3:(k != 3)=true:=by simpa using k3
   repeat' (first | refine split_t (by assumption) ?_ | refine split_f (by assumption) ?_ | refine vc_nz (by decide) ?_ | refine⟨_,hc.cell 0 rfl _ rfl,?_⟩ | refine split_ (fun _=>?_) (fun _=>?_))
   all_goals refine out _ ?_
   all_goals simp [cnt,mt, *]
def mayV (v:V):Bool:=decide (cnt 6 v<=6000)
theorem vmay_any (v:V) (k n:Int) (s:ByteArray) (A:Option Addr) (len cap:Nat) (S:Nat->Prop) (w:World) (hr:RepC S w v [.int .i64 k,.int .i64 n,.string s,.slice A len cap]):
  Calls Tryz.prog 130 #[.agg #[.int .i64 k,.int .i64 n,.string s,.slice A len cap]] w (RetB (.bool (mayV v)) w):=by
 refine vE Tryz.func130 ?_
 intro g2 w2 h2
 have hc:=((Ctx.start w no (fun _ h=>h.elim)).loc h2).1
 refine hc.a 0 rfl rfl ?_
 refine call_b (count_any 6 1 (by decide) (by decide) v _ S w2 (hr.below hc.below)) ?_
 intro w3 h3
 exact⟨rfl,(hc.quiet h3).1.below⟩
set_option maxRecDepth 100000
def rsL (g:V->Int × Int):List V->Int->Int->Int × Int
 | [],n,d=>(n,d+1)
 | x::r,n,d=>if (g x).1<0\/6000<n then (-1,0) else rsL g r (n+(g x).1) (max d (g x).2)
def rs:Nat->V->Int × Int
 | 0,_=>(-1,0)
 | f+1,.mk k n s l=>
  if (k==1&&mt s&&((l.length:Int)==0))||(k==2&&n==0&&((l.length:Int)==0)) then (1,1)
  else if k != 3||n != 0||!mt s then (-1,0)
  else rsL (rs f) l 1 0
set_option maxRecDepth 100000
mutual
def eqV:V->V->Bool
 | .mk k n s l,.mk k' n' s' l'=>k==k'&&n==n'&&strEq s s'&&eqL l l'
def eqL:List V->List V->Bool
 | [],[]=>true
 | x::r,y::t=>eqV x y&&eqL r t
 | [],_::_=>false
 | _::_,[]=>false
end
theorem eqL_len:∀ (l m:List V),l.length≠m.length->eqL l m=false
 | [],[],h=>absurd rfl h
 | x::r,y::t,h=>by rw [eqL,eqL_len r t (fun e=>h (by rw [List.length_cons,List.length_cons,e])),Bool.and_false]
 | [],_::_,_=>by rw [eqL]
 | _::_,[],_=>by rw [eqL]
theorem V.kid {k n:Int} {s:ByteArray} {l:List V} {x:V} (h:x∈l):SizeOf.sizeOf x<SizeOf.sizeOf (V.mk k n s l):=by
 have:=List.sizeOf_lt_of_mem h
 simp only [V.mk.sizeOf_spec]
 omega
theorem cellsAt_later {w w':World} (hb:Below w.heap.size w w') {a:Addr}:∀ (cs:List Value) (i:Nat),Go.Vc.cellsAt w a cs i->Go.Vc.cellsAt w' a cs i
 | [],_,_=>trivial
 | _::r,i,h=>⟨cell_later hb h.1,cellsAt_later hb r (i+1) h.2⟩
theorem equalFunc_any (l m:List V) (S:Nat->Prop) (w:World) {A B:Option Addr} {cap cap':Nat} {xs ys:List Value} (hL:RepL S w l xs) (hR:Row S w A l.length cap xs) (hL':RepL S w m ys) (hR':Row S w B m.length cap' ys)
  (hE:∀ x∈l,∀ (y:V) (cx cy:List Value) (w':World),RepC S w' x cx->RepC S w' y cy->Calls Tryz.prog 120 #[.agg cx.toArray,.agg cy.toArray] w' (RetB (.bool (eqV x y)) w')):
  Calls Tryz.prog 171 #[.slice A l.length cap,.slice B m.length cap',.func (.func 120) #[] #[]] w (RetB (.bool (eqL l m)) w):=by
 refine vE Tryz.func171 ?_
 by_cases hlen:l.length=m.length
 rotate_left
 ·refine split_t (by simp;omega) ?_
  exact⟨ret_bool (eqL_len l m hlen).symm,Below.refl _ _⟩
 refine split_f (by simp;omega) ?_
 have hM:l.length<=9223372036854775807:=Nat.le_trans (Nat.le_trans hR.1 hR.2.1) (by decide)
 refine⟨Nat,fun i=>[(1,.slice B m.length cap'),(2,.func (.func 120) #[] #[]),(15,.slice A l.length cap),(16,.int .i64 l.length),(17,.int .i64 i)],
  fun i w'=>i<=l.length/\eqL (l.drop i) (m.drop i)=eqL l m/\Below w.heap.size w w',fun i _=>l.length-i,0,
  ⟨rfl,rfl,rfl,rfl,rfl,trivial⟩,⟨Nat.zero_le _,rfl,Below.refl _ _⟩,?_⟩
 rintro i w' u ⟨hi,he,hb⟩
 by_cases hlt:i<l.length
 ·refine split_t (decide_eq_true (by omega)) ?_
  obtain⟨ad,es,rfl,hre,hl4,hcell⟩:=Rep.elem (hL.below hb) (hR.below hb) i hlt
  obtain⟨bd,fs,rfl,hrf,hf4,hcelf⟩:=Rep.elem (hL'.below hb) (hR'.below hb) i (by omega)
  rw [List.drop_eq_getElem_cons hlt,List.drop_eq_getElem_cons (show i<m.length by omega),eqL] at he
  have hx:=hE l[i] (List.getElem_mem hlt)
  generalize l[i]=x at*
  generalize m[i]'(by omega)=y at*
  have hre0:=hre
  have hrf0:=hrf
  obtain⟨k1,n1,s1,l1⟩:=x
  obtain⟨k2,n2,s2,l2⟩:=y
  rw [RepC] at hre hrf
  obtain⟨A1,cap1,xs1,rfl,_,_⟩:=hre
  obtain⟨A2,cap2,xs2,rfl,_,_⟩:=hrf
  refine⟨⟨by omega,by omega⟩,?_⟩
  refine⟨_,hl4,hcell,?_⟩
  intro g5 w5 h5
  have c5:=((Ctx.start w' no (fun _ h=>h.elim)).loc h5).1
  refine⟨c5.may 0 rfl 0 _ (Nat.le_refl 4) rfl,?_⟩
  intro w6 h6
  have c6:=(c5.set 0 rfl h6).1
  refine⟨⟨by omega,by omega⟩,?_⟩
  refine⟨_,hf4,cellsAt_later c6.below _ 0 hcelf,?_⟩
  intro g7 w7 h7
  have c7:=(c6.loc h7).1
  refine⟨c7.may 0 rfl 0 _ (Nat.le_refl 4) rfl,?_⟩
  intro w8 h8
  have c8:=(c7.set 0 rfl h8).1
  refine⟨_,?_,c8.cells 1 rfl,?_⟩
  ·rfl
  refine⟨_,?_,c8.cells 0 rfl,?_⟩
  ·rfl
  refine call_b (hx _ _ _ w8 (hre0.below c8.below) (hrf0.below c8.below)) ?_
  intro w9 h9
  have c9:=(c8.quiet h9).1
  have hb9:=hb.trans (c9.below.mono hb.size)
  cases e:eqV (.mk k1 n1 s1 l1) (.mk k2 n2 s2 l2)
  ·refine⟨ret_bool ?_,hb9⟩
   rw [<-he,e];rfl
  ·refine⟨i+1,⟨rfl,rfl,rfl,rfl,congrArg _ (i_down (by omega)),trivial⟩,⟨hlt,?_,hb9⟩,by show l.length-(i+1)<l.length-i;omega⟩
   rw [<-he,e];rfl
 ·refine split_f (decide_eq_false (by omega)) ?_
  rw [List.drop_of_length_le (by omega),List.drop_of_length_le (by omega)] at he
  refine⟨ret_bool ?_,hb⟩
  rw [<-he,eqL]
theorem veq_any:∀ (N:Nat) (a:V),SizeOf.sizeOf a<N->∀ (b:V) (ca cb:List Value) (S:Nat->Prop) (w:World),RepC S w a ca->RepC S w b cb->
  Calls Tryz.prog 120 #[.agg ca.toArray,.agg cb.toArray] w (RetB (.bool (eqV a b)) w):=by
 intro N
 induction N with
 | zero=>intro a h;exact absurd h (Nat.not_lt_zero _)
 | succ N ih=>
  intro a hN b ca cb S w ha hb
  obtain⟨k1,n1,s1,l1⟩:=a
  obtain⟨k2,n2,s2,l2⟩:=b
  rw [RepC] at ha hb
  obtain⟨A1,cap1,xs1,rfl,hL,hR⟩:=ha
  obtain⟨A2,cap2,xs2,rfl,hL',hR'⟩:=hb
  refine vE Tryz.func120 ?_
  intro g2 w2 h2 g3 w3 h3
  have hc:=(((Ctx.start w no (fun _ h=>h.elim)).loc h2).1.loc h3).1
  have kids:∀ x∈l1,∀ (y:V) (cx cy:List Value) (w':World),RepC S w' x cx->RepC S w' y cy->Calls Tryz.prog 120 #[.agg cx.toArray,.agg cy.toArray] w' (RetB (.bool (eqV x y)) w'):=
   fun x hx y cx cy w' h1 h2=>ih x (by have:=V.kid (k:=k1) (n:=n1) (s:=s1) hx;omega) y cx cy S w' h1 h2
  repeat' (first | refine split_t (by assumption) ?_ | refine split_f (by assumption) ?_ | refine vc_nz (by decide) ?_ | refine⟨_,hc.cell 0 rfl _ rfl,?_⟩ | (refine⟨_,hc.cell 1 rfl _ rfl,?_⟩) | (refine call_b (equalFunc_any l1 l2 S w3 (hL.below hc.below) (hR.below hc.below) (hL'.below hc.below) (hR'.below hc.below) kids) ?_;intro w4 h4;have hc:=(hc.quiet h4).1) | refine split_ (fun _=>?_) (fun _=>?_))
  all_goals (refine⟨ret_bool ?_,hc.below⟩)
  all_goals simp only [eqV, *]
  all_goals rfl
set_option maxRecDepth 100000
theorem pnil_run (p:Option Addr) (w:World) (ox oy:Operand):(do eqGuard .eql 228 ox oy (.pointer p) (.pointer none);Go.binOp .eql 228 (.pointer p) (.pointer none):Sem Value).run Tryz.prog w=.ok (.bool p.isNone) w:=by
 have h:∀ d:Nat,(Op.equalIn (d+1) 228 (.pointer p) (.pointer none)).run Tryz.prog w=.ok p.isNone w:=fun d=>by
  cases p<;>simp [Op.equalIn,run_underlying Tryz.underlying228]
 cases p<;>simp [eqGuard,Go.binOp,Op.equal,Op.maxDepth,h 9999]
theorem noEscape_run (x:Value) (w:World):(callFunc 228 #[x]).run Tryz.prog w=.ok (.value x) w:=by
 rw [run_callFunc_extern Tryz.func228 (by kernel_rfl) (by kernel_rfl) (by kernel_rfl) (show Extern.find _=some Extern.AbiNoEscape.same by kernel_rfl)]
 rfl
theorem pself_run (a:Addr) (w:World) (ox oy:Operand):(do eqGuard .neq 228 ox oy (.pointer (some a)) (.pointer (some a));Go.binOp .neq 228 (.pointer (some a)) (.pointer (some a)):Sem Value).run Tryz.prog w=.ok (.bool false) w:=by
 obtain⟨j,hj,_,_,_⟩:=info_parts (show (Tryz.prog.info? 230).map (fun i=>(i.zero,i.size,i.bytes))=some (some (.agg #[.pointer none,.slice none 0 0]),2,32) by kernel_rfl)
 have h:=Lib.run_neq_ptr_same (P:=Tryz.prog) w a Tryz.underlying228 hj
 simp only [eqGuard]
 simpa using h
theorem copyCheck_any (B b:Nat) (bs:List Value) (w:World) (h:Lib.IsBuilder 230 5 B b bs w):
  Calls Tryz.prog 203 #[.pointer (some ⟨b,0,none⟩)] w (fun e w'=>e=.returned (.tuple #[])/\Lib.BuilderAt 230 5 B b (.pointer (some ⟨b,0,none⟩)) bs w'/\Below B w w'):=by
 refine vE Tryz.func203 ?_
 rcases h with h | h
 ·refine⟨_,h.cell0,?_⟩
  refine⟨_,fun w=>pnil_run _ w _ _,?_⟩
  obtain⟨j,hj,_,hj2,_⟩:=info_parts (show (Tryz.prog.info? 230).map (fun i=>(i.zero,i.size,i.bytes))=some (some (.agg #[.pointer none,.slice none 0 0]),2,32) by kernel_rfl)
  refine⟨_,_,Lib.run_to_unsafe w _ Tryz.underlying228 Tryz.underlying276 hj (by rw [hj2];decide) h.shape (by show (0:Nat)<2;decide),?_⟩
  refine⟨_,_,noEscape_run _ w,?_⟩
  refine⟨_,_,Lib.run_from_unsafe w _ Tryz.underlying276 Tryz.underlying228 hj h.shape (by kernel_rfl),?_⟩
  refine⟨⟨⟨_,h.cell0⟩,h.frozen0,rfl,trivial⟩,?_⟩
  intro w1 h1
  have e1:w1=w.setCell ⟨b,0,none⟩ (.pointer (some ⟨b,0,none⟩)):=h1
  subst e1
  exact⟨rfl,h.used _,(Below.refl B w).setCell (p:=⟨b,0,none⟩) h.1 _⟩
 ·refine⟨_,h.cell0,?_⟩
  refine⟨_,fun w=>pnil_run _ w _ _,?_⟩
  refine⟨_,h.cell0,?_⟩
  refine⟨_,fun w=>pself_run _ w _ _,?_⟩
  exact⟨rfl,h,Below.refl _ _⟩
theorem wstr_any (B b:Nat) (l:List UInt8) (s:ByteArray) (w:World) (h:Lib.IsBuilder 230 5 B b (bv l) w) (hB:B<=w.heap.size) (hs:l.length+s.size<=34359738368):
  Calls Tryz.prog 174 #[.pointer (some ⟨b,0,none⟩),.string s] w (fun e w'=>e=.returned (.tuple #[.int .i64 s.size,.nilIface])/\Lib.IsBuilder 230 5 B b (bv (l++s.data.toList)) w'/\Below B w w'):=by
 refine vE Tryz.func174 ?_
 refine⟨(copyCheck_any B b (bv l) w h).mono fun e w1 he=>⟨_,he.1,?_⟩⟩
 obtain⟨_,hw1,hb1⟩:=he
 have hlt:=hw1.lt
 obtain⟨hBb,v,hbk,hown,hne⟩:=hw1
 have shape:∃ A cap,v=.slice A l.length cap:=by
  obtain⟨_,h6⟩:=hown
  rw [bv_len] at h6
  rcases h6 with ⟨h6,h7⟩ | ⟨g,cp,cur,h6,_⟩
  ·exact⟨none,0,by rw [h7];exact h6⟩
  ·exact⟨_,_,h6⟩
 obtain⟨A,cap,rfl⟩:=shape
 refine⟨.slice A l.length cap,Lib.cell_of_heap hbk 1,?_⟩
 obtain⟨i,hi,hi1,hi2,hi3⟩:=info_parts info_u8
 obtain⟨v',w2,hrun,hown2,hg,_⟩:=Lib.run_append_own_string (P:=Tryz.prog) w1 B 181 9 181 5 i Tryz.underlying181 Tryz.underlying9 hi hi1 hi2 hi3 _ _ _ hown s (by rw [bv_len];simp only [maxLen];omega) (by rw [bv_len];omega) (Nat.le_trans hB hb1.size)
 have shape2:∃ A' n' cap',v'=.slice A' n' cap':=by
  obtain⟨_,h6⟩:=hown2
  rcases h6 with ⟨h6,h7⟩ | ⟨g,cp,cur,h6,_⟩
  ·exact⟨_,_,_,h6⟩
  ·exact⟨_,_,_,h6⟩
 obtain⟨A',n',cap',rfl⟩:=shape2
 refine⟨.slice A' n' cap',w2,?_,?_⟩
 ·show (do pure (Next.value (<-Builtin.append_ #[181,9] 181 #[.slice A l.length cap,.string s])):Sem Next).run Tryz.prog w1=_
  simp only [Sem.run_bind,hrun,Result.andThen_ok,Sem.run_pure]
 have hbk2:w2.heap[b]?=some (.cells #[.pointer (some ⟨b,0,none⟩),.slice A l.length cap] 230 (0,0)):=(hg.block b hlt (fun e=>hne e.symm)).trans hbk
 refine⟨⟨⟨_,Lib.cell_of_heap hbk2 1⟩,Lib.frozen_of_heap hbk2 1,rfl,trivial⟩,?_⟩
 intro w3 h3
 have e3:w3=w2.setCell ⟨b,1,none⟩ (.slice A' n' cap'):=h3
 subst e3
 have hbs:bv l++Lib.strCells s=bv (l++s.data.toList):=by rw [bv_append];rfl
 have hown3:w2.ownsRow B 5 1 (.slice A' n' cap') (bv (l++s.data.toList)).length (bv (l++s.data.toList)):=by
  rw [<-hbs,List.length_append,Lib.strCells_length]
  exact hown2
 have hb2:Below B w w2:=hb1.grown hg (Nat.le_trans hB hb1.size) (fun k hk=>by
  have:=hown.lt k hk
  exact this.1)
 refine⟨rfl,.inr (Lib.BuilderAt.put hBb hbk2 hown3 (by decide)),hb2.setCell (p:=⟨b,1,none⟩) hBb _⟩
end Go.Proofs.YtokglimimnelaaaGreatDoor
section
namespace Go.Proofs
open Go.Shelf
def Tryz.lays169_ren:Go.Shelf.Ren:=⟨fun | 169=>175 | n=>n,fun | 70=>228 | 9=>9 | 0=>0 | 72=>230 | 37=>181 | 127=>254 | 3=>3 | 5=>5 | n=>n,fun | n=>n⟩
theorem Tryz.lays169:Go.Proofs.Lays.n169 Tryz.prog Tryz.lays169_ren:={
 mixed:=by kernel_rfl
 f169:=Tryz.func175.trans (congrArg some (by kernel_rfl))
 t0:=Tryz.underlying0
 a0:=Tryz.isAgg0
 z0:=Tryz.sizeOf0
 v0:=Tryz.zeroValue0
 t3:=Tryz.underlying3
 a3:=Tryz.isAgg3
 z3:=Tryz.sizeOf3
 v3:=Tryz.zeroValue3
 t9:=Tryz.underlying9
 a9:=Tryz.isAgg9
 z9:=Tryz.sizeOf9
 v9:=Tryz.zeroValue9
 t37:=Tryz.underlying181
 a37:=Tryz.isAgg181
 z37:=Tryz.sizeOf181
 v37:=Tryz.zeroValue181
 t70:=Tryz.underlying228
 a70:=Tryz.isAgg228
 z70:=Tryz.sizeOf228
 v70:=Tryz.zeroValue228
 t72:=Tryz.underlying230
 a72:=Tryz.isAgg230
 z72:=Tryz.sizeOf230
 v72:=Tryz.zeroValue230
 t127:=Tryz.underlying254
 a127:=Tryz.isAgg254
 z127:=Tryz.sizeOf254
 v127:=Tryz.zeroValue254 }
theorem Tryz.Builder_Extra_169:Builder.Extra Tryz.prog Tryz.lays169_ren:={
 sizeBuilder:=by kernel_rfl
 liesBuilder:=by kernel_rfl
 t5:=Tryz.underlying5
 a5:=Tryz.isAgg5
 z5:=Tryz.sizeOf5
 v5:=Tryz.zeroValue5
 infoByte:=by kernel_rfl
 cellsByte:=by kernel_rfl
 sizeByte:=by kernel_rfl
 neB5:=by decide }
open Go.RowKit in
theorem Tryz.Builder_String_any (B b:Nat) (l:List UInt8) (w:World) (h:Lib.IsBuilder 230 5 B b (Lib.byteCells l) w) (hBw:B<=w.heap.size):
  Calls Tryz.prog 175 #[.pointer (some ⟨b,0,none⟩)] w fun e w'=>e=.returned (.string ⟨l.toArray⟩)/\Below B w w':=Any.Builder_String_any Tryz.lays169 Tryz.Builder_Extra_169 B b l w h hBw
def Tryz.lays137_ren:Go.Shelf.Ren:=⟨fun | 137=>132 | 217=>177 | 266=>205 | n=>n,fun | 9=>9 | 5=>5 | 3=>3 | n=>n,fun | n=>n⟩
theorem Tryz.lays137:Go.Proofs.Lays.n137 Tryz.prog Tryz.lays137_ren:={
 mixed:=by kernel_rfl
 f137:=Tryz.func132.trans (congrArg some (by kernel_rfl))
 f217:=Tryz.func177.trans (congrArg some (by kernel_rfl))
 f266:=Tryz.func205.trans (congrArg some (by kernel_rfl))
 t3:=Tryz.underlying3
 a3:=Tryz.isAgg3
 z3:=Tryz.sizeOf3
 v3:=Tryz.zeroValue3
 t5:=Tryz.underlying5
 a5:=Tryz.isAgg5
 z5:=Tryz.sizeOf5
 v5:=Tryz.zeroValue5
 t9:=Tryz.underlying9
 a9:=Tryz.isAgg9
 z9:=Tryz.sizeOf9
 v9:=Tryz.zeroValue9 }
open Go.RowKit in
theorem Tryz.strings_IndexByte (s:ByteArray) (c:Int) (w:World):
  Calls Tryz.prog 132 #[.string s,.int .u8 c] w fun e w'=>e=.returned (.int .i64 (Lib.indexByte s.data.toList c.toNat.toUInt8))/\w'=w:=Any.strings_IndexByte Tryz.lays137 s c w
def Tryz.laysM171_ren:Go.Shelf.Ren:=⟨fun | 171=>176 | 243=>204 | 246=>202 | 283=>224 | 284=>225 | 285=>226 | 286=>227 | 129=>241 | 317=>240 | 318=>242 | 319=>243 | 320=>244 | 337=>256 | 338=>257 | n=>n,fun | 3=>3 | 9=>9 | 2=>2 | 4=>4 | 171=>270 | 0=>0 | 53=>271 | 37=>181 | 5=>5 | 173=>274 | 212=>284 | 51=>285 | 20=>20 | 213=>286 | 46=>255 | 232=>305 | 233=>306 | n=>n,fun | 17=>2 | 18=>5 | 19=>6 | n=>n⟩
theorem Tryz.laysM171:Go.Proofs.LaysM.n171 Tryz.prog Tryz.laysM171_ren:={
 mixed:=by kernel_rfl
 f129:=Tryz.func241.trans (congrArg some (by kernel_rfl))
 f171:=Tryz.func176.trans (congrArg some (by kernel_rfl))
 f243:=Tryz.func204.trans (congrArg some (by kernel_rfl))
 f246:=Tryz.func202.trans (congrArg some (by kernel_rfl))
 f283:=Tryz.func224.trans (congrArg some (by kernel_rfl))
 f284:=Tryz.func225.trans (congrArg some (by kernel_rfl))
 f285:=Tryz.func226.trans (congrArg some (by kernel_rfl))
 f286:=Tryz.func227.trans (congrArg some (by kernel_rfl))
 f317:=Tryz.func240.trans (congrArg some (by kernel_rfl))
 f318:=Tryz.func242.trans (congrArg some (by kernel_rfl))
 f319:=Tryz.func243.trans (congrArg some (by kernel_rfl))
 f320:=Tryz.func244.trans (congrArg some (by kernel_rfl))
 f337:=Tryz.func256.trans (congrArg some (by kernel_rfl))
 f338:=Tryz.func257.trans (congrArg some (by kernel_rfl))
 t0:=Tryz.underlying0
 a0:=Tryz.isAgg0
 z0:=Tryz.sizeOf0
 v0:=Tryz.zeroValue0
 t2:=Tryz.underlying2
 a2:=Tryz.isAgg2
 z2:=Tryz.sizeOf2
 v2:=Tryz.zeroValue2
 t3:=Tryz.underlying3
 a3:=Tryz.isAgg3
 z3:=Tryz.sizeOf3
 v3:=Tryz.zeroValue3
 t4:=Tryz.underlying4
 a4:=Tryz.isAgg4
 z4:=Tryz.sizeOf4
 v4:=Tryz.zeroValue4
 t5:=Tryz.underlying5
 a5:=Tryz.isAgg5
 z5:=Tryz.sizeOf5
 v5:=Tryz.zeroValue5
 t9:=Tryz.underlying9
 a9:=Tryz.isAgg9
 z9:=Tryz.sizeOf9
 v9:=Tryz.zeroValue9
 t20:=Tryz.underlying20
 a20:=Tryz.isAgg20
 z20:=Tryz.sizeOf20
 v20:=Tryz.zeroValue20
 t37:=Tryz.underlying181
 a37:=Tryz.isAgg181
 z37:=Tryz.sizeOf181
 v37:=Tryz.zeroValue181
 t46:=Tryz.underlying255
 a46:=Tryz.isAgg255
 z46:=Tryz.sizeOf255
 v46:=Tryz.zeroValue255
 t51:=Tryz.underlying285
 a51:=Tryz.isAgg285
 z51:=Tryz.sizeOf285
 v51:=Tryz.zeroValue285
 t53:=Tryz.underlying271
 a53:=Tryz.isAgg271
 z53:=Tryz.sizeOf271
 v53:=Tryz.zeroValue271
 t171:=Tryz.underlying270
 a171:=Tryz.isAgg270
 z171:=Tryz.sizeOf270
 v171:=Tryz.zeroValue270
 t173:=Tryz.underlying274
 a173:=Tryz.isAgg274
 z173:=Tryz.sizeOf274
 v173:=Tryz.zeroValue274
 t212:=Tryz.underlying284
 a212:=Tryz.isAgg284
 z212:=Tryz.sizeOf284
 v212:=Tryz.zeroValue284
 t213:=Tryz.underlying286
 a213:=Tryz.isAgg286
 z213:=Tryz.sizeOf286
 t232:=Tryz.underlying305
 a232:=Tryz.isAgg305
 z232:=Tryz.sizeOf305
 v232:=Tryz.zeroValue305
 t233:=Tryz.underlying306
 a233:=Tryz.isAgg306
 z233:=Tryz.sizeOf306
 v233:=Tryz.zeroValue306
 g17:=by kernel_rfl
 g18:=by kernel_rfl
 g19:=by kernel_rfl
 i0:=by kernel_rfl
 i2:=by kernel_rfl
 i3:=by kernel_rfl
 i4:=by kernel_rfl
 i5:=by kernel_rfl
 i9:=by kernel_rfl
 i20:=by kernel_rfl
 i37:=by kernel_rfl
 i46:=by kernel_rfl
 i51:=by kernel_rfl
 i53:=by kernel_rfl
 i171:=by kernel_rfl
 i173:=by kernel_rfl
 i212:=by kernel_rfl
 i232:=by kernel_rfl
 i233:=by kernel_rfl
 m17:=by kernel_rfl
 m18:=by kernel_rfl
 m19:=by kernel_rfl }
open Go.RowKit Go.Sort Go.Lib in
theorem Tryz.strconv_Itoa (n:Int) (h0 : -9223372036854775808<=n) (h1:n<=9223372036854775807) (w:World) (htab:Lib.TabIs Tryz.prog w "internal/strconv.uint64pow10" .u64 Lib.pow10Tab):
  Calls Tryz.prog 176 #[.int .i64 n] w fun e w'=>e=.returned (.string ⟨(Lib.itoa n).toArray⟩)/\∃ k os,w'=grow (w.drewN k) os:=Any.strconv_Itoa Tryz.laysM171 n h0 h1 w htab
def Tryz.laysM173_ren:Go.Shelf.Ren:=⟨fun | 173=>173 | 246=>202 | 283=>224 | 284=>225 | 285=>226 | 286=>227 | 129=>241 | 317=>240 | 318=>242 | 319=>243 | 320=>244 | 337=>256 | 338=>257 | n=>n,fun | 2=>2 | 3=>3 | 9=>9 | 4=>4 | 171=>270 | 0=>0 | 53=>271 | 37=>181 | 5=>5 | 173=>274 | 212=>284 | 51=>285 | 20=>20 | 213=>286 | 46=>255 | 232=>305 | 233=>306 | n=>n,fun | 17=>2 | 18=>5 | 19=>6 | n=>n⟩
theorem Tryz.laysM173:Go.Proofs.LaysM.n173 Tryz.prog Tryz.laysM173_ren:={
 mixed:=by kernel_rfl
 f129:=Tryz.func241.trans (congrArg some (by kernel_rfl))
 f173:=Tryz.func173.trans (congrArg some (by kernel_rfl))
 f246:=Tryz.func202.trans (congrArg some (by kernel_rfl))
 f283:=Tryz.func224.trans (congrArg some (by kernel_rfl))
 f284:=Tryz.func225.trans (congrArg some (by kernel_rfl))
 f285:=Tryz.func226.trans (congrArg some (by kernel_rfl))
 f286:=Tryz.func227.trans (congrArg some (by kernel_rfl))
 f317:=Tryz.func240.trans (congrArg some (by kernel_rfl))
 f318:=Tryz.func242.trans (congrArg some (by kernel_rfl))
 f319:=Tryz.func243.trans (congrArg some (by kernel_rfl))
 f320:=Tryz.func244.trans (congrArg some (by kernel_rfl))
 f337:=Tryz.func256.trans (congrArg some (by kernel_rfl))
 f338:=Tryz.func257.trans (congrArg some (by kernel_rfl))
 t0:=Tryz.underlying0
 a0:=Tryz.isAgg0
 z0:=Tryz.sizeOf0
 v0:=Tryz.zeroValue0
 t2:=Tryz.underlying2
 a2:=Tryz.isAgg2
 z2:=Tryz.sizeOf2
 v2:=Tryz.zeroValue2
 t3:=Tryz.underlying3
 a3:=Tryz.isAgg3
 z3:=Tryz.sizeOf3
 v3:=Tryz.zeroValue3
 t4:=Tryz.underlying4
 a4:=Tryz.isAgg4
 z4:=Tryz.sizeOf4
 v4:=Tryz.zeroValue4
 t5:=Tryz.underlying5
 a5:=Tryz.isAgg5
 z5:=Tryz.sizeOf5
 v5:=Tryz.zeroValue5
 t9:=Tryz.underlying9
 a9:=Tryz.isAgg9
 z9:=Tryz.sizeOf9
 v9:=Tryz.zeroValue9
 t20:=Tryz.underlying20
 a20:=Tryz.isAgg20
 z20:=Tryz.sizeOf20
 v20:=Tryz.zeroValue20
 t37:=Tryz.underlying181
 a37:=Tryz.isAgg181
 z37:=Tryz.sizeOf181
 v37:=Tryz.zeroValue181
 t46:=Tryz.underlying255
 a46:=Tryz.isAgg255
 z46:=Tryz.sizeOf255
 v46:=Tryz.zeroValue255
 t51:=Tryz.underlying285
 a51:=Tryz.isAgg285
 z51:=Tryz.sizeOf285
 v51:=Tryz.zeroValue285
 t53:=Tryz.underlying271
 a53:=Tryz.isAgg271
 z53:=Tryz.sizeOf271
 v53:=Tryz.zeroValue271
 t171:=Tryz.underlying270
 a171:=Tryz.isAgg270
 z171:=Tryz.sizeOf270
 v171:=Tryz.zeroValue270
 t173:=Tryz.underlying274
 a173:=Tryz.isAgg274
 z173:=Tryz.sizeOf274
 v173:=Tryz.zeroValue274
 t212:=Tryz.underlying284
 a212:=Tryz.isAgg284
 z212:=Tryz.sizeOf284
 v212:=Tryz.zeroValue284
 t213:=Tryz.underlying286
 a213:=Tryz.isAgg286
 z213:=Tryz.sizeOf286
 t232:=Tryz.underlying305
 a232:=Tryz.isAgg305
 z232:=Tryz.sizeOf305
 v232:=Tryz.zeroValue305
 t233:=Tryz.underlying306
 a233:=Tryz.isAgg306
 z233:=Tryz.sizeOf306
 v233:=Tryz.zeroValue306
 g17:=by kernel_rfl
 g18:=by kernel_rfl
 g19:=by kernel_rfl
 i0:=by kernel_rfl
 i2:=by kernel_rfl
 i3:=by kernel_rfl
 i4:=by kernel_rfl
 i5:=by kernel_rfl
 i9:=by kernel_rfl
 i20:=by kernel_rfl
 i37:=by kernel_rfl
 i46:=by kernel_rfl
 i51:=by kernel_rfl
 i53:=by kernel_rfl
 i171:=by kernel_rfl
 i173:=by kernel_rfl
 i212:=by kernel_rfl
 i232:=by kernel_rfl
 i233:=by kernel_rfl
 m17:=by kernel_rfl
 m18:=by kernel_rfl
 m19:=by kernel_rfl }
open Go.RowKit Go.Sort Go.Lib in
theorem Tryz.strconv_FormatInt_10 (n:Int) (h0 : -9223372036854775808<=n) (h1:n<=9223372036854775807) (w:World) (htab:Lib.TabIs Tryz.prog w "internal/strconv.uint64pow10" .u64 Lib.pow10Tab):
  Calls Tryz.prog 173 #[.int .i64 n,.int .i64 10] w fun e w'=>e=.returned (.string ⟨(Lib.itoa n).toArray⟩)/\∃ k os,w'=grow (w.drewN k) os:=Any.strconv_FormatInt_10 Tryz.laysM173 n h0 h1 w htab
def Tryz.laysC174_ren:Go.Shelf.Ren:=⟨fun | 174=>223 | 247=>238 | 245=>239 | 287=>251 | 279=>252 | 280=>253 | 281=>254 | 282=>255 | 321=>258 | 322=>259 | 316=>260 | 171=>176 | 205=>261 | 243=>204 | 246=>202 | 283=>224 | 284=>225 | 285=>226 | 286=>227 | 129=>241 | 317=>240 | 318=>242 | 319=>243 | 320=>244 | 337=>256 | 338=>257 | n=>n,fun | 9=>9 | 3=>3 | 2=>2 | 75=>232 | 85=>268 | 4=>4 | 167=>294 | 5=>5 | 53=>271 | 175=>295 | 46=>255 | 168=>297 | 37=>181 | 0=>0 | 210=>303 | 21=>21 | 127=>254 | 145=>309 | 143=>307 | 171=>270 | 173=>274 | 212=>284 | 51=>285 | 20=>20 | 213=>286 | 232=>305 | 233=>306 | 80=>101 | n=>n,fun | 15=>3 | 16=>4 | 17=>2 | 18=>5 | 19=>6 | n=>n⟩
theorem Tryz.laysC174:Go.Proofs.LaysC.n174 Tryz.prog Tryz.laysC174_ren:={
 mixed:=by kernel_rfl
 f129:=Tryz.func241.trans (congrArg some (by kernel_rfl))
 f171:=Tryz.func176.trans (congrArg some (by kernel_rfl))
 f174:=Tryz.func223.trans (congrArg some (by kernel_rfl))
 f205:=Tryz.func261.trans (congrArg some (by kernel_rfl))
 f243:=Tryz.func204.trans (congrArg some (by kernel_rfl))
 f245:=Tryz.func239.trans (congrArg some (by kernel_rfl))
 f246:=Tryz.func202.trans (congrArg some (by kernel_rfl))
 f247:=Tryz.func238.trans (congrArg some (by kernel_rfl))
 f279:=Tryz.func252.trans (congrArg some (by kernel_rfl))
 f280:=Tryz.func253.trans (congrArg some (by kernel_rfl))
 f281:=Tryz.func254.trans (congrArg some (by kernel_rfl))
 f282:=Tryz.func255.trans (congrArg some (by kernel_rfl))
 f283:=Tryz.func224.trans (congrArg some (by kernel_rfl))
 f284:=Tryz.func225.trans (congrArg some (by kernel_rfl))
 f285:=Tryz.func226.trans (congrArg some (by kernel_rfl))
 f286:=Tryz.func227.trans (congrArg some (by kernel_rfl))
 f287:=Tryz.func251.trans (congrArg some (by kernel_rfl))
 f316:=Tryz.func260.trans (congrArg some (by kernel_rfl))
 f317:=Tryz.func240.trans (congrArg some (by kernel_rfl))
 f318:=Tryz.func242.trans (congrArg some (by kernel_rfl))
 f319:=Tryz.func243.trans (congrArg some (by kernel_rfl))
 f320:=Tryz.func244.trans (congrArg some (by kernel_rfl))
 f321:=Tryz.func258.trans (congrArg some (by kernel_rfl))
 f322:=Tryz.func259.trans (congrArg some (by kernel_rfl))
 f337:=Tryz.func256.trans (congrArg some (by kernel_rfl))
 f338:=Tryz.func257.trans (congrArg some (by kernel_rfl))
 t0:=Tryz.underlying0
 a0:=Tryz.isAgg0
 z0:=Tryz.sizeOf0
 v0:=Tryz.zeroValue0
 t2:=Tryz.underlying2
 a2:=Tryz.isAgg2
 z2:=Tryz.sizeOf2
 v2:=Tryz.zeroValue2
 t3:=Tryz.underlying3
 a3:=Tryz.isAgg3
 z3:=Tryz.sizeOf3
 v3:=Tryz.zeroValue3
 t4:=Tryz.underlying4
 a4:=Tryz.isAgg4
 z4:=Tryz.sizeOf4
 v4:=Tryz.zeroValue4
 t5:=Tryz.underlying5
 a5:=Tryz.isAgg5
 z5:=Tryz.sizeOf5
 v5:=Tryz.zeroValue5
 t9:=Tryz.underlying9
 a9:=Tryz.isAgg9
 z9:=Tryz.sizeOf9
 v9:=Tryz.zeroValue9
 t20:=Tryz.underlying20
 a20:=Tryz.isAgg20
 z20:=Tryz.sizeOf20
 v20:=Tryz.zeroValue20
 t21:=Tryz.underlying21
 a21:=Tryz.isAgg21
 z21:=Tryz.sizeOf21
 v21:=Tryz.zeroValue21
 t37:=Tryz.underlying181
 a37:=Tryz.isAgg181
 z37:=Tryz.sizeOf181
 v37:=Tryz.zeroValue181
 t46:=Tryz.underlying255
 a46:=Tryz.isAgg255
 z46:=Tryz.sizeOf255
 v46:=Tryz.zeroValue255
 t51:=Tryz.underlying285
 a51:=Tryz.isAgg285
 z51:=Tryz.sizeOf285
 v51:=Tryz.zeroValue285
 t53:=Tryz.underlying271
 a53:=Tryz.isAgg271
 z53:=Tryz.sizeOf271
 v53:=Tryz.zeroValue271
 t75:=Tryz.underlying232
 a75:=Tryz.isAgg232
 z75:=Tryz.sizeOf232
 v75:=Tryz.zeroValue232
 t85:=Tryz.underlying268
 a85:=Tryz.isAgg268
 z85:=Tryz.sizeOf268
 v85:=Tryz.zeroValue268
 t127:=Tryz.underlying254
 a127:=Tryz.isAgg254
 z127:=Tryz.sizeOf254
 v127:=Tryz.zeroValue254
 t143:=Tryz.underlying307
 a143:=Tryz.isAgg307
 z143:=Tryz.sizeOf307
 v143:=Tryz.zeroValue307
 t145:=Tryz.underlying309
 a145:=Tryz.isAgg309
 z145:=Tryz.sizeOf309
 v145:=Tryz.zeroValue309
 t167:=Tryz.underlying294
 a167:=Tryz.isAgg294
 z167:=Tryz.sizeOf294
 v167:=Tryz.zeroValue294
 t168:=Tryz.underlying297
 a168:=Tryz.isAgg297
 z168:=Tryz.sizeOf297
 v168:=Tryz.zeroValue297
 t171:=Tryz.underlying270
 a171:=Tryz.isAgg270
 z171:=Tryz.sizeOf270
 v171:=Tryz.zeroValue270
 t173:=Tryz.underlying274
 a173:=Tryz.isAgg274
 z173:=Tryz.sizeOf274
 v173:=Tryz.zeroValue274
 t175:=Tryz.underlying295
 a175:=Tryz.isAgg295
 z175:=Tryz.sizeOf295
 v175:=Tryz.zeroValue295
 t210:=Tryz.underlying303
 a210:=Tryz.isAgg303
 z210:=Tryz.sizeOf303
 v210:=Tryz.zeroValue303
 t212:=Tryz.underlying284
 a212:=Tryz.isAgg284
 z212:=Tryz.sizeOf284
 v212:=Tryz.zeroValue284
 t213:=Tryz.underlying286
 a213:=Tryz.isAgg286
 z213:=Tryz.sizeOf286
 t232:=Tryz.underlying305
 a232:=Tryz.isAgg305
 z232:=Tryz.sizeOf305
 v232:=Tryz.zeroValue305
 t233:=Tryz.underlying306
 a233:=Tryz.isAgg306
 z233:=Tryz.sizeOf306
 v233:=Tryz.zeroValue306
 g15:=by kernel_rfl
 g16:=by kernel_rfl
 g17:=by kernel_rfl
 g18:=by kernel_rfl
 g19:=by kernel_rfl
 t80:=Tryz.underlying101
 a80:=Tryz.isAgg101
 z80:=Tryz.sizeOf101
 v80:=Tryz.zeroValue101
 i0:=by kernel_rfl
 i2:=by kernel_rfl
 i3:=by kernel_rfl
 i4:=by kernel_rfl
 i5:=by kernel_rfl
 i9:=by kernel_rfl
 i20:=by kernel_rfl
 i21:=by kernel_rfl
 i37:=by kernel_rfl
 i46:=by kernel_rfl
 i51:=by kernel_rfl
 i53:=by kernel_rfl
 i75:=by kernel_rfl
 i80:=by kernel_rfl
 i85:=by kernel_rfl
 i127:=by kernel_rfl
 i143:=by kernel_rfl
 i145:=by kernel_rfl
 i167:=by kernel_rfl
 i168:=by kernel_rfl
 i171:=by kernel_rfl
 i173:=by kernel_rfl
 i175:=by kernel_rfl
 i210:=by kernel_rfl
 i212:=by kernel_rfl
 i232:=by kernel_rfl
 i233:=by kernel_rfl
 m15:=by kernel_rfl
 m16:=by kernel_rfl
 m17:=by kernel_rfl
 m18:=by kernel_rfl
 m19:=by kernel_rfl
 c0:=by kernel_rfl
 c2:=by kernel_rfl
 c3:=by kernel_rfl
 c4:=by kernel_rfl
 c5:=by kernel_rfl
 c9:=by kernel_rfl
 c20:=by kernel_rfl
 c21:=by kernel_rfl
 c37:=by kernel_rfl
 c46:=by kernel_rfl
 c51:=by kernel_rfl
 c53:=by kernel_rfl
 c75:=by kernel_rfl
 c80:=by kernel_rfl
 c85:=by kernel_rfl
 c127:=by kernel_rfl
 c143:=by kernel_rfl
 c145:=by kernel_rfl
 c167:=by kernel_rfl
 c168:=by kernel_rfl
 c171:=by kernel_rfl
 c173:=by kernel_rfl
 c175:=by kernel_rfl
 c210:=by kernel_rfl
 c212:=by kernel_rfl
 c213:=by kernel_rfl
 c232:=by kernel_rfl
 c233:=by kernel_rfl }
open Go.RowKit in
theorem Tryz.strconv_ParseInt_10_at64_ok (s:ByteArray) (hmax:s.size<=9223372036854775806) (v:Int) (h:Lib.parseIntB 64 s.data.toList=.ok v) (w:World):
  Calls Tryz.prog 223 #[.string s,.int .i64 10,.int .i64 64] w fun e w'=>e=.returned (.tuple #[.int .i64 v,.nilIface])/\(w'=w\/∃ t,w'=Lib.bytesWorld w 5 t):=Any.strconv_ParseInt_10_at64_ok Tryz.laysC174 s hmax v h w
open Go.RowKit in
theorem Tryz.strconv_ParseInt_10_at64_range_var (s:ByteArray) (hlim:s.size<=281474976710656) (h:Lib.parseIntB 64 s.data.toList=.range) (tp:TypeId) (p:Value) (w:World) (hvar:w.var? Tryz.prog "strconv.ErrRange"=some #[.iface tp p]):
  Calls Tryz.prog 223 #[.string s,.int .i64 10,.int .i64 64] w fun e w'=>∃ N,e=.returned (.tuple #[.int .i64 (Lib.intSat 64 s.data.toList),.iface 297 (.pointer (some ⟨N,0,none⟩))])/\w.heap.size<=N/\w'.heap[N]?=some (.cells #[.string ⟨#[80,97,114,115,101,73,110,116]⟩,.string s,.iface tp p] 303 (0,0))/\Below w.heap.size w w':=Any.strconv_ParseInt_10_at64_range_var Tryz.laysC174 s hlim h tp p w hvar
def Tryz.lays99_ren:Go.Shelf.Ren:=⟨fun | 99=>195 | 206=>221 | n=>n,fun | 9=>9 | 4=>4 | 3=>3 | n=>n,fun | n=>n⟩
theorem Tryz.lays99:Go.Proofs.Lays.n99 Tryz.prog Tryz.lays99_ren:={
 mixed:=by kernel_rfl
 f99:=Tryz.func195.trans (congrArg some (by kernel_rfl))
 f206:=Tryz.func221.trans (congrArg some (by kernel_rfl))
 t3:=Tryz.underlying3
 a3:=Tryz.isAgg3
 z3:=Tryz.sizeOf3
 v3:=Tryz.zeroValue3
 t4:=Tryz.underlying4
 a4:=Tryz.isAgg4
 z4:=Tryz.sizeOf4
 v4:=Tryz.zeroValue4
 t9:=Tryz.underlying9
 a9:=Tryz.isAgg9
 z9:=Tryz.sizeOf9
 v9:=Tryz.zeroValue9 }
open Go.RowKit Go.Lib in
theorem Tryz.strings_HasPrefix (s p:ByteArray) (w:World):
  Calls Tryz.prog 195 #[.string s,.string p] w fun e w'=>e=.returned (.bool (Lib.hasPrefix s.data.toList p.data.toList))/\w'=w:=Any.strings_HasPrefix Tryz.lays99 s p w
end Go.Proofs
end
