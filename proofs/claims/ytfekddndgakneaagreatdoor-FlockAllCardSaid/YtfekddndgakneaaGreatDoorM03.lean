import Derived.Test.YtfekddndgakneaaGreatDoorM02
import Derived.Laws.BitsLemmas
import Derived.Lib.Builder
import Derived.Lib.AppendStr
import Derived.Shelf.Strings.Builder1
import Derived.Shelf.Small.Strs
import Derived.Shelf.Strings.BuilderF
import Derived.Shelf.Strings.BuilderK
import Derived.Shelf.Strconv.Itoa0
import Derived.Shelf.Strconv.Itoa1
import Derived.Shelf.LaysM
import Derived.Shelf.Strconv.Itoa2
import Derived.Shelf.Strconv.Itoa3
import Derived.Shelf.Strconv.Itoa4
import Derived.Shelf.Strconv.ParseIntEmpty
import Derived.Shelf.Strconv.Clone
import Derived.Shelf.Strconv.SyntaxError
import Derived.Shelf.LaysC
import Derived.Shelf.Strconv.ToError
import Derived.Shelf.Strconv.Lower
import Derived.Shelf.Strconv.ParseUint10
import Derived.Shelf.Strconv.ParseUint10Empty
import Derived.Shelf.Strconv.ParseUint10Any
import Derived.Shelf.Strconv.ParseInt10
import Derived.Shelf.Strconv.RangeError
import Derived.Shelf.Strconv.ToErrorRange
import Derived.Shelf.Strconv.ParseUintEmpty
import Derived.Shelf.Strconv.ParseUint10b64
import Derived.Shelf.Strconv.ParseUint10b32
import Derived.Shelf.Strconv.ParseUint10b16
import Derived.Shelf.Strconv.ParseUint10b8
import Derived.Shelf.Strconv.ParseUint10At
import Derived.Shelf.Strconv.ParseInt10At64
import Derived.Shelf.Strconv.ParseInt10At32
import Derived.Shelf.Strconv.ParseInt10At16
import Derived.Shelf.Strconv.ParseInt10At8
import Derived.Shelf.Strconv.ParseInt10All
import Derived.Shelf.Strconv.ParseIntPublic10
import Derived.Shelf.Strconv.ErrVarParseInt
import Derived.Shelf.Strings.Search1
import Derived.Shelf.Strings.Prefix
import Derived.Ground.Names2Prog
import Derived.Shelf.Slices.Clone
import Derived.Shelf.Slices.Delete
import Derived.Shelf.Slices.Cells
import Derived.Shelf.Slices.Empties
import Derived.Ground.SlgnProg
import Derived.Shelf.SlicesG.SearchI
import Derived.Shelf.SlicesE.Clone
import Derived.Test.YtfekddndgakneaaGreatDoorProg
import Derived.Lib.AppendIntMem
import Derived.Lib.ItoaLen
set_option maxRecDepth 100000
set_option maxHeartbeats 40000000
set_option linter.unusedVariables false
set_option linter.unusedSimpArgs false
namespace Go.Proofs.YtfekddndgakneaaGreatDoor
open Go.Vc Go.RowKit Go.Fl
theorem B7R {x:Nat} {a:Int} (hx:Is x a) (h0 : -9223372036854775808<=a) (h1:a<=9223372036854775807) (w:World):(Go.convert 121 2 (.float .f64 x)).run Tryz.prog w=.ok (.int .i64 a) w:=by
 unfold Go.convert
 simp only [Sem.run_bind,run_underlying Tryz.underlying121,run_underlying Tryz.underlying2,Result.andThen_ok]
 unfold Conv.floatToInt
 rw [show FloatKind.f64.decode x=Ieee.double.read x from rfl,A8Q hx]
 have hc:IntKind.i64.min<=a/\a<=IntKind.i64.max:=⟨h0,h1⟩
 simp only [if_pos hc,Sem.run_pure]
theorem B5o {x:Nat} {a:Int} (hx:Is x a) (h0 : -9223372036854775808<=a) (h1:a<=9223372036854775807) (w:World):(Go.convert 121 3 (.float .f64 x)).run Tryz.prog w=.ok (.int .i64 a) w:=by
 unfold Go.convert
 simp only [Sem.run_bind,run_underlying Tryz.underlying121,run_underlying Tryz.underlying3,Result.andThen_ok]
 unfold Conv.floatToInt
 rw [show FloatKind.f64.decode x=Ieee.double.read x from rfl,A8Q hx]
 have hc:IntKind.i64.min<=a/\a<=IntKind.i64.max:=⟨h0,h1⟩
 simp only [if_pos hc,Sem.run_pure]
theorem B7S {a:Int} (h:a.natAbs<2 ^ 53) (w:World):(Go.convert 2 121 (.int .i64 a)).run Tryz.prog w=.ok (.float .f64 (dbl a)) w:=by
 unfold Go.convert
 simp only [Sem.run_bind,run_underlying Tryz.underlying121,run_underlying Tryz.underlying2,Result.andThen_ok]
 unfold Conv.intToFloat
 rw [A18 a h]
 rfl
theorem B5E {a:Int} (h:a.natAbs<2 ^ 53) (w:World):(Go.convert 3 121 (.int .i64 a)).run Tryz.prog w=.ok (.float .f64 (dbl a)) w:=by
 unfold Go.convert
 simp only [Sem.run_bind,run_underlying Tryz.underlying121,run_underlying Tryz.underlying3,Result.andThen_ok]
 unfold Conv.intToFloat
 rw [A18 a h]
 rfl
theorem B7T {a:Int} (h:a.natAbs<2 ^ 53) (w:World):(Go.convert 5 121 (.int .u8 a)).run Tryz.prog w=.ok (.float .f64 (dbl a)) w:=by
 unfold Go.convert
 simp only [Sem.run_bind,run_underlying Tryz.underlying121,run_underlying Tryz.underlying5,Result.andThen_ok]
 unfold Conv.intToFloat
 rw [A18 a h]
 rfl
theorem A45 {x:Nat} {a:Int} (hx:Is x a) (h:a.natAbs<2 ^ 53) (w:World):(callFunc 199 #[.float .f64 x]).run Tryz.prog w=.ok (.value (.float .f64 (dbl a))) w:=by
 rw [run_callFunc_extern Tryz.func199 (by kernel_rfl) (by kernel_rfl) (by kernel_rfl) (show Extern.find _=some (Extern.MathFloor.toIntegral "math.archTrunc" .zero) by kernel_rfl)]
 obtain⟨k,e⟩:=hx
 have e':FloatKind.f64.decode x=_:=e
 show ((match FloatKind.f64.decode x with
  | .nan s t=>if FloatKind.f64.format.quiet t=t then pure (.float .f64 x) else do
   let kept <-choose (.extern "math.Floor,Ceil,Trunc,RoundToEven.signallingNaN kept" 2)
   pure (.float .f64 (if kept==1 then x else FloatKind.f64.encode (.nan s (FloatKind.f64.format.quiet t))))
  | d=>pure (.float .f64 (FloatKind.f64.encode (d.integral .zero))):Sem Value).run Tryz.prog w).andThen (fun v w1=>.ok (Next.value v) w1)=_
 rw [e']
 simp only [A3F,Sem.run_pure,Result.andThen_ok]
 rw [show FloatKind.f64.encode _=Ieee.double.write (.number (decide (a<0)) (a.natAbs*2 ^ 0) (-((0:Nat):Int))) by rw [Nat.pow_zero,Nat.mul_one];rfl,A1L a 0 h]
theorem B02 {x:Nat} {a:Int} (hx:Is x a) (h:a.natAbs<2 ^ 53) (w:World):Calls Tryz.prog 164 #[.float .f64 x] w (C7 (.float .f64 (dbl a)) w):=by
 refine vE Tryz.func164 ?_
 exact⟨_,_,A45 hx h w,rfl,Below.refl _ _⟩
theorem A1N {x y z:Nat} {a b c:Int} (hx:Is x a) (hy:Is y b) (hz:Is z c) (h:a.natAbs<2 ^ 53) (w:World):Calls Tryz.prog 126 #[.float .f64 x,.float .f64 y,.float .f64 z] w (C7 (.bool (decide (b<=a)&&decide (a<=c))) w):=by
 refine vE Tryz.func126 ?_
 refine B7N hx hy ?_
 by_cases h1:b<=a
 ·refine dt h1 ?_
  refine B7O hx hz ?_
  by_cases h2:a<=c
  ·refine dt h2 ?_
   refine C2 (B02 hx h _) ?_
   intro w' hb
   refine B7P hx (I5 a h) ?_
   refine⟨B7 ?_,hb⟩
   simp [h1,h2]
  ·refine df h2 ?_
   refine⟨B7 ?_,Below.refl _ _⟩
   simp [h2]
 ·refine df h1 ?_
  refine⟨B7 ?_,Below.refl _ _⟩
  simp [h1]
theorem A3H (n:Int) (b:Nat) (h:n.natAbs<2 ^ 53) (e:dbl n=b):Is b n:=e▸I5 n h
theorem is0:Is 0 0:=A3H 0 0 (by decide) (by kernel_rfl)
theorem is1:Is 4607182418800017408 1:=A3H 1 _ (by decide) (by kernel_rfl)
theorem is3:Is 4613937818241073152 3:=A3H 3 _ (by decide) (by kernel_rfl)
theorem is5:Is 4617315517961601024 5:=A3H 5 _ (by decide) (by kernel_rfl)
theorem isP:Is 4679237813814689792 65520:=A3H 65520 _ (by decide) (by kernel_rfl)
theorem isM:Is 4832362400168542208 1125899906842624:=A3H 1125899906842624 _ (by decide) (by kernel_rfl)
theorem isN:Is 14055734437023318016 (-1125899906842624):=A3H (-1125899906842624) _ (by decide) (by kernel_rfl)
def inP (a:Int):Bool:=decide (0<=a)&&decide (a<=65520)
theorem X7 {x y:Nat} {a b:Int} (hx:Is x a) (hy:Is y b) (ha:a.natAbs<2 ^ 53) (hb:b.natAbs<2 ^ 53) (w:World):Calls Tryz.prog 83 #[.complex .f64 x y] w (C7 (.bool (inP a&&inP b)) w):=by
 refine vE Tryz.func83 ?_
 refine C2 (A1N hx is0 isP ha _) ?_
 intro w1 h1
 cases e:inP a
 ·refine B4 e ?_
  exact⟨B7 rfl,h1⟩
 ·refine B6 e ?_
  refine C2 (A1N hy is0 isP hb _) ?_
  intro w2 h2
  exact⟨B7 rfl,h1.trans (h2.mono h1.size)⟩
theorem B8n (a:Int):(if a.tmod 65521<0 then a.tmod 65521+65521 else a.tmod 65521)=a % 65521:=by
 by_cases h:0<=a
 ·rw [Int.tmod_eq_emod_of_nonneg h,if_neg (by omega)]
 ·have e:a.tmod 65521 = -((-a) % 65521):=by
   have h2:(-a).tmod 65521=(-a) % 65521:=Int.tmod_eq_emod_of_nonneg (by omega)
   rw [Int.neg_tmod] at h2
   omega
  rw [e]
  by_cases h3 : -((-a) % 65521)<0
  ·rw [if_pos h3];omega
  ·rw [if_neg h3];omega
theorem A6F {x:Nat} {a:Int} (hx:Is x a) (ha:a.natAbs<2 ^ 53) (w:World):Calls Tryz.prog 201 #[.float .f64 x] w (C7 (.float .f64 (dbl (a % 65521))) w):=by
 refine vE Tryz.func201 ?_
 refine⟨_,_,B7R hx (by omega) (by omega) _,?_⟩
 refine J7 (by decide) ?_
 have hm:=B8n a
 by_cases h:a.tmod 65521<0
 ·refine dt h ?_
  have e3:IntKind.i64.wrap (a.tmod 65521+65521)=a.tmod 65521+65521:=F1 _ _ (by omega) (by omega)
  rw [if_pos h] at hm
  refine⟨_,_,B7S (a:=IntKind.i64.wrap (a.tmod 65521+65521)) (by rw [e3];omega) _,?_⟩
  exact⟨by rw [e3,hm];rfl,Below.refl _ _⟩
 ·refine df h ?_
  rw [if_neg h] at hm
  refine⟨_,_,B7S (a:=a.tmod 65521) (by omega) _,?_⟩
  exact⟨by rw [hm];rfl,Below.refl _ _⟩
theorem A8R {x y:Nat} {a b:Int} (hx:Is x a) (hy:Is y b) (ha:a.natAbs<=1125899906842624) (hb:b.natAbs<=1125899906842624) (w:World):
  Calls Tryz.prog 165 #[.complex .f64 x y] w (C7 (.complex .f64 (dbl (a % 65521)) (dbl (b % 65521))) w):=by
 refine vE Tryz.func165 ?_
 have in_:∀ c:Int,c.natAbs<=1125899906842624->(decide (-1125899906842624<=c)&&decide (c<=1125899906842624))=true:=by
  intro c hc
  simp
  omega
 refine C2 (A1N hx isN isM (by omega) _) ?_
 intro w1 h1
 refine B4 (by rw [in_ a ha];rfl) ?_
 refine C2 (A1N hy isN isM (by omega) _) ?_
 intro w2 h2
 refine B4 (by rw [in_ b hb];rfl) ?_
 refine C2 (A6F hx (by omega) _) ?_
 intro w3 h3
 refine C2 (A6F hy (by omega) _) ?_
 intro w4 h4
 have h12:=h1.trans (h2.mono h1.size)
 have h13:=h12.trans (h3.mono h12.size)
 exact⟨rfl,h13.trans (h4.mono h13.size)⟩
theorem A1O {a:Int} (h:0<=a/\a<65521):inP a=true:=by
 unfold inP
 simp
 omega
theorem B3e {x y x' y':Nat} {a b c d:Int} (hx:Is x a) (hy:Is y b) (hx':Is x' c) (hy':Is y' d) (ha:0<=a/\a<65521) (hb:0<=b/\b<65521) (hc:0<=c/\c<65521) (hd:0<=d/\d<65521) (w:World):
  Calls Tryz.prog 127 #[.complex .f64 x y,.complex .f64 x' y'] w (C7 (.complex .f64 (dbl ((a+c) % 65521)) (dbl ((b+d) % 65521))) w):=by
 refine vE Tryz.func127 ?_
 refine C2 (X7 hx hy (by omega) (by omega) _) ?_
 intro w1 h1
 refine B4 (by rw [A1O ha,A1O hb];rfl) ?_
 refine C2 (X7 hx' hy' (by omega) (by omega) _) ?_
 intro w2 h2
 refine B4 (by rw [A1O hc,A1O hd];rfl) ?_
 refine B5m hx hy hx' hy' (by omega) (by omega) ?_
 refine C2 (A8R (I5 _ (by omega)) (I5 _ (by omega)) (by omega) (by omega) _) ?_
 intro w3 h3
 have h12:=h1.trans (h2.mono h1.size)
 exact⟨rfl,h12.trans (h3.mono h12.size)⟩
theorem A46 {u v:Int} (hu:0<=u/\u<65521) (hv:0<=v/\v<65521):0<=u*v/\u*v<4294967296:=by
 refine⟨Int.mul_nonneg hu.1 hv.1,?_⟩
 have h1:u*v<=u*65521:=Int.mul_le_mul_of_nonneg_left (by omega) hu.1
 omega
theorem A8S {x y x' y':Nat} {a b c d:Int} (hx:Is x a) (hy:Is y b) (hx':Is x' c) (hy':Is y' d) (ha:0<=a/\a<65521) (hb:0<=b/\b<65521) (hc:0<=c/\c<65521) (hd:0<=d/\d<65521) (w:World):
  Calls Tryz.prog 128 #[.complex .f64 x y,.complex .f64 x' y'] w (C7 (.complex .f64 (dbl ((a*c-b*d) % 65521)) (dbl ((a*d+b*c) % 65521))) w):=by
 refine vE Tryz.func128 ?_
 refine C2 (X7 hx hy (by omega) (by omega) _) ?_
 intro w1 h1
 refine B4 (by rw [A1O ha,A1O hb];rfl) ?_
 refine C2 (X7 hx' hy' (by omega) (by omega) _) ?_
 intro w2 h2
 refine B4 (by rw [A1O hc,A1O hd];rfl) ?_
 have l1:=A46 ha hc
 have l2:=A46 hb hd
 have l3:=A46 ha hd
 have l4:=A46 hb hc
 refine B5n hx hy hx' hy' (by omega) (by omega) (by omega) (by omega) ?_
 refine C2 (A8R (I5 _ (by omega)) (I5 _ (by omega)) (by omega) (by omega) _) ?_
 intro w3 h3
 have h12:=h1.trans (h2.mono h1.size)
 exact⟨rfl,h12.trans (h3.mono h12.size)⟩
def A6G (z:Int × Int) (c:UInt8):Int × Int:=
 ((((z.1*3-z.2*5) % 65521)+((c.toNat:Int)+1)) % 65521,(((z.1*5+z.2*3) % 65521)+0) % 65521)
def zOn (z:Int × Int) (l:List UInt8):Int × Int:=l.foldl A6G z
def zOk (z:Int × Int):Prop:=(0<=z.1/\z.1<65521)/\(0<=z.2/\z.2<65521)
theorem A1P (z:Int × Int) (c:UInt8):zOk (A6G z c):=by
 unfold zOk A6G
 omega
theorem A1Q (l:List UInt8):∀ z:Int × Int,zOk z->zOk (zOn z l):=by
 induction l with
 | nil=>intro z h;exact h
 | cons c r ih=>intro z h;exact ih _ (A1P z c)
theorem B3f (z:Int × Int) (l:List UInt8) (k:Nat) (h:k<l.length):zOn z (l.take (k+1))=A6G (zOn z (l.take k)) (l.getD k 0):=by
 unfold zOn
 rw [List.take_succ_eq_append_getElem h,List.foldl_append,List.getD_eq_getElem?_getD,List.getElem?_eq_getElem h]
 rfl
theorem C1 {n:Nat} (h:n<9223372036854775807):IntKind.i64.wrap ((n:Int)+1)=((n+1:Nat):Int):=by rw [F1 _ _ (by omega) (by omega)];rfl
theorem B5p {z:Int × Int} (hz:zOk z) {S:Nat->Prop} {A:Option Addr} {n cap:Nat} {l:List UInt8} (hn:n=l.length) (hM:n<=9223372036854775807) (w:World) (hR:Row S w A n cap (bv l)):
  Calls Tryz.prog 84 #[.complex .f64 (dbl z.1) (dbl z.2),.slice A n cap] w (C7 (.complex .f64 (dbl (zOn z l).1) (dbl (zOn z l).2)) w):=by
 refine vE Tryz.func84 ?_
 refine C2 (X7 (I5 z.1 (by have:=hz.1;omega)) (I5 z.2 (by have:=hz.2;omega)) (by have:=hz.1;omega) (by have:=hz.2;omega) _) ?_
 intro w0 h0
 refine B4 (by rw [A1O hz.1,A1O hz.2];rfl) ?_
 refine⟨Nat,fun k=>[(0,.complex .f64 (dbl (zOn z (l.take k)).1) (dbl (zOn z (l.take k)).2)),(10,.slice A n cap),(11,.int .i64 n),(12,.int .i64 k)],fun k w'=>k<=n/\Below w.heap.size w w',fun k _=>n-k,0,
  ⟨rfl,rfl,rfl,rfl,trivial⟩,⟨Nat.zero_le _,h0⟩,?_⟩
 rintro k w' u ⟨hk,hb⟩
 by_cases hlt:k<n
 ·refine dt (by omega) ?_
  have hv:=A4I l k (by omega)
  obtain⟨ad,rfl,hc⟩:=(Row.below hR hb).at hv
  refine⟨⟨by omega,by omega⟩,?_⟩
  refine⟨_,by rw [Int.toNat_natCast,Nat.mul_one];exact hc,?_⟩
  have zk:=A1Q (l.take k) z hz
  have hs:=B3f z l k (by omega)
  have hc8:(l.getD k 0).toNat<256:=(l.getD k 0).toNat_lt
  refine C2 (A8S (I5 (zOn z (l.take k)).1 (by have:=zk.1;omega)) (I5 (zOn z (l.take k)).2 (by have:=zk.2;omega)) is3 is5 zk.1 zk.2 (by decide) (by decide) _) ?_
  intro w1 h1
  refine⟨_,_,B7T (by omega) _,?_⟩
  refine B7Q (I5 _ (by omega)) is1 (by omega) ?_
  refine C2 (B3e (I5 _ (by omega)) (I5 _ (by omega)) (I5 _ (by omega)) is0 (by omega) (by omega) (by omega) (by omega) _) ?_
  intro w2 h2
  have h12:=h1.trans (h2.mono h1.size)
  refine⟨k+1,⟨?_,rfl,rfl,congrArg _ (C1 (by omega)),trivial⟩,⟨hlt,hb.trans (h12.mono hb.size)⟩,by show n-(k+1)<n-k;omega⟩
  rw [hs]
  rfl
 ·refine df (by omega) ?_
  have e:l.take k=l:=List.take_of_length_le (by omega)
  refine⟨?_,hb⟩
  show Ending.returned (.complex .f64 (dbl (zOn z (l.take k)).1) (dbl (zOn z (l.take k)).2))=_
  rw [e]
theorem A0G {S:Nat->Prop} {A:Option Addr} {n cap:Nat} {l:List UInt8} (hn:n=l.length) (hM:n<=9223372036854775807) (w:World) (hR:Row S w A n cap (bv l)):
  Calls Tryz.prog 51 #[.slice A n cap] w (C7 (.complex .f64 (dbl (zOn (0,1) l).1) (dbl (zOn (0,1) l).2)) w):=by
 refine vE Tryz.func51 ?_
 refine C2 (B5p (z:=(0,1)) ⟨by decide,by decide⟩ hn hM _ hR) ?_
 intro w1 h1
 exact⟨rfl,h1⟩
theorem B03 (n:Int):bits .and .i64 n 15=n % 16:=by
 have h15:(BitVec.ofInt 64 15).toNat=2 ^ 4-1:=by decide
 have key:(BitVec.ofInt 64 n &&& BitVec.ofInt 64 15).toNat=(n % ((2 ^ 64:Nat):Int)).toNat % 2 ^ 4:=by
  rw [BitVec.toNat_and,BitVec.toNat_ofInt,h15,Nat.and_two_pow_sub_one_eq_mod]
 show IntKind.i64.wrap ((BitVec.ofInt 64 n &&& BitVec.ofInt 64 15).toNat:Nat)=n % 16
 rw [key,IntKind.wrap_i64]
 omega
def B7U (d:Nat):UInt8:=if d<10 then UInt8.ofNat (48+d) else UInt8.ofNat (87+d)
def dig (a:Int) (q:Nat):UInt8:=B7U (a / 2 ^ (12-4*q) % 16).toNat
def A7S (a:Int):List UInt8:=[dig a 0,dig a 1,dig a 2,dig a 3]
def V8 (z:Int × Int):List UInt8:=A7S z.1++A7S z.2
theorem A19 (d:Nat) (h:d<16):(B7U d).toNat=if d<10 then 48+d else 87+d:=by
 unfold B7U
 split
 ·rw [UInt8.toNat_ofNat'];omega
 ·rw [UInt8.toNat_ofNat'];omega
theorem B04 (a:Int) (q:Nat) (h:q<4):(A7S a).take (q+1)=(A7S a).take q++[dig a q]:=by
 match q,h with
 | 0,_=>rfl
 | 1,_=>rfl
 | 2,_=>rfl
 | 3,_=>rfl
theorem A6H (a:Int) (q:Nat):0<=a / 2 ^ (12-4*q) % 16/\a / 2 ^ (12-4*q) % 16<16:=by omega
def P7 (z:Int × Int) (i:Nat):Int:=if i=0 then z.1 else z.2
theorem A7T (q:Nat) (h:q<4):IntKind.i64.wrap (4*(3-(q:Int)))=((12-4*q:Nat):Int):=by
 rw [IntKind.wrap_i64];omega
theorem A47:(Tryz.prog.info? 5).map (fun i=>(i.zero,i.size,i.bytes))=some (some (.int .u8 0),1,1):=by kernel_rfl
theorem A6I {a b:Nat} (i:Nat) (hi:i<2) (w:World):(Instr.index 122 (.agg #[.float .f64 a,.float .f64 b]) (.int .i64 i)).run Tryz.prog w=.ok (.float .f64 (if i=0 then a else b)) w:=by
 obtain⟨ti,hsz,_,hs1,_⟩:=info_parts (show (Tryz.prog.info? 121).map (fun i=>(i.zero,i.size,i.bytes))=some (some (.float .f64 0),1,8) by kernel_rfl)
 unfold Instr.index
 simp only [Sem.run_bind,asIntOf,Sem.run_pure,Result.andThen_ok,run_underlying Tryz.underlying122]
 rw [if_pos ⟨by omega,by omega⟩]
 match i,hi with
 | 0,_=>simp [part,isAgg,sizeOf,typeInfo,run_underlying Tryz.underlying121,hsz,hs1]
 | 1,_=>simp [part,isAgg,sizeOf,typeInfo,run_underlying Tryz.underlying121,hsz,hs1]
theorem A1R {z:Int × Int} (hz:zOk z) (w:World):Calls Tryz.prog 50 #[.complex .f64 (dbl z.1) (dbl z.2)] w (C7 (.string ⟨(V8 z).toArray⟩) w):=by
 refine vE Tryz.func50 ?_
 have d1:=I5 z.1 (by have:=hz.1;omega)
 have d2:=I5 z.2 (by have:=hz.2;omega)
 refine C2 (X7 d1 d2 (by have:=hz.1;omega) (by have:=hz.2;omega) _) ?_
 intro w0 h0
 refine B4 (by rw [A1O hz.1,A1O hz.2];rfl) ?_
 have c0:=(Ctx.start w (fun _=>False) (fun _ h=>h.elim))
 have c1:=(c0.quiet h0).1
 have step:∀ i:Nat,(V8 z).take (4*i)++A7S (P7 z i)=(V8 z).take (4*(i+1))\/2<=i:=by
  intro i
  match i with
  | 0=>exact .inl rfl
  | 1=>exact .inl rfl
  | n+2=>exact .inr (by omega)
 refine⟨Nat × Option Addr × Nat,fun x=>[(3,.slice x.2.1 (4*x.1) x.2.2),(16,.agg #[.float .f64 (dbl z.1),.float .f64 (dbl z.2)]),(17,.int .i64 x.1)],
  fun x w'=>x.1<=2/\Ctx (fun _=>False) w (fun _=>False) w' []/\Own (fun _=>False) w.heap.size w' [] 5 1 x.2.1 (4*x.1) x.2.2 (bv ((V8 z).take (4*x.1))),fun x _=>2-x.1,(0,none,0),
  ⟨rfl,rfl,rfl,trivial⟩,⟨Nat.zero_le _,c1,Own.nil⟩,?_⟩
 rintro⟨i,A,cap⟩ w' u ⟨hi,hc,ho⟩
 by_cases hlt:i<2
 ·refine dt (by show (i:Int)<2;omega) ?_
  have hp:0<=P7 z i/\P7 z i<65521:=by unfold P7;have:=hz.1;have:=hz.2;split<;>omega
  have e1:∀ w,(Instr.index 122 (.agg #[.float .f64 (dbl z.1),.float .f64 (dbl z.2)]) (.int .i64 i)).run Tryz.prog w=.ok (.float .f64 (dbl (P7 z i))) w:=by
   intro w
   match i,hlt with
   | 0,_=>exact A6I 0 (by decide) w
   | 1,_=>exact A6I 1 (by decide) w
  refine⟨_,e1,?_⟩
  refine⟨_,_,B5o (I5 (P7 z i) (by omega)) (by omega) (by omega) _,?_⟩
  refine⟨Nat × Option Addr × Nat,fun x=>[(3,.slice x.2.1 (4*i+x.1) x.2.2),(6,.int .i64 (P7 z i)),(7,.int .i64 (3-(x.1:Int))),(16,.agg #[.float .f64 (dbl z.1),.float .f64 (dbl z.2)]),(17,.int .i64 i)],
   fun x w'=>x.1<=4/\Ctx (fun _=>False) w (fun _=>False) w' []/\Own (fun _=>False) w.heap.size w' [] 5 1 x.2.1 (4*i+x.1) x.2.2 (bv ((V8 z).take (4*i)++(A7S (P7 z i)).take x.1)),fun x _=>4-x.1,(0,A,cap),
   ⟨rfl,rfl,rfl,rfl,rfl,trivial⟩,⟨Nat.zero_le _,hc,?_⟩,?_⟩
  ·simpa using ho
  rintro⟨q,A,cap⟩ w' u ⟨hq,hc,ho⟩
  by_cases hq4:q<4
  ·refine dt (by show (0:Int)<=3-q;omega) ?_
   have es:=A7T q hq4
   refine⟨?_,?_⟩
   ·show 0<=IntKind.i64.wrap (4*(3-(q:Int)))/\IntKind.i64.wrap (4*(3-(q:Int)))<=64
    rw [es];omega
   have hD:IntKind.u8.wrap (bits .and .i64 (P7 z i / 2 ^ (IntKind.i64.wrap (4*(3-(q:Int)))).toNat) 15)=P7 z i / 2 ^ (12-4*q) % 16:=by
    rw [es,Int.toNat_natCast,B03]
    have:=A6H (P7 z i) q
    exact IntWalk.u8_in _ ⟨by omega,by omega⟩
   have hr:=A6H (P7 z i) q
   have hdv:((dig (P7 z i) q).toNat:Int)=if P7 z i / 2 ^ (12-4*q) % 16<10 then 48+P7 z i / 2 ^ (12-4*q) % 16 else 87+P7 z i / 2 ^ (12-4*q) % 16:=by
    unfold dig
    rw [A19 _ (by omega)]
    split<;>split<;>omega
   have hn3:IntKind.i64.wrap (3-(q:Int)-1)=3-((q+1:Nat):Int):=by rw [IntWalk.i64_in _ ⟨by omega,by omega⟩];omega
   have fin:∀ (v:Value) (g:Nat) (w1:World),v=.int .u8 ((dig (P7 z i) q).toNat:Int)->New w' [v] 5 g w1->
     Ctx (fun _=>False) w (fun _=>False) w1 [(g,5,[v])]/\Own (fun _=>False) w.heap.size w1 [(g,5,[v])] 5 1 A (4*i+q) cap (bv ((V8 z).take (4*i)++(A7S (P7 z i)).take q))/\G9 [v]=true:=
    fun v g w1 hv hN=>⟨(hc.loc hN).1,ho.loc hN,by rw [hv];rfl⟩
   have next:∀ (v:Value),v=.int .u8 ((dig (P7 z i) q).toNat:Int)->bv ((V8 z).take (4*i)++(A7S (P7 z i)).take q)++[v]=bv ((V8 z).take (4*i)++(A7S (P7 z i)).take (q+1)):=by
    intro v hv
    rw [B04 _ _ hq4,hv,<-List.append_assoc,A6C _ [_]]
    rfl
   by_cases h10:P7 z i / 2 ^ (12-4*q) % 16<10
   ·refine dt (by rw [hD];exact h10) ?_
    intro g w1 hN
    have hv:Value.int .u8 (IntKind.u8.wrap (48+IntKind.u8.wrap (bits .and .i64 (P7 z i / 2 ^ (IntKind.i64.wrap (4*(3-(q:Int)))).toNat) 15)))=.int .u8 ((dig (P7 z i) q).toNat:Int):=by
     rw [hD,IntWalk.u8_in _ ⟨by omega,by omega⟩,hdv,if_pos h10]
    obtain⟨k1,k2,k3⟩:=fin _ g w1 hv hN
    refine X6 Tryz.underlying45 A47 rfl (by decide) k1 k2 rfl (k1.cells 0 rfl) k3 (by omega) (by decide) ?_
    intro A' cap' w2 k4 _ k5 _
    refine⟨(q+1,A',cap'),⟨rfl,rfl,congrArg _ hn3,rfl,rfl,trivial⟩,⟨hq4,k4.drop,?_⟩,by show 4-(q+1)<4-q;omega⟩
    rw [next _ hv] at k5
    exact k5.drop
   ·refine df (by rw [hD];exact h10) ?_
    intro g w1 hN
    have hv:Value.int .u8 (IntKind.u8.wrap (IntKind.u8.wrap (97+IntKind.u8.wrap (bits .and .i64 (P7 z i / 2 ^ (IntKind.i64.wrap (4*(3-(q:Int)))).toNat) 15))-10))=.int .u8 ((dig (P7 z i) q).toNat:Int):=by
     rw [hD,IntWalk.u8_in (97+_) ⟨by omega,by omega⟩,IntWalk.u8_in _ ⟨by omega,by omega⟩,hdv,if_neg h10]
     congr 1
     omega
    obtain⟨k1,k2,k3⟩:=fin _ g w1 hv hN
    refine X6 Tryz.underlying45 A47 rfl (by decide) k1 k2 rfl (k1.cells 0 rfl) k3 (by omega) (by decide) ?_
    intro A' cap' w2 k4 _ k5 _
    refine⟨(q+1,A',cap'),⟨rfl,rfl,congrArg _ hn3,rfl,rfl,trivial⟩,⟨hq4,k4.drop,?_⟩,by show 4-(q+1)<4-q;omega⟩
    rw [next _ hv] at k5
    exact k5.drop
  ·refine df (by show ¬ (0:Int)<=3-q;omega) ?_
   obtain rfl:q=4:=by omega
   have hst:=(step i).resolve_right (by omega)
   refine⟨(i+1,A,cap),⟨rfl,rfl,congrArg _ (C1 (by omega)),trivial⟩,⟨hlt,hc,?_⟩,by show 2-(i+1)<2-i;omega⟩
   rw [<-hst]
   exact ho
 ·refine df (by show ¬ (i:Int)<2;omega) ?_
  obtain rfl:i=2:=by omega
  have hR:=(ho.told hc).2.2 ho.fit.1 ho.fit.2
  refine A1H Tryz.underlying45 Tryz.underlying5 Tryz.underlying9 hR rfl ?_
  exact⟨rfl,hc.below⟩
def no (_:Nat):Prop:=False
theorem V9 (a b:List UInt8):(⟨a.toArray⟩++⟨b.toArray⟩:ByteArray)=⟨(a++b).toArray⟩:=by
 apply ByteArray.ext
 rw [ByteArray.data_append]
 simp
theorem H2 (a:List UInt8):(⟨a.toArray⟩:ByteArray).size=a.length:=by
 show a.toArray.size=_
 simp
theorem B5q (t:ByteArray) (hM:t.size<=maxLen) (w:World):Calls Tryz.prog 268 #[.string t] w (C7 (.string ⟨(V8 (zOn (0,1) t.data.toList)).toArray⟩) w):=by
 refine vE Tryz.func268 ?_
 have hM':t.size<=9223372036854775807:=by simp only [maxLen] at hM;omega
 refine A1G no Tryz.underlying9 Tryz.underlying45 Tryz.underlying5 hM ?_
 intro g cap w1 h1 hR
 refine C2 (A0G (L0 t).symm hM' _ hR) ?_
 intro w2 h2
 refine C2 (A1R (A1Q _ _ ⟨by decide,by decide⟩) _) ?_
 intro w3 h3
 have h12:=h1.trans (h2.mono h1.size)
 exact⟨rfl,h12.trans (h3.mono h12.size)⟩
end Go.Proofs.YtfekddndgakneaaGreatDoor
section
namespace Go.Vc
open Go Go.RowKit
open Go.Proofs.YtfekddndgakneaaGreatDoor (no)
structure Turn (G:Nat->Prop) (w w':World):Prop where
 os:w'.os=w.os
 tape:w'.tape=w.tape
 output:w'.output=w.output
 block:∀ x,x<w.heap.size->¬ G x->w'.heap[x]?=w.heap[x]?
theorem A0H {w w':World} {x:Nat} (h:w'.heap[x]?=w.heap[x]?) (hx:x<w.heap.size):x<w'.heap.size:=by
 rw [Array.getElem?_eq_getElem hx] at h
 exact (Array.getElem?_eq_some_iff.1 h).1
theorem Turn.below {G:Nat->Prop} {w w':World} (h:Below w.heap.size w w'):Turn G w w':=⟨h.os,h.tape,h.output,fun x hx _=>h.block x hx⟩
theorem Turn.trans {G:Nat->Prop} {w w' w'':World} (h:Turn G w w') (k:Turn (fun x=>G x\/w.heap.size<=x) w' w''):Turn G w w'':=
 ⟨k.os.trans h.os,k.tape.trans h.tape,k.output.trans h.output,fun x hx hg=>by
  have h1:=h.block x hx hg
  exact (k.block x (A0H h1 hx) (fun e=>e.elim hg (fun e=>by omega))).trans h1⟩
def Sep (n0:Nat) (R O:Kn):Kn:=fun S w=>∃ S1 Sa:Nat->Prop,(∀ x,S1 x->S x/\¬ Sa x)/\(∀ x,Sa x->S x/\n0<=x)/\R S1 w/\O Sa w
theorem Sep.stab {n0:Nat} {R O:Kn} (hR:Stab R) (hO:Stab O):Stab (Sep n0 R O):=fun S w S' w' h f=>by
 obtain⟨S1,Sa,h1,h2,h3,h4⟩:=h
 exact⟨S1,Sa,fun x hx=>⟨f.1 x (h1 x hx).1,(h1 x hx).2⟩,fun x hx=>⟨f.1 x (h2 x hx).1,(h2 x hx).2⟩,hR _ _ _ _ h3 ⟨fun _ h=>h,fun x hx=>f.2 x (h1 x hx).1⟩,hO _ _ _ _ h4 ⟨fun _ h=>h,fun x hx=>f.2 x (h2 x hx).1⟩⟩
theorem Sep.left {n0:Nat} {R O:Kn} (hR:Stab R) {S:Nat->Prop} {w:World} (h:Sep n0 R O S w):R S w:=by
 obtain⟨S1,Sa,h1,h2,h3,h4⟩:=h
 exact hR _ _ _ _ h3 ⟨fun x hx=>(h1 x hx).1,fun _ _=>rfl⟩
theorem Sep.right {n0:Nat} {R O:Kn} (hO:Stab O) {S:Nat->Prop} {w:World} (h:Sep n0 R O S w):O S w:=by
 obtain⟨S1,Sa,h1,h2,h3,h4⟩:=h
 exact hO _ _ _ _ h4 ⟨fun x hx=>(h2 x hx).1,fun _ _=>rfl⟩
theorem Sep.mono {n0:Nat} {R R' O O':Kn} {S:Nat->Prop} {w:World} (h:Sep n0 R O S w) (hR:∀ S,R S w->R' S w) (hO:∀ S,O S w->O' S w):Sep n0 R' O' S w:=by
 obtain⟨S1,Sa,h1,h2,h3,h4⟩:=h
 exact⟨S1,Sa,h1,h2,hR _ h3,hO _ h4⟩
theorem Sep.assoc {n0:Nat} {R X O:Kn} (hR:Stab R) (hX:Stab X) {S:Nat->Prop} {w:World} (h:Sep n0 R (Sep 0 X O) S w):Sep n0 (fun S w=>R S w/\X S w) O S w:=by
 obtain⟨S1,Sa,h1,h2,h3,Sx,So,k1,k2,k3,k4⟩:=h
 refine⟨fun x=>S1 x\/Sx x,So,fun x hx=>?_,fun x hx=>h2 x (k2 x hx).1,⟨hR _ _ _ _ h3 ⟨fun _ h=>.inl h,fun _ _=>rfl⟩,hX _ _ _ _ k3 ⟨fun _ h=>.inr h,fun _ _=>rfl⟩⟩,k4⟩
 rcases hx with hx | hx
 ·exact⟨(h1 x hx).1,fun ho=>(h1 x hx).2 (k2 x ho).1⟩
 ·exact⟨(h2 x (k1 x hx).1).1,(k1 x hx).2⟩
theorem Sep.swap {n0:Nat} {R O P:Kn} {S:Nat->Prop} {w:World} (h:Sep n0 (Sep n0 R O) P S w):Sep n0 (Sep n0 R P) O S w:=by
 obtain⟨S1,Sp,h1,h2,⟨S2,So,k1,k2,k3,k4⟩,h4⟩:=h
 refine⟨fun x=>S2 x\/Sp x,So,fun x hx=>?_,fun x hx=>⟨(h1 x (k2 x hx).1).1,(k2 x hx).2⟩,⟨S2,Sp,fun x hx=>⟨.inl hx,(h1 x (k1 x hx).1).2⟩,fun x hx=>⟨.inr hx,(h2 x hx).2⟩,k3,h4⟩,k4⟩
 rcases hx with hx | hx
 ·exact⟨(h1 x (k1 x hx).1).1,(k1 x hx).2⟩
 ·exact⟨(h2 x hx).1,fun ho=>(h1 x (k2 x ho).1).2 hx⟩
section
variable {w0 w w':World} {S:Nat->Prop} {l:List LB} {os:List OR} {R O O' X:Kn}
theorem CtxF.turn (hc:CtxF no w0 S w l os R) {Sa Sn:Nat->Prop} (hSa:∀ x,Sa x->S x/\w0.heap.size<=x) (hT:Turn Sa w w') (hSn:∀ x,Sn x->(Sa x\/w.heap.size<=x)/\x<w'.heap.size) {Y:Kn} (hY:Y (fun x=>(S x/\¬ Sa x)\/Sn x) w') (hs:Stab Y):
  CtxF no w0 (fun x=>(S x/\¬ Sa x)\/Sn x) w' l os Y:=by
 obtain⟨⟨k1,k2,k3,k4,k5⟩,k6,k7,k8⟩:=hc
 have hblk:∀ x,x<w.heap.size->¬ S x->w'.heap[x]?=w.heap[x]?:=fun x hx hn=>hT.block x hx (fun h=>hn (hSa x h).1)
 have hout:∀ x,x<w.heap.size->¬ S x->¬ ((S x/\¬ Sa x)\/Sn x):=fun x hx hn h=>by
  rcases h with h | h
  ·exact hn h.1
  ·rcases (hSn x h).1 with h | h
   ·exact hn (hSa x h).1
   ·omega
 have hlow:∀ x,x<w0.heap.size->w'.heap[x]?=w0.heap[x]?:=fun x hx=>by
  have h1:=k1.block x hx
  exact (hT.block x (A0H h1 hx) (fun h=>by have:=(hSa x h).2;omega)).trans h1
 have hsz:w0.heap.size<=w'.heap.size:=by
  rcases Nat.eq_zero_or_pos w0.heap.size with h0 | h0
  ·omega
  ·have:=A0H (hlow (w0.heap.size-1) (by omega)) (by omega)
   omega
 refine⟨⟨⟨hT.os.trans k1.os,hT.tape.trans k1.tape,hT.output.trans k1.output,hsz,hlow⟩,fun _ h=>h.elim,fun x hx=>?_,fun x hx=>?_,?_⟩,?_,hY,hs⟩
 ·rcases hx with hx | hx
  ·exact k3 x hx.1
  ·rcases (hSn x hx).1 with h | h
   ·exact k3 x (hSa x h).1
   ·exact .inr (Nat.le_trans k1.size h)
 ·rcases hx with hx | hx
  ·exact A0H (hT.block x (k4 x hx.1) hx.2) (k4 x hx.1)
  ·exact (hSn x hx).2
 ·refine k5.mono (fun x hx=>?_) (fun x hx h=>?_)
  ·obtain⟨i,hi⟩:=List.getElem?_of_mem hx
   obtain⟨g,T,cs⟩:=x
   exact hblk g (k5.lt _ hx) (k5.notS hi).1
  ·obtain⟨i,hi⟩:=List.getElem?_of_mem hx
   obtain⟨g,T,cs⟩:=x
   exact absurd h (hout g (k5.lt _ hx) (k5.notS hi).1)
 ·refine k6.step fun o ho a ha=>⟨hblk _ ((k6.mem o ho).lt ha).2 ((k6.mem o ho).out a ha).1,hout _ ((k6.mem o ho).lt ha).2 ((k6.mem o ho).out a ha).1,((k6.mem o ho).out a ha).2⟩
theorem CtxF.turnO (hc:CtxF no w0 S w l os (Sep w0.heap.size R O)) (hR:Stab R) {S1 Sa Sn:Nat->Prop} (h1:∀ x,S1 x->S x/\¬ Sa x) (h2:∀ x,Sa x->S x/\w0.heap.size<=x) (h3:R S1 w) (hT:Turn Sa w w')
  (hSn:∀ x,Sn x->(Sa x\/w.heap.size<=x)/\x<w'.heap.size) (hO:O' Sn w') (hs:Stab O'):CtxF no w0 (fun x=>(S x/\¬ Sa x)\/Sn x) w' l os (Sep w0.heap.size R O'):=by
 refine hc.turn h2 hT hSn ⟨S1,Sn,fun x hx=>⟨.inl (h1 x hx),fun hn=>?_⟩,fun x hx=>⟨.inr hx,?_⟩,hR _ _ _ _ h3 ⟨fun _ h=>h,fun x hx=>?_⟩,hO⟩ (Sep.stab hR hs)
 ·rcases (hSn x hn).1 with h | h
  ·exact (h1 x hx).2 h
  ·have:=hc.ctx.lt x (h1 x hx).1
   omega
 ·rcases (hSn x hx).1 with h | h
  ·exact (h2 x h).2
  ·have:=hc.ctx.below.size
   omega
 ·exact hT.block x (hc.ctx.lt x (h1 x hx).1) (h1 x hx).2
theorem CtxF.sepKnow (hc:CtxF no w0 S w l os (Sep w0.heap.size R O)) (hR:Stab R) (hO:Stab O) (hb:Below w.heap.size w w') (hX:X (ext no w w') w') (hs:Stab X):CtxF no w0 (ext S w w') w' l os (Sep w0.heap.size (fun S w=>R S w/\X S w) O):=by
 obtain⟨S1,Sa,h1,h2,h3,h4⟩:=hc.row
 refine (hc.call hb).1.now (fun _=>⟨ext S1 w w',Sa,fun x hx=>?_,fun x hx=>⟨.inl (h2 x hx).1,(h2 x hx).2⟩,⟨?_,?_⟩,?_⟩) (Sep.stab (hR.and hs) hO)
 ·rcases hx with hx | hx
  ·exact⟨.inl (h1 x hx).1,(h1 x hx).2⟩
  ·exact⟨.inr hx,fun h=>by have:=hc.ctx.lt x (h2 x h).1;omega⟩
 ·exact hR _ _ _ _ h3 ⟨fun _ h=>.inl h,fun x hx=>hb.block x (hc.ctx.lt x (h1 x hx).1)⟩
 ·exact hs _ _ _ _ hX ⟨fun x h=>h.elim (fun h=>h.elim) .inr,fun _ _=>rfl⟩
 ·exact hO _ _ _ _ h4 ⟨fun _ h=>h,fun x hx=>hb.block x (hc.ctx.lt x (h2 x hx).1)⟩
theorem CtxF.sepNew (hc:CtxF no w0 S w l os R) (hb:Below w.heap.size w w') (hO':O' (ext no w w') w') (hs:Stab O'):CtxF no w0 (ext S w w') w' l os (Sep w0.heap.size R O'):=by
 refine (hc.call hb).1.now (fun _=>⟨S,ext no w w',fun x hx=>⟨.inl hx,fun h=>?_⟩,fun x hx=>?_,?_,hO'⟩) (Sep.stab hc.stab hs)
 ·rcases h with h | h
  ·exact h
  ·have:=hc.ctx.lt x hx
   omega
 ·rcases hx with h | h
  ·exact h.elim
  ·exact⟨.inr h,Nat.le_trans hc.ctx.below.size h.1⟩
 ·exact hc.stab _ _ _ _ hc.row ⟨fun _ h=>h,fun x hx=>hb.block x (hc.ctx.lt x hx)⟩
def bare (w:World):World:={ w with heap:=#[] }
def Keep (w:World) (G:Nat->Prop):Kn:=fun S w'=>∀ x,x<w.heap.size->¬ G x->S x/\w'.heap[x]?=w.heap[x]?
theorem Keep.stab (w:World) (G:Nat->Prop):Stab (Keep w G):=fun S w1 S' w2 h f x hx hg=>⟨f.1 x (h x hx hg).1,(f.2 x (h x hx hg).1).trans (h x hx hg).2⟩
theorem CtxF.enter {S:Nat->Prop} (hlt:∀ x,S x->x<w.heap.size) (hl:Locs S 0 w l) (ho:Owns S 0 w l os) (hr:R S w) (hs:Stab R):CtxF no (bare w) S w l os R:=
 ⟨⟨⟨rfl,rfl,rfl,Nat.zero_le _,fun k hk=>absurd hk (Nat.not_lt_zero _)⟩,fun _ h=>h.elim,fun b _=>.inr (Nat.zero_le _),hlt,hl⟩,ho,hr,hs⟩
theorem CtxF.leave {G S1:Nat->Prop} (hc:CtxF no (bare w) S w' l os R) (hk:Keep w G S1 w'):Turn G w w':=
 ⟨hc.ctx.below.os,hc.ctx.below.tape,hc.ctx.below.output,fun x hx hg=>(hk x hx hg).2⟩
theorem Keep.of {G S0 S1:Nat->Prop} {w w':World} (hk:Keep w G S1 w') {X:Kn} (hs:Stab X) (h:X S0 w) (hlt:∀ x,S0 x->x<w.heap.size/\¬ G x):X S1 w':=
 hs _ _ _ _ h ⟨fun x hx=>(hk x (hlt x hx).1 (hlt x hx).2).1,fun x hx=>(hk x (hlt x hx).1 (hlt x hx).2).2⟩
end
end Go.Vc
end
namespace Go.Proofs.YtfekddndgakneaaGreatDoor
open Go.Vc Go.RowKit Go.Fl
def N3 (c:UInt8):Bool:=(decide (48<=c.toNat)&&decide (c.toNat<=57))||(decide (97<=c.toNat)&&decide (c.toNat<=102))
def hv (c:UInt8):Int:=if c.toNat<=57 then (c.toNat:Int)-48 else (c.toNat:Int)-87
def J0 (l:List UInt8):Int:=l.foldl (fun a c=>a*16+hv c) 0
def pp (l:List UInt8) (k:Nat):Int × Int:=(J0 ((l.take k).take 4),J0 ((l.take k).drop 4))
def R6 (l:List UInt8):(Int × Int) × Bool:=
 if l.length=8/\l.all N3=true/\(pp l 8).1<65521/\(pp l 8).2<65521 then (pp l 8,true) else ((0,0),false)
theorem A6J (l:List UInt8) (c:UInt8):J0 (l++[c])=J0 l*16+hv c:=by
 unfold J0
 rw [List.foldl_append]
 rfl
theorem J8 {α:Type} (l:List α) (k:Nat) (d:α) (h:k<l.length):l.take (k+1)=l.take k++[l.getD k d]:=by
 rw [List.take_succ_eq_append_getElem h,List.getD_eq_getElem?_getD,List.getElem?_eq_getElem h]
 rfl
theorem B05 (l:List UInt8) (k:Nat) (h:k<l.length) (h4:k<4):pp l (k+1)=((pp l k).1*16+hv (l.getD k 0),(pp l k).2):=by
 unfold pp
 rw [J8 l k 0 h]
 have e1:(l.take k).length=k:=by rw [List.length_take];omega
 rw [List.take_of_length_le (by rw [List.length_append,e1];exact h4),A6J,List.take_of_length_le (i:=4) (by omega),List.drop_of_length_le (by rw [List.length_append,e1];exact h4),List.drop_of_length_le (by omega)]
theorem B06 (l:List UInt8) (k:Nat) (h:k<l.length) (h4:4<=k):pp l (k+1)=((pp l k).1,(pp l k).2*16+hv (l.getD k 0)):=by
 unfold pp
 rw [J8 l k 0 h]
 have e1:(l.take k).length=k:=by rw [List.length_take];omega
 rw [List.take_append_of_le_length (by omega),List.drop_append_of_le_length (by omega),A6J]
theorem A1S (c:UInt8) (h:N3 c=true):0<=hv c/\hv c<16:=by
 unfold N3 at h
 unfold hv
 simp only [Bool.or_eq_true,Bool.and_eq_true,decide_eq_true_eq] at h
 split<;>omega
theorem A8T (l:List UInt8):∀ k:Nat,k<=8->k<=l.length->(l.take k).all N3=true->(0<=(pp l k).1/\(pp l k).1<16 ^ (min k 4))/\(0<=(pp l k).2/\(pp l k).2<16 ^ (k-4))
 | 0,_,_,_=>⟨by simp [pp,J0],by simp [pp,J0]⟩
 | k+1,h8,hl,ha=>by
  rw [J8 l k 0 (by omega),List.all_append,Bool.and_eq_true] at ha
  obtain⟨i1,i2⟩:=A8T l k (by omega) (by omega) ha.1
  have hr:=A1S (l.getD k 0) (by simpa using ha.2)
  by_cases h4:k<4
  ·rw [B05 l k (by omega) h4]
   have e0:k-4=k+1-4:=by omega
   have e1:min k 4=k:=by omega
   have e2:min (k+1) 4=k+1:=by omega
   rw [e1] at i1
   rw [e2,<-e0,Int.pow_succ]
   refine⟨?_,i2⟩
   generalize (16:Int) ^ k=p at*
   show 0<=(pp l k).1*16+hv (l.getD k 0)/\(pp l k).1*16+hv (l.getD k 0)<p*16
   omega
  ·rw [B06 l k (by omega) (by omega)]
   have e1:min k 4=4:=by omega
   have e2:min (k+1) 4=4:=by omega
   have e3:k+1-4=(k-4)+1:=by omega
   rw [e1] at i1
   rw [e2,e3,show (16:Int) ^ (k-4+1)=16 ^ (k-4)*16 from Int.pow_succ _ _]
   refine⟨i1,?_⟩
   generalize (16:Int) ^ (k-4)=p at*
   show 0<=(pp l k).2*16+hv (l.getD k 0)/\(pp l k).2*16+hv (l.getD k 0)<p*16
   omega
theorem A8U (l:List UInt8) (k:Nat) (h8:k<=8) (hl:k<=l.length) (ha:(l.take k).all N3=true):(0<=(pp l k).1/\(pp l k).1<65536)/\(0<=(pp l k).2/\(pp l k).2<65536):=by
 obtain⟨i1,i2⟩:=A8T l k h8 hl ha
 have p1:(16:Int) ^ (min k 4)<=65536:=by
  have:(16:Nat) ^ (min k 4)<=16 ^ 4:=Nat.pow_le_pow_right (by decide) (Nat.min_le_right _ _)
  have h2:((16 ^ (min k 4):Nat):Int)<=((16 ^ 4:Nat):Int):=Int.ofNat_le.2 this
  rw [Int.natCast_pow] at h2
  exact h2
 have p2:(16:Int) ^ (k-4)<=65536:=by
  have:(16:Nat) ^ (k-4)<=16 ^ 4:=Nat.pow_le_pow_right (by decide) (by omega)
  have h2:((16 ^ (k-4):Nat):Int)<=((16 ^ 4:Nat):Int):=Int.ofNat_le.2 this
  rw [Int.natCast_pow] at h2
  exact h2
 omega
theorem A0I (l:List UInt8) (h:l.length≠8\/l.all N3=false):R6 l=((0,0),false):=by
 unfold R6
 rw [if_neg]
 rintro⟨h1,h2,_⟩
 rcases h with h | h
 ·exact h h1
 ·rw [h] at h2;cases h2
theorem B8o:dbl 0=0:=by kernel_rfl
theorem A3I (t:ByteArray) (w:World):Calls Tryz.prog 64 #[.string t] w
  (C7 (.tuple #[.complex .f64 (dbl (R6 t.data.toList).1.1) (dbl (R6 t.data.toList).1.2),.bool (R6 t.data.toList).2]) w):=by
 refine vE Tryz.func64 ?_
 obtain⟨l,ht⟩:∃ l,t.data.toList=l:=⟨_,rfl⟩
 have hln:=L0 t
 rw [ht] at hln ⊢
 by_cases h8:l.length=8
 ·refine B4 (by simp;omega) ?_
  intro g w1 h1
  have c1:=((Ctx.start w no (fun _ h=>h.elim)).loc h1).1
  refine⟨Nat,fun k=>[(0,.string t),(4,.pointer (some ⟨g,0,none⟩)),(12,.int .i64 t.size),(13,.int .i64 k)],
   fun k w'=>k<=8/\(l.take k).all N3=true/\Ctx no w no w' [(g,147,[.int .i64 (pp l k).1,.int .i64 (pp l k).2])],fun k _=>8-k,0,
   ⟨rfl,rfl,rfl,rfl,trivial⟩,⟨Nat.zero_le _,rfl,c1⟩,?_⟩
  rintro k w' u ⟨hk,ha,hc⟩
  by_cases hlt:k<8
  ·refine dt (by omega) ?_
   have hc8:(l.getD k 0).toNat<256:=(l.getD k 0).toNat_lt
   have lim:=A8U l k (by omega) (by omega) ha
   have bad:=A1K N3 l k 0 (by omega)
   refine⟨⟨by omega,by omega⟩,?_⟩
   have hn':((t.data.toList.getD (k:Int).toNat 0).toNat:Int)=((l.getD k 0).toNat:Int):=by rw [ht];rfl
   generalize ((t.data.toList.getD (k:Int).toNat 0).toNat:Int)=n at*
   have hw:IntKind.i64.wrap n=n:=IntWalk.i64_in _ ⟨by omega,by omega⟩
   by_cases hd:48<=n/\n<=57
   ·refine dt (by omega) ?_
    refine dt (by omega) ?_
    have hx:N3 (l.getD k 0)=true:=by unfold N3;simp only [Bool.or_eq_true,Bool.and_eq_true,decide_eq_true_eq];omega
    have hr:=A1S _ hx
    have h6:IntKind.i64.wrap (IntKind.i64.wrap n-48)=hv (l.getD k 0):=by rw [hw];unfold hv;rw [if_pos (by omega),IntWalk.i64_in _ ⟨by omega,by omega⟩];omega
    by_cases h4:k<4
    ·have hq:IntKind.i64.wrap ((k:Int).tdiv 4)=0:=by rw [Int.tdiv_eq_ediv_of_nonneg (by omega),IntWalk.i64_in _ ⟨by omega,by omega⟩];omega
     have ad:(⟨g,0,Option.none⟩:Addr).add ((IntKind.i64.wrap ((k:Int).tdiv 4)).toNat*1)=⟨g,0,Option.none⟩:=by rw [hq];rfl
     have e7:IntKind.i64.wrap (IntKind.i64.wrap ((pp l k).1*16)+IntKind.i64.wrap (IntKind.i64.wrap n-48))=(pp l k).1*16+hv (l.getD k 0):=by
      rw [h6,IntWalk.i64_in ((pp l k).1*16) ⟨by omega,by omega⟩]
      exact IntWalk.i64_in _ ⟨by omega,by omega⟩
     refine J7 (by decide) ?_
     refine J7 (by decide) ?_
     refine⟨by rw [hq];decide,?_⟩
     refine⟨.int .i64 (pp l k).1,by rw [ad];exact hc.cell 0 rfl 0 rfl,?_⟩
     refine⟨by rw [hq];decide,?_⟩
     refine⟨by rw [ad];exact hc.may 0 rfl 0 _ (by show 0+1<=2;decide) rfl,?_⟩
     intro w7 h7
     rw [ad] at h7
     have c7:=(hc.set 0 rfl h7).1
     rw [e7] at c7
     refine⟨k+1,⟨rfl,rfl,rfl,congrArg _ (C1 (by omega)),trivial⟩,⟨by omega,by rw [J8 l k 0 (by omega),List.all_append,ha];simp only [List.all_cons,List.all_nil,hx];rfl,?_⟩,by show 8-(k+1)<8-k;omega⟩
     rw [B05 l k (by omega) h4]
     exact c7
    ·have hq:IntKind.i64.wrap ((k:Int).tdiv 4)=1:=by rw [Int.tdiv_eq_ediv_of_nonneg (by omega),IntWalk.i64_in _ ⟨by omega,by omega⟩];omega
     have ad:(⟨g,0,Option.none⟩:Addr).add ((IntKind.i64.wrap ((k:Int).tdiv 4)).toNat*1)=⟨g,1,Option.none⟩:=by rw [hq];rfl
     have e7:IntKind.i64.wrap (IntKind.i64.wrap ((pp l k).2*16)+IntKind.i64.wrap (IntKind.i64.wrap n-48))=(pp l k).2*16+hv (l.getD k 0):=by
      rw [h6,IntWalk.i64_in ((pp l k).2*16) ⟨by omega,by omega⟩]
      exact IntWalk.i64_in _ ⟨by omega,by omega⟩
     refine J7 (by decide) ?_
     refine J7 (by decide) ?_
     refine⟨by rw [hq];decide,?_⟩
     refine⟨.int .i64 (pp l k).2,by rw [ad];exact hc.cell 0 rfl 1 rfl,?_⟩
     refine⟨by rw [hq];decide,?_⟩
     refine⟨by rw [ad];exact hc.may 0 rfl 1 _ (by show 1+1<=2;decide) rfl,?_⟩
     intro w7 h7
     rw [ad] at h7
     have c7:=(hc.set 0 rfl h7).1
     rw [e7] at c7
     refine⟨k+1,⟨rfl,rfl,rfl,congrArg _ (C1 (by omega)),trivial⟩,⟨by omega,by rw [J8 l k 0 (by omega),List.all_append,ha];simp only [List.all_cons,List.all_nil,hx];rfl,?_⟩,by show 8-(k+1)<8-k;omega⟩
     rw [B06 l k (by omega) (by omega)]
     exact c7
   ·by_cases hd2:97<=n/\n<=102
    ·have hx:N3 (l.getD k 0)=true:=by unfold N3;simp only [Bool.or_eq_true,Bool.and_eq_true,decide_eq_true_eq];omega
     have hr:=A1S _ hx
     have h6:IntKind.i64.wrap (IntKind.i64.wrap n-87)=hv (l.getD k 0):=by rw [hw];unfold hv;rw [if_neg (by omega),IntWalk.i64_in _ ⟨by omega,by omega⟩];omega
     refine dt (by omega) ?_
     refine df (by omega) ?_
     refine dt (by omega) ?_
     refine dt (by omega) ?_
     by_cases h4:k<4
     ·have hq:IntKind.i64.wrap ((k:Int).tdiv 4)=0:=by rw [Int.tdiv_eq_ediv_of_nonneg (by omega),IntWalk.i64_in _ ⟨by omega,by omega⟩];omega
      have ad:(⟨g,0,Option.none⟩:Addr).add ((IntKind.i64.wrap ((k:Int).tdiv 4)).toNat*1)=⟨g,0,Option.none⟩:=by rw [hq];rfl
      have e7:IntKind.i64.wrap (IntKind.i64.wrap ((pp l k).1*16)+IntKind.i64.wrap (IntKind.i64.wrap n-87))=(pp l k).1*16+hv (l.getD k 0):=by
       rw [h6,IntWalk.i64_in ((pp l k).1*16) ⟨by omega,by omega⟩]
       exact IntWalk.i64_in _ ⟨by omega,by omega⟩
      refine J7 (by decide) ?_
      refine J7 (by decide) ?_
      refine⟨by rw [hq];decide,?_⟩
      refine⟨.int .i64 (pp l k).1,by rw [ad];exact hc.cell 0 rfl 0 rfl,?_⟩
      refine⟨by rw [hq];decide,?_⟩
      refine⟨by rw [ad];exact hc.may 0 rfl 0 _ (by show 0+1<=2;decide) rfl,?_⟩
      intro w7 h7
      rw [ad] at h7
      have c7:=(hc.set 0 rfl h7).1
      rw [e7] at c7
      refine⟨k+1,⟨rfl,rfl,rfl,congrArg _ (C1 (by omega)),trivial⟩,⟨by omega,by rw [J8 l k 0 (by omega),List.all_append,ha];simp only [List.all_cons,List.all_nil,hx];rfl,?_⟩,by show 8-(k+1)<8-k;omega⟩
      rw [B05 l k (by omega) h4]
      exact c7
     ·have hq:IntKind.i64.wrap ((k:Int).tdiv 4)=1:=by rw [Int.tdiv_eq_ediv_of_nonneg (by omega),IntWalk.i64_in _ ⟨by omega,by omega⟩];omega
      have ad:(⟨g,0,Option.none⟩:Addr).add ((IntKind.i64.wrap ((k:Int).tdiv 4)).toNat*1)=⟨g,1,Option.none⟩:=by rw [hq];rfl
      have e7:IntKind.i64.wrap (IntKind.i64.wrap ((pp l k).2*16)+IntKind.i64.wrap (IntKind.i64.wrap n-87))=(pp l k).2*16+hv (l.getD k 0):=by
       rw [h6,IntWalk.i64_in ((pp l k).2*16) ⟨by omega,by omega⟩]
       exact IntWalk.i64_in _ ⟨by omega,by omega⟩
      refine J7 (by decide) ?_
      refine J7 (by decide) ?_
      refine⟨by rw [hq];decide,?_⟩
      refine⟨.int .i64 (pp l k).2,by rw [ad];exact hc.cell 0 rfl 1 rfl,?_⟩
      refine⟨by rw [hq];decide,?_⟩
      refine⟨by rw [ad];exact hc.may 0 rfl 1 _ (by show 1+1<=2;decide) rfl,?_⟩
      intro w7 h7
      rw [ad] at h7
      have c7:=(hc.set 0 rfl h7).1
      rw [e7] at c7
      refine⟨k+1,⟨rfl,rfl,rfl,congrArg _ (C1 (by omega)),trivial⟩,⟨by omega,by rw [J8 l k 0 (by omega),List.all_append,ha];simp only [List.all_cons,List.all_nil,hx];rfl,?_⟩,by show 8-(k+1)<8-k;omega⟩
      rw [B06 l k (by omega) (by omega)]
      exact c7
    ·have hx:N3 (l.getD k 0)=false:=by unfold N3;simp only [Bool.or_eq_false_iff,Bool.and_eq_false_iff,decide_eq_false_iff_not];omega
     have e0:=A0I l (.inr (bad hx))
     rw [e0]
     repeat' (first | refine B6 (by assumption) ?_ | refine B4 (by assumption) ?_ | refine J7 (by decide) ?_ | refine R4 (fun _=>?_) (fun _=>?_))
     all_goals simp only [decide_eq_true_eq,decide_eq_false_iff_not] at*
     all_goals first | (exfalso;omega) | skip
     all_goals (refine⟨?_,hc.below⟩;show _=Ending.returned (.tuple #[.complex .f64 (dbl 0) (dbl 0),.bool false]);rw [B8o];rfl)
  ·refine df (by omega) ?_
   obtain rfl:k=8:=by omega
   have lim:=A8U l 8 (by omega) (by omega) ha
   refine⟨⟨by decide,by decide⟩,?_⟩
   refine⟨_,hc.cell 0 rfl 0 rfl,?_⟩
   refine⟨_,_,B5E (by omega) _,?_⟩
   refine⟨⟨by decide,by decide⟩,?_⟩
   refine⟨_,hc.cell 0 rfl 1 rfl,?_⟩
   refine⟨_,_,B5E (by omega) _,?_⟩
   refine C2 (X7 (I5 _ (by omega)) (I5 _ (by omega)) (by omega) (by omega) _) ?_
   intro w5 h5
   have c5:=(hc.quiet h5).1
   rw [List.take_of_length_le (by omega)] at ha
   by_cases hin:(pp l 8).1<65521/\(pp l 8).2<65521
   ·refine B4 (by rw [A1O ⟨lim.1.1,hin.1⟩,A1O ⟨lim.2.1,hin.2⟩];rfl) ?_
    refine⟨?_,c5.below⟩
    unfold R6
    rw [if_pos ⟨h8,ha,hin⟩]
    rfl
   ·refine B6 (by unfold inP;simp;omega) ?_
    refine⟨?_,c5.below⟩
    unfold R6
    rw [if_neg (fun h=>hin h.2.2)]
    show _=Ending.returned (.tuple #[.complex .f64 (dbl 0) (dbl 0),.bool false])
    rw [B8o];rfl
 ·refine B6 (by simp;omega) ?_
  rw [A0I l (.inl h8)]
  refine⟨?_,Below.refl _ _⟩
  show _=Ending.returned (.tuple #[.complex .f64 (dbl 0) (dbl 0),.bool false])
  rw [B8o];rfl
theorem B07 (t:ByteArray) (w:World):Calls Tryz.prog 70 #[.string t] w
  (C7 (.tuple #[.agg #[.int .i64 (R6 t.data.toList).1.1,.int .i64 (R6 t.data.toList).1.2],.bool (R6 t.data.toList).2]) w):=by
 refine vE Tryz.func70 ?_
 intro gz wz hz
 have cz:=((Ctx.start w no (fun _ h=>h.elim)).loc hz).1
 obtain⟨l,ht⟩:∃ l,t.data.toList=l:=⟨_,rfl⟩
 have hln:=L0 t
 rw [ht] at hln ⊢
 by_cases h8:l.length=8
 ·refine B4 (by simp;omega) ?_
  intro g w1 h1
  have c1:=(cz.loc h1).1
  refine⟨Nat,fun k=>[(0,.string t),(2,.pointer (some ⟨gz,0,none⟩)),(4,.pointer (some ⟨g,0,none⟩)),(5,.int .i64 k)],
   fun k w'=>k<=8/\(l.take k).all N3=true/\Ctx no w no w' [(g,149,[.int .i64 (pp l k).1,.int .i64 (pp l k).2]),(gz,106,[.int .i64 0,.int .i64 0])],fun k _=>8-k,0,
   ⟨rfl,rfl,rfl,rfl,trivial⟩,⟨Nat.zero_le _,rfl,c1⟩,?_⟩
  rintro k w' u ⟨hk,ha,hc⟩
  by_cases hlt:k<8
  ·refine dt (by omega) ?_
   have hc8:(l.getD k 0).toNat<256:=(l.getD k 0).toNat_lt
   have lim:=A8U l k (by omega) (by omega) ha
   have bad:=A1K N3 l k 0 (by omega)
   refine⟨⟨by omega,by omega⟩,?_⟩
   have hn':((t.data.toList.getD (k:Int).toNat 0).toNat:Int)=((l.getD k 0).toNat:Int):=by rw [ht];rfl
   generalize ((t.data.toList.getD (k:Int).toNat 0).toNat:Int)=n at*
   have hw:IntKind.i64.wrap n=n:=IntWalk.i64_in _ ⟨by omega,by omega⟩
   by_cases hd:48<=n/\n<=57
   ·refine dt (by omega) ?_
    refine dt (by omega) ?_
    have hx:N3 (l.getD k 0)=true:=by unfold N3;simp only [Bool.or_eq_true,Bool.and_eq_true,decide_eq_true_eq];omega
    have hr:=A1S _ hx
    have h6:IntKind.i64.wrap (IntKind.i64.wrap n-48)=hv (l.getD k 0):=by rw [hw];unfold hv;rw [if_pos (by omega),IntWalk.i64_in _ ⟨by omega,by omega⟩];omega
    by_cases h4:k<4
    ·have hq:IntKind.i64.wrap ((k:Int).tdiv 4)=0:=by rw [Int.tdiv_eq_ediv_of_nonneg (by omega),IntWalk.i64_in _ ⟨by omega,by omega⟩];omega
     have ad:(⟨g,0,Option.none⟩:Addr).add ((IntKind.i64.wrap ((k:Int).tdiv 4)).toNat*1)=⟨g,0,Option.none⟩:=by rw [hq];rfl
     have e7:IntKind.i64.wrap (IntKind.i64.wrap ((pp l k).1*16)+IntKind.i64.wrap (IntKind.i64.wrap n-48))=(pp l k).1*16+hv (l.getD k 0):=by
      rw [h6,IntWalk.i64_in ((pp l k).1*16) ⟨by omega,by omega⟩]
      exact IntWalk.i64_in _ ⟨by omega,by omega⟩
     refine J7 (by decide) ?_
     refine J7 (by decide) ?_
     refine⟨by rw [hq];decide,?_⟩
     refine⟨.int .i64 (pp l k).1,by rw [ad];exact hc.cell 0 rfl 0 rfl,?_⟩
     refine⟨by rw [hq];decide,?_⟩
     refine⟨by rw [ad];exact hc.may 0 rfl 0 _ (by show 0+1<=2;decide) rfl,?_⟩
     intro w7 h7
     rw [ad] at h7
     have c7:=(hc.set 0 rfl h7).1
     rw [e7] at c7
     refine⟨k+1,⟨rfl,rfl,rfl,congrArg _ (C1 (by omega)),trivial⟩,⟨by omega,by rw [J8 l k 0 (by omega),List.all_append,ha];simp only [List.all_cons,List.all_nil,hx];rfl,?_⟩,by show 8-(k+1)<8-k;omega⟩
     rw [B05 l k (by omega) h4]
     exact c7
    ·have hq:IntKind.i64.wrap ((k:Int).tdiv 4)=1:=by rw [Int.tdiv_eq_ediv_of_nonneg (by omega),IntWalk.i64_in _ ⟨by omega,by omega⟩];omega
     have ad:(⟨g,0,Option.none⟩:Addr).add ((IntKind.i64.wrap ((k:Int).tdiv 4)).toNat*1)=⟨g,1,Option.none⟩:=by rw [hq];rfl
     have e7:IntKind.i64.wrap (IntKind.i64.wrap ((pp l k).2*16)+IntKind.i64.wrap (IntKind.i64.wrap n-48))=(pp l k).2*16+hv (l.getD k 0):=by
      rw [h6,IntWalk.i64_in ((pp l k).2*16) ⟨by omega,by omega⟩]
      exact IntWalk.i64_in _ ⟨by omega,by omega⟩
     refine J7 (by decide) ?_
     refine J7 (by decide) ?_
     refine⟨by rw [hq];decide,?_⟩
     refine⟨.int .i64 (pp l k).2,by rw [ad];exact hc.cell 0 rfl 1 rfl,?_⟩
     refine⟨by rw [hq];decide,?_⟩
     refine⟨by rw [ad];exact hc.may 0 rfl 1 _ (by show 1+1<=2;decide) rfl,?_⟩
     intro w7 h7
     rw [ad] at h7
     have c7:=(hc.set 0 rfl h7).1
     rw [e7] at c7
     refine⟨k+1,⟨rfl,rfl,rfl,congrArg _ (C1 (by omega)),trivial⟩,⟨by omega,by rw [J8 l k 0 (by omega),List.all_append,ha];simp only [List.all_cons,List.all_nil,hx];rfl,?_⟩,by show 8-(k+1)<8-k;omega⟩
     rw [B06 l k (by omega) (by omega)]
     exact c7
   ·by_cases hd2:97<=n/\n<=102
    ·have hx:N3 (l.getD k 0)=true:=by unfold N3;simp only [Bool.or_eq_true,Bool.and_eq_true,decide_eq_true_eq];omega
     have hr:=A1S _ hx
     have h6:IntKind.i64.wrap (IntKind.i64.wrap n-87)=hv (l.getD k 0):=by rw [hw];unfold hv;rw [if_neg (by omega),IntWalk.i64_in _ ⟨by omega,by omega⟩];omega
     refine dt (by omega) ?_
     refine df (by omega) ?_
     refine dt (by omega) ?_
     refine dt (by omega) ?_
     by_cases h4:k<4
     ·have hq:IntKind.i64.wrap ((k:Int).tdiv 4)=0:=by rw [Int.tdiv_eq_ediv_of_nonneg (by omega),IntWalk.i64_in _ ⟨by omega,by omega⟩];omega
      have ad:(⟨g,0,Option.none⟩:Addr).add ((IntKind.i64.wrap ((k:Int).tdiv 4)).toNat*1)=⟨g,0,Option.none⟩:=by rw [hq];rfl
      have e7:IntKind.i64.wrap (IntKind.i64.wrap ((pp l k).1*16)+IntKind.i64.wrap (IntKind.i64.wrap n-87))=(pp l k).1*16+hv (l.getD k 0):=by
       rw [h6,IntWalk.i64_in ((pp l k).1*16) ⟨by omega,by omega⟩]
       exact IntWalk.i64_in _ ⟨by omega,by omega⟩
      refine J7 (by decide) ?_
      refine J7 (by decide) ?_
      refine⟨by rw [hq];decide,?_⟩
      refine⟨.int .i64 (pp l k).1,by rw [ad];exact hc.cell 0 rfl 0 rfl,?_⟩
      refine⟨by rw [hq];decide,?_⟩
      refine⟨by rw [ad];exact hc.may 0 rfl 0 _ (by show 0+1<=2;decide) rfl,?_⟩
      intro w7 h7
      rw [ad] at h7
      have c7:=(hc.set 0 rfl h7).1
      rw [e7] at c7
      refine⟨k+1,⟨rfl,rfl,rfl,congrArg _ (C1 (by omega)),trivial⟩,⟨by omega,by rw [J8 l k 0 (by omega),List.all_append,ha];simp only [List.all_cons,List.all_nil,hx];rfl,?_⟩,by show 8-(k+1)<8-k;omega⟩
      rw [B05 l k (by omega) h4]
      exact c7
     ·have hq:IntKind.i64.wrap ((k:Int).tdiv 4)=1:=by rw [Int.tdiv_eq_ediv_of_nonneg (by omega),IntWalk.i64_in _ ⟨by omega,by omega⟩];omega
      have ad:(⟨g,0,Option.none⟩:Addr).add ((IntKind.i64.wrap ((k:Int).tdiv 4)).toNat*1)=⟨g,1,Option.none⟩:=by rw [hq];rfl
      have e7:IntKind.i64.wrap (IntKind.i64.wrap ((pp l k).2*16)+IntKind.i64.wrap (IntKind.i64.wrap n-87))=(pp l k).2*16+hv (l.getD k 0):=by
       rw [h6,IntWalk.i64_in ((pp l k).2*16) ⟨by omega,by omega⟩]
       exact IntWalk.i64_in _ ⟨by omega,by omega⟩
      refine J7 (by decide) ?_
      refine J7 (by decide) ?_
      refine⟨by rw [hq];decide,?_⟩
      refine⟨.int .i64 (pp l k).2,by rw [ad];exact hc.cell 0 rfl 1 rfl,?_⟩
      refine⟨by rw [hq];decide,?_⟩
      refine⟨by rw [ad];exact hc.may 0 rfl 1 _ (by show 1+1<=2;decide) rfl,?_⟩
      intro w7 h7
      rw [ad] at h7
      have c7:=(hc.set 0 rfl h7).1
      rw [e7] at c7
      refine⟨k+1,⟨rfl,rfl,rfl,congrArg _ (C1 (by omega)),trivial⟩,⟨by omega,by rw [J8 l k 0 (by omega),List.all_append,ha];simp only [List.all_cons,List.all_nil,hx];rfl,?_⟩,by show 8-(k+1)<8-k;omega⟩
      rw [B06 l k (by omega) (by omega)]
      exact c7
    ·have hx:N3 (l.getD k 0)=false:=by unfold N3;simp only [Bool.or_eq_false_iff,Bool.and_eq_false_iff,decide_eq_false_iff_not];omega
     have e0:=A0I l (.inr (bad hx))
     rw [e0]
     repeat' (first | refine B6 (by assumption) ?_ | refine B4 (by assumption) ?_ | refine J7 (by decide) ?_ | refine R4 (fun _=>?_) (fun _=>?_))
     all_goals simp only [decide_eq_true_eq,decide_eq_false_iff_not] at*
     all_goals first | (exfalso;omega) | skip
     all_goals (refine⟨hc.may 1 rfl 0 _ (Nat.le_refl 2) rfl,?_⟩;intro w7 h7;have c7:=(hc.set 1 rfl h7).1;exact⟨[.int .i64 0,.int .i64 0],rfl,c7.cells 1 rfl,rfl,c7.below⟩)
  ·refine df (by omega) ?_
   obtain rfl:k=8:=by omega
   have lim:=A8U l 8 (by omega) (by omega) ha
   rw [List.take_of_length_le (by omega)] at ha
   refine⟨⟨by decide,by decide⟩,?_⟩
   refine⟨_,hc.cell 0 rfl 0 rfl,?_⟩
   have ko:¬ ((pp l 8).1<65521/\(pp l 8).2<65521)->R6 l=((0,0),false):=fun hin=>by
    unfold R6
    rw [if_neg (fun h=>hin h.2.2)]
   by_cases i1:(pp l 8).1<65521
   ·refine df (by omega) ?_
    refine⟨⟨by decide,by decide⟩,?_⟩
    refine⟨_,hc.cell 0 rfl 1 rfl,?_⟩
    by_cases i2:(pp l 8).2<65521
    ·refine df (by omega) ?_
     refine⟨⟨by decide,by decide⟩,?_⟩
     refine⟨_,hc.cell 0 rfl 0 rfl,?_⟩
     refine⟨⟨by decide,by decide⟩,?_⟩
     refine⟨_,hc.cell 0 rfl 1 rfl,?_⟩
     refine⟨hc.may 1 rfl 0 _ (Nat.le_refl 2) rfl,?_⟩
     intro w7 h7
     have c7:=(hc.set 1 rfl h7).1
     refine⟨_,?_,c7.cells 1 rfl,?_⟩
     ·rfl
     refine⟨?_,c7.below⟩
     unfold R6
     rw [if_pos ⟨h8,ha,i1,i2⟩]
     rfl
    ·refine dt (by omega) ?_
     rw [ko (fun h=>i2 h.2)]
     refine⟨hc.may 1 rfl 0 _ (Nat.le_refl 2) rfl,?_⟩
     intro w7 h7
     have c7:=(hc.set 1 rfl h7).1
     refine⟨_,?_,c7.cells 1 rfl,?_⟩
     ·rfl
     exact⟨rfl,c7.below⟩
   ·refine dt (by omega) ?_
    rw [ko (fun h=>i1 h.1)]
    refine⟨hc.may 1 rfl 0 _ (Nat.le_refl 2) rfl,?_⟩
    intro w7 h7
    have c7:=(hc.set 1 rfl h7).1
    refine⟨_,?_,c7.cells 1 rfl,?_⟩
    ·rfl
    exact⟨rfl,c7.below⟩
 ·refine B6 (by simp;omega) ?_
  rw [A0I l (.inl h8)]
  refine⟨cz.may 0 rfl 0 _ (Nat.le_refl 2) rfl,?_⟩
  intro w7 h7
  have c7:=(cz.set 0 rfl h7).1
  refine⟨_,?_,c7.cells 0 rfl,?_⟩
  ·rfl
  exact⟨rfl,c7.below⟩
structure D where
 kind:Int
 key:ByteArray
 body:ByteArray
 ver:Int
 cond:Int
 tag:ByteArray
 req:Int
 low:Int
def B9 (n:Int):Prop := -9223372036854775808<=n/\n<=9223372036854775807
def G7 (s:ByteArray):Prop:=s.size<=9223372036854775807
structure D.Ok (d:D):Prop where
 kind:B9 d.kind
 key:G7 d.key
 body:G7 d.body
 ver:B9 d.ver
 cond:B9 d.cond
 tag:G7 d.tag
 req:B9 d.req
 low:B9 d.low
def B68 (s:ByteArray):Bool:=(R6 s.data.toList).2
def mt (s:ByteArray):Bool:=C8 s ⟨#[]⟩
def J4 (d:D):Bool:=
 A54 d.key&&!(C0 d.req==0)&&!decide (d.low<0)&&!decide (d.req<d.low)&&
 (if d.kind==1 then d.ver==0&&decide ((d.body.size:Int)<=300)&&decide (0<=d.cond)&&decide (d.cond<=2)&&(B68 d.tag==(d.cond==2))&&(B68 d.tag||mt d.tag)
  else if d.kind==2 then mt d.body&&d.cond==0&&mt d.tag&&d.ver==0
  else if d.kind==3 then mt d.body&&d.cond==0&&mt d.tag&&decide (1<=d.ver)&&decide (d.ver<=1099511627776)
  else false)
theorem A0J (d:D) (h:d.Ok) (w:World):Calls Tryz.prog 37 #[.agg #[.int .i64 d.kind,.string d.key,.string d.body,.int .i64 d.ver,.int .i64 d.cond,.string d.tag,.int .i64 d.req,.int .i64 d.low]] w (C7 (.bool (J4 d)) w):=by
 refine vE Tryz.func37 ?_
 intro g w1 h1
 have hc:=((Ctx.start w no (fun _ h=>h.elim)).loc h1).1
 repeat' (first | refine B6 (by assumption) ?_ | refine B4 (by assumption) ?_ | refine J7 (by decide) ?_ | refine hc.c 0 rfl rfl ?_ | (refine C2 (A42 d.key h.key _) ?_;intro w2 h2;have hc:=(hc.quiet h2).1) | (refine C2 (U2 d.req _) ?_;intro w3 h3;have hc:=(hc.quiet h3).1) | (refine C2 (A3I d.tag _) ?_;intro w4 h4;have hc:=(hc.quiet h4).1) | refine R4 (fun _=>?_) (fun _=>?_))
 all_goals (refine⟨B7 ?_,hc.below⟩)
 all_goals clear hc h1
 all_goals simp only [Bool.not_eq_true',Bool.not_eq_false'] at*
 all_goals simp only [J4,B68,mt, *]
 all_goals first | rfl | (simp;done) | skip
 all_goals (rename_i e1 e2 e3;rw [e2] at e1;simp only [e1];simp)
theorem B7V (s:ByteArray) (h:C8 s ⟨#[]⟩=true):(R6 s.data.toList).2=false:=by
 have e:s.data.toList=[]:=by simpa [C8] using h
 rw [e]
 rfl
theorem B3g (d:D) (h:d.Ok) (w:World):Calls Tryz.prog 42 #[.agg #[.int .i64 d.kind,.string d.key,.string d.body,.int .i64 d.ver,.int .i64 d.cond,.string d.tag,.int .i64 d.req,.int .i64 d.low]] w (C7 (.bool (J4 d)) w):=by
 refine vE Tryz.func42 ?_
 intro g w1 h1
 have hc:=((Ctx.start w no (fun _ h=>h.elim)).loc h1).1
 repeat' (first | refine B6 (by assumption) ?_ | refine B4 (by assumption) ?_ | refine J7 (by decide) ?_ | refine hc.c 0 rfl rfl ?_ | (refine C2 (A8O d.key h.key _) ?_;intro w2 h2;have hc:=(hc.quiet h2).1) | (refine C2 (A3E d.req _ h.req.1 h.req.2) ?_;intro w3 h3;have hc:=(hc.quiet h3).1) | (refine C2 (B07 d.tag _) ?_;intro w4 h4;have hc:=(hc.quiet h4).1;intro g5 w5 h5;have hc:=(hc.loc h5).1;refine⟨hc.may 0 rfl 0 _ (Nat.le_refl 2) rfl,?_⟩;intro w6 h6;have hc:=(hc.set 0 rfl h6).1.drop) | refine R4 (fun _=>?_) (fun _=>?_))
 all_goals (refine⟨B7 ?_,hc.below⟩)
 all_goals clear hc h1
 all_goals simp only [Bool.not_eq_true',Bool.not_eq_false'] at*
 all_goals simp only [J4,B68,mt, *]
 all_goals first | rfl | (simp;done) | skip
 all_goals first | (exfalso;simp_all;done) | (cases e:C8 d.tag ⟨#[]⟩;(· simp);(· simp [B7V d.tag e]))
inductive V where
 | mk (k n:Int) (s:ByteArray) (l:List V)
mutual
def RepC (S:Nat->Prop) (w:World):V->List Value->Prop
 | .mk k n s l,cs=>∃ A cap xs,cs=[.int .i64 k,.int .i64 n,.string s,.slice A l.length cap]/\RepL S w l xs/\Row S w A l.length cap xs
def RepL (S:Nat->Prop) (w:World):List V->List Value->Prop
 | [],xs=>xs=[]
 | v::r,xs=>∃ cs ys,RepC S w v cs/\RepL S w r ys/\xs=cs++ys
end
mutual
theorem RepC.map {S S':Nat->Prop} {w w':World} (h:∀ {A:Option Addr} {n cap:Nat} {xs:List Value},Row S w A n cap xs->Row S' w' A n cap xs):∀ {v:V} {cs:List Value},RepC S w v cs->RepC S' w' v cs
 | .mk k n s l,cs,hr=>by
  rw [RepC] at hr ⊢
  obtain⟨A,cap,xs,e,h1,h2⟩:=hr
  exact⟨A,cap,xs,e,RepL.map h h1,h h2⟩
theorem RepL.map {S S':Nat->Prop} {w w':World} (h:∀ {A:Option Addr} {n cap:Nat} {xs:List Value},Row S w A n cap xs->Row S' w' A n cap xs):∀ {l:List V} {xs:List Value},RepL S w l xs->RepL S' w' l xs
 | [],xs,hr=>by rw [RepL] at hr ⊢;exact hr
 | v::r,xs,hr=>by
  rw [RepL] at hr ⊢
  obtain⟨cs,ys,h1,h2,e⟩:=hr
  exact⟨cs,ys,RepC.map h h1,RepL.map h h2,e⟩
end
theorem RepC.len {S:Nat->Prop} {w:World}:∀ {v:V} {cs:List Value},RepC S w v cs->cs.length=4
 | .mk k n s l,cs,hr=>by
  rw [RepC] at hr
  obtain⟨A,cap,xs,e,_,_⟩:=hr
  rw [e];rfl
theorem RepL.len {S:Nat->Prop} {w:World}:∀ {l:List V} {xs:List Value},RepL S w l xs->xs.length=4*l.length
 | [],xs,hr=>by rw [RepL] at hr;rw [hr];rfl
 | v::r,xs,hr=>by
  rw [RepL] at hr
  obtain⟨cs,ys,h1,h2,e⟩:=hr
  rw [e,List.length_append,h1.len,RepL.len h2,List.length_cons]
  omega
theorem RepL.get {S:Nat->Prop} {w:World}:∀ {l:List V} {xs:List Value},RepL S w l xs->∀ (i:Nat) (hi:i<l.length),∃ cs,RepC S w l[i] cs/\∀ j u,cs[j]?=some u->xs[i*4+j]?=some u
 | v::r,xs,hr,0,_=>by
  rw [RepL] at hr
  obtain⟨cs,ys,h1,h2,e⟩:=hr
  refine⟨cs,h1,fun j u hu=>?_⟩
  have hj:j<cs.length:=by
   rcases Nat.lt_or_ge j cs.length with h | h
   ·exact h
   ·rw [List.getElem?_eq_none h] at hu;cases hu
  rw [e,Nat.zero_mul,Nat.zero_add,List.getElem?_append_left hj]
  exact hu
 | v::r,xs,hr,i+1,hi=>by
  rw [RepL] at hr
  obtain⟨cs,ys,h1,h2,e⟩:=hr
  obtain⟨ds,h3,h4⟩:=RepL.get h2 i (Nat.lt_of_succ_lt_succ hi)
  refine⟨ds,h3,fun j u hu=>?_⟩
  rw [e,List.getElem?_append_right (by rw [h1.len];omega),h1.len,show (i+1)*4+j-4=i*4+j from by omega]
  exact h4 j u hu
theorem RepC.below {S:Nat->Prop} {w w':World} {v:V} {cs:List Value} (h:RepC S w v cs) (hb:Below w.heap.size w w'):RepC S w' v cs:=RepC.map (fun h=>h.below hb) h
theorem RepL.below {S:Nat->Prop} {w w':World} {l:List V} {xs:List Value} (h:RepL S w l xs) (hb:Below w.heap.size w w'):RepL S w' l xs:=RepL.map (fun h=>h.below hb) h
theorem Rep.elem {S:Nat->Prop} {w:World} {l:List V} {xs:List Value} {A:Option Addr} {cap:Nat} (h:RepL S w l xs) (hR:Row S w A l.length cap xs) (i:Nat) (hi:i<l.length):
  ∃ ad cs,A=some ad/\RepC S w l[i] cs/\cs.length=4/\Go.Vc.cellsAt w (ad.add (i*4)) cs 0:=by
 obtain⟨cs,h1,h2⟩:=h.get i hi
 have hl:=h1.len
 have hx:=h.len
 obtain⟨ad,e,hc⟩:=hR.get (i:=i*4) (by omega)
 refine⟨ad,cs,e,h1,hl,?_⟩
 exact A0E hc (i*4) cs 0 (fun j u hu=>by rw [Nat.add_zero];exact h2 j u hu)
def A03 (g:V->Int):List V->Int->Int
 | [],n=>n
 | x::r,n=>if 6000<n+g x then 6001 else A03 g r (n+g x)
def cnt:Nat->V->Int
 | 0,_=>6001
 | f+1,.mk k n s l=>
  if (k==1&&mt s&&((l.length:Int)==0))||(k==2&&n==0&&((l.length:Int)==0)) then 1
  else if k != 3||!(n==0)||!mt s then 6001
  else A03 (cnt f) l 1
theorem D6 (g:V->Int) (x:V) (r:List V) (n:Int):A03 g (x::r) n=if 6000<n+g x then 6001 else A03 g r (n+g x):=by rw [A03]
theorem A4L (g:V->Int) (hg:∀ v,1<=g v):∀ (l:List V) (n:Int),1<=n->n<=6000->1<=A03 g l n/\A03 g l n<=6001
 | [],n,h1,h2=>by unfold A03;omega
 | x::r,n,h1,h2=>by
  unfold A03
  have:=hg x
  split
  ·omega
  ·exact A4L g hg r _ (by omega) (by omega)
theorem H6:∀ (f:Nat) (v:V),1<=cnt f v/\cnt f v<=6001
 | 0,_=>by unfold cnt;omega
 | f+1,.mk k n s l=>by
  unfold cnt
  split
  ·omega
  ·split
   ·omega
   ·exact A4L _ (fun v=>(H6 f v).1) l 1 (by omega) (by omega)
theorem B08:∀ (f:Nat) (depth:Int),depth=7-f->f<=6->∀ (v:V) (cs:List Value) (S:Nat->Prop) (w:World),RepC S w v cs->Calls Tryz.prog 158 #[.agg cs.toArray,.int .i64 depth] w (C7 (.int .i64 (cnt f v)) w):=by
 intro f
 induction f with
 | zero=>
  intro depth hd hf v cs S w hr
  obtain⟨k,n,s,l⟩:=v
  rw [RepC] at hr
  obtain⟨A,cap,xs,rfl,hL,hR⟩:=hr
  refine vE Tryz.func158 ?_
  intro g2 w2 h2
  have hc:=((Ctx.start w no (fun _ h=>h.elim)).loc h2).1
  have b2:=hc.blk 0 rfl
  refine vD (.Q [0,1,2,3,4,5,6,7,8,9,10,11,12] .fin) (Keeps (fun b=>b=g2) w2) (Keeps.start _ _) ?_
  refine⟨_,fun x hx=>hx.cell b2 rfl rfl,?_⟩
  refine⟨_,fun x hx=>hx.cell b2 rfl rfl,?_⟩
  refine⟨_,fun x hx=>hx.cell b2 rfl rfl,?_⟩
  refine dt (by omega) ?_
  exact⟨rfl,hc.drew.below⟩
 | succ f ih=>
  intro depth hd hf v cs S w hr
  obtain⟨k,n,s,l⟩:=v
  rw [RepC] at hr
  obtain⟨A,cap,xs,rfl,hL,hR⟩:=hr
  refine vE Tryz.func158 ?_
  intro g2 w2 h2
  have hc:=((Ctx.start w no (fun _ h=>h.elim)).loc h2).1
  have b2:=hc.blk 0 rfl
  refine vD (.Q [0,1,2,3,4,5,6,7,8,9,10,11,12] .fin) (Keeps (fun b=>b=g2) w2) (Keeps.start _ _) ?_
  refine⟨_,fun x hx=>hx.cell b2 rfl rfl,?_⟩
  refine⟨_,fun x hx=>hx.cell b2 rfl rfl,?_⟩
  refine⟨_,fun x hx=>hx.cell b2 rfl rfl,?_⟩
  refine df (by omega) ?_
  have hc:=hc.drew
  have out:∀ x:Int,cnt (f+1) (.mk k n s l)=x->C7 (.int .i64 (cnt (f+1) (.mk k n s l))) w (.returned (.int .i64 x)) w2.drew:=fun x e=>⟨by rw [e],hc.below⟩
  by_cases k3:k=3
  ·subst k3
   refine hc.c 0 rfl rfl ?_
   refine hc.c 0 rfl rfl ?_
   refine hc.c 0 rfl rfl ?_
   cases e1:(n==0)
   ·refine out 6001 ?_
    simp [cnt,e1]
   cases e2:mt s
   ·refine B6 (by show (!C8 s ⟨#[]⟩)=true;rw [show C8 s ⟨#[]⟩=false from e2];rfl) ?_
    refine out 6001 ?_
    simp [cnt,e2]
   refine B4 (by show (!C8 s ⟨#[]⟩)=false;rw [show C8 s ⟨#[]⟩=true from e2];rfl) ?_
   have ec:cnt (f+1) (.mk 3 n s l)=A03 (cnt f) l 1:=by simp [cnt,e1,e2]
   rw [ec]
   refine hc.c 0 rfl rfl ?_
   refine⟨Nat × Int,fun q=>[(1,.int .i64 depth),(8,.int .i64 q.2),(56,.slice A l.length cap),(57,.int .i64 l.length),(58,.int .i64 q.1)],
    fun q w'=>q.1<=l.length/\1<=q.2/\q.2<=6000/\A03 (cnt f) (l.drop q.1) q.2=A03 (cnt f) l 1/\Below w.heap.size w w',fun q _=>l.length-q.1,(0,1),
    ⟨rfl,rfl,rfl,rfl,rfl,trivial⟩,⟨Nat.zero_le _,by decide,by decide,rfl,hc.below⟩,?_⟩
   rintro⟨i,m⟩ w' u ⟨hi,hm1,hm2,he,hb⟩
   have hM:l.length<=9223372036854775807:=Nat.le_trans (Nat.le_trans hR.1 hR.2.1) (by decide)
   by_cases hlt:i<l.length
   ·refine dt (by show (i:Int)<(l.length:Int);omega) ?_
    obtain⟨ad,es,rfl,hre,hl4,hcell⟩:=Rep.elem (hL.below hb) (hR.below hb) i hlt
    rw [List.drop_eq_getElem_cons hlt] at he
    rw [D6] at he
    generalize l[i]=v at*
    have hre0:=hre
    obtain⟨k',n',s',l'⟩:=v
    rw [RepC] at hre
    obtain⟨A',cap',xs',rfl,_,_⟩:=hre
    refine⟨⟨by omega,by omega⟩,?_⟩
    refine⟨_,hl4,hcell,?_⟩
    intro g5 w5 h5
    have c5:=((Ctx.start w' no (fun _ h=>h.elim)).loc h5).1
    refine⟨c5.may 0 rfl 0 _ (Nat.le_refl 4) rfl,?_⟩
    intro w6 h6
    have c6:=(c5.set 0 rfl h6).1
    refine⟨_,?_,c6.cells 0 rfl,?_⟩
    ·rfl
    have hd1:IntKind.i64.wrap (depth+1)=7-(f:Int):=by rw [F1 _ _ (by omega) (by omega)];omega
    refine C2 (ih (IntKind.i64.wrap (depth+1)) hd1 (by omega) _ _ S w6 (hre0.below c6.below)) ?_
    intro w7 h7
    have c7:=(c6.quiet h7).1
    have hb7:=hb.trans (c7.below.mono hb.size)
    have hr:=H6 f (.mk k' n' s' l')
    have hw:IntKind.i64.wrap (m+cnt f (.mk k' n' s' l'))=m+cnt f (.mk k' n' s' l'):=F1 _ _ (by omega) (by omega)
    by_cases hov:6000<m+cnt f (.mk k' n' s' l')
    ·refine dt (by rw [hw];exact hov) ?_
     rw [if_pos hov] at he
     refine⟨?_,hb7⟩
     rw [<-he]
     rfl
    ·refine df (by rw [hw];exact hov) ?_
     rw [if_neg hov] at he
     refine⟨(i+1,m+cnt f (.mk k' n' s' l')),⟨rfl,congrArg _ hw,rfl,rfl,congrArg _ (C1 (by omega)),trivial⟩,⟨hlt,by show 1<=m+cnt f (.mk k' n' s' l');omega,by show m+cnt f (.mk k' n' s' l')<=6000;omega,he,hb7⟩,by show l.length-(i+1)<l.length-i;omega⟩
   ·refine df (by show ¬ (i:Int)<(l.length:Int);omega) ?_
    rw [List.drop_of_length_le (by omega)] at he
    refine⟨?_,hb⟩
    rw [<-he]
    rfl
  ·have e3:(k != 3)=true:=by simpa using k3
   repeat' (first | refine B6 (by assumption) ?_ | refine B4 (by assumption) ?_ | refine J7 (by decide) ?_ | refine hc.c 0 rfl rfl ?_ | refine R4 (fun _=>?_) (fun _=>?_))
   all_goals refine out _ ?_
   all_goals simp [cnt,mt, *]
def A0t (v:V):Bool:=decide (cnt 6 v<=6000)
theorem A8V (v:V) (k n:Int) (s:ByteArray) (A:Option Addr) (len cap:Nat) (S:Nat->Prop) (w:World) (hr:RepC S w v [.int .i64 k,.int .i64 n,.string s,.slice A len cap]):
  Calls Tryz.prog 123 #[.agg #[.int .i64 k,.int .i64 n,.string s,.slice A len cap]] w (C7 (.bool (A0t v)) w):=by
 refine vE Tryz.func123 ?_
 intro g2 w2 h2
 have hc:=((Ctx.start w no (fun _ h=>h.elim)).loc h2).1
 refine hc.a 0 rfl rfl ?_
 refine C2 (B08 6 1 (by decide) (by decide) v _ S w2 (hr.below hc.below)) ?_
 intro w3 h3
 exact⟨rfl,(hc.quiet h3).1.below⟩
def rsL (g:V->Int × Int):List V->Int->Int->Int × Int
 | [],n,d=>(n,d+1)
 | x::r,n,d=>if (g x).1<0\/6000<n then (-1,0) else rsL g r (n+(g x).1) (max d (g x).2)
def rs:Nat->V->Int × Int
 | 0,_=>(-1,0)
 | f+1,.mk k n s l=>
  if (k==1&&mt s&&((l.length:Int)==0))||(k==2&&n==0&&((l.length:Int)==0)) then (1,1)
  else if k != 3||n != 0||!mt s then (-1,0)
  else rsL (rs f) l 1 0
mutual
def eqV:V->V->Bool
 | .mk k n s l,.mk k' n' s' l'=>k==k'&&n==n'&&C8 s s'&&eqL l l'
def eqL:List V->List V->Bool
 | [],[]=>true
 | x::r,y::t=>eqV x y&&eqL r t
 | [],_::_=>false
 | _::_,[]=>false
end
theorem B09:∀ (l m:List V),l.length≠m.length->eqL l m=false
 | [],[],h=>absurd rfl h
 | x::r,y::t,h=>by rw [eqL,B09 r t (fun e=>h (by rw [List.length_cons,List.length_cons,e])),Bool.and_false]
 | [],_::_,_=>by rw [eqL]
 | _::_,[],_=>by rw [eqL]
theorem V.kid {k n:Int} {s:ByteArray} {l:List V} {x:V} (h:x∈l):SizeOf.sizeOf x<SizeOf.sizeOf (V.mk k n s l):=by
 have:=List.sizeOf_lt_of_mem h
 simp only [V.mk.sizeOf_spec]
 omega
theorem cellsAt_later {w w':World} (hb:Below w.heap.size w w') {a:Addr}:∀ (cs:List Value) (i:Nat),Go.Vc.cellsAt w a cs i->Go.Vc.cellsAt w' a cs i
 | [],_,_=>trivial
 | _::r,i,h=>⟨cell_later hb h.1,cellsAt_later hb r (i+1) h.2⟩
theorem A48 (l m:List V) (S:Nat->Prop) (w:World) {A B:Option Addr} {cap cap':Nat} {xs ys:List Value} (hL:RepL S w l xs) (hR:Row S w A l.length cap xs) (hL':RepL S w m ys) (hR':Row S w B m.length cap' ys)
  (hE:∀ x∈l,∀ (y:V) (cx cy:List Value) (w':World),RepC S w' x cx->RepC S w' y cy->Calls Tryz.prog 130 #[.agg cx.toArray,.agg cy.toArray] w' (C7 (.bool (eqV x y)) w')):
  Calls Tryz.prog 169 #[.slice A l.length cap,.slice B m.length cap',.func (.func 130) #[] #[]] w (C7 (.bool (eqL l m)) w):=by
 refine vE Tryz.func169 ?_
 by_cases hlen:l.length=m.length
 rotate_left
 ·refine B6 (by simp;omega) ?_
  exact⟨B7 (B09 l m hlen).symm,Below.refl _ _⟩
 refine B4 (by simp;omega) ?_
 have hM:l.length<=9223372036854775807:=Nat.le_trans (Nat.le_trans hR.1 hR.2.1) (by decide)
 refine⟨Nat,fun i=>[(1,.slice B m.length cap'),(2,.func (.func 130) #[] #[]),(15,.slice A l.length cap),(16,.int .i64 l.length),(17,.int .i64 i)],
  fun i w'=>i<=l.length/\eqL (l.drop i) (m.drop i)=eqL l m/\Below w.heap.size w w',fun i _=>l.length-i,0,
  ⟨rfl,rfl,rfl,rfl,rfl,trivial⟩,⟨Nat.zero_le _,rfl,Below.refl _ _⟩,?_⟩
 rintro i w' u ⟨hi,he,hb⟩
 by_cases hlt:i<l.length
 ·refine dt (by omega) ?_
  obtain⟨ad,es,rfl,hre,hl4,hcell⟩:=Rep.elem (hL.below hb) (hR.below hb) i hlt
  obtain⟨bd,fs,rfl,hrf,hf4,hcelf⟩:=Rep.elem (hL'.below hb) (hR'.below hb) i (by omega)
  rw [List.drop_eq_getElem_cons hlt,List.drop_eq_getElem_cons (show i<m.length by omega),eqL] at he
  have hx:=hE l[i] (List.getElem_mem hlt)
  generalize l[i]=x at*
  generalize m[i]'(by omega)=y at*
  have hre0:=hre
  have hrf0:=hrf
  obtain⟨k1,n1,s1,l1⟩:=x
  obtain⟨k2,n2,s2,l2⟩:=y
  rw [RepC] at hre hrf
  obtain⟨A1,cap1,xs1,rfl,_,_⟩:=hre
  obtain⟨A2,cap2,xs2,rfl,_,_⟩:=hrf
  refine⟨⟨by omega,by omega⟩,?_⟩
  refine⟨_,hl4,hcell,?_⟩
  intro g5 w5 h5
  have c5:=((Ctx.start w' no (fun _ h=>h.elim)).loc h5).1
  refine⟨c5.may 0 rfl 0 _ (Nat.le_refl 4) rfl,?_⟩
  intro w6 h6
  have c6:=(c5.set 0 rfl h6).1
  refine⟨⟨by omega,by omega⟩,?_⟩
  refine⟨_,hf4,cellsAt_later c6.below _ 0 hcelf,?_⟩
  intro g7 w7 h7
  have c7:=(c6.loc h7).1
  refine⟨c7.may 0 rfl 0 _ (Nat.le_refl 4) rfl,?_⟩
  intro w8 h8
  have c8:=(c7.set 0 rfl h8).1
  refine⟨_,?_,c8.cells 1 rfl,?_⟩
  ·rfl
  refine⟨_,?_,c8.cells 0 rfl,?_⟩
  ·rfl
  refine C2 (hx _ _ _ w8 (hre0.below c8.below) (hrf0.below c8.below)) ?_
  intro w9 h9
  have c9:=(c8.quiet h9).1
  have hb9:=hb.trans (c9.below.mono hb.size)
  cases e:eqV (.mk k1 n1 s1 l1) (.mk k2 n2 s2 l2)
  ·refine⟨B7 ?_,hb9⟩
   rw [<-he,e];rfl
  ·refine⟨i+1,⟨rfl,rfl,rfl,rfl,congrArg _ (C1 (by omega)),trivial⟩,⟨hlt,?_,hb9⟩,by show l.length-(i+1)<l.length-i;omega⟩
   rw [<-he,e];rfl
 ·refine df (by omega) ?_
  rw [List.drop_of_length_le (by omega),List.drop_of_length_le (by omega)] at he
  refine⟨B7 ?_,hb⟩
  rw [<-he,eqL]
theorem B1A:∀ (N:Nat) (a:V),SizeOf.sizeOf a<N->∀ (b:V) (ca cb:List Value) (S:Nat->Prop) (w:World),RepC S w a ca->RepC S w b cb->
  Calls Tryz.prog 130 #[.agg ca.toArray,.agg cb.toArray] w (C7 (.bool (eqV a b)) w):=by
 intro N
 induction N with
 | zero=>intro a h;exact absurd h (Nat.not_lt_zero _)
 | succ N ih=>
  intro a hN b ca cb S w ha hb
  obtain⟨k1,n1,s1,l1⟩:=a
  obtain⟨k2,n2,s2,l2⟩:=b
  rw [RepC] at ha hb
  obtain⟨A1,cap1,xs1,rfl,hL,hR⟩:=ha
  obtain⟨A2,cap2,xs2,rfl,hL',hR'⟩:=hb
  refine vE Tryz.func130 ?_
  intro g2 w2 h2 g3 w3 h3
  have hc:=(((Ctx.start w no (fun _ h=>h.elim)).loc h2).1.loc h3).1
  have kids:∀ x∈l1,∀ (y:V) (cx cy:List Value) (w':World),RepC S w' x cx->RepC S w' y cy->Calls Tryz.prog 130 #[.agg cx.toArray,.agg cy.toArray] w' (C7 (.bool (eqV x y)) w'):=
   fun x hx y cx cy w' h1 h2=>ih x (by have:=V.kid (k:=k1) (n:=n1) (s:=s1) hx;omega) y cx cy S w' h1 h2
  repeat' (first | refine B6 (by assumption) ?_ | refine B4 (by assumption) ?_ | refine J7 (by decide) ?_ | refine hc.c 0 rfl rfl ?_ | (refine hc.c 1 rfl rfl ?_) | (refine C2 (A48 l1 l2 S w3 (hL.below hc.below) (hR.below hc.below) (hL'.below hc.below) (hR'.below hc.below) kids) ?_;intro w4 h4;have hc:=(hc.quiet h4).1) | refine R4 (fun _=>?_) (fun _=>?_))
  all_goals (refine⟨B7 ?_,hc.below⟩)
  all_goals simp only [eqV, *]
  all_goals rfl
theorem A8W (p:Option Addr) (w:World) (ox oy:Operand):(do eqGuard .eql 199 ox oy (.pointer p) (.pointer none);Go.binOp .eql 199 (.pointer p) (.pointer none):Sem Value).run Tryz.prog w=.ok (.bool p.isNone) w:=by
 have h:∀ d:Nat,(Op.equalIn (d+1) 199 (.pointer p) (.pointer none)).run Tryz.prog w=.ok p.isNone w:=fun d=>by
  cases p<;>simp [Op.equalIn,run_underlying Tryz.underlying199]
 cases p<;>simp [eqGuard,Go.binOp,Op.equal,Op.maxDepth,h 9999]
theorem A6K (x:Value) (w:World):(callFunc 227 #[x]).run Tryz.prog w=.ok (.value x) w:=by
 rw [run_callFunc_extern Tryz.func227 (by kernel_rfl) (by kernel_rfl) (by kernel_rfl) (show Extern.find _=some Extern.AbiNoEscape.same by kernel_rfl)]
 rfl
theorem B1B (a:Addr) (w:World) (ox oy:Operand):(do eqGuard .neq 199 ox oy (.pointer (some a)) (.pointer (some a));Go.binOp .neq 199 (.pointer (some a)) (.pointer (some a)):Sem Value).run Tryz.prog w=.ok (.bool false) w:=by
 obtain⟨j,hj,_,_,_⟩:=info_parts (show (Tryz.prog.info? 201).map (fun i=>(i.zero,i.size,i.bytes))=some (some (.agg #[.pointer none,.slice none 0 0]),2,32) by kernel_rfl)
 have h:=Lib.run_neq_ptr_same (P:=Tryz.prog) w a Tryz.underlying199 hj
 simp only [eqGuard]
 simpa using h
theorem A49 (B b:Nat) (bs:List Value) (w:World) (h:Lib.IsBuilder 201 5 B b bs w):
  Calls Tryz.prog 196 #[.pointer (some ⟨b,0,none⟩)] w (fun e w'=>e=.returned (.tuple #[])/\Lib.BuilderAt 201 5 B b (.pointer (some ⟨b,0,none⟩)) bs w'/\Below B w w'):=by
 refine vE Tryz.func196 ?_
 rcases h with h | h
 ·refine⟨_,h.cell0,?_⟩
  refine⟨_,fun w=>A8W _ w _ _,?_⟩
  obtain⟨j,hj,_,hj2,_⟩:=info_parts (show (Tryz.prog.info? 201).map (fun i=>(i.zero,i.size,i.bytes))=some (some (.agg #[.pointer none,.slice none 0 0]),2,32) by kernel_rfl)
  refine⟨_,_,Lib.run_to_unsafe w _ Tryz.underlying199 Tryz.underlying264 hj (by rw [hj2];decide) h.shape (by show (0:Nat)<2;decide),?_⟩
  refine⟨_,_,A6K _ w,?_⟩
  refine⟨_,_,Lib.run_from_unsafe w _ Tryz.underlying264 Tryz.underlying199 hj h.shape (by kernel_rfl),?_⟩
  refine⟨⟨⟨_,h.cell0⟩,h.frozen0,rfl,trivial⟩,?_⟩
  intro w1 h1
  have e1:w1=w.setCell ⟨b,0,none⟩ (.pointer (some ⟨b,0,none⟩)):=h1
  subst e1
  exact⟨rfl,h.used _,(Below.refl B w).setCell (p:=⟨b,0,none⟩) h.1 _⟩
 ·refine⟨_,h.cell0,?_⟩
  refine⟨_,fun w=>A8W _ w _ _,?_⟩
  refine⟨_,h.cell0,?_⟩
  refine⟨_,fun w=>B1B _ w _ _,?_⟩
  exact⟨rfl,h,Below.refl _ _⟩
theorem B3h (B b:Nat) (l:List UInt8) (s:ByteArray) (w:World) (h:Lib.IsBuilder 201 5 B b (bv l) w) (hB:B<=w.heap.size) (hs:l.length+s.size<=34359738368):
  Calls Tryz.prog 160 #[.pointer (some ⟨b,0,none⟩),.string s] w (fun e w'=>e=.returned (.tuple #[.int .i64 s.size,.nilIface])/\Lib.IsBuilder 201 5 B b (bv (l++s.data.toList)) w'/\Below B w w'):=by
 refine vE Tryz.func160 ?_
 refine⟨(A49 B b (bv l) w h).mono fun e w1 he=>⟨_,he.1,?_⟩⟩
 obtain⟨_,hw1,hb1⟩:=he
 have hlt:=hw1.lt
 obtain⟨hBb,v,hbk,hown,hne⟩:=hw1
 have shape:∃ A cap,v=.slice A l.length cap:=by
  obtain⟨_,h6⟩:=hown
  rw [A6B] at h6
  rcases h6 with ⟨h6,h7⟩ | ⟨g,cp,cur,h6,_⟩
  ·exact⟨none,0,by rw [h7];exact h6⟩
  ·exact⟨_,_,h6⟩
 obtain⟨A,cap,rfl⟩:=shape
 refine⟨.slice A l.length cap,Lib.cell_of_heap hbk 1,?_⟩
 obtain⟨i,hi,hi1,hi2,hi3⟩:=info_parts A47
 obtain⟨v',w2,hrun,hown2,hg,_⟩:=Lib.run_append_own_string (P:=Tryz.prog) w1 B 45 9 45 5 i Tryz.underlying45 Tryz.underlying9 hi hi1 hi2 hi3 _ _ _ hown s (by rw [A6B];simp only [maxLen];omega) (by rw [A6B];omega) (Nat.le_trans hB hb1.size)
 have A8a:∃ A' n' cap',v'=.slice A' n' cap':=by
  obtain⟨_,h6⟩:=hown2
  rcases h6 with ⟨h6,h7⟩ | ⟨g,cp,cur,h6,_⟩
  ·exact⟨_,_,_,h6⟩
  ·exact⟨_,_,_,h6⟩
 obtain⟨A',n',cap',rfl⟩:=A8a
 refine⟨.slice A' n' cap',w2,?_,?_⟩
 ·show (do pure (Next.value (<-Builtin.append_ #[45,9] 45 #[.slice A l.length cap,.string s])):Sem Next).run Tryz.prog w1=_
  simp only [Sem.run_bind,hrun,Result.andThen_ok,Sem.run_pure]
 have hbk2:w2.heap[b]?=some (.cells #[.pointer (some ⟨b,0,none⟩),.slice A l.length cap] 201 (0,0)):=(hg.block b hlt (fun e=>hne e.symm)).trans hbk
 refine⟨⟨⟨_,Lib.cell_of_heap hbk2 1⟩,Lib.frozen_of_heap hbk2 1,rfl,trivial⟩,?_⟩
 intro w3 h3
 have e3:w3=w2.setCell ⟨b,1,none⟩ (.slice A' n' cap'):=h3
 subst e3
 have hbs:bv l++Lib.strCells s=bv (l++s.data.toList):=by rw [A6C];rfl
 have hown3:w2.ownsRow B 5 1 (.slice A' n' cap') (bv (l++s.data.toList)).length (bv (l++s.data.toList)):=by
  rw [<-hbs,List.length_append,Lib.strCells_length]
  exact hown2
 have hb2:Below B w w2:=hb1.grown hg (Nat.le_trans hB hb1.size) (fun k hk=>by
  have:=hown.lt k hk
  exact this.1)
 refine⟨rfl,.inr (Lib.BuilderAt.put hBb hbk2 hown3 (by decide)),hb2.setCell (p:=⟨b,1,none⟩) hBb _⟩
end Go.Proofs.YtfekddndgakneaaGreatDoor
section
namespace Go.Proofs
open Go.Shelf
def Tryz.lays169_ren:Go.Shelf.Ren:=⟨fun | 169=>161 | n=>n,fun | 70=>199 | 9=>9 | 0=>0 | 72=>201 | 37=>45 | 127=>241 | 3=>3 | 5=>5 | n=>n,fun | n=>n⟩
theorem Tryz.lays169:Go.Proofs.Lays.n169 Tryz.prog Tryz.lays169_ren:={
 mixed:=by kernel_rfl
 f169:=Tryz.func161.trans (congrArg some (by kernel_rfl))
 t0:=Tryz.underlying0
 a0:=Tryz.isAgg0
 z0:=Tryz.sizeOf0
 v0:=Tryz.zeroValue0
 t3:=Tryz.underlying3
 a3:=Tryz.isAgg3
 z3:=Tryz.sizeOf3
 v3:=Tryz.zeroValue3
 t9:=Tryz.underlying9
 a9:=Tryz.isAgg9
 z9:=Tryz.sizeOf9
 v9:=Tryz.zeroValue9
 t37:=Tryz.underlying45
 a37:=Tryz.isAgg45
 z37:=Tryz.sizeOf45
 v37:=Tryz.zeroValue45
 t70:=Tryz.underlying199
 a70:=Tryz.isAgg199
 z70:=Tryz.sizeOf199
 v70:=Tryz.zeroValue199
 t72:=Tryz.underlying201
 a72:=Tryz.isAgg201
 z72:=Tryz.sizeOf201
 v72:=Tryz.zeroValue201
 t127:=Tryz.underlying241
 a127:=Tryz.isAgg241
 z127:=Tryz.sizeOf241
 v127:=Tryz.zeroValue241 }
theorem Tryz.Builder_Extra_169:Builder.Extra Tryz.prog Tryz.lays169_ren:={
 sizeBuilder:=by kernel_rfl
 liesBuilder:=by kernel_rfl
 t5:=Tryz.underlying5
 a5:=Tryz.isAgg5
 z5:=Tryz.sizeOf5
 v5:=Tryz.zeroValue5
 infoByte:=by kernel_rfl
 cellsByte:=by kernel_rfl
 sizeByte:=by kernel_rfl
 neB5:=by decide }
open Go.RowKit in
theorem Tryz.Builder_String_any (B b:Nat) (l:List UInt8) (w:World) (h:Lib.IsBuilder 201 5 B b (Lib.byteCells l) w) (hBw:B<=w.heap.size):
  Calls Tryz.prog 161 #[.pointer (some ⟨b,0,none⟩)] w fun e w'=>e=.returned (.string ⟨l.toArray⟩)/\Below B w w':=Any.Builder_String_any Tryz.lays169 Tryz.Builder_Extra_169 B b l w h hBw
def Tryz.lays137_ren:Go.Shelf.Ren:=⟨fun | 137=>125 | 217=>163 | 266=>198 | n=>n,fun | 9=>9 | 5=>5 | 3=>3 | n=>n,fun | n=>n⟩
theorem Tryz.lays137:Go.Proofs.Lays.n137 Tryz.prog Tryz.lays137_ren:={
 mixed:=by kernel_rfl
 f137:=Tryz.func125.trans (congrArg some (by kernel_rfl))
 f217:=Tryz.func163.trans (congrArg some (by kernel_rfl))
 f266:=Tryz.func198.trans (congrArg some (by kernel_rfl))
 t3:=Tryz.underlying3
 a3:=Tryz.isAgg3
 z3:=Tryz.sizeOf3
 v3:=Tryz.zeroValue3
 t5:=Tryz.underlying5
 a5:=Tryz.isAgg5
 z5:=Tryz.sizeOf5
 v5:=Tryz.zeroValue5
 t9:=Tryz.underlying9
 a9:=Tryz.isAgg9
 z9:=Tryz.sizeOf9
 v9:=Tryz.zeroValue9 }
open Go.RowKit in
theorem Tryz.strings_IndexByte (s:ByteArray) (c:Int) (w:World):
  Calls Tryz.prog 125 #[.string s,.int .u8 c] w fun e w'=>e=.returned (.int .i64 (Lib.indexByte s.data.toList c.toNat.toUInt8))/\w'=w:=Any.strings_IndexByte Tryz.lays137 s c w
def Tryz.laysM171_ren:Go.Shelf.Ren:=⟨fun | 171=>162 | 243=>197 | 246=>195 | 283=>223 | 284=>224 | 285=>225 | 286=>226 | 129=>252 | 317=>251 | 318=>253 | 319=>254 | 320=>255 | 337=>275 | 338=>276 | n=>n,fun | 3=>3 | 9=>9 | 2=>2 | 4=>4 | 171=>258 | 0=>0 | 53=>259 | 37=>45 | 5=>5 | 173=>262 | 212=>289 | 51=>290 | 20=>20 | 213=>291 | 46=>268 | 232=>315 | 233=>316 | n=>n,fun | 17=>2 | 18=>5 | 19=>6 | n=>n⟩
theorem Tryz.laysM171:Go.Proofs.LaysM.n171 Tryz.prog Tryz.laysM171_ren:={
 mixed:=by kernel_rfl
 f129:=Tryz.func252.trans (congrArg some (by kernel_rfl))
 f171:=Tryz.func162.trans (congrArg some (by kernel_rfl))
 f243:=Tryz.func197.trans (congrArg some (by kernel_rfl))
 f246:=Tryz.func195.trans (congrArg some (by kernel_rfl))
 f283:=Tryz.func223.trans (congrArg some (by kernel_rfl))
 f284:=Tryz.func224.trans (congrArg some (by kernel_rfl))
 f285:=Tryz.func225.trans (congrArg some (by kernel_rfl))
 f286:=Tryz.func226.trans (congrArg some (by kernel_rfl))
 f317:=Tryz.func251.trans (congrArg some (by kernel_rfl))
 f318:=Tryz.func253.trans (congrArg some (by kernel_rfl))
 f319:=Tryz.func254.trans (congrArg some (by kernel_rfl))
 f320:=Tryz.func255.trans (congrArg some (by kernel_rfl))
 f337:=Tryz.func275.trans (congrArg some (by kernel_rfl))
 f338:=Tryz.func276.trans (congrArg some (by kernel_rfl))
 t0:=Tryz.underlying0
 a0:=Tryz.isAgg0
 z0:=Tryz.sizeOf0
 v0:=Tryz.zeroValue0
 t2:=Tryz.underlying2
 a2:=Tryz.isAgg2
 z2:=Tryz.sizeOf2
 v2:=Tryz.zeroValue2
 t3:=Tryz.underlying3
 a3:=Tryz.isAgg3
 z3:=Tryz.sizeOf3
 v3:=Tryz.zeroValue3
 t4:=Tryz.underlying4
 a4:=Tryz.isAgg4
 z4:=Tryz.sizeOf4
 v4:=Tryz.zeroValue4
 t5:=Tryz.underlying5
 a5:=Tryz.isAgg5
 z5:=Tryz.sizeOf5
 v5:=Tryz.zeroValue5
 t9:=Tryz.underlying9
 a9:=Tryz.isAgg9
 z9:=Tryz.sizeOf9
 v9:=Tryz.zeroValue9
 t20:=Tryz.underlying20
 a20:=Tryz.isAgg20
 z20:=Tryz.sizeOf20
 v20:=Tryz.zeroValue20
 t37:=Tryz.underlying45
 a37:=Tryz.isAgg45
 z37:=Tryz.sizeOf45
 v37:=Tryz.zeroValue45
 t46:=Tryz.underlying268
 a46:=Tryz.isAgg268
 z46:=Tryz.sizeOf268
 v46:=Tryz.zeroValue268
 t51:=Tryz.underlying290
 a51:=Tryz.isAgg290
 z51:=Tryz.sizeOf290
 v51:=Tryz.zeroValue290
 t53:=Tryz.underlying259
 a53:=Tryz.isAgg259
 z53:=Tryz.sizeOf259
 v53:=Tryz.zeroValue259
 t171:=Tryz.underlying258
 a171:=Tryz.isAgg258
 z171:=Tryz.sizeOf258
 v171:=Tryz.zeroValue258
 t173:=Tryz.underlying262
 a173:=Tryz.isAgg262
 z173:=Tryz.sizeOf262
 v173:=Tryz.zeroValue262
 t212:=Tryz.underlying289
 a212:=Tryz.isAgg289
 z212:=Tryz.sizeOf289
 v212:=Tryz.zeroValue289
 t213:=Tryz.underlying291
 a213:=Tryz.isAgg291
 z213:=Tryz.sizeOf291
 t232:=Tryz.underlying315
 a232:=Tryz.isAgg315
 z232:=Tryz.sizeOf315
 v232:=Tryz.zeroValue315
 t233:=Tryz.underlying316
 a233:=Tryz.isAgg316
 z233:=Tryz.sizeOf316
 v233:=Tryz.zeroValue316
 g17:=by kernel_rfl
 g18:=by kernel_rfl
 g19:=by kernel_rfl
 i0:=by kernel_rfl
 i2:=by kernel_rfl
 i3:=by kernel_rfl
 i4:=by kernel_rfl
 i5:=by kernel_rfl
 i9:=by kernel_rfl
 i20:=by kernel_rfl
 i37:=by kernel_rfl
 i46:=by kernel_rfl
 i51:=by kernel_rfl
 i53:=by kernel_rfl
 i171:=by kernel_rfl
 i173:=by kernel_rfl
 i212:=by kernel_rfl
 i232:=by kernel_rfl
 i233:=by kernel_rfl
 m17:=by kernel_rfl
 m18:=by kernel_rfl
 m19:=by kernel_rfl }
open Go.RowKit Go.Sort Go.Lib in
theorem Tryz.strconv_Itoa (n:Int) (h0 : -9223372036854775808<=n) (h1:n<=9223372036854775807) (w:World) (htab:Lib.TabIs Tryz.prog w "internal/strconv.uint64pow10" .u64 Lib.pow10Tab):
  Calls Tryz.prog 162 #[.int .i64 n] w fun e w'=>e=.returned (.string ⟨(Lib.itoa n).toArray⟩)/\∃ k os,w'=grow (w.drewN k) os:=Any.strconv_Itoa Tryz.laysM171 n h0 h1 w htab
def Tryz.laysM173_ren:Go.Shelf.Ren:=⟨fun | 173=>159 | 246=>195 | 283=>223 | 284=>224 | 285=>225 | 286=>226 | 129=>252 | 317=>251 | 318=>253 | 319=>254 | 320=>255 | 337=>275 | 338=>276 | n=>n,fun | 2=>2 | 3=>3 | 9=>9 | 4=>4 | 171=>258 | 0=>0 | 53=>259 | 37=>45 | 5=>5 | 173=>262 | 212=>289 | 51=>290 | 20=>20 | 213=>291 | 46=>268 | 232=>315 | 233=>316 | n=>n,fun | 17=>2 | 18=>5 | 19=>6 | n=>n⟩
theorem Tryz.laysM173:Go.Proofs.LaysM.n173 Tryz.prog Tryz.laysM173_ren:={
 mixed:=by kernel_rfl
 f129:=Tryz.func252.trans (congrArg some (by kernel_rfl))
 f173:=Tryz.func159.trans (congrArg some (by kernel_rfl))
 f246:=Tryz.func195.trans (congrArg some (by kernel_rfl))
 f283:=Tryz.func223.trans (congrArg some (by kernel_rfl))
 f284:=Tryz.func224.trans (congrArg some (by kernel_rfl))
 f285:=Tryz.func225.trans (congrArg some (by kernel_rfl))
 f286:=Tryz.func226.trans (congrArg some (by kernel_rfl))
 f317:=Tryz.func251.trans (congrArg some (by kernel_rfl))
 f318:=Tryz.func253.trans (congrArg some (by kernel_rfl))
 f319:=Tryz.func254.trans (congrArg some (by kernel_rfl))
 f320:=Tryz.func255.trans (congrArg some (by kernel_rfl))
 f337:=Tryz.func275.trans (congrArg some (by kernel_rfl))
 f338:=Tryz.func276.trans (congrArg some (by kernel_rfl))
 t0:=Tryz.underlying0
 a0:=Tryz.isAgg0
 z0:=Tryz.sizeOf0
 v0:=Tryz.zeroValue0
 t2:=Tryz.underlying2
 a2:=Tryz.isAgg2
 z2:=Tryz.sizeOf2
 v2:=Tryz.zeroValue2
 t3:=Tryz.underlying3
 a3:=Tryz.isAgg3
 z3:=Tryz.sizeOf3
 v3:=Tryz.zeroValue3
 t4:=Tryz.underlying4
 a4:=Tryz.isAgg4
 z4:=Tryz.sizeOf4
 v4:=Tryz.zeroValue4
 t5:=Tryz.underlying5
 a5:=Tryz.isAgg5
 z5:=Tryz.sizeOf5
 v5:=Tryz.zeroValue5
 t9:=Tryz.underlying9
 a9:=Tryz.isAgg9
 z9:=Tryz.sizeOf9
 v9:=Tryz.zeroValue9
 t20:=Tryz.underlying20
 a20:=Tryz.isAgg20
 z20:=Tryz.sizeOf20
 v20:=Tryz.zeroValue20
 t37:=Tryz.underlying45
 a37:=Tryz.isAgg45
 z37:=Tryz.sizeOf45
 v37:=Tryz.zeroValue45
 t46:=Tryz.underlying268
 a46:=Tryz.isAgg268
 z46:=Tryz.sizeOf268
 v46:=Tryz.zeroValue268
 t51:=Tryz.underlying290
 a51:=Tryz.isAgg290
 z51:=Tryz.sizeOf290
 v51:=Tryz.zeroValue290
 t53:=Tryz.underlying259
 a53:=Tryz.isAgg259
 z53:=Tryz.sizeOf259
 v53:=Tryz.zeroValue259
 t171:=Tryz.underlying258
 a171:=Tryz.isAgg258
 z171:=Tryz.sizeOf258
 v171:=Tryz.zeroValue258
 t173:=Tryz.underlying262
 a173:=Tryz.isAgg262
 z173:=Tryz.sizeOf262
 v173:=Tryz.zeroValue262
 t212:=Tryz.underlying289
 a212:=Tryz.isAgg289
 z212:=Tryz.sizeOf289
 v212:=Tryz.zeroValue289
 t213:=Tryz.underlying291
 a213:=Tryz.isAgg291
 z213:=Tryz.sizeOf291
 t232:=Tryz.underlying315
 a232:=Tryz.isAgg315
 z232:=Tryz.sizeOf315
 v232:=Tryz.zeroValue315
 t233:=Tryz.underlying316
 a233:=Tryz.isAgg316
 z233:=Tryz.sizeOf316
 v233:=Tryz.zeroValue316
 g17:=by kernel_rfl
 g18:=by kernel_rfl
 g19:=by kernel_rfl
 i0:=by kernel_rfl
 i2:=by kernel_rfl
 i3:=by kernel_rfl
 i4:=by kernel_rfl
 i5:=by kernel_rfl
 i9:=by kernel_rfl
 i20:=by kernel_rfl
 i37:=by kernel_rfl
 i46:=by kernel_rfl
 i51:=by kernel_rfl
 i53:=by kernel_rfl
 i171:=by kernel_rfl
 i173:=by kernel_rfl
 i212:=by kernel_rfl
 i232:=by kernel_rfl
 i233:=by kernel_rfl
 m17:=by kernel_rfl
 m18:=by kernel_rfl
 m19:=by kernel_rfl }
open Go.RowKit Go.Sort Go.Lib in
theorem Tryz.strconv_FormatInt_10 (n:Int) (h0 : -9223372036854775808<=n) (h1:n<=9223372036854775807) (w:World) (htab:Lib.TabIs Tryz.prog w "internal/strconv.uint64pow10" .u64 Lib.pow10Tab):
  Calls Tryz.prog 159 #[.int .i64 n,.int .i64 10] w fun e w'=>e=.returned (.string ⟨(Lib.itoa n).toArray⟩)/\∃ k os,w'=grow (w.drewN k) os:=Any.strconv_FormatInt_10 Tryz.laysM173 n h0 h1 w htab
def Tryz.laysC174_ren:Go.Shelf.Ren:=⟨fun | 174=>202 | 247=>232 | 245=>233 | 287=>256 | 279=>257 | 280=>258 | 281=>259 | 282=>260 | 321=>277 | 322=>278 | 316=>279 | 171=>162 | 205=>280 | 243=>197 | 246=>195 | 283=>223 | 284=>224 | 285=>225 | 286=>226 | 129=>252 | 317=>251 | 318=>253 | 319=>254 | 320=>255 | 337=>275 | 338=>276 | n=>n,fun | 9=>9 | 3=>3 | 2=>2 | 75=>203 | 85=>242 | 4=>4 | 167=>293 | 5=>5 | 53=>259 | 175=>294 | 46=>268 | 168=>296 | 37=>45 | 0=>0 | 210=>311 | 21=>21 | 127=>241 | 145=>319 | 143=>317 | 171=>258 | 173=>262 | 212=>289 | 51=>290 | 20=>20 | 213=>291 | 232=>315 | 233=>316 | 80=>186 | n=>n,fun | 15=>3 | 16=>4 | 17=>2 | 18=>5 | 19=>6 | n=>n⟩
theorem Tryz.laysC174:Go.Proofs.LaysC.n174 Tryz.prog Tryz.laysC174_ren:={
 mixed:=by kernel_rfl
 f129:=Tryz.func252.trans (congrArg some (by kernel_rfl))
 f171:=Tryz.func162.trans (congrArg some (by kernel_rfl))
 f174:=Tryz.func202.trans (congrArg some (by kernel_rfl))
 f205:=Tryz.func280.trans (congrArg some (by kernel_rfl))
 f243:=Tryz.func197.trans (congrArg some (by kernel_rfl))
 f245:=Tryz.func233.trans (congrArg some (by kernel_rfl))
 f246:=Tryz.func195.trans (congrArg some (by kernel_rfl))
 f247:=Tryz.func232.trans (congrArg some (by kernel_rfl))
 f279:=Tryz.func257.trans (congrArg some (by kernel_rfl))
 f280:=Tryz.func258.trans (congrArg some (by kernel_rfl))
 f281:=Tryz.func259.trans (congrArg some (by kernel_rfl))
 f282:=Tryz.func260.trans (congrArg some (by kernel_rfl))
 f283:=Tryz.func223.trans (congrArg some (by kernel_rfl))
 f284:=Tryz.func224.trans (congrArg some (by kernel_rfl))
 f285:=Tryz.func225.trans (congrArg some (by kernel_rfl))
 f286:=Tryz.func226.trans (congrArg some (by kernel_rfl))
 f287:=Tryz.func256.trans (congrArg some (by kernel_rfl))
 f316:=Tryz.func279.trans (congrArg some (by kernel_rfl))
 f317:=Tryz.func251.trans (congrArg some (by kernel_rfl))
 f318:=Tryz.func253.trans (congrArg some (by kernel_rfl))
 f319:=Tryz.func254.trans (congrArg some (by kernel_rfl))
 f320:=Tryz.func255.trans (congrArg some (by kernel_rfl))
 f321:=Tryz.func277.trans (congrArg some (by kernel_rfl))
 f322:=Tryz.func278.trans (congrArg some (by kernel_rfl))
 f337:=Tryz.func275.trans (congrArg some (by kernel_rfl))
 f338:=Tryz.func276.trans (congrArg some (by kernel_rfl))
 t0:=Tryz.underlying0
 a0:=Tryz.isAgg0
 z0:=Tryz.sizeOf0
 v0:=Tryz.zeroValue0
 t2:=Tryz.underlying2
 a2:=Tryz.isAgg2
 z2:=Tryz.sizeOf2
 v2:=Tryz.zeroValue2
 t3:=Tryz.underlying3
 a3:=Tryz.isAgg3
 z3:=Tryz.sizeOf3
 v3:=Tryz.zeroValue3
 t4:=Tryz.underlying4
 a4:=Tryz.isAgg4
 z4:=Tryz.sizeOf4
 v4:=Tryz.zeroValue4
 t5:=Tryz.underlying5
 a5:=Tryz.isAgg5
 z5:=Tryz.sizeOf5
 v5:=Tryz.zeroValue5
 t9:=Tryz.underlying9
 a9:=Tryz.isAgg9
 z9:=Tryz.sizeOf9
 v9:=Tryz.zeroValue9
 t20:=Tryz.underlying20
 a20:=Tryz.isAgg20
 z20:=Tryz.sizeOf20
 v20:=Tryz.zeroValue20
 t21:=Tryz.underlying21
 a21:=Tryz.isAgg21
 z21:=Tryz.sizeOf21
 v21:=Tryz.zeroValue21
 t37:=Tryz.underlying45
 a37:=Tryz.isAgg45
 z37:=Tryz.sizeOf45
 v37:=Tryz.zeroValue45
 t46:=Tryz.underlying268
 a46:=Tryz.isAgg268
 z46:=Tryz.sizeOf268
 v46:=Tryz.zeroValue268
 t51:=Tryz.underlying290
 a51:=Tryz.isAgg290
 z51:=Tryz.sizeOf290
 v51:=Tryz.zeroValue290
 t53:=Tryz.underlying259
 a53:=Tryz.isAgg259
 z53:=Tryz.sizeOf259
 v53:=Tryz.zeroValue259
 t75:=Tryz.underlying203
 a75:=Tryz.isAgg203
 z75:=Tryz.sizeOf203
 v75:=Tryz.zeroValue203
 t85:=Tryz.underlying242
 a85:=Tryz.isAgg242
 z85:=Tryz.sizeOf242
 v85:=Tryz.zeroValue242
 t127:=Tryz.underlying241
 a127:=Tryz.isAgg241
 z127:=Tryz.sizeOf241
 v127:=Tryz.zeroValue241
 t143:=Tryz.underlying317
 a143:=Tryz.isAgg317
 z143:=Tryz.sizeOf317
 v143:=Tryz.zeroValue317
 t145:=Tryz.underlying319
 a145:=Tryz.isAgg319
 z145:=Tryz.sizeOf319
 v145:=Tryz.zeroValue319
 t167:=Tryz.underlying293
 a167:=Tryz.isAgg293
 z167:=Tryz.sizeOf293
 v167:=Tryz.zeroValue293
 t168:=Tryz.underlying296
 a168:=Tryz.isAgg296
 z168:=Tryz.sizeOf296
 v168:=Tryz.zeroValue296
 t171:=Tryz.underlying258
 a171:=Tryz.isAgg258
 z171:=Tryz.sizeOf258
 v171:=Tryz.zeroValue258
 t173:=Tryz.underlying262
 a173:=Tryz.isAgg262
 z173:=Tryz.sizeOf262
 v173:=Tryz.zeroValue262
 t175:=Tryz.underlying294
 a175:=Tryz.isAgg294
 z175:=Tryz.sizeOf294
 v175:=Tryz.zeroValue294
 t210:=Tryz.underlying311
 a210:=Tryz.isAgg311
 z210:=Tryz.sizeOf311
 v210:=Tryz.zeroValue311
 t212:=Tryz.underlying289
 a212:=Tryz.isAgg289
 z212:=Tryz.sizeOf289
 v212:=Tryz.zeroValue289
 t213:=Tryz.underlying291
 a213:=Tryz.isAgg291
 z213:=Tryz.sizeOf291
 t232:=Tryz.underlying315
 a232:=Tryz.isAgg315
 z232:=Tryz.sizeOf315
 v232:=Tryz.zeroValue315
 t233:=Tryz.underlying316
 a233:=Tryz.isAgg316
 z233:=Tryz.sizeOf316
 v233:=Tryz.zeroValue316
 g15:=by kernel_rfl
 g16:=by kernel_rfl
 g17:=by kernel_rfl
 g18:=by kernel_rfl
 g19:=by kernel_rfl
 t80:=Tryz.underlying186
 a80:=Tryz.isAgg186
 z80:=Tryz.sizeOf186
 v80:=Tryz.zeroValue186
 i0:=by kernel_rfl
 i2:=by kernel_rfl
 i3:=by kernel_rfl
 i4:=by kernel_rfl
 i5:=by kernel_rfl
 i9:=by kernel_rfl
 i20:=by kernel_rfl
 i21:=by kernel_rfl
 i37:=by kernel_rfl
 i46:=by kernel_rfl
 i51:=by kernel_rfl
 i53:=by kernel_rfl
 i75:=by kernel_rfl
 i80:=by kernel_rfl
 i85:=by kernel_rfl
 i127:=by kernel_rfl
 i143:=by kernel_rfl
 i145:=by kernel_rfl
 i167:=by kernel_rfl
 i168:=by kernel_rfl
 i171:=by kernel_rfl
 i173:=by kernel_rfl
 i175:=by kernel_rfl
 i210:=by kernel_rfl
 i212:=by kernel_rfl
 i232:=by kernel_rfl
 i233:=by kernel_rfl
 m15:=by kernel_rfl
 m16:=by kernel_rfl
 m17:=by kernel_rfl
 m18:=by kernel_rfl
 m19:=by kernel_rfl
 c0:=by kernel_rfl
 c2:=by kernel_rfl
 c3:=by kernel_rfl
 c4:=by kernel_rfl
 c5:=by kernel_rfl
 c9:=by kernel_rfl
 c20:=by kernel_rfl
 c21:=by kernel_rfl
 c37:=by kernel_rfl
 c46:=by kernel_rfl
 c51:=by kernel_rfl
 c53:=by kernel_rfl
 c75:=by kernel_rfl
 c80:=by kernel_rfl
 c85:=by kernel_rfl
 c127:=by kernel_rfl
 c143:=by kernel_rfl
 c145:=by kernel_rfl
 c167:=by kernel_rfl
 c168:=by kernel_rfl
 c171:=by kernel_rfl
 c173:=by kernel_rfl
 c175:=by kernel_rfl
 c210:=by kernel_rfl
 c212:=by kernel_rfl
 c213:=by kernel_rfl
 c232:=by kernel_rfl
 c233:=by kernel_rfl }
open Go.RowKit in
theorem Tryz.strconv_ParseInt_10_at64_ok (s:ByteArray) (hmax:s.size<=9223372036854775806) (v:Int) (h:Lib.parseIntB 64 s.data.toList=.ok v) (w:World):
  Calls Tryz.prog 202 #[.string s,.int .i64 10,.int .i64 64] w fun e w'=>e=.returned (.tuple #[.int .i64 v,.nilIface])/\(w'=w\/∃ t,w'=Lib.bytesWorld w 5 t):=Any.strconv_ParseInt_10_at64_ok Tryz.laysC174 s hmax v h w
open Go.RowKit in
theorem Tryz.strconv_ParseInt_10_at64_range_var (s:ByteArray) (hlim:s.size<=281474976710656) (h:Lib.parseIntB 64 s.data.toList=.range) (tp:TypeId) (p:Value) (w:World) (hvar:w.var? Tryz.prog "strconv.ErrRange"=some #[.iface tp p]):
  Calls Tryz.prog 202 #[.string s,.int .i64 10,.int .i64 64] w fun e w'=>∃ N,e=.returned (.tuple #[.int .i64 (Lib.intSat 64 s.data.toList),.iface 296 (.pointer (some ⟨N,0,none⟩))])/\w.heap.size<=N/\w'.heap[N]?=some (.cells #[.string ⟨#[80,97,114,115,101,73,110,116]⟩,.string s,.iface tp p] 311 (0,0))/\Below w.heap.size w w':=Any.strconv_ParseInt_10_at64_range_var Tryz.laysC174 s hlim h tp p w hvar
def Tryz.lays99_ren:Go.Shelf.Ren:=⟨fun | 99=>250 | 206=>274 | n=>n,fun | 9=>9 | 4=>4 | 3=>3 | n=>n,fun | n=>n⟩
theorem Tryz.lays99:Go.Proofs.Lays.n99 Tryz.prog Tryz.lays99_ren:={
 mixed:=by kernel_rfl
 f99:=Tryz.func250.trans (congrArg some (by kernel_rfl))
 f206:=Tryz.func274.trans (congrArg some (by kernel_rfl))
 t3:=Tryz.underlying3
 a3:=Tryz.isAgg3
 z3:=Tryz.sizeOf3
 v3:=Tryz.zeroValue3
 t4:=Tryz.underlying4
 a4:=Tryz.isAgg4
 z4:=Tryz.sizeOf4
 v4:=Tryz.zeroValue4
 t9:=Tryz.underlying9
 a9:=Tryz.isAgg9
 z9:=Tryz.sizeOf9
 v9:=Tryz.zeroValue9 }
open Go.RowKit Go.Lib in
theorem Tryz.strings_HasPrefix (s p:ByteArray) (w:World):
  Calls Tryz.prog 250 #[.string s,.string p] w fun e w'=>e=.returned (.bool (Lib.hasPrefix s.data.toList p.data.toList))/\w'=w:=Any.strings_HasPrefix Tryz.lays99 s p w
end Go.Proofs
end
namespace Go.Proofs.YtfekddndgakneaaGreatDoor
open Go.Vc Go.RowKit Go.Fl
def Tab (w:World):Prop:=Lib.TabIs Tryz.prog w "internal/strconv.uint64pow10" .u64 Lib.pow10Tab
theorem Tab.below {w w':World} (h:Tab w) (hb:Below w.heap.size w w'):Tab w':=by
 unfold Tab Lib.TabIs World.var? at*
 cases hg:Tryz.prog.globalNamed "internal/strconv.uint64pow10" with
 | none=>simp [hg] at h
 | some g=>
  simp only [hg,Option.bind_some] at h ⊢
  have hlt:g<w.heap.size:=by
   rcases Nat.lt_or_ge g w.heap.size with h' | h'
   ·exact h'
   ·rw [Array.getElem?_eq_none h'] at h;cases h
  rw [hb.block g hlt]
  exact h
theorem A4M {w w':World} (h:∃ k os,w'=Sort.grow (w.drewN k) os):Below w.heap.size w w':=by
 obtain⟨k,os,rfl⟩:=h
 exact Lib.below_grow _ _ (Nat.le_refl _) _ _
mutual
def I8:V->List UInt8
 | .mk k n s l=>
  let t:=if k==1 then Lib.itoa n else if k==3 then L3 l else s.data.toList
  Lib.itoa (t.length:Int)++58::(t++[if k==1 then 35 else if k==3 then 93 else 44])
def L3:List V->List UInt8
 | []=>[]
 | v::r=>I8 v++L3 r
end
mutual
def okV:V->Prop
 | .mk k n s l=>B9 n/\okL l
def okL:List V->Prop
 | []=>True
 | v::r=>okV v/\okL r
end
theorem A5A (n:Int) (h:B9 n) (w:World) (ht:Tab w):Calls Tryz.prog 162 #[.int .i64 n] w (C7 (.string ⟨(Lib.itoa n).toArray⟩) w):=
 (Tryz.strconv_Itoa n h.1 h.2 w ht).mono fun e w' he=>⟨he.1,A4M he.2⟩
theorem B1C (n:Int) (h:B9 n) (w:World) (ht:Tab w):Calls Tryz.prog 159 #[.int .i64 n,.int .i64 10] w (C7 (.string ⟨(Lib.itoa n).toArray⟩) w):=
 (Tryz.strconv_FormatInt_10 n h.1 h.2 w ht).mono fun e w' he=>⟨he.1,A4M he.2⟩
theorem A2h (l:List V) (i:Nat) (h:i<l.length):L3 (l.take i)++I8 l[i]=L3 (l.take (i+1)):=by
 induction l generalizing i with
 | nil=>exact absurd h (Nat.not_lt_zero _)
 | cons v r ih=>
  cases i with
  | zero=>simp [L3]
  | succ i=>
   simp only [List.take_succ_cons,L3,List.getElem_cons_succ,List.append_assoc]
   rw [ih i (Nat.lt_of_succ_lt_succ h)]
theorem A6L (l:List V):∀ i,(L3 (l.take i)).length<=(L3 l).length:=by
 induction l with
 | nil=>intro i;simp
 | cons v r ih=>
  intro i
  cases i with
  | zero=>simp [L3]
  | succ i=>simp only [List.take_succ_cons,L3,List.length_append];have:=ih i;omega
theorem A3J:∀ {l:List V} {v:V},okL l->v∈l->okV v
 | x::r,v,h,hm=>by
  rw [okL] at h
  cases hm with
  | head=>exact h.1
  | tail _ hm=>exact A3J h.2 hm
theorem R7:∀ {l:List V} {v:V},v∈l->(I8 v).length<=(L3 l).length
 | x::r,v,hm=>by
  rw [L3,List.length_append]
  cases hm with
  | head=>omega
  | tail _ hm=>have:=R7 hm;omega
theorem A5B (a t:List UInt8) (e:UInt8):((⟨a.toArray⟩++⟨#[58]⟩:ByteArray)++⟨t.toArray⟩)++⟨#[e]⟩=⟨(a++58::(t++[e])).toArray⟩:=by
 have e1:(⟨#[58]⟩:ByteArray)=⟨([58]:List UInt8).toArray⟩:=rfl
 have e2:(⟨#[e]⟩:ByteArray)=⟨[e].toArray⟩:=rfl
 rw [e1,e2,V9,V9,V9]
 simp
theorem A2A (a t:List UInt8) (e:UInt8) (ha:a.length<=100) (ht:t.length<=1073741824):
  (⟨a.toArray⟩:ByteArray).size+(⟨#[58]⟩:ByteArray).size<=9223372036854775807/\(⟨a.toArray⟩++⟨#[58]⟩:ByteArray).size+(⟨t.toArray⟩:ByteArray).size<=9223372036854775807/\
  ((⟨a.toArray⟩++⟨#[58]⟩:ByteArray)++⟨t.toArray⟩).size+(⟨#[e]⟩:ByteArray).size<=9223372036854775807:=by
 have e1:(⟨#[58]⟩:ByteArray).size=1:=rfl
 have e2:(⟨#[e]⟩:ByteArray).size=1:=rfl
 have e3:(⟨a.toArray⟩:ByteArray).size=a.length:=H2 a
 have e4:(⟨t.toArray⟩:ByteArray).size=t.length:=H2 t
 simp only [ByteArray.size_append]
 omega
theorem A7U {T e:TypeId} {B b:Nat} {bs:List Value} {w w':World} (h:Lib.IsBuilder T e B b bs w) (hb:Below w.heap.size w w'):Lib.IsBuilder T e B b bs w':=by
 have one:∀ p,Lib.BuilderAt T e B b p bs w->Lib.BuilderAt T e B b p bs w':=fun p h=>by
  have hlt:=h.lt
  obtain⟨hB,v,hbk,hown,hne⟩:=h
  refine⟨hB,v,(hb.block b hlt).trans hbk,?_,hne⟩
  refine hown.kept (row:=none) ⟨hb.os,hb.tape,hb.output,hb.size,fun k hk _=>hb.block k hk⟩ ?_
  cases hv:v.ownBlock with
  | none=>exact .inl rfl
  | some k=>exact .inr (by simp)
 exact h.imp (one _) (one _)
theorem B5r:∀ (N:Nat) (v:V),SizeOf.sizeOf v<N->okV v->(I8 v).length<=1073741824->∀ (cs:List Value) (S:Nat->Prop) (w:World),RepC S w v cs->Tab w->
  Calls Tryz.prog 124 #[.agg cs.toArray] w (C7 (.string ⟨(I8 v).toArray⟩) w):=by
 intro N
 induction N with
 | zero=>intro v h;exact absurd h (Nat.not_lt_zero _)
 | succ N ih=>
  intro v hN hok hlen cs S w hr ht
  obtain⟨k,n,s,l⟩:=v
  rw [RepC] at hr
  obtain⟨A,cap,xs,rfl,hL,hR⟩:=hr
  rw [okV] at hok
  refine vE Tryz.func124 ?_
  intro g2 w2 h2
  have hc:=((Ctx.start w no (fun _ h=>h.elim)).loc h2).1
  refine hc.c 0 rfl rfl ?_
  refine hc.c 0 rfl rfl ?_
  by_cases k1:k=1
  ·subst k1
   refine hc.c 0 rfl rfl ?_
   refine hc.q (B1C n hok.1 _ (ht.below hc.below)) fun w3 h3 hc=>?_
   have hl:(Lib.itoa n).length<=21:=Lib.itoa_length_le n hok.1.1 hok.1.2
   have hi:B9 (((⟨(Lib.itoa n).toArray⟩:ByteArray).size:Nat):Int):=by rw [H2];unfold B9;omega
   refine hc.q (A5A _ hi _ (ht.below hc.below)) fun w4 h4 hc=>?_
   have hz:=A2A (Lib.itoa (((⟨(Lib.itoa n).toArray⟩:ByteArray).size:Nat):Int)) (Lib.itoa n) 35 (by have:=Lib.itoa_length_le _ hi.1 hi.2;omega) (by omega)
   refine⟨hz.1,?_⟩
   refine⟨hz.2.1,?_⟩
   refine⟨hz.2.2,?_⟩
   refine⟨?_,hc.below⟩
   rw [A5B,H2,I8]
   rfl
  ·by_cases k3:k=3
   ·subst k3
    have ev:I8 (.mk 3 n s l)=Lib.itoa ((L3 l).length:Int)++58::(L3 l++[93]):=by rw [I8];rfl
    rw [ev] at hlen ⊢
    simp only [List.length_append,List.length_cons] at hlen
    intro gb w3 h3
    have hM:l.length<=9223372036854775807:=Nat.le_trans (Nat.le_trans hR.1 hR.2.1) (by decide)
    have hc:=(hc.loc h3).1
    have hB0:w.heap.size<=gb:=by have:=hc.locs.1;exact this
    have ib:Lib.IsBuilder 201 5 w.heap.size gb (bv (L3 (l.take 0))) w3:=.inl ⟨hB0,.slice none 0 0,h3.blk,World.ownsRow_nil _ _ _ _,by simp [Value.ownBlock]⟩
    refine hc.c 1 rfl rfl ?_
    refine⟨Nat,fun i=>[(5,.pointer (some ⟨gb,0,none⟩)),(20,.slice A l.length cap),(21,.int .i64 l.length),(22,.int .i64 i)],
     fun i w'=>i<=l.length/\Lib.IsBuilder 201 5 w.heap.size gb (bv (L3 (l.take i))) w'/\Below w.heap.size w w',fun i _=>l.length-i,0,
     ⟨rfl,rfl,rfl,rfl,trivial⟩,⟨Nat.zero_le _,ib,hc.below⟩,?_⟩
    rintro i w' u ⟨hi,hib,hb⟩
    by_cases hlt:i<l.length
    ·refine dt (by omega) ?_
     obtain⟨ad,es,rfl,hre,hl4,hcell⟩:=Rep.elem (hL.below hb) (hR.below hb) i hlt
     have hmem:=List.getElem_mem hlt
     have hap:=A2h l i hlt
     have htk:=A6L l (i+1)
     generalize l[i]=x at*
     have hre0:=hre
     obtain⟨k',n',s',l'⟩:=x
     rw [RepC] at hre
     obtain⟨A',cap',xs',rfl,_,_⟩:=hre
     refine⟨⟨by omega,by omega⟩,?_⟩
     refine⟨_,hl4,hcell,?_⟩
     intro g5 w5 h5
     have c5:=((Ctx.start w' no (fun _ h=>h.elim)).loc h5).1
     refine⟨c5.may 0 rfl 0 _ (Nat.le_refl 4) rfl,?_⟩
     intro w6 h6
     have c6:=(c5.set 0 rfl h6).1
     refine⟨_,?_,c6.cells 0 rfl,?_⟩
     ·rfl
     refine C2 (ih (.mk k' n' s' l') (by have:=V.kid (k:=3) (n:=n) (s:=s) hmem;omega) (A3J hok.2 hmem) (by have:=R7 hmem;omega) _ S w6 (hre0.below c6.below) ((ht.below hb).below c6.below)) ?_
     intro w7 h7
     have c7:=(c6.quiet h7).1
     have hb7:=hb.trans (c7.below.mono hb.size)
     refine⟨(B3h w.heap.size gb (L3 (l.take i)) ⟨(I8 (.mk k' n' s' l')).toArray⟩ w7 (A7U hib c7.below) hb7.size (by rw [H2,<-List.length_append,hap];omega)).mono fun e w8 he=>⟨_,he.1,?_⟩⟩
     refine⟨i+1,⟨rfl,rfl,rfl,congrArg _ (C1 (by omega)),trivial⟩,⟨hlt,?_,hb7.trans he.2.2⟩,by show l.length-(i+1)<l.length-i;omega⟩
     rw [<-hap]
     exact he.2.1
    ·refine df (by omega) ?_
     rw [List.take_of_length_le (by omega)] at hib
     refine⟨(Tryz.Builder_String_any w.heap.size gb (L3 l) w' hib hb.size).mono fun e w8 he=>⟨_,he.1,?_⟩⟩
     have hb8:=hb.trans he.2
     have hi:B9 (((⟨(L3 l).toArray⟩:ByteArray).size:Nat):Int):=by rw [H2];unfold B9;omega
     refine C2 (A5A _ hi _ (ht.below hb8)) ?_
     intro w9 h9
     have hz:=A2A (Lib.itoa (((⟨(L3 l).toArray⟩:ByteArray).size:Nat):Int)) (L3 l) 93 (by have:=Lib.itoa_length_le _ hi.1 hi.2;omega) (by omega)
     refine⟨hz.1,?_⟩
     refine⟨hz.2.1,?_⟩
     refine⟨hz.2.2,?_⟩
     refine⟨?_,hb8.trans (h9.mono hb8.size)⟩
     rw [A5B,H2]
     rfl
   ·have b1:(k==1)=false:=by simpa using k1
    have b3:(k==3)=false:=by simpa using k3
    refine B4 b1 ?_
    refine B4 b3 ?_
    obtain⟨t,rfl⟩:∃ t:List UInt8,s=⟨t.toArray⟩:=⟨s.data.toList,by apply ByteArray.ext;simp⟩
    have ev:I8 (.mk k n ⟨t.toArray⟩ l)=Lib.itoa (t.length:Int)++58::(t++[44]):=by rw [I8];simp [b1,b3]
    rw [ev] at hlen ⊢
    simp only [List.length_append,List.length_cons] at hlen
    have hi:B9 (((⟨t.toArray⟩:ByteArray).size:Nat):Int):=by rw [H2];unfold B9;omega
    refine hc.q (A5A _ hi _ (ht.below hc.below)) fun w4 h4 hc=>?_
    have hz:=A2A (Lib.itoa (((⟨t.toArray⟩:ByteArray).size:Nat):Int)) t 44 (by have:=Lib.itoa_length_le _ hi.1 hi.2;omega) (by omega)
    refine⟨hz.1,?_⟩
    refine⟨hz.2.1,?_⟩
    refine⟨hz.2.2,?_⟩
    refine⟨?_,hc.below⟩
    rw [A5B,H2]
    rfl
end Go.Proofs.YtfekddndgakneaaGreatDoor
