import Derived.Test.YtefdfaeieekioaaGreatDoorQ02
import Derived.Lib.Builder
import Derived.Lib.AppendStr
import Derived.Shelf.Strings.Builder1
import Derived.Shelf.Small.Strs
import Derived.Shelf.Strings.BuilderF
import Derived.Shelf.Strings.BuilderK
import Derived.Shelf.Strconv.Itoa0
import Derived.Shelf.Strconv.Itoa1
import Derived.Shelf.LaysM
import Derived.Shelf.Strconv.Itoa2
import Derived.Shelf.Strconv.Itoa3
import Derived.Shelf.Strconv.Itoa4
import Derived.Shelf.Strconv.ParseIntEmpty
import Derived.Shelf.Strconv.Clone
import Derived.Shelf.Strconv.SyntaxError
import Derived.Shelf.LaysC
import Derived.Shelf.Strconv.ToError
import Derived.Shelf.Strconv.Lower
import Derived.Shelf.Strconv.ParseUint10
import Derived.Shelf.Strconv.ParseUint10Empty
import Derived.Shelf.Strconv.ParseUint10Any
import Derived.Shelf.Strconv.ParseInt10
import Derived.Shelf.Strconv.RangeError
import Derived.Shelf.Strconv.ToErrorRange
import Derived.Shelf.Strconv.ParseUintEmpty
import Derived.Shelf.Strconv.ParseUint10b64
import Derived.Shelf.Strconv.ParseUint10b32
import Derived.Shelf.Strconv.ParseUint10b16
import Derived.Shelf.Strconv.ParseUint10b8
import Derived.Shelf.Strconv.ParseUint10At
import Derived.Shelf.Strconv.ParseInt10At64
import Derived.Shelf.Strconv.ParseInt10At32
import Derived.Shelf.Strconv.ParseInt10At16
import Derived.Shelf.Strconv.ParseInt10At8
import Derived.Shelf.Strconv.ParseInt10All
import Derived.Shelf.Strconv.ParseIntPublic10
import Derived.Shelf.Strconv.ErrVarParseInt
import Derived.Shelf.Strings.Search1
import Derived.Shelf.Strings.Prefix
import Derived.Ground.Names2Prog
import Derived.Shelf.Slices.Clone
import Derived.Shelf.Slices.Delete
import Derived.Shelf.Slices.Cells
import Derived.Shelf.Slices.Empties
import Derived.Ground.SlgnProg
import Derived.Shelf.SlicesG.SearchI
import Derived.Shelf.SlicesE.Clone
import Derived.Lib.AppendIntMem
import Derived.Lib.ItoaLen
import Derived.Lib.ParseIntBTie
import Derived.Lib.ParseIntBCases
import Derived.Lib.AppendZerosOnto
set_option maxRecDepth 100000
set_option maxHeartbeats 40000000
set_option linter.unusedVariables false
set_option linter.unusedSimpArgs false
namespace Go.Proofs.YtefdfaeieekioaaGreatDoor
open Go.Vc Go.RowKit Go.Fl
structure D where
 kind:Int
 key:ByteArray
 body:ByteArray
 ver:Int
 cond:Int
 tag:ByteArray
 req:Int
 low:Int
def B9 (n:Int):Prop := -9223372036854775808<=n/\n<=9223372036854775807
def U7 (s:ByteArray):Prop:=s.size<=9223372036854775807
structure D.Ok (d:D):Prop where
 kind:B9 d.kind
 key:U7 d.key
 body:U7 d.body
 ver:B9 d.ver
 cond:B9 d.cond
 tag:U7 d.tag
 req:B9 d.req
 low:B9 d.low
def B9m (s:ByteArray):Bool:=(A0y s.data.toList).2
def mt (s:ByteArray):Bool:=D7 s ⟨#[]⟩
def M0 (d:D):Bool:=
 B1d d.key&&!(B7 d.req==0)&&!decide (d.low<0)&&!decide (d.req<d.low)&&
 (if d.kind==1 then d.ver==0&&decide ((d.body.size:Int)<=300)&&decide (0<=d.cond)&&decide (d.cond<=2)&&(B9m d.tag==(d.cond==2))&&(B9m d.tag||mt d.tag)
  else if d.kind==2 then mt d.body&&d.cond==0&&mt d.tag&&d.ver==0
  else if d.kind==3 then mt d.body&&d.cond==0&&mt d.tag&&decide (1<=d.ver)&&decide (d.ver<=1099511627776)
  else false)
theorem A0z (d:D) (a:d.Ok) (w:World):Calls Tryz.prog 50 #[.agg #[.int .i64 d.kind,.string d.key,.string d.body,.int .i64 d.ver,.int .i64 d.cond,.string d.tag,.int .i64 d.req,.int .i64 d.low]] w (D4 (.bool (M0 d)) w):=by
 refine vE Tryz.func50 ?_;intro k n b;have h:=((Ctx.start w no (fun _ a=>a.elim)).loc b).1
 repeat' (first | refine B5 (by assumption) ?_ | refine B4 (by assumption) ?_ | refine Z9 (by decide) ?_ | refine h.c 0 rfl rfl ?_ | (refine B8 (B1e d.key a.key _) ?_;intro m i;have h:=(h.quiet i).1) | (refine B8 (O8 d.req _) ?_;intro l c;have h:=(h.quiet c).1) | (refine B8 (A27 d.tag _) ?_;intro o g;have h:=(h.quiet g).1) | refine A09 (fun _=>?_) (fun _=>?_))
 all_goals (refine⟨C1 ?_,h.below⟩)
 all_goals clear h b
 all_goals simp only [Bool.not_eq_true',Bool.not_eq_false'] at*
 all_goals simp only [M0,B9m,mt, *]
 all_goals first | rfl | (simp;done) | skip
 all_goals (rename_i e f j;rw [f] at e;simp only [e];simp)
inductive V where
 | mk (k n:Int) (s:ByteArray) (l:List V)
mutual
def RepC (S:Nat->Prop) (w:World):V->List Value->Prop
 | .mk k n s l,cs=>∃ A cap xs,cs=[.int .i64 k,.int .i64 n,.string s,.slice A l.length cap]/\RepL S w l xs/\Row S w A l.length cap xs
def RepL (S:Nat->Prop) (w:World):List V->List Value->Prop
 | [],xs=>xs=[]
 | v::r,xs=>∃ cs ys,RepC S w v cs/\RepL S w r ys/\xs=cs++ys
end
mutual
theorem RepC.map {b S:Nat->Prop} {a w:World} (h:∀ {A:Option Addr} {n cap:Nat} {xs:List Value},Row b a A n cap xs->Row S w A n cap xs):∀ {v:V} {c:List Value},RepC b a v c->RepC S w v c
 | .mk k n s l,c,hr=>by rw [RepC] at hr ⊢;obtain⟨A,cap,xs,e,d,f⟩:=hr;exact⟨A,cap,xs,e,RepL.map h d,h f⟩
theorem RepL.map {b S:Nat->Prop} {a w:World} (h:∀ {A:Option Addr} {n cap:Nat} {xs:List Value},Row b a A n cap xs->Row S w A n cap xs):∀ {l:List V} {xs:List Value},RepL b a l xs->RepL S w l xs
 | [],xs,hr=>by rw [RepL] at hr ⊢;exact hr
 | v::r,xs,hr=>by rw [RepL] at hr ⊢;obtain⟨c,y,f,d,e⟩:=hr;exact⟨c,y,RepC.map h f,RepL.map h d,e⟩
end
theorem RepC.len {S:Nat->Prop} {w:World}:∀ {v:V} {c:List Value},RepC S w v c->c.length=4
 | .mk k n s l,c,hr=>by rw [RepC] at hr;obtain⟨A,cap,xs,e,_,_⟩:=hr;rw [e];rfl
theorem RepL.len {S:Nat->Prop} {w:World}:∀ {l:List V} {xs:List Value},RepL S w l xs->xs.length=4*l.length
 | [],xs,hr=>by rw [RepL] at hr;rw [hr];rfl
 | v::r,xs,hr=>by rw [RepL] at hr;obtain⟨c,y,h,a,e⟩:=hr;rw [e,z6,h.len,RepL.len a,zj];omega
theorem RepL.get {S:Nat->Prop} {w:World}:∀ {l:List V} {xs:List Value},RepL S w l xs->∀ (i:Nat) (d:i<l.length),∃ c,RepC S w l[i] c/\∀ j u,c[j]?=some u->xs[i*4+j]?=some u
 | v::r,xs,hr,0,_=>by
  rw [RepL] at hr;obtain⟨c,y,a,f,e⟩:=hr;refine⟨c,a,fun j u h=>?_⟩;have g:j<c.length:=by
   obtain b|b:=zm j c.length
   ·exact b
   ·rw [List.getElem?_eq_none b] at h;cases h
  rw [e,Nat.zero_mul,zn,List.getElem?_append_left g];exact h
 | v::r,xs,hr,i+1,d=>by rw [RepL] at hr;obtain⟨c,y,a,f,e⟩:=hr;obtain⟨s,k,m⟩:=RepL.get f i (Nat.lt_of_succ_lt_succ d);refine⟨s,k,fun j u h=>?_⟩;rw [e,List.getElem?_append_right (by rw [a.len];omega),a.len,show (i+1)*4+j-4=i*4+j from by omega];exact m j u h
theorem RepC.below {S:Nat->Prop} {w a:World} {v:V} {cs:List Value} (h:RepC S w v cs) (b:Below w.heap.size w a):RepC S a v cs:=RepC.map (fun h=>h.below b) h
theorem RepL.below {S:Nat->Prop} {w a:World} {l:List V} {xs:List Value} (h:RepL S w l xs) (b:Below w.heap.size w a):RepL S a l xs:=RepL.map (fun h=>h.below b) h
theorem Rep.elem {S:Nat->Prop} {w:World} {l:List V} {x:List Value} {A:Option Addr} {p:Nat} (h:RepL S w l x) (R:Row S w A l.length p x) (i:Nat) (d:i<l.length):
  ∃ a c,A=some a/\RepC S w l[i] c/\c.length=4/\Go.Vc.cellsAt w (a.add (i*4)) c 0:=by
 obtain⟨c,b,m⟩:=h.get i d;have f:=b.len;have n:=h.len;obtain⟨a,e,g⟩:=R.get (i:=i*4) (by omega);refine⟨a,c,e,b,f,?_⟩;exact A1A g (i*4) c 0 (fun j u k=>by rw [Nat.add_zero];exact m j u k)
def A1m (g:V->Int):List V->Int->Int
 | [],n=>n
 | x::r,n=>if 6000<n+g x then 6001 else A1m g r (n+g x)
def cnt:Nat->V->Int
 | 0,_=>6001
 | f+1,.mk k n s l=>
  if (k==1&&mt s&&((l.length:Int)==0))||(k==2&&n==0&&((l.length:Int)==0)) then 1
  else if k != 3||!(n==0)||!mt s then 6001
  else A1m (cnt f) l 1
theorem E1 (g:V->Int) (x:V) (r:List V) (n:Int):A1m g (x::r) n=if 6000<n+g x then 6001 else A1m g r (n+g x):=by rw [A1m]
theorem A4R (g:V->Int) (h:∀ v,1<=g v):∀ (l:List V) (n:Int),1<=n->n<=6000->1<=A1m g l n/\A1m g l n<=6001
 | [],n,h1,h2=>by unfold A1m;omega
 | x::r,n,h1,h2=>by
  unfold A1m;have:=h x;split
  ·omega
  ·exact A4R g h r _ (by omega) (by omega)
theorem M5:∀ (f:Nat) (v:V),1<=cnt f v/\cnt f v<=6001
 | 0,_=>by unfold cnt;omega
 | f+1,.mk k n s l=>by
  unfold cnt;split
  ·omega
  ·split
   ·omega
   ·exact A4R _ (fun v=>(M5 f v).1) l 1 (by omega) (by omega)
theorem B1q:∀ (f:Nat) (d:Int),d=7-f->f<=6->∀ (v:V) (t:List Value) (S:Nat->Prop) (w:World),RepC S w v t->Calls Tryz.prog 212 #[.agg t.toArray,.int .i64 d] w (D4 (.int .i64 (cnt f v)) w):=by
 intro f;induction f with
 | zero=>
  intro d W hf v t S w r;obtain⟨k,n,s,l⟩:=v;rw [RepC] at r;obtain⟨A,cap,xs,rfl,L,R⟩:=r;refine vE Tryz.func212 ?_;intro F z H;have h:=((Ctx.start w no (fun _ o=>o.elim)).loc H).1;have c:=h.blk 0 rfl;refine vD (.Q [0,1,2,3,4,5,6,7,8,9,10,11,12] .fin) (Keeps (fun E=>E=F) z) (Keeps.start _ _) ?_;refine⟨_,fun a x=>x.cell c rfl rfl,_,fun a x=>x.cell c rfl rfl,_,fun a x=>x.cell c rfl rfl,?_⟩;refine dt (by omega) ?_;exact⟨rfl,h.drew.below⟩
 | succ f Y=>
  intro d W hf v t S w r;obtain⟨k,n,s,l⟩:=v;rw [RepC] at r;obtain⟨A,cap,xs,rfl,L,R⟩:=r;refine vE Tryz.func212 ?_;intro F z H;have h:=((Ctx.start w no (fun _ o=>o.elim)).loc H).1;have c:=h.blk 0 rfl;refine vD (.Q [0,1,2,3,4,5,6,7,8,9,10,11,12] .fin) (Keeps (fun E=>E=F) z) (Keeps.start _ _) ?_;refine⟨_,fun a x=>x.cell c rfl rfl,_,fun a x=>x.cell c rfl rfl,_,fun a x=>x.cell c rfl rfl,?_⟩;refine df (by omega) ?_;have h:=h.drew;have out:∀ a:Int,cnt (f+1) (.mk k n s l)=a->D4 (.int .i64 (cnt (f+1) (.mk k n s l))) w (.returned (.int .i64 a)) z.drew:=fun a e=>⟨by rw [e],h.below⟩;by_cases M:k=3
  ·subst M;refine h.c 0 rfl rfl ?_;refine h.c 0 rfl rfl ?_;refine h.c 0 rfl rfl ?_;cases K:(n==0)
   ·refine out 6001 ?_;simp [cnt,K]
   cases y:mt s
   ·refine B5 (by show (!D7 s ⟨#[]⟩)=true;rw [show D7 s ⟨#[]⟩=false from y];rfl) ?_;refine out 6001 ?_;simp [cnt,y]
   refine B4 (by show (!D7 s ⟨#[]⟩)=false;rw [show D7 s ⟨#[]⟩=true from y];rfl) ?_;have T:cnt (f+1) (.mk 3 n s l)=A1m (cnt f) l 1:=by simp [cnt,K,y]
   rw [T];refine h.c 0 rfl rfl ?_;refine⟨Nat × Int,fun q=>[(1,.int .i64 d),(8,.int .i64 q.2),(56,.slice A l.length cap),(57,.int .i64 l.length),(58,.int .i64 q.1)],
    fun q w'=>q.1<=l.length/\1<=q.2/\q.2<=6000/\A1m (cnt f) (l.drop q.1) q.2=A1m (cnt f) l 1/\Below w.heap.size w w',fun q _=>l.length-q.1,(0,1),
    ⟨rfl,rfl,rfl,rfl,rfl,t6⟩,⟨zb _,by decide,by decide,rfl,h.below⟩,?_⟩
   rintro⟨i,m⟩ w' a2 ⟨hi,a4,a6,b,p⟩;have hM:l.length<=9223372036854775807:=zq (zq R.1 R.2.1) (by decide);by_cases C:i<l.length
   ·refine dt (by show (i:Int)<(l.length:Int);omega) ?_;obtain⟨ad,es,rfl,B,a0,X⟩:=Rep.elem (L.below p) (R.below p) i C;rw [yl C] at b;rw [E1] at b;generalize l[i]=v at*;have a1:=B;obtain⟨g,n',s',j⟩:=v;rw [RepC] at B;obtain⟨A',a5,a3,rfl,_,_⟩:=B;refine⟨⟨by omega,by omega⟩,_,a0,X,?_⟩;intro g5 w5 N;have J:=((Ctx.start w' no (fun _ o=>o.elim)).loc N).1;refine⟨J.may 0 rfl 0 _ (zc 4) rfl,?_⟩;intro Q Z;have D:=(J.set 0 rfl Z).1;refine⟨_,?_,D.cells 0 rfl,?_⟩
    ·rfl
    have U:IntKind.i64.wrap (d+1)=7-(f:Int):=by rw [G8 _ _ (by omega) (by omega)];omega
    refine B8 (Y (IntKind.i64.wrap (d+1)) U (by omega) _ _ S Q (a1.below D.below)) ?_;intro w7 O;have P:=(D.quiet O).1;have I:=p.trans (P.below.mono p.size);have r:=M5 f (.mk g n' s' j);have G:IntKind.i64.wrap (m+cnt f (.mk g n' s' j))=m+cnt f (.mk g n' s' j):=G8 _ _ (by omega) (by omega);by_cases u:6000<m+cnt f (.mk g n' s' j)
    ·refine dt (by rw [G];exact u) ?_;rw [yn u] at b;refine⟨?_,I⟩;rw [<-b];rfl
    ·refine df (by rw [G];exact u) ?_;rw [yo u] at b;refine⟨(i+1,m+cnt f (.mk g n' s' j)),⟨rfl,yb _ G,rfl,rfl,yb _ (C4 (by omega)),t6⟩,⟨C,by show 1<=m+cnt f (.mk g n' s' j);omega,by show m+cnt f (.mk g n' s' j)<=6000;omega,b,I⟩,by show l.length-(i+1)<l.length-i;omega⟩
   ·refine df (by show ¬ (i:Int)<(l.length:Int);omega) ?_;rw [zr (by omega)] at b;refine⟨?_,p⟩;rw [<-b];rfl
  ·have e3:(k != 3)=true:=by simpa using M
   repeat' (first | refine B5 (by assumption) ?_ | refine B4 (by assumption) ?_ | refine Z9 (by decide) ?_ | refine h.c 0 rfl rfl ?_ | refine A09 (fun _=>?_) (fun _=>?_))
   all_goals refine out _ ?_
   all_goals simp [cnt,mt, *]
def A2D (v:V):Bool:=decide (cnt 6 v<=6000)
theorem A83 (v:V) (k n:Int) (s:ByteArray) (A:Option Addr) (l c:Nat) (S:Nat->Prop) (w:World) (r:RepC S w v [.int .i64 k,.int .i64 n,.string s,.slice A l c]):
  Calls Tryz.prog 171 #[.agg #[.int .i64 k,.int .i64 n,.string s,.slice A l c]] w (D4 (.bool (A2D v)) w):=by
 refine vE Tryz.func171 ?_;intro g d e;have h:=((Ctx.start w no (fun _ b=>b.elim)).loc e).1;refine h.a 0 rfl rfl ?_;refine B8 (B1q 6 1 (by decide) (by decide) v _ S d (r.below h.below)) ?_;intro f a;exact⟨rfl,(h.quiet a).1.below⟩
def rsL (g:V->Int × Int):List V->Int->Int->Int × Int
 | [],n,d=>(n,d+1)
 | x::r,n,d=>if (g x).1<0\/6000<n then (-1,0) else rsL g r (n+(g x).1) (max d (g x).2)
def rs:Nat->V->Int × Int
 | 0,_=>(-1,0)
 | f+1,.mk k n s l=>
  if (k==1&&mt s&&((l.length:Int)==0))||(k==2&&n==0&&((l.length:Int)==0)) then (1,1)
  else if k != 3||n != 0||!mt s then (-1,0)
  else rsL (rs f) l 1 0
mutual
def eqV:V->V->Bool
 | .mk k n s l,.mk k' n' s' l'=>k==k'&&n==n'&&D7 s s'&&eqL l l'
def eqL:List V->List V->Bool
 | [],[]=>true
 | x::r,y::t=>eqV x y&&eqL r t
 | [],_::_=>false
 | _::_,[]=>false
end
theorem B1r:∀ (l m:List V),l.length≠m.length->eqL l m=false
 | [],[],h=>absurd rfl h
 | x::r,y::t,h=>by rw [eqL,B1r r t (fun e=>h (by rw [zj,zj,e])),Bool.and_false]
 | [],_::_,_=>by rw [eqL]
 | _::_,[],_=>by rw [eqL]
theorem V.kid {k n:Int} {s:ByteArray} {l:List V} {x:V} (h:x∈l):SizeOf.sizeOf x<SizeOf.sizeOf (V.mk k n s l):=by have:=List.sizeOf_lt_of_mem h;simp only [V.mk.sizeOf_spec];omega
theorem cellsAt_later {w a:World} (b:Below w.heap.size w a) {c:Addr}:∀ (s:List Value) (i:Nat),Go.Vc.cellsAt w c s i->Go.Vc.cellsAt a c s i
 | [],_,_=>trivial
 | _::r,i,h=>⟨cell_later b h.1,cellsAt_later b r (i+1) h.2⟩
theorem A5B (l m:List V) (S:Nat->Prop) (w:World) {A B:Option Addr} {b p:Nat} {n s:List Value} (J:RepL S w l n) (R:Row S w A l.length b n) (L:RepL S w m s) (F:Row S w B m.length p s)
  (Y:∀ x∈l,∀ (y:V) (cx k:List Value) (w':World),RepC S w' x cx->RepC S w' y k->Calls Tryz.prog 181 #[.agg cx.toArray,.agg k.toArray] w' (D4 (.bool (eqV x y)) w')):
  Calls Tryz.prog 222 #[.slice A l.length b,.slice B m.length p,.func (.func 181) #[] #[]] w (D4 (.bool (eqL l m)) w):=by
 refine vE Tryz.func222 ?_;by_cases u:l.length=m.length;rotate_left
 ·refine B5 (by simp;omega) ?_;exact⟨C1 (B1r l m u).symm,Below.refl _ _⟩
 refine B4 (by simp;omega) ?_;have hM:l.length<=9223372036854775807:=zq (zq R.1 R.2.1) (by decide);refine⟨Nat,fun i=>[(1,.slice B m.length p),(2,.func (.func 181) #[] #[]),(15,.slice A l.length b),(16,.int .i64 l.length),(17,.int .i64 i)],
  fun i w'=>i<=l.length/\eqL (l.drop i) (m.drop i)=eqL l m/\Below w.heap.size w w',fun i _=>l.length-i,0,
  ⟨rfl,rfl,rfl,rfl,rfl,t6⟩,⟨zb _,rfl,Below.refl _ _⟩,?_⟩
 rintro i w' a1 ⟨hi,a,h⟩;by_cases t:i<l.length
 ·refine dt (by omega) ?_;obtain⟨ad,es,rfl,r,T,P⟩:=Rep.elem (J.below h) (R.below h) i t;obtain⟨bd,fs,rfl,f,H,U⟩:=Rep.elem (L.below h) (F.below h) i (by omega);rw [yl t,yl (show i<m.length by omega),eqL] at a;have hx:=Y l[i] (List.getElem_mem t);generalize l[i]=x at*;generalize m[i]'(by omega)=y at*;have a0:=r;have E:=f;obtain⟨Z,I,C,K⟩:=x;obtain⟨N,q,D,l2⟩:=y;rw [RepC] at r f;obtain⟨A1,a4,a5,rfl,_,_⟩:=r;obtain⟨A2,a3,a2,rfl,_,_⟩:=f;refine⟨⟨by omega,by omega⟩,_,T,P,?_⟩;intro g5 w5 v;have j:=((Ctx.start w' no (fun _ G=>G.elim)).loc v).1;refine⟨j.may 0 rfl 0 _ (zc 4) rfl,?_⟩;intro w6 Q;have o:=(j.set 0 rfl Q).1;refine⟨⟨by omega,by omega⟩,_,H,cellsAt_later o.below _ 0 U,?_⟩;intro g7 w7 z;have d:=(o.loc z).1;refine⟨d.may 0 rfl 0 _ (zc 4) rfl,?_⟩;intro O W;have c:=(d.set 0 rfl W).1;refine⟨_,?_,c.cells 1 rfl,?_⟩
  ·rfl
  refine⟨_,?_,c.cells 0 rfl,?_⟩
  ·rfl
  refine B8 (hx _ _ _ O (a0.below c.below) (E.below c.below)) ?_;intro w9 M;have X:=(c.quiet M).1;have g:=h.trans (X.below.mono h.size);cases e:eqV (.mk Z I C K) (.mk N q D l2)
  ·refine⟨C1 ?_,g⟩;rw [<-a,e];rfl
  ·refine⟨i+1,⟨rfl,rfl,rfl,rfl,yb _ (C4 (by omega)),t6⟩,⟨t,?_,g⟩,by show l.length-(i+1)<l.length-i;omega⟩;rw [<-a,e];rfl
 ·refine df (by omega) ?_;rw [zr (by omega),zr (by omega)] at a;refine⟨C1 ?_,h⟩;rw [<-a,eqL]
theorem B7i:∀ (N:Nat) (a:V),SizeOf.sizeOf a<N->∀ (b:V) (e f:List Value) (S:Nat->Prop) (w:World),RepC S w a e->RepC S w b f->
  Calls Tryz.prog 181 #[.agg e.toArray,.agg f.toArray] w (D4 (.bool (eqV a b)) w):=by
 intro N;induction N with
 | zero=>intro a g;exact absurd g (Nat.not_lt_zero _)
 | succ N p=>
  intro a F b e f S w i j;obtain⟨u,t,o,l⟩:=a;obtain⟨G,D,I,l2⟩:=b;rw [RepC] at i j;obtain⟨H,Q,T,rfl,B,v⟩:=i;obtain⟨O,M,E,rfl,L,R⟩:=j;refine vE Tryz.func181 ?_;intro U P d K z q;have h:=(((Ctx.start w no (fun _ g=>g.elim)).loc d).1.loc q).1;have r:∀ x∈l,∀ (y:V) (cx c:List Value) (w':World),RepC S w' x cx->RepC S w' y c->Calls Tryz.prog 181 #[.agg cx.toArray,.agg c.toArray] w' (D4 (.bool (eqV x y)) w'):=
   fun x A y cx c w' m d=>p x (by have:=V.kid (k:=u) (n:=t) (s:=o) A;omega) y cx c S w' m d
  repeat' (first | refine B5 (by assumption) ?_ | refine B4 (by assumption) ?_ | refine Z9 (by decide) ?_ | refine h.c 0 rfl rfl ?_ | (refine h.c 1 rfl rfl ?_) | (refine B8 (A5B l l2 S z (B.below h.below) (v.below h.below) (L.below h.below) (R.below h.below) r) ?_;intro J C;have h:=(h.quiet C).1) | refine A09 (fun _=>?_) (fun _=>?_))
  all_goals (refine⟨C1 ?_,h.below⟩)
  all_goals simp only [eqV, *]
  all_goals rfl
theorem A84 (p:Option Addr) (w:World) (o y:Operand):(do eqGuard .eql 241 o y (.pointer p) (.pointer none);Go.binOp .eql 241 (.pointer p) (.pointer none):Sem Value).run Tryz.prog w=.ok (.bool p.isNone) w:=by
 have h:∀ d:Nat,(Op.equalIn (d+1) 241 (.pointer p) (.pointer none)).run Tryz.prog w=.ok p.isNone w:=fun d=>by cases p<;>simp [Op.equalIn,run_underlying Tryz.underlying241]
 cases p<;>simp [eqGuard,Go.binOp,Op.equal,Op.maxDepth,h 9999]
theorem A2E (x:Value) (w:World):(callFunc 284 #[x]).run Tryz.prog w=.ok (.value x) w:=by rw [run_callFunc_extern Tryz.func284 (by kernel_rfl) (by kernel_rfl) (by kernel_rfl) (show Extern.find _=some Extern.AbiNoEscape.same by kernel_rfl)];rfl
theorem B1s (a:Addr) (w:World) (x o:Operand):(do eqGuard .neq 241 x o (.pointer (some a)) (.pointer (some a));Go.binOp .neq 241 (.pointer (some a)) (.pointer (some a)):Sem Value).run Tryz.prog w=.ok (.bool false) w:=by obtain⟨j,h,_,_,_⟩:=info_parts (show (Tryz.prog.info? 243).map (fun i=>(i.zero,i.size,i.bytes))=some (some (.agg #[.pointer none,.slice none 0 0]),2,32) by kernel_rfl);have b:=Lib.run_neq_ptr_same (P:=Tryz.prog) w a Tryz.underlying241 h;simp only [eqGuard];simpa using b
theorem A5C (B b:Nat) (s:List Value) (w:World) (h:Lib.IsBuilder 243 5 B b s w):
  Calls Tryz.prog 256 #[.pointer (some ⟨b,0,none⟩)] w (fun e w'=>e=.returned (.tuple #[])/\Lib.BuilderAt 243 5 B b (.pointer (some ⟨b,0,none⟩)) s w'/\Below B w w'):=by
 refine vE Tryz.func256 ?_;obtain h|h:=h
 ·refine⟨_,h.cell0,_,fun w=>A84 _ w _ _,?_⟩;obtain⟨g,j,_,c,_⟩:=info_parts (show (Tryz.prog.info? 243).map (fun i=>(i.zero,i.size,i.bytes))=some (some (.agg #[.pointer none,.slice none 0 0]),2,32) by kernel_rfl);refine⟨_,_,Lib.run_to_unsafe w _ Tryz.underlying241 Tryz.underlying300 j (by rw [c];decide) h.shape (by show (0:Nat)<2;decide),_,_,A2E _ w,_,_,Lib.run_from_unsafe w _ Tryz.underlying300 Tryz.underlying241 j h.shape (by kernel_rfl),⟨⟨_,h.cell0⟩,h.frozen0,rfl,t6⟩,?_⟩;intro a d;have f:a=w.setCell ⟨b,0,none⟩ (.pointer (some ⟨b,0,none⟩)):=d;subst f;exact⟨rfl,h.used _,(Below.refl B w).setCell (p:=⟨b,0,none⟩) h.1 _⟩
 ·exact⟨_,h.cell0,_,fun w=>A84 _ w _ _,_,h.cell0,_,fun w=>B1s _ w _ _,rfl,h,Below.refl _ _⟩
theorem B4x (B b:Nat) (l:List UInt8) (s:ByteArray) (w:World) (K:Lib.IsBuilder 243 5 B b (bv l) w) (m:B<=w.heap.size) (U:l.length+s.size<=34359738368):
  Calls Tryz.prog 214 #[.pointer (some ⟨b,0,none⟩),.string s] w (fun e w'=>e=.returned (.tuple #[.int .i64 s.size,.nilIface])/\Lib.IsBuilder 243 5 B b (bv (l++s.data.toList)) w'/\Below B w w'):=by
 refine vE Tryz.func214 ?_;refine⟨(A5C B b (bv l) w K).mono fun e r i=>⟨_,i.1,?_⟩⟩;obtain⟨_,q,d⟩:=i;have D:=q.lt;obtain⟨g,L,t,o,u⟩:=q;have shape:∃ A cap,L=.slice A l.length cap:=by
  obtain⟨_,h⟩:=o;rw [A6P] at h;obtain⟨h,f⟩|⟨y,S,G,h,_⟩:=h
  ·exact⟨none,0,by rw [f];exact h⟩
  ·exact⟨_,_,h⟩
 obtain⟨A,cap,rfl⟩:=shape;refine⟨.slice A l.length cap,Lib.cell_of_heap t 1,?_⟩;obtain⟨T,v,M,Q,C⟩:=info_parts A7q;obtain⟨H,w2,R,n,j,_⟩:=Lib.run_append_own_string (P:=Tryz.prog) r B 207 9 207 5 T Tryz.underlying207 Tryz.underlying9 v M Q C _ _ _ o s (by rw [A6P];simp only [maxLen];omega) (by rw [A6P];omega) (zq m d.size);have E:∃ a n' cap',H=.slice a n' cap':=by
  obtain⟨_,h⟩:=n;obtain⟨h,f⟩|⟨y,S,G,h,_⟩:=h
  ·exact⟨_,_,_,h⟩
  ·exact⟨_,_,_,h⟩
 obtain⟨a,n',cap',rfl⟩:=E;refine⟨.slice a n' cap',w2,?_,?_⟩
 ·show (do pure (Next.value (<-Builtin.append_ #[207,9] 207 #[.slice A l.length cap,.string s])):Sem Next).run Tryz.prog r=_;simp only [yf,R,ye,yg]
 have c:w2.heap[b]?=some (.cells #[.pointer (some ⟨b,0,none⟩),.slice A l.length cap] 243 (0,0)):=(j.block b D (fun e=>u e.symm)).trans t;refine⟨⟨⟨_,Lib.cell_of_heap c 1⟩,Lib.frozen_of_heap c 1,rfl,t6⟩,?_⟩;intro O I;have x:O=w2.setCell ⟨b,1,none⟩ (.slice a n' cap'):=I;subst x;have N:bv l++Lib.strCells s=bv (l++s.data.toList):=by rw [A6Q];rfl
 have J:w2.ownsRow B 5 1 (.slice a n' cap') (bv (l++s.data.toList)).length (bv (l++s.data.toList)):=by rw [<-N,z6,Lib.strCells_length];exact n
 have F:Below B w w2:=d.grown j (zq m d.size) (fun k z=>by have:=o.lt k z;exact this.1);refine⟨rfl,.inr (Lib.BuilderAt.put g c J (by decide)),F.setCell (p:=⟨b,1,none⟩) g _⟩
end Go.Proofs.YtefdfaeieekioaaGreatDoor
section
namespace Go.Proofs
open Go.Shelf
def Tryz.lays169_ren:Go.Shelf.Ren:=⟨fun | 169=>215 | n=>n,fun | 70=>241 | 9=>9 | 0=>0 | 72=>243 | 37=>207 | 127=>278 | 3=>3 | 5=>5 | n=>n,fun | n=>n⟩
theorem Tryz.lays169:Go.Proofs.Lays.n169 Tryz.prog Tryz.lays169_ren:={
 mixed:=by kernel_rfl
 f169:=Tryz.func215.trans (yb some (by kernel_rfl))
 t0:=Tryz.underlying0
 a0:=Tryz.isAgg0
 z0:=Tryz.sizeOf0
 v0:=Tryz.zeroValue0
 t3:=Tryz.underlying3
 a3:=Tryz.isAgg3
 z3:=Tryz.sizeOf3
 v3:=Tryz.zeroValue3
 t9:=Tryz.underlying9
 a9:=Tryz.isAgg9
 z9:=Tryz.sizeOf9
 v9:=Tryz.zeroValue9
 t37:=Tryz.underlying207
 a37:=Tryz.isAgg207
 z37:=Tryz.sizeOf207
 v37:=Tryz.zeroValue207
 t70:=Tryz.underlying241
 a70:=Tryz.isAgg241
 z70:=Tryz.sizeOf241
 v70:=Tryz.zeroValue241
 t72:=Tryz.underlying243
 a72:=Tryz.isAgg243
 z72:=Tryz.sizeOf243
 v72:=Tryz.zeroValue243
 t127:=Tryz.underlying278
 a127:=Tryz.isAgg278
 z127:=Tryz.sizeOf278
 v127:=Tryz.zeroValue278 }
theorem Tryz.Builder_Extra_169:Builder.Extra Tryz.prog Tryz.lays169_ren:={
 sizeBuilder:=by kernel_rfl
 liesBuilder:=by kernel_rfl
 t5:=Tryz.underlying5
 a5:=Tryz.isAgg5
 z5:=Tryz.sizeOf5
 v5:=Tryz.zeroValue5
 infoByte:=by kernel_rfl
 cellsByte:=by kernel_rfl
 sizeByte:=by kernel_rfl
 neB5:=by decide }
open Go.RowKit in
theorem Tryz.Builder_String_any (B b:Nat) (l:List UInt8) (w:World) (a:Lib.IsBuilder 243 5 B b (Lib.byteCells l) w) (h:B<=w.heap.size):
  Calls Tryz.prog 215 #[.pointer (some ⟨b,0,none⟩)] w fun e w'=>e=.returned (.string ⟨l.toArray⟩)/\Below B w w':=Any.Builder_String_any Tryz.lays169 Tryz.Builder_Extra_169 B b l w a h
def Tryz.lays137_ren:Go.Shelf.Ren:=⟨fun | 137=>173 | 217=>217 | 266=>258 | n=>n,fun | 9=>9 | 5=>5 | 3=>3 | n=>n,fun | n=>n⟩
theorem Tryz.lays137:Go.Proofs.Lays.n137 Tryz.prog Tryz.lays137_ren:={
 mixed:=by kernel_rfl
 f137:=Tryz.func173.trans (yb some (by kernel_rfl))
 f217:=Tryz.func217.trans (yb some (by kernel_rfl))
 f266:=Tryz.func258.trans (yb some (by kernel_rfl))
 t3:=Tryz.underlying3
 a3:=Tryz.isAgg3
 z3:=Tryz.sizeOf3
 v3:=Tryz.zeroValue3
 t5:=Tryz.underlying5
 a5:=Tryz.isAgg5
 z5:=Tryz.sizeOf5
 v5:=Tryz.zeroValue5
 t9:=Tryz.underlying9
 a9:=Tryz.isAgg9
 z9:=Tryz.sizeOf9
 v9:=Tryz.zeroValue9 }
open Go.RowKit in
theorem Tryz.strings_IndexByte (s:ByteArray) (c:Int) (w:World):
  Calls Tryz.prog 173 #[.string s,.int .u8 c] w fun e w'=>e=.returned (.int .i64 (Lib.indexByte s.data.toList c.toNat.toUInt8))/\w'=w:=Any.strings_IndexByte Tryz.lays137 s c w
def Tryz.laysM171_ren:Go.Shelf.Ren:=⟨fun | 171=>216 | 243=>257 | 246=>255 | 283=>280 | 284=>281 | 285=>282 | 286=>283 | 129=>312 | 317=>311 | 318=>313 | 319=>314 | 320=>315 | 337=>330 | 338=>331 | n=>n,fun | 3=>3 | 9=>9 | 2=>2 | 4=>4 | 171=>294 | 0=>0 | 53=>295 | 37=>207 | 5=>5 | 173=>298 | 212=>330 | 51=>331 | 20=>20 | 213=>332 | 46=>305 | 232=>352 | 233=>353 | n=>n,fun | 17=>2 | 18=>3 | 19=>4 | n=>n⟩
theorem Tryz.laysM171:Go.Proofs.LaysM.n171 Tryz.prog Tryz.laysM171_ren:={
 mixed:=by kernel_rfl
 f129:=Tryz.func312.trans (yb some (by kernel_rfl))
 f171:=Tryz.func216.trans (yb some (by kernel_rfl))
 f243:=Tryz.func257.trans (yb some (by kernel_rfl))
 f246:=Tryz.func255.trans (yb some (by kernel_rfl))
 f283:=Tryz.func280.trans (yb some (by kernel_rfl))
 f284:=Tryz.func281.trans (yb some (by kernel_rfl))
 f285:=Tryz.func282.trans (yb some (by kernel_rfl))
 f286:=Tryz.func283.trans (yb some (by kernel_rfl))
 f317:=Tryz.func311.trans (yb some (by kernel_rfl))
 f318:=Tryz.func313.trans (yb some (by kernel_rfl))
 f319:=Tryz.func314.trans (yb some (by kernel_rfl))
 f320:=Tryz.func315.trans (yb some (by kernel_rfl))
 f337:=Tryz.func330.trans (yb some (by kernel_rfl))
 f338:=Tryz.func331.trans (yb some (by kernel_rfl))
 t0:=Tryz.underlying0
 a0:=Tryz.isAgg0
 z0:=Tryz.sizeOf0
 v0:=Tryz.zeroValue0
 t2:=Tryz.underlying2
 a2:=Tryz.isAgg2
 z2:=Tryz.sizeOf2
 v2:=Tryz.zeroValue2
 t3:=Tryz.underlying3
 a3:=Tryz.isAgg3
 z3:=Tryz.sizeOf3
 v3:=Tryz.zeroValue3
 t4:=Tryz.underlying4
 a4:=Tryz.isAgg4
 z4:=Tryz.sizeOf4
 v4:=Tryz.zeroValue4
 t5:=Tryz.underlying5
 a5:=Tryz.isAgg5
 z5:=Tryz.sizeOf5
 v5:=Tryz.zeroValue5
 t9:=Tryz.underlying9
 a9:=Tryz.isAgg9
 z9:=Tryz.sizeOf9
 v9:=Tryz.zeroValue9
 t20:=Tryz.underlying20
 a20:=Tryz.isAgg20
 z20:=Tryz.sizeOf20
 v20:=Tryz.zeroValue20
 t37:=Tryz.underlying207
 a37:=Tryz.isAgg207
 z37:=Tryz.sizeOf207
 v37:=Tryz.zeroValue207
 t46:=Tryz.underlying305
 a46:=Tryz.isAgg305
 z46:=Tryz.sizeOf305
 v46:=Tryz.zeroValue305
 t51:=Tryz.underlying331
 a51:=Tryz.isAgg331
 z51:=Tryz.sizeOf331
 v51:=Tryz.zeroValue331
 t53:=Tryz.underlying295
 a53:=Tryz.isAgg295
 z53:=Tryz.sizeOf295
 v53:=Tryz.zeroValue295
 t171:=Tryz.underlying294
 a171:=Tryz.isAgg294
 z171:=Tryz.sizeOf294
 v171:=Tryz.zeroValue294
 t173:=Tryz.underlying298
 a173:=Tryz.isAgg298
 z173:=Tryz.sizeOf298
 v173:=Tryz.zeroValue298
 t212:=Tryz.underlying330
 a212:=Tryz.isAgg330
 z212:=Tryz.sizeOf330
 v212:=Tryz.zeroValue330
 t213:=Tryz.underlying332
 a213:=Tryz.isAgg332
 z213:=Tryz.sizeOf332
 t232:=Tryz.underlying352
 a232:=Tryz.isAgg352
 z232:=Tryz.sizeOf352
 v232:=Tryz.zeroValue352
 t233:=Tryz.underlying353
 a233:=Tryz.isAgg353
 z233:=Tryz.sizeOf353
 v233:=Tryz.zeroValue353
 g17:=by kernel_rfl
 g18:=by kernel_rfl
 g19:=by kernel_rfl
 i0:=by kernel_rfl
 i2:=by kernel_rfl
 i3:=by kernel_rfl
 i4:=by kernel_rfl
 i5:=by kernel_rfl
 i9:=by kernel_rfl
 i20:=by kernel_rfl
 i37:=by kernel_rfl
 i46:=by kernel_rfl
 i51:=by kernel_rfl
 i53:=by kernel_rfl
 i171:=by kernel_rfl
 i173:=by kernel_rfl
 i212:=by kernel_rfl
 i232:=by kernel_rfl
 i233:=by kernel_rfl
 m17:=by kernel_rfl
 m18:=by kernel_rfl
 m19:=by kernel_rfl }
open Go.RowKit Go.Sort Go.Lib in
theorem Tryz.strconv_Itoa (n:Int) (h : -9223372036854775808<=n) (a:n<=9223372036854775807) (w:World) (t:Lib.TabIs Tryz.prog w "internal/strconv.uint64pow10" .u64 Lib.pow10Tab):
  Calls Tryz.prog 216 #[.int .i64 n] w fun e w'=>e=.returned (.string ⟨(Lib.itoa n).toArray⟩)/\∃ k os,w'=grow (w.drewN k) os:=Any.strconv_Itoa Tryz.laysM171 n h a w t
def Tryz.laysM173_ren:Go.Shelf.Ren:=⟨fun | 173=>213 | 246=>255 | 283=>280 | 284=>281 | 285=>282 | 286=>283 | 129=>312 | 317=>311 | 318=>313 | 319=>314 | 320=>315 | 337=>330 | 338=>331 | n=>n,fun | 2=>2 | 3=>3 | 9=>9 | 4=>4 | 171=>294 | 0=>0 | 53=>295 | 37=>207 | 5=>5 | 173=>298 | 212=>330 | 51=>331 | 20=>20 | 213=>332 | 46=>305 | 232=>352 | 233=>353 | n=>n,fun | 17=>2 | 18=>3 | 19=>4 | n=>n⟩
theorem Tryz.laysM173:Go.Proofs.LaysM.n173 Tryz.prog Tryz.laysM173_ren:={
 mixed:=by kernel_rfl
 f129:=Tryz.func312.trans (yb some (by kernel_rfl))
 f173:=Tryz.func213.trans (yb some (by kernel_rfl))
 f246:=Tryz.func255.trans (yb some (by kernel_rfl))
 f283:=Tryz.func280.trans (yb some (by kernel_rfl))
 f284:=Tryz.func281.trans (yb some (by kernel_rfl))
 f285:=Tryz.func282.trans (yb some (by kernel_rfl))
 f286:=Tryz.func283.trans (yb some (by kernel_rfl))
 f317:=Tryz.func311.trans (yb some (by kernel_rfl))
 f318:=Tryz.func313.trans (yb some (by kernel_rfl))
 f319:=Tryz.func314.trans (yb some (by kernel_rfl))
 f320:=Tryz.func315.trans (yb some (by kernel_rfl))
 f337:=Tryz.func330.trans (yb some (by kernel_rfl))
 f338:=Tryz.func331.trans (yb some (by kernel_rfl))
 t0:=Tryz.underlying0
 a0:=Tryz.isAgg0
 z0:=Tryz.sizeOf0
 v0:=Tryz.zeroValue0
 t2:=Tryz.underlying2
 a2:=Tryz.isAgg2
 z2:=Tryz.sizeOf2
 v2:=Tryz.zeroValue2
 t3:=Tryz.underlying3
 a3:=Tryz.isAgg3
 z3:=Tryz.sizeOf3
 v3:=Tryz.zeroValue3
 t4:=Tryz.underlying4
 a4:=Tryz.isAgg4
 z4:=Tryz.sizeOf4
 v4:=Tryz.zeroValue4
 t5:=Tryz.underlying5
 a5:=Tryz.isAgg5
 z5:=Tryz.sizeOf5
 v5:=Tryz.zeroValue5
 t9:=Tryz.underlying9
 a9:=Tryz.isAgg9
 z9:=Tryz.sizeOf9
 v9:=Tryz.zeroValue9
 t20:=Tryz.underlying20
 a20:=Tryz.isAgg20
 z20:=Tryz.sizeOf20
 v20:=Tryz.zeroValue20
 t37:=Tryz.underlying207
 a37:=Tryz.isAgg207
 z37:=Tryz.sizeOf207
 v37:=Tryz.zeroValue207
 t46:=Tryz.underlying305
 a46:=Tryz.isAgg305
 z46:=Tryz.sizeOf305
 v46:=Tryz.zeroValue305
 t51:=Tryz.underlying331
 a51:=Tryz.isAgg331
 z51:=Tryz.sizeOf331
 v51:=Tryz.zeroValue331
 t53:=Tryz.underlying295
 a53:=Tryz.isAgg295
 z53:=Tryz.sizeOf295
 v53:=Tryz.zeroValue295
 t171:=Tryz.underlying294
 a171:=Tryz.isAgg294
 z171:=Tryz.sizeOf294
 v171:=Tryz.zeroValue294
 t173:=Tryz.underlying298
 a173:=Tryz.isAgg298
 z173:=Tryz.sizeOf298
 v173:=Tryz.zeroValue298
 t212:=Tryz.underlying330
 a212:=Tryz.isAgg330
 z212:=Tryz.sizeOf330
 v212:=Tryz.zeroValue330
 t213:=Tryz.underlying332
 a213:=Tryz.isAgg332
 z213:=Tryz.sizeOf332
 t232:=Tryz.underlying352
 a232:=Tryz.isAgg352
 z232:=Tryz.sizeOf352
 v232:=Tryz.zeroValue352
 t233:=Tryz.underlying353
 a233:=Tryz.isAgg353
 z233:=Tryz.sizeOf353
 v233:=Tryz.zeroValue353
 g17:=by kernel_rfl
 g18:=by kernel_rfl
 g19:=by kernel_rfl
 i0:=by kernel_rfl
 i2:=by kernel_rfl
 i3:=by kernel_rfl
 i4:=by kernel_rfl
 i5:=by kernel_rfl
 i9:=by kernel_rfl
 i20:=by kernel_rfl
 i37:=by kernel_rfl
 i46:=by kernel_rfl
 i51:=by kernel_rfl
 i53:=by kernel_rfl
 i171:=by kernel_rfl
 i173:=by kernel_rfl
 i212:=by kernel_rfl
 i232:=by kernel_rfl
 i233:=by kernel_rfl
 m17:=by kernel_rfl
 m18:=by kernel_rfl
 m19:=by kernel_rfl }
open Go.RowKit Go.Sort Go.Lib in
theorem Tryz.strconv_FormatInt_10 (n:Int) (h : -9223372036854775808<=n) (a:n<=9223372036854775807) (w:World) (t:Lib.TabIs Tryz.prog w "internal/strconv.uint64pow10" .u64 Lib.pow10Tab):
  Calls Tryz.prog 213 #[.int .i64 n,.int .i64 10] w fun e w'=>e=.returned (.string ⟨(Lib.itoa n).toArray⟩)/\∃ k os,w'=grow (w.drewN k) os:=Any.strconv_FormatInt_10 Tryz.laysM173 n h a w t
def Tryz.laysC174_ren:Go.Shelf.Ren:=⟨fun | 174=>286 | 247=>317 | 245=>318 | 287=>332 | 279=>333 | 280=>334 | 281=>335 | 282=>336 | 321=>341 | 322=>342 | 316=>343 | 171=>216 | 205=>344 | 243=>257 | 246=>255 | 283=>280 | 284=>281 | 285=>282 | 286=>283 | 129=>312 | 317=>311 | 318=>313 | 319=>314 | 320=>315 | 337=>330 | 338=>331 | n=>n,fun | 9=>9 | 3=>3 | 2=>2 | 75=>245 | 85=>303 | 4=>4 | 167=>343 | 5=>5 | 53=>295 | 175=>344 | 46=>305 | 168=>346 | 37=>207 | 0=>0 | 210=>356 | 21=>21 | 127=>278 | 145=>360 | 143=>358 | 171=>294 | 173=>298 | 212=>330 | 51=>331 | 20=>20 | 213=>332 | 232=>352 | 233=>353 | 80=>113 | n=>n,fun | 15=>5 | 16=>6 | 17=>2 | 18=>3 | 19=>4 | n=>n⟩
theorem Tryz.laysC174:Go.Proofs.LaysC.n174 Tryz.prog Tryz.laysC174_ren:={
 mixed:=by kernel_rfl
 f129:=Tryz.func312.trans (yb some (by kernel_rfl))
 f171:=Tryz.func216.trans (yb some (by kernel_rfl))
 f174:=Tryz.func286.trans (yb some (by kernel_rfl))
 f205:=Tryz.func344.trans (yb some (by kernel_rfl))
 f243:=Tryz.func257.trans (yb some (by kernel_rfl))
 f245:=Tryz.func318.trans (yb some (by kernel_rfl))
 f246:=Tryz.func255.trans (yb some (by kernel_rfl))
 f247:=Tryz.func317.trans (yb some (by kernel_rfl))
 f279:=Tryz.func333.trans (yb some (by kernel_rfl))
 f280:=Tryz.func334.trans (yb some (by kernel_rfl))
 f281:=Tryz.func335.trans (yb some (by kernel_rfl))
 f282:=Tryz.func336.trans (yb some (by kernel_rfl))
 f283:=Tryz.func280.trans (yb some (by kernel_rfl))
 f284:=Tryz.func281.trans (yb some (by kernel_rfl))
 f285:=Tryz.func282.trans (yb some (by kernel_rfl))
 f286:=Tryz.func283.trans (yb some (by kernel_rfl))
 f287:=Tryz.func332.trans (yb some (by kernel_rfl))
 f316:=Tryz.func343.trans (yb some (by kernel_rfl))
 f317:=Tryz.func311.trans (yb some (by kernel_rfl))
 f318:=Tryz.func313.trans (yb some (by kernel_rfl))
 f319:=Tryz.func314.trans (yb some (by kernel_rfl))
 f320:=Tryz.func315.trans (yb some (by kernel_rfl))
 f321:=Tryz.func341.trans (yb some (by kernel_rfl))
 f322:=Tryz.func342.trans (yb some (by kernel_rfl))
 f337:=Tryz.func330.trans (yb some (by kernel_rfl))
 f338:=Tryz.func331.trans (yb some (by kernel_rfl))
 t0:=Tryz.underlying0
 a0:=Tryz.isAgg0
 z0:=Tryz.sizeOf0
 v0:=Tryz.zeroValue0
 t2:=Tryz.underlying2
 a2:=Tryz.isAgg2
 z2:=Tryz.sizeOf2
 v2:=Tryz.zeroValue2
 t3:=Tryz.underlying3
 a3:=Tryz.isAgg3
 z3:=Tryz.sizeOf3
 v3:=Tryz.zeroValue3
 t4:=Tryz.underlying4
 a4:=Tryz.isAgg4
 z4:=Tryz.sizeOf4
 v4:=Tryz.zeroValue4
 t5:=Tryz.underlying5
 a5:=Tryz.isAgg5
 z5:=Tryz.sizeOf5
 v5:=Tryz.zeroValue5
 t9:=Tryz.underlying9
 a9:=Tryz.isAgg9
 z9:=Tryz.sizeOf9
 v9:=Tryz.zeroValue9
 t20:=Tryz.underlying20
 a20:=Tryz.isAgg20
 z20:=Tryz.sizeOf20
 v20:=Tryz.zeroValue20
 t21:=Tryz.underlying21
 a21:=Tryz.isAgg21
 z21:=Tryz.sizeOf21
 v21:=Tryz.zeroValue21
 t37:=Tryz.underlying207
 a37:=Tryz.isAgg207
 z37:=Tryz.sizeOf207
 v37:=Tryz.zeroValue207
 t46:=Tryz.underlying305
 a46:=Tryz.isAgg305
 z46:=Tryz.sizeOf305
 v46:=Tryz.zeroValue305
 t51:=Tryz.underlying331
 a51:=Tryz.isAgg331
 z51:=Tryz.sizeOf331
 v51:=Tryz.zeroValue331
 t53:=Tryz.underlying295
 a53:=Tryz.isAgg295
 z53:=Tryz.sizeOf295
 v53:=Tryz.zeroValue295
 t75:=Tryz.underlying245
 a75:=Tryz.isAgg245
 z75:=Tryz.sizeOf245
 v75:=Tryz.zeroValue245
 t85:=Tryz.underlying303
 a85:=Tryz.isAgg303
 z85:=Tryz.sizeOf303
 v85:=Tryz.zeroValue303
 t127:=Tryz.underlying278
 a127:=Tryz.isAgg278
 z127:=Tryz.sizeOf278
 v127:=Tryz.zeroValue278
 t143:=Tryz.underlying358
 a143:=Tryz.isAgg358
 z143:=Tryz.sizeOf358
 v143:=Tryz.zeroValue358
 t145:=Tryz.underlying360
 a145:=Tryz.isAgg360
 z145:=Tryz.sizeOf360
 v145:=Tryz.zeroValue360
 t167:=Tryz.underlying343
 a167:=Tryz.isAgg343
 z167:=Tryz.sizeOf343
 v167:=Tryz.zeroValue343
 t168:=Tryz.underlying346
 a168:=Tryz.isAgg346
 z168:=Tryz.sizeOf346
 v168:=Tryz.zeroValue346
 t171:=Tryz.underlying294
 a171:=Tryz.isAgg294
 z171:=Tryz.sizeOf294
 v171:=Tryz.zeroValue294
 t173:=Tryz.underlying298
 a173:=Tryz.isAgg298
 z173:=Tryz.sizeOf298
 v173:=Tryz.zeroValue298
 t175:=Tryz.underlying344
 a175:=Tryz.isAgg344
 z175:=Tryz.sizeOf344
 v175:=Tryz.zeroValue344
 t210:=Tryz.underlying356
 a210:=Tryz.isAgg356
 z210:=Tryz.sizeOf356
 v210:=Tryz.zeroValue356
 t212:=Tryz.underlying330
 a212:=Tryz.isAgg330
 z212:=Tryz.sizeOf330
 v212:=Tryz.zeroValue330
 t213:=Tryz.underlying332
 a213:=Tryz.isAgg332
 z213:=Tryz.sizeOf332
 t232:=Tryz.underlying352
 a232:=Tryz.isAgg352
 z232:=Tryz.sizeOf352
 v232:=Tryz.zeroValue352
 t233:=Tryz.underlying353
 a233:=Tryz.isAgg353
 z233:=Tryz.sizeOf353
 v233:=Tryz.zeroValue353
 g15:=by kernel_rfl
 g16:=by kernel_rfl
 g17:=by kernel_rfl
 g18:=by kernel_rfl
 g19:=by kernel_rfl
 t80:=Tryz.underlying113
 a80:=Tryz.isAgg113
 z80:=Tryz.sizeOf113
 v80:=Tryz.zeroValue113
 i0:=by kernel_rfl
 i2:=by kernel_rfl
 i3:=by kernel_rfl
 i4:=by kernel_rfl
 i5:=by kernel_rfl
 i9:=by kernel_rfl
 i20:=by kernel_rfl
 i21:=by kernel_rfl
 i37:=by kernel_rfl
 i46:=by kernel_rfl
 i51:=by kernel_rfl
 i53:=by kernel_rfl
 i75:=by kernel_rfl
 i80:=by kernel_rfl
 i85:=by kernel_rfl
 i127:=by kernel_rfl
 i143:=by kernel_rfl
 i145:=by kernel_rfl
 i167:=by kernel_rfl
 i168:=by kernel_rfl
 i171:=by kernel_rfl
 i173:=by kernel_rfl
 i175:=by kernel_rfl
 i210:=by kernel_rfl
 i212:=by kernel_rfl
 i232:=by kernel_rfl
 i233:=by kernel_rfl
 m15:=by kernel_rfl
 m16:=by kernel_rfl
 m17:=by kernel_rfl
 m18:=by kernel_rfl
 m19:=by kernel_rfl
 c0:=by kernel_rfl
 c2:=by kernel_rfl
 c3:=by kernel_rfl
 c4:=by kernel_rfl
 c5:=by kernel_rfl
 c9:=by kernel_rfl
 c20:=by kernel_rfl
 c21:=by kernel_rfl
 c37:=by kernel_rfl
 c46:=by kernel_rfl
 c51:=by kernel_rfl
 c53:=by kernel_rfl
 c75:=by kernel_rfl
 c80:=by kernel_rfl
 c85:=by kernel_rfl
 c127:=by kernel_rfl
 c143:=by kernel_rfl
 c145:=by kernel_rfl
 c167:=by kernel_rfl
 c168:=by kernel_rfl
 c171:=by kernel_rfl
 c173:=by kernel_rfl
 c175:=by kernel_rfl
 c210:=by kernel_rfl
 c212:=by kernel_rfl
 c213:=by kernel_rfl
 c232:=by kernel_rfl
 c233:=by kernel_rfl }
open Go.RowKit in
theorem Tryz.strconv_ParseInt_10_at64_ok (s:ByteArray) (m:s.size<=9223372036854775806) (v:Int) (h:Lib.parseIntB 64 s.data.toList=.ok v) (w:World):
  Calls Tryz.prog 286 #[.string s,.int .i64 10,.int .i64 64] w fun e w'=>e=.returned (.tuple #[.int .i64 v,.nilIface])/\(w'=w\/∃ t,w'=Lib.bytesWorld w 5 t):=Any.strconv_ParseInt_10_at64_ok Tryz.laysC174 s m v h w
open Go.RowKit in
theorem Tryz.strconv_ParseInt_10_at64_range_var (s:ByteArray) (l:s.size<=281474976710656) (a:Lib.parseIntB 64 s.data.toList=.range) (t:TypeId) (p:Value) (w:World) (h:w.var? Tryz.prog "strconv.ErrRange"=some #[.iface t p]):
  Calls Tryz.prog 286 #[.string s,.int .i64 10,.int .i64 64] w fun e w'=>∃ N,e=.returned (.tuple #[.int .i64 (Lib.intSat 64 s.data.toList),.iface 346 (.pointer (some ⟨N,0,none⟩))])/\w.heap.size<=N/\w'.heap[N]?=some (.cells #[.string ⟨#[80,97,114,115,101,73,110,116]⟩,.string s,.iface t p] 356 (0,0))/\Below w.heap.size w w':=Any.strconv_ParseInt_10_at64_range_var Tryz.laysC174 s l a t p w h
end Go.Proofs
end
namespace Go.Proofs.YtefdfaeieekioaaGreatDoor
open Go.Vc Go.RowKit Go.Fl
def Tab (w:World):Prop:=Lib.TabIs Tryz.prog w "internal/strconv.uint64pow10" .u64 Lib.pow10Tab
theorem Tab.below {w w':World} (h:Tab w) (c:Below w.heap.size w w'):Tab w':=by
 unfold Tab Lib.TabIs World.var? at*;cases b:Tryz.prog.globalNamed "internal/strconv.uint64pow10" with
 | none=>simp [b] at h
 | some g=>
  simp only [b,Option.bind_some] at h ⊢;have l:g<w.heap.size:=by
   obtain a|a:=zm g w.heap.size
   ·exact a
   ·rw [Array.getElem?_eq_none a] at h;cases h
  rw [c.block g l];exact h
theorem A4S {w w':World} (h:∃ k o,w'=Sort.grow (w.drewN k) o):Below w.heap.size w w':=by obtain⟨k,o,rfl⟩:=h;exact Lib.below_grow _ _ (zc _) _ _
mutual
def L4:V->List UInt8
 | .mk k n s l=>
  let t:=if k==1 then Lib.itoa n else if k==3 then Q1 l else s.data.toList
  Lib.itoa (t.length:Int)++58::(t++[if k==1 then 35 else if k==3 then 93 else 44])
def Q1:List V->List UInt8
 | []=>[]
 | v::r=>L4 v++Q1 r
end
mutual
def okV:V->Prop
 | .mk k n s l=>B9 n/\okL l
def okL:List V->Prop
 | []=>True
 | v::r=>okV v/\okL r
end
theorem A2Y (n:Int) (a:B9 n) (w:World) (t:Tab w):Calls Tryz.prog 216 #[.int .i64 n] w (D4 (.string ⟨(Lib.itoa n).toArray⟩) w):=
 (Tryz.strconv_Itoa n a.1 a.2 w t).mono fun e w' h=>⟨h.1,A4S h.2⟩
theorem A7r (n:Int) (a:B9 n) (w:World) (t:Tab w):Calls Tryz.prog 213 #[.int .i64 n,.int .i64 10] w (D4 (.string ⟨(Lib.itoa n).toArray⟩) w):=
 (Tryz.strconv_FormatInt_10 n a.1 a.2 w t).mono fun e w' h=>⟨h.1,A4S h.2⟩
theorem A2S (l:List V) (i:Nat) (h:i<l.length):Q1 (l.take i)++L4 l[i]=Q1 (l.take (i+1)):=by
 induction l generalizing i with
 | nil=>exact absurd h (Nat.not_lt_zero _)
 | cons v r a=>
  cases i with
  | zero=>simp [Q1]
  | succ i=>
   simp only [List.take_succ_cons,Q1,List.getElem_cons_succ,zw];rw [a i (Nat.lt_of_succ_lt_succ h)]
theorem A6V (l:List V):∀ i,(Q1 (l.take i)).length<=(Q1 l).length:=by
 induction l with
 | nil=>intro i;simp
 | cons v r h=>
  intro i;cases i with
  | zero=>simp [Q1]
  | succ i=>simp only [List.take_succ_cons,Q1,z6];have:=h i;omega
theorem A7s:∀ {l:List V} {v:V},okL l->v∈l->okV v
 | x::r,v,h,m=>by
  rw [okL] at h;cases m with
  | head=>exact h.1
  | tail _ m=>exact A7s h.2 m
theorem Y1:∀ {l:List V} {v:V},v∈l->(L4 v).length<=(Q1 l).length
 | x::r,v,h=>by
  rw [Q1,z6];cases h with
  | head=>omega
  | tail _ h=>have:=Y1 h;omega
theorem A5D (a t:List UInt8) (e:UInt8):((⟨a.toArray⟩++⟨#[58]⟩:ByteArray)++⟨t.toArray⟩)++⟨#[e]⟩=⟨(a++58::(t++[e])).toArray⟩:=by have c:(⟨#[58]⟩:ByteArray)=⟨([58]:List UInt8).toArray⟩:=rfl;have b:(⟨#[e]⟩:ByteArray)=⟨[e].toArray⟩:=rfl;rw [c,b,A0I,A0I,A0I];simp
theorem A1n (a t:List UInt8) (e:UInt8) (c:a.length<=100) (h:t.length<=1073741824):
  (⟨a.toArray⟩:ByteArray).size+(⟨#[58]⟩:ByteArray).size<=9223372036854775807/\(⟨a.toArray⟩++⟨#[58]⟩:ByteArray).size+(⟨t.toArray⟩:ByteArray).size<=9223372036854775807/\
  ((⟨a.toArray⟩++⟨#[58]⟩:ByteArray)++⟨t.toArray⟩).size+(⟨#[e]⟩:ByteArray).size<=9223372036854775807:=by
 have g:(⟨#[58]⟩:ByteArray).size=1:=rfl;have f:(⟨#[e]⟩:ByteArray).size=1:=rfl;have d:(⟨a.toArray⟩:ByteArray).size=a.length:=I5 a;have b:(⟨t.toArray⟩:ByteArray).size=t.length:=I5 t;simp only [ByteArray.size_append];omega
theorem A7t {T e:TypeId} {B b:Nat} {s:List Value} {w w':World} (a:Lib.IsBuilder T e B b s w) (h:Below w.heap.size w w'):Lib.IsBuilder T e B b s w':=by
 have one:∀ p,Lib.BuilderAt T e B b p s w->Lib.BuilderAt T e B b p s w':=fun p a=>by
  have l:=a.lt;obtain⟨d,v,f,o,n⟩:=a;refine⟨d,v,(h.block b l).trans f,?_,n⟩;refine o.kept (row:=none) ⟨h.os,h.tape,h.output,h.size,fun k c _=>h.block k c⟩ ?_;cases hv:v.ownBlock with
  | none=>exact .inl rfl
  | some k=>exact .inr (by simp)
 exact a.imp (one _) (one _)
theorem B7j:∀ (N:Nat) (v:V),SizeOf.sizeOf v<N->okV v->(L4 v).length<=1073741824->∀ (r:List Value) (S:Nat->Prop) (w:World),RepC S w v r->Tab w->
  Calls Tryz.prog 172 #[.agg r.toArray] w (D4 (.string ⟨(L4 v).toArray⟩) w):=by
 intro N;induction N with
 | zero=>intro v d;exact absurd d (Nat.not_lt_zero _)
 | succ N ih=>
  intro v hN o g r S w H f;obtain⟨k,n,s,l⟩:=v;rw [RepC] at H;obtain⟨A,cap,xs,rfl,U,R⟩:=H;rw [okV] at o;refine vE Tryz.func172 ?_;intro g2 w2 h2;have h:=((Ctx.start w no (fun _ d=>d.elim)).loc h2).1;refine h.c 0 rfl rfl ?_;refine h.c 0 rfl rfl ?_;by_cases L:k=1
  ·subst L;refine h.c 0 rfl rfl ?_;refine h.q (A7r n o.1 _ (f.below h.below)) fun w3 q h=>?_;have hl:(Lib.itoa n).length<=21:=Lib.itoa_length_le n o.1.1 o.1.2;have a:B9 (((⟨(Lib.itoa n).toArray⟩:ByteArray).size:Nat):Int):=by rw [I5];unfold B9;omega
   refine h.q (A2Y _ a _ (f.below h.below)) fun Q W h=>?_;have z:=A1n (Lib.itoa (((⟨(Lib.itoa n).toArray⟩:ByteArray).size:Nat):Int)) (Lib.itoa n) 35 (by have:=Lib.itoa_length_le _ a.1 a.2;omega) (by omega);refine⟨z.1,z.2.1,z.2.2,?_,h.below⟩;rw [A5D,I5,L4];rfl
  ·by_cases I:k=3
   ·subst I;have ev:L4 (.mk 3 n s l)=Lib.itoa ((Q1 l).length:Int)++58::(Q1 l++[93]):=by rw [L4];rfl
    rw [ev] at g ⊢;simp only [z6,zj] at g;intro gb w3 q;have hM:l.length<=9223372036854775807:=zq (zq R.1 R.2.1) (by decide);have h:=(h.loc q).1;have a1:w.heap.size<=gb:=by have:=h.locs.1;exact this
    have ib:Lib.IsBuilder 243 5 w.heap.size gb (bv (Q1 (l.take 0))) w3:=.inl ⟨a1,.slice none 0 0,q.blk,World.ownsRow_nil _ _ _ _,by simp [Value.ownBlock]⟩;refine h.c 1 rfl rfl ?_;refine⟨Nat,fun i=>[(5,.pointer (some ⟨gb,0,none⟩)),(20,.slice A l.length cap),(21,.int .i64 l.length),(22,.int .i64 i)],
     fun i w'=>i<=l.length/\Lib.IsBuilder 243 5 w.heap.size gb (bv (Q1 (l.take i))) w'/\Below w.heap.size w w',fun i _=>l.length-i,0,
     ⟨rfl,rfl,rfl,rfl,t6⟩,⟨zb _,ib,h.below⟩,?_⟩
    rintro i w' a3 ⟨a,B,b⟩;by_cases j:i<l.length
    ·refine dt (by omega) ?_;obtain⟨ad,es,rfl,u,a0,Z⟩:=Rep.elem (U.below b) (R.below b) i j;have y:=List.getElem_mem j;have F:=A2S l i j;have a5:=A6V l (i+1);generalize l[i]=x at*;have a2:=u;obtain⟨K,n',s',M⟩:=x;rw [RepC] at u;obtain⟨A',a6,a4,rfl,_,_⟩:=u;refine⟨⟨by omega,by omega⟩,_,a0,Z,?_⟩;intro g5 w5 O;have G:=((Ctx.start w' no (fun _ d=>d.elim)).loc O).1;refine⟨G.may 0 rfl 0 _ (zc 4) rfl,?_⟩;intro T h6;have m:=(G.set 0 rfl h6).1;refine⟨_,?_,m.cells 0 rfl,?_⟩
     ·rfl
     refine B8 (ih (.mk K n' s' M) (by have:=V.kid (k:=3) (n:=n) (s:=s) y;omega) (A7s o.2 y) (by have:=Y1 y;omega) _ S T (a2.below m.below) ((f.below b).below m.below)) ?_;intro w7 P;have E:=(m.quiet P).1;have D:=b.trans (E.below.mono b.size);refine⟨(B4x w.heap.size gb (Q1 (l.take i)) ⟨(L4 (.mk K n' s' M)).toArray⟩ w7 (A7t B E.below) D.size (by rw [I5,<-z6,F];omega)).mono fun e Y c=>⟨_,c.1,?_⟩⟩;refine⟨i+1,⟨rfl,rfl,rfl,yb _ (C4 (by omega)),t6⟩,⟨j,?_,D.trans c.2.2⟩,by show l.length-(i+1)<l.length-i;omega⟩;rw [<-F];exact c.2.1
    ·refine df (by omega) ?_;rw [ym (by omega)] at B;refine⟨(Tryz.Builder_String_any w.heap.size gb (Q1 l) w' B b.size).mono fun e Y c=>⟨_,c.1,?_⟩⟩;have p:=b.trans c.2;have a:B9 (((⟨(Q1 l).toArray⟩:ByteArray).size:Nat):Int):=by rw [I5];unfold B9;omega
     refine B8 (A2Y _ a _ (f.below p)) ?_;intro w9 X;have z:=A1n (Lib.itoa (((⟨(Q1 l).toArray⟩:ByteArray).size:Nat):Int)) (Q1 l) 93 (by have:=Lib.itoa_length_le _ a.1 a.2;omega) (by omega);refine⟨z.1,z.2.1,z.2.2,?_,p.trans (X.mono p.size)⟩;rw [A5D,I5];rfl
   ·have J:(k==1)=false:=by simpa using L
    have C:(k==3)=false:=by simpa using I
    refine B4 J ?_;refine B4 C ?_;obtain⟨t,rfl⟩:∃ t:List UInt8,s=⟨t.toArray⟩:=⟨s.data.toList,by apply ByteArray.ext;simp⟩;have ev:L4 (.mk k n ⟨t.toArray⟩ l)=Lib.itoa (t.length:Int)++58::(t++[44]):=by rw [L4];simp [J,C]
    rw [ev] at g ⊢;simp only [z6,zj] at g;have a:B9 (((⟨t.toArray⟩:ByteArray).size:Nat):Int):=by rw [I5];unfold B9;omega
    refine h.q (A2Y _ a _ (f.below h.below)) fun Q W h=>?_;have z:=A1n (Lib.itoa (((⟨t.toArray⟩:ByteArray).size:Nat):Int)) t 44 (by have:=Lib.itoa_length_le _ a.1 a.2;omega) (by omega);refine⟨z.1,z.2.1,z.2.2,?_,h.below⟩;rw [A5D,I5];rfl
def dgt (c:UInt8):Bool:=decide (48<=c.toNat)&&decide (c.toNat<=57)
theorem P8 {c:UInt8}:dgt c=true↔48<=c.toNat/\c.toNat<=57:=by simp [dgt]
def A5E (a:Nat) (l:List UInt8):Nat:=l.foldl (fun a c=>10*a+(c.toNat-48)) a
theorem A0J (a:Nat) (c:UInt8) (l:List UInt8):A5E a (c::l)=A5E (10*a+(c.toNat-48)) l:=by unfold A5E;rw [List.foldl_cons]
theorem A6W (a:Nat) (l:List UInt8) (c:UInt8):A5E a (l++[c])=10*A5E a l+(c.toNat-48):=by simp [A5E]
theorem A7u:∀ (l:List UInt8) (a:Nat),a<=A5E a l
 | [],a=>zc _
 | c::r,a=>by rw [A0J];have:=A7u r (10*a+(c.toNat-48));omega
theorem O9 (n:Nat) (h:n<256):(UInt8.ofNat n).toNat=n:=by rw [UInt8.toNat_ofNat'];exact Nat.mod_eq_of_lt h
theorem A85 {c:UInt8} (h:dgt c=true):UInt8.ofNat (48+(c.toNat-48))=c:=by rw [P8] at h;rw [show 48+(c.toNat-48)=c.toNat by omega];exact UInt8.ofNat_toNat
theorem A5F:∀ (N:Nat) (l:List UInt8),l.length<=N->l≠[]->(∀ c∈l,dgt c=true)->(∀ c r,l=c::r->r≠[]->c≠48)->Lib.decDigits (A5E 0 l)=l:=by
 intro N;induction N with
 | zero=>intro l q m;exact absurd (zo (by omega)) m
 | succ N k=>
  intro l i n h z;obtain rfl|⟨j,c,d⟩:=List.eq_nil_or_concat l
  ·exact absurd rfl n
  rw [List.concat_eq_append] at d;subst d;have a:dgt c=true:=h c (by simp);have v:=P8.1 a;rw [A6W];cases j with
  | nil=>
   have e:10*A5E 0 []+(c.toNat-48)=c.toNat-48:=by simp [A5E]
   rw [e,Lib.decDigits,dif_pos (by omega),A85 a];rfl
  | cons b r=>
   have g:dgt b=true:=h b (by simp);have p:=P8.1 g;have f:b≠48:=z b (r++[c]) rfl (by simp);have s:b.toNat≠48:=fun e=>f (UInt8.toNat_inj.1 e);have t:1<=A5E 0 (b::r):=by rw [A0J];have:=A7u r (10*0+(b.toNat-48));omega
   rw [Lib.decDigits,dif_neg (by omega),show (10*A5E 0 (b::r)+(c.toNat-48)) / 10=A5E 0 (b::r) by omega,show (10*A5E 0 (b::r)+(c.toNat-48)) % 10=c.toNat-48 by omega,
    A85 a,k (b::r) (by simp at i ⊢;omega) (by simp) (fun x o=>h x (List.mem_append_left _ o)) (fun x u e y=>by cases e;exact f)]
theorem W2 (u:Nat):Lib.decDigits u≠[]/\(∀ c∈Lib.decDigits u,dgt c=true)/\A5E 0 (Lib.decDigits u)=u/\∀ c r,Lib.decDigits u=c::r->r≠[]->c≠48:=by
 induction u using Nat.strongRecOn with
 | _ u j=>
  by_cases b:u<10
  ·rw [Lib.decDigits,dif_pos b];have e:=O9 (48+u) (by omega);refine⟨by simp,fun c h=>?_,?_,fun c r e f=>?_⟩
   ·rw [zy] at h;subst h;rw [P8,e];omega
   ·show 10*0+((UInt8.ofNat (48+u)).toNat-48)=u;rw [e];omega
   ·cases e;exact absurd rfl f
  ·obtain⟨i,l,a,k⟩:=j (u / 10) (by omega);rw [Lib.decDigits,dif_neg b];have e:=O9 (48+u % 10) (by omega);refine⟨by simp,fun c h=>?_,?_,fun c r e f=>?_⟩
   ·rw [List.mem_append,zy] at h;obtain h|h:=h
    ·exact l c h
    ·subst h;rw [P8,e];omega
   ·rw [A6W,a,e];omega
   ·cases d:Lib.decDigits (u / 10) with
    | nil=>exact absurd d i
    | cons m t=>
     rw [d] at e;cases e;cases t with
     | nil=>
      rw [d] at a;intro g;subst g;have:(u / 10)=0:=a.symm;omega
     | cons x y=>exact k c _ d (by simp)
def U8:List UInt8->Nat->Nat->Nat × Nat × Int
 | [],_,_=>(0,0,2)
 | c::r,i,n=>if c=58/\0<i then (n,i+1,0) else if dgt c=false\/7<=i\/(0<i/\n=0) then (0,0,1) else U8 r (i+1) (10*n+(c.toNat-48))
theorem A86:∀ (l r:List UInt8) (i n:Nat),(∀ c∈l,dgt c=true)->i+l.length<=7->0<i+l.length->(0<i->l≠[]->0<n)->(i=0->∀ c t,l=c::t->t≠[]->c≠48)->
  U8 (l++58::r) i n=(A5E n l,i+l.length+1,0)
 | [],r,i,n,hd,h7,h0,hn,hz=>by
  rw [List.nil_append,U8,yn ⟨rfl,by simpa using h0⟩];rfl
 | c::t,r,i,n,hd,h7,h0,hn,hz=>by
  have b:=hd c (by simp);have a:=P8.1 b;simp only [zj] at h7;rw [List.cons_append,U8,yo (fun h=>by rw [h.1] at a;revert a;decide),yo (fun h=>by
   obtain h|h|h:=h
   ·rw [b] at h;cases h
   ·omega
   ·have:=hn h.1 (by simp);omega),A86 t r (i+1) _ (fun x f=>hd x (by simp [f])) (by omega) (by omega) (fun _ d=>?_) (fun h=>by omega),A0J]
  ·rw [zj,show i+1+t.length+1=i+(t.length+1)+1 by omega]
  ·obtain h|h:=Nat.eq_zero_or_pos i
   ·have g:=hz h c t rfl d;have:c.toNat≠48:=fun e=>g (UInt8.toNat_inj.1 e);omega
   ·have:=hn h (by simp);omega
theorem A87:∀ (s:List UInt8) (i n m a:Nat),(i=0->n=0)->U8 s i n=(m,a,0)->∃ l r,s=l++58::r/\(∀ c∈l,dgt c=true)/\m=A5E n l/\a=i+l.length+1/\0<i+l.length/\(i=0->∀ c t,l=c::t->t≠[]->c≠48)/\(0<i->n=0->l=[])/\(i+l.length<=7\/l=[])
 | [],i,n,m,a,h0,h=>by simp [U8] at h
 | c::s,i,n,m,a,h0,h=>by
  rw [U8] at h;by_cases f:c=58/\0<i
  ·rw [yn f] at h;simp only [Prod.mk.injEq] at h;obtain⟨rfl,rfl,_⟩:=h;obtain⟨rfl,b⟩:=f;exact⟨[],s,rfl,by simp,rfl,rfl,by simpa using b,fun h=>by omega,fun _ _=>rfl,.inr rfl⟩
  ·rw [yo f] at h;by_cases d:dgt c=false\/7<=i\/(0<i/\n=0)
   ·rw [yn d] at h;simp at h
   ·rw [yo d] at h;obtain⟨l,r,e,z,y,u,B,A,o,g⟩:=A87 s (i+1) _ m a (fun h=>by omega) h;have k:dgt c=true:=by
     cases v:dgt c
     ·exact absurd (.inl v) d
     ·rfl
    have C:=P8.1 k;refine⟨c::l,r,by rw [e];rfl,fun j x=>?_,by rw [y,A0J],by rw [u,zj];omega,by rw [zj];omega,fun b j t ex p=>?_,fun b w=>?_,?_⟩
    ·cases x with
     | head=>exact k
     | tail _ x=>exact z j x
    ·cases ex;intro q;subst q;exact p (o (by omega) (by rw [h0 b];decide))
    ·exact absurd (.inr (.inr ⟨b,w⟩)) d
    ·rw [zj];obtain g|g:=g
     ·exact .inl (by omega)
     ·subst g;left;simp only [List.length_nil];have:¬ 7<=i:=fun h=>d (.inr (.inl h));omega
def A88 (t:List UInt8):Option Int:=
 match Lib.parseIntB 64 t with
 | .ok n=>if Lib.itoa n=t then some n else none
 | _=>none
theorem B4y {t:List UInt8} {n:Int} (h:A88 t=some n):Lib.itoa n=t/\B9 n:=by
 unfold A88 at h;rcases e:Lib.parseIntB 64 t with m | _ | _
 ·rw [e] at h;simp only at h;by_cases a:Lib.itoa m=t
  ·rw [yn a] at h;cases h;have b:=Lib.parseIntB_bounds e;refine⟨a,?_⟩;unfold B9;simp only [show (2:Nat) ^ (64-1)=9223372036854775808 by decide] at b;omega
  ·rw [yo a] at h;cases h
 ·rw [e] at h;cases h
 ·rw [e] at h;cases h
theorem W3:∀ (l:List UInt8) (a:Nat),(∀ c∈l,dgt c=true)->A5E a l<=18446744073709551615->Lib.parseUintM 18446744073709551615 a l=.ok (A5E a l)
 | [],a,_,_=>rfl
 | c::r,a,hd,hv=>by have h:=P8.1 (hd c (by simp));rw [A0J] at hv ⊢;have g:=A7u r (10*a+(c.toNat-48));rw [Lib.parseUintM,yn h,yo (by omega),yo (by omega),Nat.mul_comm a 10];exact W3 r _ (fun x b=>hd x (by simp [b])) hv
theorem A0t (u:Nat) (a:u<=18446744073709551615):Lib.parseUintB 64 (Lib.decDigits u)=.ok u:=by obtain⟨b,c,h,_⟩:=W2 u;have:=W3 (Lib.decDigits u) 0 c (by rw [h];exact a);rw [h] at this;unfold Lib.parseUintB;rw [yo b];exact this
theorem B4z (n:Int) (a:B9 n):A88 (Lib.itoa n)=some n:=by
 have k:Lib.parseIntB 64 (Lib.itoa n)=.ok n:=by
  unfold B9 at a;unfold Lib.itoa;by_cases h:n<0
  ·rw [yn h,Lib.parseIntB_minus,A0t _ (by omega)];unfold Lib.signedC;simp only
   first
    | (rw [yo (by simp;omega)];congr 1;omega)
    | (split<;>(try congr 1)<;>omega)
  ·rw [yo h];obtain⟨b,d,_,_⟩:=W2 n.toNat;cases e:Lib.decDigits n.toNat with
   | nil=>exact absurd e b
   | cons c r=>
    have f:=P8.1 (d c (by rw [e];simp));rw [Lib.parseIntB_plain _ _ _ (by omega) (by omega),<-e,A0t _ (by omega)];unfold Lib.signlessC;simp only
    first
     | (rw [yo (by simp;omega)];congr 1;omega)
     | (split<;>(try congr 1)<;>omega)
 unfold A88;rw [k];simp
def M2 (g:List UInt8->V × Nat × Int):Nat->List UInt8->Option (List V)
 | _,[]=>some []
 | 0,_::_=>none
 | k+1,c::r=>
  let q:=g (c::r)
  if q.2.2≠0 then none else (M2 g k ((c::r).drop q.2.1)).map (q.1::·)
def V0:V:=.mk 0 0 ⟨#[]⟩ []
def A0o (g:List UInt8->V × Nat × Int) (c:UInt8) (t:List UInt8):Option V:=
 if c=35 then (A88 t).map fun n=>.mk 1 n ⟨#[]⟩ []
 else if c=93 then (M2 g 6000 t).map fun l=>.mk 3 0 ⟨#[]⟩ l
 else if c=44 then some (.mk 2 0 ⟨t.toArray⟩ [])
 else none
def N8:Nat->List UInt8->V × Nat × Int
 | 0,s=>let q:=U8 s 0 0;if q.2.2≠0 then (V0,0,q.2.2) else (V0,0,1)
 | f+1,s=>
  let q:=U8 s 0 0
  if q.2.2≠0 then (V0,0,q.2.2)
  else if s.length<=q.2.1+q.1 then (V0,0,2)
  else match A0o (N8 f) (s.getD (q.2.1+q.1) 0) ((s.drop q.2.1).take q.1) with
   | none=>(V0,0,1)
   | some v=>(v,q.2.1+q.1+1,0)
def A0D (s:List UInt8):V × Nat × Int:=
 let q:=N8 6 s
 if q.2.2=0/\A2D q.1=false then (V0,0,1) else q
def A1o (s:List UInt8):V × Int:=
 let q:=A0D s
 if q.2.2≠0\/q.2.1≠s.length then (V0,1) else (q.1,0)
def K0:V->List UInt8
 | .mk k n s l=>if k==1 then Lib.itoa n else if k==3 then Q1 l else s.data.toList
def A89:V->UInt8
 | .mk k n s l=>if k==1 then 35 else if k==3 then 93 else 44
theorem B40 (n:Nat):Lib.itoa (n:Int)=Lib.decDigits n:=by unfold Lib.itoa;rw [yo (by omega),zi]
theorem A1p (v:V):L4 v=Lib.decDigits (K0 v).length++58::(K0 v++[A89 v]):=by obtain⟨k,n,s,l⟩:=v;rw [L4,<-B40];rfl
theorem I9 {u:Nat} (h:u<10000000):(Lib.decDigits u).length<=7:=by
 rw [Lib.decDigits_length];obtain a|a:=zm 7 (Lib.nDigits u)
 ·exfalso;have e:∀ (k u:Nat),k<Lib.nDigits u->10 ^ k<=u\/k=0:=by
   intro k;induction k with
   | zero=>intro u _;exact .inr rfl
   | succ k i=>
    intro u b;by_cases c:u<10
    ·rw [Lib.nDigits_small c] at b;omega
    ·rw [Lib.nDigits_big c] at b;have:=i (u / 10) (by omega);rw [Nat.pow_succ];obtain h|h:=this
     ·left;omega
     ·subst h;left;simp;omega
  have:=e 7 u a;simp at this;omega
 ·exact a
theorem B1t (v:V) (r:List UInt8) (h:(K0 v).length<10000000):U8 (L4 v++r) 0 0=((K0 v).length,(Lib.decDigits (K0 v).length).length+1,0):=by obtain⟨c,d,a,b⟩:=W2 (K0 v).length;have p:0<(Lib.decDigits (K0 v).length).length:=List.length_pos_iff.2 c;rw [A1p,zw,List.cons_append,A86 _ _ _ _ d (by have:=I9 h;omega) (by omega) (fun h=>by omega) (fun _=>b),a,zn]
theorem E8 (v:V):(L4 v).length=(Lib.decDigits (K0 v).length).length+1+(K0 v).length+1:=by rw [A1p];simp;omega
theorem B1u (v:V) (r:List UInt8):((L4 v++r).drop ((Lib.decDigits (K0 v).length).length+1)).take (K0 v).length=K0 v:=by
 rw [A1p];have e:Lib.decDigits (K0 v).length++58::(K0 v++[A89 v])++r=(Lib.decDigits (K0 v).length++[58])++(K0 v++([A89 v]++r)):=by simp
 rw [e,List.drop_left' (by simp),List.take_left' rfl]
theorem B41 (v:V) (r:List UInt8):(L4 v++r).getD ((Lib.decDigits (K0 v).length).length+1+(K0 v).length) 0=A89 v:=by
 rw [A1p];have e:Lib.decDigits (K0 v).length++58::(K0 v++[A89 v])++r=((Lib.decDigits (K0 v).length++[58])++K0 v)++(A89 v::r):=by simp
 rw [e,List.getD_eq_getElem?_getD,List.getElem?_append_right (by simp;omega),z6,z6];simp
theorem A7v (g:V->Int) (a:∀ v,1<=g v):∀ (l:List V) (n:Int),A1m g l n<=6000->n+l.length<=A1m g l n/\∀ x∈l,g x<=6000-n
 | [],n,h=>by rw [A1m];simp
 | x::r,n,h=>by
  rw [E1] at h ⊢;by_cases b:6000<n+g x
  ·rw [yn b] at h;omega
  ·rw [yo b] at h ⊢;have e:=a x;obtain⟨f,c⟩:=A7v g a r _ h;refine⟨by rw [zj];omega,fun d y=>?_⟩;cases y with
   | head=>omega
   | tail _ y=>have:=c d y;omega
theorem A6X (g:List UInt8->V × Nat × Int):∀ (l:List V) (k:Nat),l.length<=k->(∀ x∈l,∀ r,g (L4 x++r)=(x,(L4 x).length,0))->M2 g k (Q1 l)=some l
 | [],k,hk,h=>by rw [Q1];unfold M2;rfl
 | x::l,0,hk,h=>by simp at hk
 | x::l,k+1,hk,h=>by
  rw [Q1];have b:=h x (by simp) (Q1 l);have a:=E8 x;cases e:L4 x++Q1 l with
  | nil=>exfalso;have:=yb List.length e;rw [z6,a] at this;simp only [List.length_nil] at this;omega
  | cons c r=>
   rw [M2,<-e,b];simp only [ne_eq,not_true_eq_false,if_false,List.drop_left];rw [A6X g l k (by simpa using hk) (fun d y=>h d (by simp [y]))];rfl
theorem A6Y {l:List V} {x:V} (h:x∈l):(K0 x).length<(Q1 l).length:=by have a:=Y1 h;have b:=E8 x;omega
theorem Q6 {s:ByteArray} (h:mt s=true):s=⟨#[]⟩:=by have a:D7 s ⟨#[]⟩=true:=h;apply ByteArray.ext;simpa [D7] using a
theorem A9A:∀ (f:Nat) (v:V),cnt f v<=6000->okV v->(K0 v).length<10000000->∀ r,N8 f (L4 v++r)=(v,(L4 v).length,0):=by
 intro f;induction f with
 | zero=>intro v m;rw [cnt] at m;omega
 | succ f p=>
  intro v d o i r;rw [N8,B1t v r i];simp only [ne_eq,not_true_eq_false,if_false];rw [yo (by rw [z6,E8];omega),B1u,B41];have j:A0o (N8 f) (A89 v) (K0 v)=some v:=by
   obtain⟨k,n,s,l⟩:=v;rw [cnt] at d;rw [okV] at o;by_cases a:(k==1&&mt s&&((l.length:Int)==0))||(k==2&&n==0&&((l.length:Int)==0))
   ·simp only [Bool.or_eq_true,z7,beq_iff_eq] at a;obtain⟨⟨a,h⟩,b⟩|⟨⟨a,h⟩,b⟩:=a
    ·subst a;have c:l=[]:=zo (by omega);subst c;rw [Q6 h];simp [A0o,A89,K0,B4z n o.1]
    ·subst a;have c:l=[]:=zo (by omega);subst c;subst h;simp [A0o,A89,K0]
   ·rw [yo a] at d;by_cases h:(k != 3||!(n==0)||!mt s)=true
    ·rw [yn h] at d;omega
    ·rw [yo h] at d;simp only [Bool.or_eq_true,not_or,bne_iff_ne,ne_eq,Decidable.not_not,Bool.not_eq_true',Bool.not_eq_false',beq_iff_eq,Bool.not_eq_false] at h;obtain⟨⟨rfl,b⟩,e⟩:=h;have b:n=0:=by simpa using b
     have e:mt s=true:=by simpa using e
     subst b;rw [Q6 e];obtain⟨u,q⟩:=A7v (cnt f) (fun v=>(M5 f v).1) l 1 d;have t:K0 (.mk 3 0 s l)=Q1 l:=by simp [K0]
     rw [t] at i;have c:=A6X (N8 f) l 6000 (by omega) (fun g x r=>p g (by have:=q g x;omega) (A7s o.2 x) (by have:=A6Y x;omega) r);simp [A0o,A89,K0,c]
  rw [j];simp only;rw [E8]
theorem A9B (v:V) (m:A2D v=true) (o:okV v) (l:(K0 v).length<10000000):A1o (L4 v)=(v,0):=by have h:=A9A 6 v (by simpa [A2D] using m) o l [];rw [zx] at h;simp [A1o,A0D,h,m]
theorem B1v (g:List UInt8->V × Nat × Int) (d:∀ s v n,g s=(v,n,0)->n<=s.length/\L4 v=s.take n/\okV v):∀ (k:Nat) (t:List UInt8) (l:List V),M2 g k t=some l->Q1 l=t/\okL l:=by
 intro k;induction k with
 | zero=>
  intro t l h;cases t with
  | nil=>rw [M2] at h;cases h;exact⟨by rw [Q1],by rw [okL];trivial⟩
  | cons c r=>rw [M2] at h;cases h
 | succ k j=>
  intro t l h;cases t with
  | nil=>rw [M2] at h;cases h;exact⟨by rw [Q1],by rw [okL];trivial⟩
  | cons c r=>
   rw [M2] at h;generalize o:g (c::r)=q at h;obtain⟨v,n,e⟩:=q;simp only at h;by_cases b:e=0
   ·subst b;simp only [ne_eq,not_true_eq_false,if_false] at h;cases a:M2 g k ((c::r).drop n) with
    | none=>rw [a] at h;cases h
    | some w=>
     rw [a] at h;cases h;obtain⟨i,p⟩:=j _ _ a;obtain⟨u,m,f⟩:=d _ _ _ o;refine⟨?_,by rw [okL];exact⟨f,p⟩⟩;rw [Q1,i,m,List.take_append_drop]
   ·rw [yn b] at h;cases h
theorem A5G:∀ (f:Nat) (s:List UInt8) (v:V) (n:Nat),N8 f s=(v,n,0)->n<=s.length/\L4 v=s.take n/\okV v:=by
 intro f;induction f with
 | zero=>
  intro s v n h;rw [N8] at h
  try dsimp only at h
  split at h
  ·rename_i g;simp only [Prod.mk.injEq] at h;exact absurd h.2.2 g
  ·simp at h
 | succ f D=>
  intro s v n h;rw [N8] at h
  try dsimp only at h
  generalize G:U8 s 0 0=q at h;obtain⟨m,a,e⟩:=q;simp only at h;split at h
  ·rename_i g;simp only [Prod.mk.injEq] at h;exact absurd h.2.2 g
  rename_i g;have J:e=0:=by simpa using g
  subst J;split at h
  ·simp at h
  rename_i S;obtain⟨l,r,t,F,N,x,E,L,P,R⟩:=A87 s 0 0 m a (fun _=>rfl) G;have z:l≠[]:=fun e=>by subst e;simp at E
  have I:Lib.decDigits m=l:=by rw [N];exact A5F l.length l (zc _) z F (L rfl)
  cases b:A0o (N8 f) (s.getD (a+m) 0) ((s.drop a).take m) with
  | none=>rw [b] at h;simp at h
  | some u=>
   rw [b] at h;simp only [Prod.mk.injEq,and_true] at h;obtain⟨rfl,rfl⟩:=h;have w:s.drop a=r:=by
    rw [t,x];have e:l++58::r=(l++[58])++r:=by simp
    rw [e,List.drop_left' (by simp)]
   have Q:s.length=l.length+1+r.length:=by rw [t];simp;omega
   have y:m<r.length:=by omega
   have M:s.getD (a+m) 0=r[m]:=by rw [List.getD_eq_getElem?_getD,<-List.getElem?_drop,w,yc y];rfl
   rw [M,w] at b;have C:K0 u=r.take m/\A89 u=r[m]/\okV u:=by
    unfold A0o at b;by_cases p:r[m]=35
    ·rw [yn p] at b;cases c:A88 (r.take m) with
     | none=>rw [c] at b;cases b
     | some k=>
      rw [c] at b;cases b;obtain⟨d,i⟩:=B4y c;exact⟨by simp [K0,d],by simp [A89,p],by rw [okV,okL];exact⟨i,t6⟩⟩
    rw [yo p] at b;by_cases j:r[m]=93
    ·rw [yn j] at b;cases c:M2 (N8 f) 6000 (r.take m) with
     | none=>rw [c] at b;cases b
     | some k=>
      rw [c] at b;cases b;obtain⟨d,i⟩:=B1v (N8 f) D 6000 _ _ c;exact⟨by simp [K0,d],by simp [A89,j],by rw [okV];exact⟨by unfold B9;omega,i⟩⟩
    rw [yo j] at b;by_cases o:r[m]=44
    ·rw [yn o] at b;cases b;exact⟨by simp [K0],by simp [A89,o],by rw [okV,okL];exact⟨by unfold B9;omega,t6⟩⟩
    ·rw [yo o] at b;cases b
   obtain⟨d,i,K⟩:=C;refine⟨by omega,?_,K⟩;have O:(K0 u).length=m:=by rw [d,zg];omega
   rw [A1p,O,I,d,i,t,x];have B:r.take m++[r[m]]=r.take (m+1):=by rw [List.take_add_one,yc y];rfl
   have H:0+l.length+1+m+1=(l++[58]).length+(m+1):=by simp;omega
   have A:l++58::r=(l++[58])++r:=by simp
   rw [B,H,A,List.take_append,ym (Nat.le_add_right _ _),Nat.add_sub_cancel_left];simp
theorem B42 {s:List UInt8} {v:V} (h:A1o s=(v,0)):L4 v=s/\A2D v=true/\okV v:=by
 unfold A1o A0D at h;generalize d:N8 6 s=q at h;obtain⟨u,n,e⟩:=q;simp only at h;by_cases a:e=0/\A2D u=false
 ·rw [yn a] at h;simp at h
 ·rw [yo a] at h;simp only at h;split at h
  ·simp at h
  ·rename_i b;simp only [not_or,ne_eq,Decidable.not_not] at b;obtain⟨rfl,rfl⟩:=b;cases h;obtain⟨_,k,c⟩:=A5G 6 s _ _ d;exact⟨by rw [k,List.take_length],by
    cases m:A2D v
    ·exact absurd ⟨rfl,m⟩ a
    ·rfl,c⟩
def A6C (v:V):List UInt8:=if A2D v&&decide ((Lib.decDigits (K0 v).length).length<=7) then L4 v else []
theorem A1H:∀ (l r:List UInt8),(∀ c∈l,dgt c=true)->Lib.indexByte (l++58::r) 58=l.length
 | [],r,_=>rfl
 | c::l,r,h=>by
  have a:=P8.1 (h c (by simp));have i:=A1H l r fun x b=>h x (by simp [b]);have n:(c==58)=false:=by rw [ya];intro e;subst e;revert a;decide
  rw [List.cons_append,Lib.indexByte,n,i];have:((l.length:Int) == -1)=false:=by rw [ya];omega
  simp [this]
theorem A4B (v:V):Lib.indexByte (L4 v) 58=(Lib.decDigits (K0 v).length).length:=by rw [A1p];exact A1H _ _ (W2 _).2.1
theorem A2Z (v:V) (o:okV v) (f:(L4 v).length<=1073741824) (k n:Int) (s:ByteArray) (A:Option Addr) (l c:Nat) (S:Nat->Prop) (w:World) (r:RepC S w v [.int .i64 k,.int .i64 n,.string s,.slice A l c]) (t:Tab w):
  Calls Tryz.prog 117 #[.agg #[.int .i64 k,.int .i64 n,.string s,.slice A l c]] w (D4 (.string ⟨(A6C v).toArray⟩) w):=by
 refine vE Tryz.func117 ?_;intro z p q;have h:=((Ctx.start w no (fun _ g=>g.elim)).loc q).1;refine h.a 0 rfl rfl ?_;refine h.q (A83 v k n s A l c S p (r.below h.below)) fun j u h=>?_;cases m:A2D v
 ·refine⟨?_,h.below⟩;simp [A6C,m];rfl
 refine h.a 0 rfl rfl ?_;refine h.q (B7j _ v (Nat.lt_succ_self _) o f _ S j (r.below h.below) (t.below h.below)) fun a B h=>?_;have i:Calls Tryz.prog 173 #[.string ⟨(L4 v).toArray⟩,.int .u8 58] a (D4 (.int .i64 (Lib.decDigits (K0 v).length).length) a):=
  (Tryz.strings_IndexByte ⟨(L4 v).toArray⟩ 58 a).mono fun e w' b=>⟨by rw [b.1,<-A4B];rfl,by rw [b.2];exact Below.refl _ _⟩
 refine h.q i fun y x h=>?_;by_cases d:(Lib.decDigits (K0 v).length).length<=7
 ·refine df (by omega) ?_;refine⟨?_,h.below⟩;simp [A6C,m,d];rfl
 ·refine dt (by omega) ?_;refine⟨?_,h.below⟩;simp [A6C,m,d];rfl
theorem A6Z (t:List UInt8) (B:t.length<=1073741824) (w:World):
  Calls Tryz.prog 262 #[.string ⟨t.toArray⟩] w (D4 (.tuple #[.int .i64 (U8 t 0 0).1,.int .i64 (U8 t 0 0).2.1,.int .i64 (U8 t 0 0).2.2]) w):=by
 refine vE Tryz.func262 ?_;have s:(((⟨t.toArray⟩:ByteArray).size:Nat):Int)=t.length:=by rw [I5]
 refine⟨Nat × Nat,fun x=>[(0,.string ⟨t.toArray⟩),(5,.int .i64 x.2),(9,.int .i64 ((⟨t.toArray⟩:ByteArray).size:Nat)),(10,.int .i64 x.1)],
  fun x w'=>x.1<=t.length/\x.1<=7/\x.2<10 ^ x.1/\U8 (t.drop x.1) x.1 x.2=U8 t 0 0/\Below w.heap.size w w',fun x _=>t.length-x.1,(0,0),
  ⟨rfl,rfl,rfl,rfl,t6⟩,⟨zb _,zb _,Nat.one_pos,rfl,Below.refl _ _⟩,?_⟩
 rintro⟨i,n⟩ w' C ⟨v,m,u,e,b⟩;simp only at v m u e;have A:n<10000000:=Nat.lt_of_lt_of_le u (Nat.pow_le_pow_right (by decide) m);by_cases l:i<t.length
 ·refine dt (by rw [s];omega) ?_;refine⟨⟨by omega,by rw [s];omega⟩,?_⟩;have y:t.getD i 0=t[i]:=by rw [List.getD_eq_getElem?_getD,yc l];rfl
  have z:(⟨t.toArray⟩:ByteArray).data.toList.getD ((i:Int).toNat) 0=t[i]:=by rw [zi];exact y
  rw [yl l,U8] at e;generalize ex:(⟨t.toArray⟩:ByteArray).data.toList.getD ((i:Int).toNat) 0=x at*;rw [<-z] at e;have err:(x=58/\0<i->False)->(dgt x=false\/7<=i\/(0<i/\n=0))->D4 (.tuple #[.int .i64 (U8 t 0 0).1,.int .i64 (U8 t 0 0).2.1,.int .i64 (U8 t 0 0).2.2]) w (.returned (.tuple #[.int .i64 0,.int .i64 0,.int .i64 1])) w':=fun d g=>⟨by rw [yo d,yn g] at e;rw [<-e];rfl,b⟩;have r:(x=58/\0<i->False)->¬ (dgt x=false\/7<=i\/(0<i/\n=0))->U8 (t.drop (i+1)) (i+1) (10*n+(x.toNat-48))=U8 t 0 0:=fun d g=>by rw [yo d,yo g] at e;exact e
  have q:((x.toNat:Int)==58)=decide (x=58):=by
   rw [Bool.eq_iff_iff,beq_iff_eq,y9];constructor
   ·intro h;exact UInt8.toNat_inj.1 (by have:(58:UInt8).toNat=58:=rfl;omega)
   ·intro h;subst h;rfl
  have rest:(x=58/\0<i->False)->True:=fun _=>trivial;have F:=x.toNat_lt;by_cases a:x=58
  ·refine B5 (by show ((x.toNat:Int)==58)=true;rw [q,zz a]) ?_;by_cases h0:0<i
   ·refine dt (by omega) ?_;rw [yn ⟨a,h0⟩] at e;refine⟨?_,b⟩;rw [<-e];show Ending.returned (.tuple #[.int .i64 n,.int .i64 (IntKind.i64.wrap ((i:Int)+1)),.int .i64 0])=_;rw [C4 (by omega)]
   ·refine df (by omega) ?_;refine df (by subst a;decide) ?_;refine dt (by subst a;decide) ?_;exact err (fun h=>h0 h.2) (.inl (by subst a;rfl))
  ·refine B4 (by show ((x.toNat:Int)==58)=false;rw [q,y8 a]) ?_;by_cases E:x.toNat<48
   ·refine dt (by omega) ?_;exact err (fun h=>a h.1) (.inl (by unfold dgt;rw [y8 (by omega)];rfl))
   refine df (by omega) ?_;by_cases D:57<x.toNat
   ·refine dt (by omega) ?_;exact err (fun h=>a h.1) (.inl (by unfold dgt;rw [y8 (show ¬ x.toNat<=57 by omega),Bool.and_false]))
   refine df (by omega) ?_;have o:dgt x=true:=P8.2 ⟨by omega,by omega⟩;by_cases f:7<=i
   ·refine dt (by omega) ?_;exact err (fun h=>a h.1) (.inr (.inl f))
   refine df (by omega) ?_;have k:IntKind.i64.wrap (IntKind.i64.wrap (10*(n:Int))+IntKind.i64.wrap (IntKind.u8.wrap ((x.toNat:Int)-48)))=((10*n+(x.toNat-48):Nat):Int):=by rw [yh (10*(n:Int)) ⟨by omega,by omega⟩,IntWalk.u8_in _ ⟨by omega,by omega⟩,yh ((x.toNat:Int)-48) ⟨by omega,by omega⟩,yh _ ⟨by omega,by omega⟩];omega
   have j:10*n+(x.toNat-48)<10 ^ (i+1):=by rw [Nat.pow_succ];omega
   by_cases p:0<i
   ·refine dt (by omega) ?_;by_cases c:n=0
    ·refine B5 (by subst c;rfl) ?_;exact err (fun h=>a h.1) (.inr (.inr ⟨p,c⟩))
    ·refine B4 (by show ((n:Int)==0)=false;rw [ya];omega) ?_;refine⟨(i+1,10*n+(x.toNat-48)),⟨rfl,yb _ k,rfl,yb _ (C4 (by omega)),t6⟩,⟨l,by show i+1<=7;omega,j,r (fun h=>a h.1) (fun h=>?_),b⟩,by show t.length-(i+1)<t.length-i;omega⟩;obtain h|h|h:=h
     ·rw [o] at h;cases h
     ·exact f h
     ·exact c h.2
   ·refine df (by omega) ?_;refine⟨(i+1,10*n+(x.toNat-48)),⟨rfl,yb _ k,rfl,yb _ (C4 (by omega)),t6⟩,⟨l,by show i+1<=7;omega,j,r (fun h=>a h.1) (fun h=>?_),b⟩,by show t.length-(i+1)<t.length-i;omega⟩;obtain h|h|h:=h
    ·rw [o] at h;cases h
    ·exact f h
    ·exact p h.1
 ·refine df (by rw [s];omega) ?_;rw [zr (by omega),U8] at e;refine⟨?_,b⟩;rw [<-e];rfl
end Go.Proofs.YtefdfaeieekioaaGreatDoor
section
namespace Go.Vc
open Go Go.RowKit
section
variable {S0 S:Nat->Prop} {w0 w w':World} {l:List LB} {e sz:Nat} {A:Option Addr} {n cap:Nat} {xs:List Value} {n0:Nat}
theorem Locs.turned {S:Nat->Prop} {n:Nat} {a w:World}:∀ {l:List LB} {k g T:Nat} {d s:List Value},Locs S n a l->l[k]?=some (g,T,d)->Blk w g T s->(∀ b,b<a.heap.size->b≠g->w.heap[b]?=a.heap[b]?)->Locs S n w (I2 l k s)
 | (g',T',c)::r,k,g,T,d,s,⟨h1,h2,h3,h4,h5⟩,hk,hb,ho=>by
  cases k with
  | zero=>
   simp at hk;obtain⟨rfl,rfl,rfl⟩:=hk;exact⟨h1,h2,hb,h4,h5.mono (fun x h=>ho _ (h5.lt x h) (h4 x h)) (fun _ _ j=>j)⟩
  | succ k=>
   have f:r[k]?=some (g,T,d):=by simpa using hk
   have i:g≠g':=h4 _ (List.mem_of_getElem? f);refine⟨h1,h2,h3.of_eq (ho _ h3.lt (Ne.symm i)),fun x h=>?_,h5.turned f hb ho⟩;obtain⟨m,y,e⟩:=O1 h;rw [<-e];exact h4 m y
theorem Ctx.turned (h:Ctx S0 w0 S w l) (k:Nat) {d T:Nat} {i s:List Value} (c:l[k]?=some (d,T,i)) (g:w.grownBy w' (some d)) (B:Blk w' d T s):
  Ctx S0 w0 S w' (I2 l k s)/\Fut S w S w':=by
 obtain⟨j,m⟩:=h.locs.notS c;refine⟨⟨h.below.grown g h.below.size (fun k f=>by cases f;exact m),h.sub,h.new,fun a b=>Nat.lt_of_lt_of_le (h.lt a b) g.size,h.locs.turned c B (fun a b n=>g.block a b (fun e=>n (Option.some.inj e)))⟩,
  ⟨fun _ c=>c,fun a b=>g.block a (h.lt a b) (fun e=>j ((Option.some.inj e)▸b))⟩⟩
theorem Ctx.fresh (h:Ctx S0 w0 S w l) (c:Below w.heap.size w w') (o:w'.ownsRow w.heap.size e sz (.slice A n cap) n xs):
  Ctx S0 w0 S w' l/\Fut S w S w'/\Own S w0.heap.size w' l e sz A n cap xs:=by
 obtain⟨j,q⟩:=h.quiet c;refine⟨j,q,?_,fun a b=>?_⟩
 ·refine⟨o.1,?_⟩;obtain i|⟨g,p,u,d,m,f⟩:=o.2
  ·exact .inl i
  ·exact .inr ⟨g,p,u,d,zq h.below.size m,f⟩
 ·subst b;have t:=(o.lt a.block rfl).1;exact⟨fun s=>by have:=h.lt _ s;omega,fun x k r=>by have:=h.locs.lt x k;omega⟩
theorem Own.opened (b:Own S w0.heap.size w l e sz A n cap xs) (h:Ctx S0 w0 S w l) {j:Addr} (d:A=some j):
  ∃ g c,A=some ⟨g,0,none⟩/\Ctx S0 w0 S w ((g,e,c)::l)/\c.length=cap*sz/\c.take (n*sz)=xs/\n<=cap/\cap<=maxLen:=by
 subst d;obtain⟨a,_⟩|⟨g,q,c,a,o,k,f,p,i,m⟩:=b.row.2
 ·cases a
 ·cases a;refine⟨g,c.toList,rfl,⟨h.below,h.sub,h.new,h.lt,?_⟩,by simpa using i,m,f,p⟩;refine⟨o,(b.out _ rfl).1,?_,(b.out _ rfl).2,h.locs⟩;unfold Blk;simpa using k
theorem Ctx.closed {g:Nat} {u:List Value} (d:Ctx S0 w0 S w ((g,e,u)::l)) (s n c:Nat) (b:n<=c) (o:c<=maxLen) (h:u.length=c*s):
  Ctx S0 w0 S w l/\Own S w0.heap.size w l e s (some ⟨g,0,none⟩) n c (u.take (n*s)):=by
 obtain⟨i,j,k,m,p⟩:=d.locs;refine⟨d.drop,⟨?_,.inr ⟨g,c,u.toArray,rfl,i,k,b,o,by simpa using h,by simp⟩⟩,fun a f=>?_⟩
 ·rw [zg,h];exact Nat.min_eq_left (Nat.mul_le_mul_right _ b)
 ·cases f;exact⟨j,m⟩
theorem Own.made (c:Ctx S0 w0 S w l) {cs:List Value} {g:Nat} (N:New w cs e g w') (s n:Nat) (h:cs.length=n*s) (b:n<=maxLen):Ctx S0 w0 S w' l/\Fut S w S w'/\Own S w0.heap.size w' l e s (some ⟨g,0,none⟩) n n cs:=by obtain⟨i,f⟩:=c.loc N;obtain⟨d,a⟩:=i.closed s n n (zc _) b h;refine⟨d,f,?_⟩;rw [ym (Nat.le_of_eq h)] at a;exact a
theorem Own.none' (a:Own S n0 w l e sz A n cap xs) (b:A=none):n=0/\cap=0/\xs=[]:=by
 subst b;obtain⟨h,d⟩|⟨g,p,c,h,_⟩:=a.row.2
 ·cases h;have:=a.row.1;rw [Nat.zero_mul] at this;exact⟨rfl,rfl,zo this⟩
 ·cases h
end
theorem Keeps.look {w x:World} (c:Keeps (fun b=>b<w.heap.size) w x) {a:Addr} {v:Value} (h:w.cell? a=some v):x.cell? a=some v:=c.at h (World.block_lt_of_cell? w a h)
theorem Keeps.looks {w x:World} (h:Keeps (fun b=>b<w.heap.size) w x) {a:Addr}:∀ (c:List Value) (i:Nat),Go.Vc.cellsAt w a c i->Go.Vc.cellsAt x a c i
 | [],_,_=>trivial
 | v::r,i,hc=>⟨h.look hc.1,h.looks r (i+1) hc.2⟩
theorem A00 (g c k:Nat) (j:Int) (i:Nat) (h:j=i) (n:c≠i):(if (c:Int)=j then some (⟨g,0,none⟩:Addr) else (some (⟨g,0,none⟩:Addr)).map (·.add (j.toNat*k)))=some ⟨g,i*k,none⟩:=by rw [yo (by omega),Option.map_some,yi,zn,h,zi]
theorem Row.front {S:Nat->Prop} {w:World} {A:Option Addr} {n c k:Nat} {x:List Value} (R:Row S w A n c x) (z:Nat) (a:k<=n):Row S w A k c (x.take (k*z)):=
 ⟨zq a R.1,R.2.1,fun f=>by
  obtain⟨g,e,s,d⟩:=R.2.2 (fun b=>f (by rw [b];simp));refine⟨g,e,s,fun j u h=>?_⟩;rw [List.getElem?_take] at h;split at h
  ·exact d j u h
  ·cases h⟩
theorem Y2 (A:Option Addr) (c s:Nat):(if (c:Int)=0 then A else A.map (·.add ((0:Int).toNat*s)))=A:=by
 have e:∀ a:Addr,a.add ((0:Int).toNat*s)=a:=fun a=>by unfold Addr.add;simp
 split
 ·rfl
 ·cases A with
  | none=>rfl
  | some a=>rw [Option.map_some,e]
theorem Row.back {S:Nat->Prop} {w:World} {A:Option Addr} {n c:Nat} {x:List Value} (R:Row S w A n c x) (s:Nat) (r:x.length=n*s) (i:Nat) (j:Int) (g:j=i) (m:i<=n):
  Row S w (if (c:Int)=j then A else A.map (·.add (j.toNat*s))) (n-i) (c-i) (x.drop (i*s)):=by
 have a:j.toNat=i:=by omega
 refine⟨Nat.sub_le_sub_right R.1 i,zq (Nat.sub_le _ _) R.2.1,fun h0=>?_⟩;have l:i*s<x.length:=by
  obtain h|h:=zm (i*s) x.length
  ·exact h
  ·rw [zr h] at h0;exact absurd rfl h0
 have q:i<n:=by
  obtain h|h:=zm i n
  ·exact h
  ·have:=Nat.mul_le_mul_right s h;omega
 have p:=R.1;rw [yo (by omega),a];obtain⟨f,e,b,d⟩:=R.2.2 (fun h=>by subst h;simp at l);subst e;refine⟨f.add (i*s),rfl,by rw [P2];exact b,fun k o u=>?_⟩;rw [add_add];rw [List.getElem?_drop] at u;exact d _ _ u
theorem G9:∀ (xs c:List Value) (o:Nat),o+xs.length<=c.length->C5 c o xs=c.take o++xs++c.drop (o+xs.length)
 | [],c,o,h=>by simp [C5]
 | x::r,c,o,h=>by
  simp only [zj] at h;rw [C5,G9 r (c.set o x) (o+1) (by simp;omega),List.take_set,List.drop_set,yn (by omega),zj,show o+1+r.length=o+(r.length+1) by omega];have e:(c.take (o+1)).set o x=c.take o++[x]:=by
   have l:o<c.length:=by omega
   rw [List.take_add_one,yc l];simp only [Option.toList_some];rw [List.set_append_right _ _ (by rw [zg];omega)];have:o-(c.take o).length=0:=by rw [zg];omega
   rw [this];rfl
  rw [e];simp
theorem putAt_len:∀ (xs c:List Value) (o:Nat),(C5 c o xs).length=c.length
 | [],_,_=>rfl
 | x::r,c,o=>by rw [C5,putAt_len r];simp
section
variable {P:Program} {w:World} {e sz bytes:Nat} {K:Value->World->Prop} {z:Value}
theorem A9C {s S:Nat->Prop} {p:World} {q:List LB} {t T g n a m c:Nat} {V:Array Bool} {r y:List Value} (D:P.underlying t=some (.slice e)) (E:(P.info? e).map (fun i=>(i.zero,i.size,i.bytes))=some (some z,sz,bytes))
  (C:Ctx s p S w ((g,e,r)::q)) (O:r.length=a*sz) (o:n+m<=a) {d:Addr} (l:y.length=m*sz) (R:cellsAt w d y 0) (H:F4 y=true)
  {x A:Value} (N:x=.slice (some ⟨g,0,none⟩) n a) (I:A=.slice (some d) m c)
  (k:∀ w',Ctx s p S w' ((g,e,r.take (n*sz)++y++r.drop ((n+m)*sz))::q)->Fut S w S w'->K (.slice (some ⟨g,0,none⟩) (n+m) a) w'):
  ∃ v w',(builtin .append #[t,t] T V #[x,A]).run P w=.ok (.value v) w'/\K v w':=by
 subst N;subst I;obtain⟨i,Y,h3,X,h5⟩:=info_parts E;subst X;have B:=C.blk 0 rfl;have U:∀ (y:List Value) (i:Nat),cellsAt w d y i->∀ j u,y[j]?=some u->w.cell? (d.add (i+j))=some u:=by
  intro y;induction y with
  | nil=>intro i _ j u h;cases h
  | cons v a0 L=>
   intro i h j u b;cases j with
   | zero=>cases b;exact h.1
   | succ j=>rw [show i+(j+1)=i+1+j from by omega];exact L (i+1) h.2 j u b
 have M:n*i.size+y.length<=r.length:=by rw [l,O,<-Nat.add_mul];exact Nat.mul_le_mul_right _ o
 have f:=run_append_room (P:=P) w t T e i D Y g n a r.toArray B d m c y l (fun j u b=>by have:=U y 0 R j u b;rwa [zn] at this) (L8 H) o (by simpa using M);have F:n*i.size+y.length=(n+m)*i.size:=by rw [l,Nat.add_mul]
 rw [F] at f;have Z:Blk (w.setRow g (r.toArray.toList.take (n*i.size)++y++r.toArray.toList.drop ((n+m)*i.size)).toArray) g e (r.take (n*i.size)++y++r.drop ((n+m)*i.size)):=by have:=setRow_heap w g r.toArray (r.toArray.toList.take (n*i.size)++y++r.toArray.toList.drop ((n+m)*i.size)).toArray e (0,0) B;exact this
 have Q:w.grownBy (w.setRow g (r.toArray.toList.take (n*i.size)++y++r.toArray.toList.drop ((n+m)*i.size)).toArray) (some g):=
  ⟨rfl,rfl,rfl,by simp,fun k _ G=>setRow_other w g k _ (fun e=>G (by simp [e]))⟩
 obtain⟨W,J⟩:=C.turned 0 rfl Q Z;refine⟨_,_,?_,k _ W J⟩;show (do pure (Next.value (<-Builtin.append_ #[t,t] T #[.slice (some ⟨g,0,none⟩) n a,.slice (some d) m c])):Sem Next).run P w=_;simp only [yf,f,ye,yg]
theorem A01 {k S E:Nat->Prop} {a:World} {l:List LB} {t T n c m b:Nat} {A B:Option Addr} {N:Array Bool} {x y:List Value} (f:P.underlying t=some (.slice e)) (g:(P.info? e).map (fun i=>(i.zero,i.size,i.bytes))=some (some z,sz,bytes))
  (H:z.cells.size=sz) (s:0<sz) (D:Ctx k a S w l) (o:Own S a.heap.size w l e sz A n c x) (R:Row E w B m b y) (p:y.length=m*sz) (F:F4 y=true) (J:n+m<=34359738368) (O:bytes<=4096)
  (C:∀ j q w',Ctx k a S w' l->Fut S w S w'->Own S a.heap.size w' l e sz j (n+m) q (x++y)->w.grownBy w' (Value.slice A n c).ownBlock->K (.slice j (n+m) q) w'):
  ∃ v w',(builtin .append #[t,t] T N #[.slice A n c,.slice B m b]).run P w=.ok (.value v) w'/\K v w':=by
 cases B with
 | some ad=>
  refine X9 f g H s D o p ?_ F J O C;obtain _|⟨u,r⟩:=y
  ·trivial
  ·obtain⟨Q,d,I⟩:=R.get (i:=0) (by simp);cases d;have:=A1A I 0 (u::r) 0 (fun a0 Y V=>by simpa using V);have M:ad.add 0=ad:=by unfold Addr.add;simp
   rw [M] at this;exact this
 | none=>
  have U:y=[]:=by
   obtain _|⟨u,r⟩:=y
   ·rfl
   ·obtain⟨Q,d,_⟩:=R.get (i:=0) (by simp);cases d
  subst U;have L:m=0:=by
   obtain h|h:=Nat.eq_zero_or_pos m
   ·exact h
   ·have:=Nat.mul_pos h s;rw [<-p] at this;simp at this
  subst L;obtain⟨i,W,h3,h4,Z⟩:=info_parts g;obtain⟨X,f2⟩:=o.fit;have G:(Builtin.append_ #[t,t] T #[.slice A n c,.slice none 0 b]).run P w=.ok (.slice A n c) w:=by cases A<;>simp [Builtin.append_,run_underlying f,sizeOf,typeInfo,W,Builtin.lenOf,Builtin.firstCells,X,storeCells]
  refine⟨_,_,?_,C A c w D (Fut.refl _ _) (by rw [zx];exact o) ⟨rfl,rfl,rfl,zc _,fun _ _ _=>rfl⟩⟩;show (do pure (Next.value (<-Builtin.append_ #[t,t] T #[.slice A n c,.slice none 0 b])):Sem Next).run P w=_;simp only [yf,G,ye,yg];rfl
theorem B43 {d S o:Nat->Prop} {a:World} {l:List LB} {t T n c m h:Nat} {A B:Option Addr} {F:Array Bool} {x y:List Value} (j:P.underlying t=some (.slice e)) (k:(P.info? e).map (fun i=>(i.zero,i.size,i.bytes))=some (some z,sz,bytes))
  (s:z.cells.size=sz) (u:0<sz) (J:Ctx d a S w l) (G:Own S a.heap.size w l e sz A n c x) (R:Row o w B m h y) (E:y.length=m*sz) (r:F4 y=true) (C:n+m<=34359738368) (H:bytes<=4096)
  {f g:Value} (D:f=.slice A n c) (q:g=.slice B m h)
  (I:∀ b p w',Ctx d a S w' l->Fut S w S w'->Own S a.heap.size w' l e sz b (n+m) p (x++y)->w.grownBy w' (Value.slice A n c).ownBlock->K (.slice b (n+m) p) w'):
  ∃ v w',(builtin .append #[t,t] T F #[f,g]).run P w=.ok (.value v) w'/\K v w':=by
 subst D;subst q;exact A01 j k s u J G R E r C H I
theorem A6a {m S:Nat->Prop} {d:World} {j:List LB} {t b T g n c k:Nat} {q kq:IntKind} {cs:Array Bool} {u:List Value} (B:P.underlying t=some (.slice e)) (Z:P.underlying b=some (.int q)) (C:(P.info? e).map (fun i=>(i.zero,i.size,i.bytes))=some (some z,sz,bytes))
  (H:z.cells.size=sz) (L:0<sz) (Y:Ctx m d S w ((g,e,u)::j)) (O:u.length=c*sz) (X:n<=c) (I:0<k) (R:c<n+k) (D:n+k<=34359738368) (U:bytes<=4096)
  {x y:Value} (N:x=.slice (some ⟨g,0,none⟩) n c) (F:y=.int kq k)
  (K':∀ o a r w',Ctx m d S w' ((o,e,r)::(g,e,u)::j)->Fut S w S w'->r.length=a*sz->n+k<=a->a<=maxLen->r.take (n*sz)=u.take (n*sz)->K (.slice (some ⟨o,0,none⟩) (n+k) a) w'):
  ∃ v w',(builtin .append #[t,b] T cs #[x,y]).run P w=.ok (.value v) w'/\K v w':=by
 subst N;subst F;obtain⟨i,A,Q,h4,E⟩:=info_parts C;subst h4;subst E;have l:n*i.size<=u.length:=by rw [O];exact Nat.mul_le_mul_right _ X
 have f:=Y.drew;have V:=f.blk 0 rfl;have hold:=run_firstCells_some (P:=P) w.drew i.size n ⟨g,0,none⟩ n c (u.take (n*i.size)) (by rw [zg];exact Nat.min_eq_left l) (fun W a1 h=>by
  rw [List.getElem?_take] at h;split at h
  ·rw [yi,zn,V.cell W];exact h
  ·cases h)
 have s:(n+k)*i.bytes<=140737488355328:=zq (Nat.mul_le_mul D U) (by decide);have J:=Lib.run_append_grow_zeros (P:=P) w t b T e i z kq q B Z A Q (some ⟨g,0,none⟩) n c (u.take (n*i.size)) hold k I L R (by omega) (zq (Nat.mul_le_mul_right _ (by omega:k<=n+k)) (zq s (by decide))) (growslice_fits (by omega) s);have M:=grownCap_ge w (n+k) c e;have a0:=grownCap_le_maxLen w (n+k) c e (by simp only [maxLen];omega);have p:=f.loc (cs:=((u.take (n*i.size)).toArray++Builtin.zeroCells z.cells k++Builtin.zeroCells z.cells (grownCap w (n+k) c e-(n+k))).toList) (T:=e) (g:=w.heap.size)
  (w':=w.drew.alloc (.cells ((u.take (n*i.size)).toArray++Builtin.zeroCells z.cells k++Builtin.zeroCells z.cells (grownCap w (n+k) c e-(n+k))) e)) ⟨rfl,by rw [Array.toArray_toList]⟩
 refine⟨_,_,?_,K' _ (grownCap w (n+k) c e) _ _ p.1 p.2 ?_ M a0 ?_⟩
 ·show (do pure (Next.value (<-Builtin.append_ #[t,b] T #[.slice (some ⟨g,0,none⟩) n c,.int kq k])):Sem Next).run P w=_;simp only [yf,J,ye,yg]
 ·rw [Array.length_toList,Array.size_append,Array.size_append,size_zeroCells,size_zeroCells,H,List.size_toArray,zg,Nat.min_eq_left l,<-Nat.add_mul,<-Nat.add_mul];congr 1;omega
 ·have G:(u.take (n*i.size)).length=n*i.size:=by rw [zg];exact Nat.min_eq_left l
  rw [Array.toList_append,Array.toList_append,zw,List.take_left' (by simpa using G)]
theorem B1w {P:Program} {t T e:Nat} {s:Array Bool} (h:P.underlying t=some (.slice e)) (A:Option Addr) (n c:Nat) (w:World):(builtin .cap #[t] T s #[.slice A n c]).run P w=.ok (.value (.int .i64 c)) w:=by show (do pure (Next.value (<-Builtin.cap_ #[t] T #[.slice A n c])):Sem Next).run P w=_;simp [Builtin.cap_,run_underlying h,goInt]
theorem U0 {t T:Nat} {n:Array Bool} (c:P.underlying t=some (.slice e)) (d:(P.info? e).map (fun i=>(i.zero,i.size,i.bytes))=some (some z,sz,bytes)) {da sa:Addr} {dn dc sn sc:Nat} {xs:List Value}
  (l:xs.length=Nat.min sn dn*sz) (q:cellsAt w sa xs 0) (m:E0 w da xs 0) {x b:Value} (k:x=.slice (some da) dn dc) (f:b=.slice (some sa) sn sc) (o:∀ w',E6 w da xs w'->K (.int .i64 (Nat.min sn dn:Nat)) w'):
  ∃ v w',(builtin .copy #[t,t] T n #[x,b]).run P w=.ok (.value v) w'/\K v w':=by
 subst k;subst f;obtain⟨i,A,C,r,B⟩:=info_parts d;subst r;refine⟨_,_,?_,o _ rfl⟩;show (do pure (Next.value (<-Builtin.copy_ #[t,t] T #[.slice (some da) dn dc,.slice (some sa) sn sc])):Sem Next).run P w=_;have O:∀ (y:List Value) (i:Nat),cellsAt w sa y i->∀ j u,y[j]?=some u->w.cell? (sa.add (i+j))=some u:=by
  intro y;induction y with
  | nil=>intro i _ j u h;cases h
  | cons v D g=>
   intro i h j u a;cases j with
   | zero=>cases a;exact h.1
   | succ j=>rw [show i+(j+1)=i+1+j from by omega];exact g (i+1) h.2 j u a
 have p:=run_firstCells_some (P:=P) w i.size (Nat.min sn dn) sa sn sc xs l (fun j u a=>by have:=O xs 0 q j u a;rwa [zn] at this);have s:=J9 (P:=P) xs w 0 m;simp [Builtin.copy_,run_underlying c,Builtin.lenOf,sizeOf,typeInfo,A,p,s,goInt]
theorem A28 {t T:Nat} {b:Array Bool} (h:P.underlying t=some (.slice e)) (d:∀ w,(zeroValue e).run P w=.ok z w) {a:Addr} {n c:Nat} (f:0<n) {x:Value} (i:x=.slice (some a) n c) {zs:List Value} (g:(Builtin.zeroCells z.cells n).toList=zs) (m:E0 w a zs 0) (k:∀ w',E6 w a zs w'->K (.tuple #[]) w'):
  ∃ v w',(builtin .clear #[t] T b #[x]).run P w=.ok (.value v) w'/\K v w':=by
 subst i;subst g;refine⟨_,_,?_,k _ rfl⟩;show (do pure (Next.value (<-Builtin.clear_ #[t] T #[.slice (some a) n c])):Sem Next).run P w=_;have s:=J9 (P:=P) (Builtin.zeroCells z.cells n).toList w 0 m;cases n with
 | zero=>exact absurd f (Nat.lt_irrefl _)
 | succ n=>simp [Builtin.clear_,run_underlying h,d,s]
end
end Go.Vc
end
section
namespace Go.Proofs.YtefdfaeieekioaaGreatDoor
open Go.Vc Go.RowKit Go.Fl
structure Env (w:World):Prop where
 tab:Tab w
 syn:∃ tp p,w.var? Tryz.prog "strconv.ErrSyntax"=some #[.iface tp p]
 rng:∃ tp p,w.var? Tryz.prog "strconv.ErrRange"=some #[.iface tp p]
theorem A6b {w b:World} {n:String} {x:Array Value} (h:w.var? Tryz.prog n=some x) (d:Below w.heap.size w b):b.var? Tryz.prog n=some x:=by
 unfold World.var? at*;cases c:Tryz.prog.globalNamed n with
 | none=>simp [c] at h
 | some g=>
  simp only [c,Option.bind_some] at h ⊢;have l:g<w.heap.size:=by
   obtain a|a:=zm g w.heap.size
   ·exact a
   ·rw [Array.getElem?_eq_none a] at h;cases h
  rw [d.block g l];exact h
theorem Env.below {w w':World} (d:Env w) (h:Below w.heap.size w w'):Env w':=
 ⟨d.tab.below h,by obtain⟨a,b,c⟩:=d.syn;exact⟨a,b,A6b c h⟩,by obtain⟨a,b,c⟩:=d.rng;exact⟨a,b,A6b c h⟩⟩
theorem W4 (t:List UInt8) (a b:Nat):(⟨t.toArray⟩:ByteArray).extract a b=⟨((t.drop a).take (b-a)).toArray⟩:=by apply ByteArray.ext;rw [ByteArray.data_extract];simp [List.extract]
theorem A7w (w:World) (o:Operand):(do eqGuard .neq 245 o (.const .nilIface) .nilIface .nilIface;Go.binOp .neq 245 .nilIface .nilIface:Sem Value).run Tryz.prog w=.ok (.bool false) w:=by
 have h:(Go.binOp .neq 245 .nilIface .nilIface).run Tryz.prog w=.ok (.bool false) w:=by kernel_rfl
 simp [eqGuard,h]
theorem A29 (w:World) (o:Operand) (t:TypeId) (p:Value):(do eqGuard .neq 245 o (.const .nilIface) (.iface t p) .nilIface;Go.binOp .neq 245 (.iface t p) .nilIface:Sem Value).run Tryz.prog w=.ok (.bool true) w:=by
 have h:(Go.binOp .neq 245 (.iface t p) .nilIface).run Tryz.prog w=.ok (.bool true) w:=by kernel_rfl
 simp [eqGuard,h]
theorem A7x {w w':World} {e:TypeId} (h:w'=w\/∃ t,w'=Lib.bytesWorld w e t):Below w.heap.size w w':=by
 obtain rfl|⟨t,rfl⟩:=h
 ·exact Below.refl _ _
 ·exact Lib.bytesWorld_below w e t
theorem A9D (t:List UInt8) (b:t.length<=1073741824) (n:Int) (a:Lib.parseIntB 64 t=.ok n) (w:World):Calls Tryz.prog 286 #[.string ⟨t.toArray⟩,.int .i64 10,.int .i64 64] w (D4 (.tuple #[.int .i64 n,.nilIface]) w):=
 (Tryz.strconv_ParseInt_10_at64_ok ⟨t.toArray⟩ (by rw [I5];omega) n a w).mono fun e w' h=>⟨h.1,A7x h.2⟩
theorem A6c (t:List UInt8) (g:t.length<=1073741824) (f:∀ n,Lib.parseIntB 64 t≠.ok n) (w:World) (d:Env w):
  Calls Tryz.prog 286 #[.string ⟨t.toArray⟩,.int .i64 10,.int .i64 64] w (fun e w'=>∃ x a p,e=.returned (.tuple #[.int .i64 x,.iface a p])/\Below w.heap.size w w'):=by
 have l:(⟨t.toArray⟩:ByteArray).size<=281474976710656:=by rw [I5];omega
 rcases hp:Lib.parseIntB 64 t with n | _ | _
 ·exact absurd hp (f n)
 ·obtain⟨a,p,hv⟩:=d.syn;refine (Any.strconv_ParseInt_10_at64_syntax_var Tryz.laysC174 ⟨t.toArray⟩ l hp a p w hv).mono fun e w' h=>?_;obtain⟨N,b,_,_,c⟩:=h;exact⟨_,_,_,b,c⟩
 ·obtain⟨a,p,hv⟩:=d.rng;refine (Tryz.strconv_ParseInt_10_at64_range_var ⟨t.toArray⟩ l hp a p w hv).mono fun e w' h=>?_;obtain⟨N,b,_,_,c⟩:=h;exact⟨_,_,_,b,c⟩
def A7g (t:List UInt8):Int × Int × Int:=match A88 t with | some n=>(1,n,0) | none=>(0,0,1)
theorem B0F (t:List UInt8) (d:t.length<=1073741824) (w:World) (k:Env w):
  Calls Tryz.prog 263 #[.string ⟨t.toArray⟩] w (D4 (.tuple #[.agg #[.int .i64 (A7g t).1,.int .i64 (A7g t).2.1,.string ⟨#[]⟩,.slice none 0 0],.int .i64 (A7g t).2.2]) w):=by
 refine vE Tryz.func263 ?_;have h:=Ctx.start w no (fun _ a=>a.elim);refine h.n fun A r q h=>?_;have i:A88 t=none->A7g t=(0,0,1):=fun a=>by rw [A7g,a]
 rcases hp:Lib.parseIntB 64 t with n | _ | _
 ·have o:B9 n:=by have m:=Lib.parseIntB_bounds hp;simp only [show (2:Nat) ^ (64-1)=9223372036854775808 by decide] at m;unfold B9;omega
  refine h.q (A9D t d n hp _) fun l c h=>?_;refine⟨_,fun w=>A7w w _,?_⟩;refine h.q (A7r n o _ (k.tab.below h.below)) fun u s h=>?_;by_cases b:Lib.itoa n=t
  ·refine B4 (by show (!D7 _ _)=false;rw [b];simp [D7]) ?_;refine h.s 0 rfl fun S g h=>?_;refine h.a 0 rfl rfl ?_;refine⟨?_,h.below⟩;have e:A7g t=(1,n,0):=by rw [A7g,A88,hp];simp [b]
   rw [e];rfl
  ·refine B5 (by show (!D7 _ _)=true;simp [D7,b]) ?_;refine h.s 0 rfl fun S g h=>?_;refine h.a 0 rfl rfl ?_;refine⟨?_,h.below⟩;have e:A7g t=(0,0,1):=i (by rw [A88,hp];simp [b]);rw [e];rfl
 ·refine⟨(A6c t d (fun n a=>by rw [hp] at a;cases a) _ (k.below h.below)).mono fun e l b=>?_⟩;obtain⟨x,j,p,f,c⟩:=b;refine⟨_,f,?_⟩;have h:=(h.quiet c).1;refine⟨_,fun w=>A29 w _ j p,?_⟩;refine h.s 0 rfl fun S g h=>?_;refine h.a 0 rfl rfl ?_;refine⟨?_,h.below⟩;have e:A7g t=(0,0,1):=i (by rw [A88,hp]);rw [e];rfl
 ·refine⟨(A6c t d (fun n a=>by rw [hp] at a;cases a) _ (k.below h.below)).mono fun e l b=>?_⟩;obtain⟨x,j,p,f,c⟩:=b;refine⟨_,f,?_⟩;have h:=(h.quiet c).1;refine⟨_,fun w=>A29 w _ j p,?_⟩;refine h.s 0 rfl fun S g h=>?_;refine h.a 0 rfl rfl ?_;refine⟨?_,h.below⟩;have e:A7g t=(0,0,1):=i (by rw [A88,hp]);rw [e];rfl
def C1o (f:Nat):Prop:=∀ (t:List UInt8) (depth:Int) (w:World),depth=7-(f:Int)->t.length<=1073741824->Env w->
 Calls Tryz.prog 221 #[.string ⟨t.toArray⟩,.int .i64 depth] w (fun e w'=>∃ cs,e=.returned (.tuple #[.agg cs.toArray,.int .i64 ((N8 f t).2.1:Nat),.int .i64 (N8 f t).2.2])/\Below w.heap.size w w'/\RepC (ext no w w') w' (N8 f t).1 cs)
def A1I (f:Nat) (t:List UInt8):V × Int:=match M2 (N8 f) 6000 t with | some l=>(.mk 3 0 ⟨#[]⟩ l,0) | none=>(V0,1)
theorem RepC.V0 (S:Nat->Prop) (w:World):RepC S w V0 [.int .i64 0,.int .i64 0,.string ⟨#[]⟩,.slice none 0 0]:=by rw [Go.Proofs.YtefdfaeieekioaaGreatDoor.V0,RepC];exact⟨none,0,[],rfl,by rw [RepL],zc _,zb _,fun h=>absurd rfl h⟩
theorem RepC.sub {S S':Nat->Prop} {w:World} {v:V} {cs:List Value} (h:RepC S w v cs) (s:∀ b,S b->S' b):RepC S' w v cs:=RepC.map (fun h=>h.sub s) h
theorem RepL.sub {S S':Nat->Prop} {w:World} {v:List V} {cs:List Value} (h:RepL S w v cs) (s:∀ b,S b->S' b):RepL S' w v cs:=RepL.map (fun h=>h.sub s) h
theorem RepC.fut {b S:Nat->Prop} {a w:World} {v:V} {cs:List Value} (h:RepC b a v cs) (f:Fut b a S w):RepC S w v cs:=RepC.map (fun h=>h.fut f) h
theorem RepL.fut {b S:Nat->Prop} {a w:World} {v:List V} {cs:List Value} (h:RepL b a v cs) (f:Fut b a S w):RepL S w v cs:=RepL.map (fun h=>h.fut f) h
theorem RepL.snoc {S:Nat->Prop} {w:World} {x:V} {c:List Value} (a:RepC S w x c):∀ {l:List V} {xs:List Value},RepL S w l xs->RepL S w (l++[x]) (xs++c)
 | [],xs,h=>by
  rw [RepL] at h;subst h;rw [List.nil_append,List.nil_append,RepL];exact⟨c,[],a,by rw [RepL],by simp⟩
 | v::r,xs,h=>by rw [RepL] at h;obtain⟨s,y,b,d,e⟩:=h;rw [List.cons_append,RepL];exact⟨s,y++c,b,RepL.snoc a d,by rw [e,zw]⟩
theorem A0Z:(Tryz.prog.info? 107).map (fun i=>(i.zero,i.size,i.bytes))=some (some (.agg #[.int .i64 0,.int .i64 0,.string ⟨#[]⟩,.slice none 0 0]),4,56):=by kernel_rfl
attribute [local irreducible] Int.subNatNat in
theorem B44 (f:Nat) (Z:f<=6) (ih:C1o f) (t:List UInt8) (p:Int) (w:World) (hd:p=6-(f:Int)) (ht:t.length<=1073741824) (hw:Env w):
  Calls Tryz.prog 264 #[.string ⟨t.toArray⟩,.int .i64 p] w (fun e w'=>∃ cs,e=.returned (.tuple #[.agg cs.toArray,.int .i64 (A1I f t).2])/\Below w.heap.size w w'/\RepC (ext no w w') w' (A1I f t).1 cs):=by
 refine vE Tryz.func264 ?_;intro F w1 E;have h:=((Ctx.start w no (fun _ g=>g.elim)).loc E).1;refine h.n fun B w2 H h=>?_;refine⟨h.may 0 rfl 0 _ (zc 4) rfl,?_⟩;intro w3 h3;have h:=(h.set 0 rfl h3).1;refine⟨(Nat->Prop) × Option Addr × Nat × List V × List Value × List UInt8,fun x=>[(0,.string ⟨x.2.2.2.2.2.toArray⟩),(1,.int .i64 p),(4,.pointer (some ⟨F,0,none⟩)),(6,.pointer (some ⟨B,0,none⟩))],
  fun x w'=>Ctx no w x.1 w' [(B,107,[.int .i64 3,.int .i64 0,.string ⟨#[]⟩,.slice x.2.1 x.2.2.2.1.length x.2.2.1]),(F,107,[.int .i64 0,.int .i64 0,.string ⟨#[]⟩,.slice none 0 0])]/\
   Own x.1 w.heap.size w' [(B,107,[.int .i64 3,.int .i64 0,.string ⟨#[]⟩,.slice x.2.1 x.2.2.2.1.length x.2.2.1]),(F,107,[.int .i64 0,.int .i64 0,.string ⟨#[]⟩,.slice none 0 0])] 107 4 x.2.1 x.2.2.2.1.length x.2.2.1 x.2.2.2.2.1/\
   RepL x.1 w' x.2.2.2.1 x.2.2.2.2.1/\x.2.2.2.1.length<=6000/\x.2.2.2.2.2.length<=1073741824/\
   M2 (N8 f) 6000 t=(M2 (N8 f) (6000-x.2.2.2.1.length) x.2.2.2.2.2).map (x.2.2.2.1++·),
  fun x _=>x.2.2.2.2.2.length,(no,none,0,[],[],t),⟨rfl,rfl,rfl,rfl,t6⟩,⟨h,Own.nil,by rw [RepL],zb _,ht,?_⟩,?_⟩
 ·show M2 (N8 f) 6000 t=(M2 (N8 f) (6000-0) t).map ([]++·);cases M2 (N8 f) 6000 t<;>simp
 rintro⟨S,A,cap,l,xs,rest⟩ w' a6 ⟨h,o,L,hl,R,s⟩;simp only at h o L hl R s;cases rest with
 | nil=>
  refine df (Int.lt_irrefl 0) ?_;refine df (Int.lt_irrefl 0) ?_;obtain⟨h,Z,y⟩:=o.told h;have y:=y o.fit.1 o.fit.2;have L:=L.fut Z;refine h.a 0 rfl rfl ?_;refine⟨h.may 1 rfl 0 _ (zc 4) rfl,?_⟩;intro d h4;have b:=h.set 1 rfl h4;have h:=b.1;refine h.a 1 rfl rfl ?_;have e:A1I f t=(.mk 3 0 ⟨#[]⟩ l,0):=by rw [A1I,s,M2];simp
  refine⟨[.int .i64 3,.int .i64 0,.string ⟨#[]⟩,.slice A l.length cap],?_,h.below,?_⟩
  ·rw [e];rfl
  ·rw [e,RepC];exact⟨A,cap,xs,rfl,(L.fut b.2).fut h.out,(y.fut b.2).fut h.out⟩
 | cons c r=>
  have Y:(0:Int)<(((⟨(c::r).toArray⟩:ByteArray).size:Nat):Int):=by rw [I5,zj];omega
  refine dt Y ?_;refine h.c 0 rfl rfl ?_;have M:M2 (N8 f) 6000 t=none->∀ d:World,(b:Below w.heap.size w d)->∃ cs:List Value,Ending.returned (.tuple #[.agg #[.int .i64 0,.int .i64 0,.string ⟨#[]⟩,.slice none 0 0],.int .i64 1])=.returned (.tuple #[.agg cs.toArray,.int .i64 (A1I f t).2])/\Below w.heap.size w d/\RepC (ext no w d) d (A1I f t).1 cs:=by
   intro hn d b;have e:A1I f t=(Go.Proofs.YtefdfaeieekioaaGreatDoor.V0,1):=by rw [A1I,hn]
   rw [e];exact⟨[.int .i64 0,.int .i64 0,.string ⟨#[]⟩,.slice none 0 0],rfl,b,RepC.V0 _ _⟩
  refine A09 (fun m=>?_) (fun m=>?_)
  ·have m:l.length<6000:=by have:=of_decide_eq_true m;omega
   have a0:IntKind.i64.wrap (p+1)=7-(f:Int):=by rw [G8 _ _ (by omega) (by omega)];omega
   refine⟨(ih (c::r) (IntKind.i64.wrap (p+1)) w' a0 R (hw.below h.below)).mono fun e d b=>?_⟩;obtain⟨cs,e1,X,G⟩:=b;refine⟨_,e1,?_⟩;have u:M2 (N8 f) (6000-l.length) (c::r)=if (N8 f (c::r)).2.2≠0 then none else (M2 (N8 f) (6000-(l.length+1)) ((c::r).drop (N8 f (c::r)).2.1)).map ((N8 f (c::r)).1::·):=by rw [show 6000-l.length=(6000-(l.length+1))+1 by omega,M2]
   have T:=A5G f (c::r);have a3:∀ v n,N8 f (c::r)=(v,n,0)->0<n:=by
    intro v n b;have E:=(T v n b).2.1;obtain g|g:=Nat.eq_zero_or_pos n
    ·subst g;have H:=yb List.length E;rw [E8] at H;simp at H
    ·exact g
   generalize a5:N8 f (c::r)=q at*;obtain⟨v,n,J⟩:=q;simp only at u G;obtain⟨k,n',s',i⟩:=v;have Q:=G;rw [RepC] at Q;obtain⟨K,N,a7,rfl,_,_⟩:=Q;have C:=h.call X;have h:=C.1;have o:=o.below X;have L:=L.fut C.2;have a:=G.sub (S':=ext S w' d) (fun a9 hb=>.inr (hb.resolve_left (fun g=>g.elim)));intro g7 w5 I;have o:=o.loc I;have C:=h.loc I;have h:=C.1;have L:=L.fut C.2;have a:=a.fut C.2;refine⟨h.may 0 rfl 0 _ (zc 4) rfl,?_⟩;intro w6 W;have o:=o.set h 0 rfl W;have C:=h.set 0 rfl W;have h:=C.1;have L:=L.fut C.2;have a:=a.fut C.2;by_cases D:J=0
   ·subst D;refine h.c 1 rfl rfl ?_;refine h.a 0 rfl rfl ?_;intro g8 U j;have o:=o.loc j;have C:=h.loc j;have h:=C.1;have L:=L.fut C.2;have a:=a.fut C.2;refine X9 Tryz.underlying105 A0Z rfl (by decide) h o (ys:=[.int .i64 k,.int .i64 n',.string s',.slice K i.length N]) rfl (h.cells 0 rfl) rfl (by omega) (by decide) ?_;intro a1 a2 w8 h O o _;have L:=L.fut O;have a:=a.fut O;refine⟨h.may 2 rfl 3 _ (zc 4) rfl,?_⟩;intro w9 P;have o:=o.set h 2 rfl P;have C:=h.set 2 rfl P;have h:=C.1;have L:=L.fut C.2;have a:=a.fut C.2;obtain⟨a4,_,_⟩:=T _ _ rfl;have a8:=a3 _ _ rfl;refine⟨⟨Int.natCast_nonneg _,by rw [I5];exact Int.ofNat_le.2 a4,Int.le_refl _⟩,?_⟩;have u:M2 (N8 f) (6000-l.length) (c::r)=(M2 (N8 f) (6000-(l.length+1)) ((c::r).drop n)).map (V.mk k n' s' i::·):=by simpa using u
    refine⟨(_,a1,a2,l++[V.mk k n' s' i],xs++[.int .i64 k,.int .i64 n',.string s',.slice K i.length N],(c::r).drop n),⟨?_,rfl,rfl,rfl,t6⟩,⟨?_,?_,L.snoc a,?_,?_,?_⟩,?_⟩
    ·refine yb _ ((W4 (c::r) _ _).trans ?_);rw [ym (by rw [zh,zi,zi,I5];exact zc _),zi]
    ·have:=h.drop.drop;rw [z6,List.length_singleton];exact this
    ·have:=o.drop.drop;rw [z6,List.length_singleton];exact this
    ·show (l++[V.mk k n' s' i]).length<=6000;rw [z6,List.length_singleton];omega
    ·show ((c::r).drop n).length<=_;rw [zh];omega
    ·show M2 (N8 f) 6000 t=(M2 (N8 f) (6000-(l++[V.mk k n' s' i]).length) ((c::r).drop n)).map ((l++[V.mk k n' s' i])++·);rw [s,u,Option.map_map,z6,List.length_singleton];congr 1;funext z;simp
    ·show ((c::r).drop n).length<(c::r).length;rw [zh,zj] at *;omega
   ·refine B5 (by show (J != 0)=true;simpa using D) ?_;refine⟨h.may 2 rfl 0 _ (zc 4) rfl,?_⟩;intro U j;have h:=(h.set 2 rfl j).1;refine h.a 2 rfl rfl ?_;exact M (by rw [s,u,yn D];rfl) _ h.below
  ·have m:¬ l.length<6000:=by have:=of_decide_eq_false m;omega
   refine dt Y ?_;refine⟨h.may 1 rfl 0 _ (zc 4) rfl,?_⟩;intro U j;have h:=(h.set 1 rfl j).1;refine h.a 1 rfl rfl ?_;exact M (by rw [s,show 6000-l.length=0 by omega,M2];rfl) _ h.below
end Go.Proofs.YtefdfaeieekioaaGreatDoor
end
