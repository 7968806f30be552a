import Derived.Test.YtefdfaeieekioaaGreatDoorZ02
import Derived.Lib.Builder
import Derived.Lib.AppendStr
import Derived.Shelf.Strings.Builder1
import Derived.Shelf.Small.Strs
import Derived.Shelf.Strings.BuilderF
import Derived.Shelf.Strings.BuilderK
import Derived.Shelf.Strconv.Itoa0
import Derived.Shelf.Strconv.Itoa1
import Derived.Shelf.LaysM
import Derived.Shelf.Strconv.Itoa2
import Derived.Shelf.Strconv.Itoa3
import Derived.Shelf.Strconv.Itoa4
import Derived.Shelf.Strconv.ParseIntEmpty
import Derived.Shelf.Strconv.Clone
import Derived.Shelf.Strconv.SyntaxError
import Derived.Shelf.LaysC
import Derived.Shelf.Strconv.ToError
import Derived.Shelf.Strconv.Lower
import Derived.Shelf.Strconv.ParseUint10
import Derived.Shelf.Strconv.ParseUint10Empty
import Derived.Shelf.Strconv.ParseUint10Any
import Derived.Shelf.Strconv.ParseInt10
import Derived.Shelf.Strconv.RangeError
import Derived.Shelf.Strconv.ToErrorRange
import Derived.Shelf.Strconv.ParseUintEmpty
import Derived.Shelf.Strconv.ParseUint10b64
import Derived.Shelf.Strconv.ParseUint10b32
import Derived.Shelf.Strconv.ParseUint10b16
import Derived.Shelf.Strconv.ParseUint10b8
import Derived.Shelf.Strconv.ParseUint10At
import Derived.Shelf.Strconv.ParseInt10At64
import Derived.Shelf.Strconv.ParseInt10At32
import Derived.Shelf.Strconv.ParseInt10At16
import Derived.Shelf.Strconv.ParseInt10At8
import Derived.Shelf.Strconv.ParseInt10All
import Derived.Shelf.Strconv.ParseIntPublic10
import Derived.Shelf.Strconv.ErrVarParseInt
import Derived.Shelf.Strings.Search1
import Derived.Shelf.Strings.Prefix
import Derived.Ground.Names2Prog
import Derived.Shelf.Slices.Clone
import Derived.Shelf.Slices.Delete
import Derived.Shelf.Slices.Cells
import Derived.Shelf.Slices.Empties
import Derived.Ground.SlgnProg
import Derived.Shelf.SlicesG.SearchI
import Derived.Shelf.SlicesE.Clone
import Derived.Test.YtefdfaeieekioaaGreatDoorProg
import Derived.Lib.AppendIntMem
import Derived.Lib.ItoaLen
import Derived.Lib.ParseIntBTie
import Derived.Lib.ParseIntBCases
import Derived.Lib.AppendZerosOnto
set_option maxRecDepth 100000
set_option maxHeartbeats 40000000
set_option linter.unusedVariables false
set_option linter.unusedSimpArgs false
namespace Go.Proofs.YtefdfaeieekioaaGreatDoor
open Go.Vc Go.RowKit Go.Fl
structure D where
 kind:Int
 key:ByteArray
 body:ByteArray
 ver:Int
 cond:Int
 tag:ByteArray
 req:Int
 low:Int
def B3 (n:Int):Prop := -9223372036854775808<=n/\n<=9223372036854775807
def X6 (s:ByteArray):Prop:=s.size<=9223372036854775807
structure D.Ok (d:D):Prop where
 kind:B3 d.kind
 key:X6 d.key
 body:X6 d.body
 ver:B3 d.ver
 cond:B3 d.cond
 tag:X6 d.tag
 req:B3 d.req
 low:B3 d.low
def B6s (s:ByteArray):Bool:=(Y7 s.data.toList).2
def mt (s:ByteArray):Bool:=D3 s ⟨#[]⟩
def L3 (d:D):Bool:=
 A8A d.key&&!(S6 d.req==0)&&!decide (d.low<0)&&!decide (d.req<d.low)&&
 (if d.kind==1 then d.ver==0&&decide ((d.body.size:Int)<=300)&&decide (0<=d.cond)&&decide (d.cond<=2)&&(B6s d.tag==(d.cond==2))&&(B6s d.tag||mt d.tag)
  else if d.kind==2 then mt d.body&&d.cond==0&&mt d.tag&&d.ver==0
  else if d.kind==3 then mt d.body&&d.cond==0&&mt d.tag&&decide (1<=d.ver)&&decide (d.ver<=1099511627776)
  else false)
theorem A3X (d:D) (h:d.Ok) (w:World):Calls Tryz.prog 50 #[.agg #[.int .i64 d.kind,.string d.key,.string d.body,.int .i64 d.ver,.int .i64 d.cond,.string d.tag,.int .i64 d.req,.int .i64 d.low]] w (C8 (.bool (L3 d)) w):=by
 refine vE Tryz.func50 ?_;intro g w1 h1;have hc:=((Ctx.start w no (fun _ h=>h.elim)).loc h1).1
 repeat' (first | refine B0 (by assumption) ?_ | refine C3X (by assumption) ?_ | refine X4 (by decide) ?_ | refine hc.c 0 rfl rfl ?_ | (refine B4 (A9b d.key h.key _) ?_;intro w2 h2;have hc:=(hc.quiet h2).1) | (refine B4 (K0 d.req _) ?_;intro w3 h3;have hc:=(hc.quiet h3).1) | (refine B4 (A1m d.tag _) ?_;intro w4 h4;have hc:=(hc.quiet h4).1) | refine A0x (fun _=>?_) (fun _=>?_))
 all_goals (refine⟨B7 ?_,hc.below⟩)
 all_goals clear hc h1
 all_goals simp only [Bool.not_eq_true',Bool.not_eq_false'] at*
 all_goals simp only [L3,B6s,mt, *]
 all_goals first | rfl | (simp;done) | skip
 all_goals (rename_i e1 e2 e3;rw [e2] at e1;simp only [e1];simp)
inductive V where
 | mk (k n:Int) (s:ByteArray) (l:List V)
mutual
def RepC (S:Nat->Prop) (w:World):V->List Value->Prop
 | .mk k n s l,cs=>∃ A cap xs,cs=[.int .i64 k,.int .i64 n,.string s,.slice A l.length cap]/\RepL S w l xs/\Row S w A l.length cap xs
def RepL (S:Nat->Prop) (w:World):List V->List Value->Prop
 | [],xs=>xs=[]
 | v::r,xs=>∃ cs ys,RepC S w v cs/\RepL S w r ys/\xs=cs++ys
end
mutual
theorem RepC.map {S S':Nat->Prop} {w w':World} (h:∀ {A:Option Addr} {n cap:Nat} {xs:List Value},Row S w A n cap xs->Row S' w' A n cap xs):∀ {v:V} {cs:List Value},RepC S w v cs->RepC S' w' v cs
 | .mk k n s l,cs,hr=>by rw [RepC] at hr ⊢;obtain⟨A,cap,xs,e,h1,h2⟩:=hr;exact⟨A,cap,xs,e,RepL.map h h1,h h2⟩
theorem RepL.map {S S':Nat->Prop} {w w':World} (h:∀ {A:Option Addr} {n cap:Nat} {xs:List Value},Row S w A n cap xs->Row S' w' A n cap xs):∀ {l:List V} {xs:List Value},RepL S w l xs->RepL S' w' l xs
 | [],xs,hr=>by rw [RepL] at hr ⊢;exact hr
 | v::r,xs,hr=>by rw [RepL] at hr ⊢;obtain⟨cs,ys,h1,h2,e⟩:=hr;exact⟨cs,ys,RepC.map h h1,RepL.map h h2,e⟩
end
theorem RepC.len {S:Nat->Prop} {w:World}:∀ {v:V} {cs:List Value},RepC S w v cs->cs.length=4
 | .mk k n s l,cs,hr=>by rw [RepC] at hr;obtain⟨A,cap,xs,e,_,_⟩:=hr;rw [e];rfl
theorem RepL.len {S:Nat->Prop} {w:World}:∀ {l:List V} {xs:List Value},RepL S w l xs->xs.length=4*l.length
 | [],xs,hr=>by rw [RepL] at hr;rw [hr];rfl
 | v::r,xs,hr=>by rw [RepL] at hr;obtain⟨cs,ys,h1,h2,e⟩:=hr;rw [e,z6,h1.len,RepL.len h2,zi];omega
theorem RepL.get {S:Nat->Prop} {w:World}:∀ {l:List V} {xs:List Value},RepL S w l xs->∀ (i:Nat) (hi:i<l.length),∃ cs,RepC S w l[i] cs/\∀ j u,cs[j]?=some u->xs[i*4+j]?=some u
 | v::r,xs,hr,0,_=>by
  rw [RepL] at hr;obtain⟨cs,ys,h1,h2,e⟩:=hr;refine⟨cs,h1,fun j u hu=>?_⟩;have hj:j<cs.length:=by
   rcases zl j cs.length with h | h
   ·exact h
   ·rw [List.getElem?_eq_none h] at hu;cases hu
  rw [e,Nat.zero_mul,zm,List.getElem?_append_left hj];exact hu
 | v::r,xs,hr,i+1,hi=>by rw [RepL] at hr;obtain⟨cs,ys,h1,h2,e⟩:=hr;obtain⟨ds,h3,h4⟩:=RepL.get h2 i (Nat.lt_of_succ_lt_succ hi);refine⟨ds,h3,fun j u hu=>?_⟩;rw [e,List.getElem?_append_right (by rw [h1.len];omega),h1.len,show (i+1)*4+j-4=i*4+j from by omega];exact h4 j u hu
theorem RepC.below {S:Nat->Prop} {w w':World} {v:V} {cs:List Value} (h:RepC S w v cs) (hb:Below w.heap.size w w'):RepC S w' v cs:=RepC.map (fun h=>h.below hb) h
theorem RepL.below {S:Nat->Prop} {w w':World} {l:List V} {xs:List Value} (h:RepL S w l xs) (hb:Below w.heap.size w w'):RepL S w' l xs:=RepL.map (fun h=>h.below hb) h
theorem Rep.elem {S:Nat->Prop} {w:World} {l:List V} {xs:List Value} {A:Option Addr} {cap:Nat} (h:RepL S w l xs) (hR:Row S w A l.length cap xs) (i:Nat) (hi:i<l.length):
  ∃ ad cs,A=some ad/\RepC S w l[i] cs/\cs.length=4/\Go.Vc.cellsAt w (ad.add (i*4)) cs 0:=by
 obtain⟨cs,h1,h2⟩:=h.get i hi;have hl:=h1.len;have hx:=h.len;obtain⟨ad,e,hc⟩:=hR.get (i:=i*4) (by omega);refine⟨ad,cs,e,h1,hl,?_⟩;exact Z8 hc (i*4) cs 0 (fun j u hu=>by rw [Nat.add_zero];exact h2 j u hu)
def A0d (g:V->Int):List V->Int->Int
 | [],n=>n
 | x::r,n=>if 6000<n+g x then 6001 else A0d g r (n+g x)
def cnt:Nat->V->Int
 | 0,_=>6001
 | f+1,.mk k n s l=>
  if (k==1&&mt s&&((l.length:Int)==0))||(k==2&&n==0&&((l.length:Int)==0)) then 1
  else if k != 3||!(n==0)||!mt s then 6001
  else A0d (cnt f) l 1
theorem C4 (g:V->Int) (x:V) (r:List V) (n:Int):A0d g (x::r) n=if 6000<n+g x then 6001 else A0d g r (n+g x):=by rw [A0d]
theorem A2y (g:V->Int) (hg:∀ v,1<=g v):∀ (l:List V) (n:Int),1<=n->n<=6000->1<=A0d g l n/\A0d g l n<=6001
 | [],n,h1,h2=>by unfold A0d;omega
 | x::r,n,h1,h2=>by
  unfold A0d;have:=hg x;split
  ·omega
  ·exact A2y g hg r _ (by omega) (by omega)
theorem L4:∀ (f:Nat) (v:V),1<=cnt f v/\cnt f v<=6001
 | 0,_=>by unfold cnt;omega
 | f+1,.mk k n s l=>by
  unfold cnt;split
  ·omega
  ·split
   ·omega
   ·exact A2y _ (fun v=>(L4 f v).1) l 1 (by omega) (by omega)
theorem A9m:∀ (f:Nat) (depth:Int),depth=7-f->f<=6->∀ (v:V) (cs:List Value) (S:Nat->Prop) (w:World),RepC S w v cs->Calls Tryz.prog 212 #[.agg cs.toArray,.int .i64 depth] w (C8 (.int .i64 (cnt f v)) w):=by
 intro f;induction f with
 | zero=>
  intro depth hd hf v cs S w hr;obtain⟨k,n,s,l⟩:=v;rw [RepC] at hr;obtain⟨A,cap,xs,rfl,hL,hR⟩:=hr;refine vE Tryz.func212 ?_;intro g2 w2 h2;have hc:=((Ctx.start w no (fun _ h=>h.elim)).loc h2).1;have b2:=hc.blk 0 rfl;refine vD (.Q [0,1,2,3,4,5,6,7,8,9,10,11,12] .fin) (Keeps (fun b=>b=g2) w2) (Keeps.start _ _) ?_;refine⟨_,fun x hx=>hx.cell b2 rfl rfl,?_⟩;refine⟨_,fun x hx=>hx.cell b2 rfl rfl,?_⟩;refine⟨_,fun x hx=>hx.cell b2 rfl rfl,?_⟩;refine dt (by omega) ?_;exact⟨rfl,hc.drew.below⟩
 | succ f ih=>
  intro depth hd hf v cs S w hr;obtain⟨k,n,s,l⟩:=v;rw [RepC] at hr;obtain⟨A,cap,xs,rfl,hL,hR⟩:=hr;refine vE Tryz.func212 ?_;intro g2 w2 h2;have hc:=((Ctx.start w no (fun _ h=>h.elim)).loc h2).1;have b2:=hc.blk 0 rfl;refine vD (.Q [0,1,2,3,4,5,6,7,8,9,10,11,12] .fin) (Keeps (fun b=>b=g2) w2) (Keeps.start _ _) ?_;refine⟨_,fun x hx=>hx.cell b2 rfl rfl,?_⟩;refine⟨_,fun x hx=>hx.cell b2 rfl rfl,?_⟩;refine⟨_,fun x hx=>hx.cell b2 rfl rfl,?_⟩;refine df (by omega) ?_;have hc:=hc.drew;have out:∀ x:Int,cnt (f+1) (.mk k n s l)=x->C8 (.int .i64 (cnt (f+1) (.mk k n s l))) w (.returned (.int .i64 x)) w2.drew:=fun x e=>⟨by rw [e],hc.below⟩;by_cases k3:k=3
  ·subst k3;refine hc.c 0 rfl rfl ?_;refine hc.c 0 rfl rfl ?_;refine hc.c 0 rfl rfl ?_;cases e1:(n==0)
   ·refine out 6001 ?_;simp [cnt,e1]
   cases e2:mt s
   ·refine B0 (by show (!D3 s ⟨#[]⟩)=true;rw [show D3 s ⟨#[]⟩=false from e2];rfl) ?_;refine out 6001 ?_;simp [cnt,e2]
   refine C3X (by show (!D3 s ⟨#[]⟩)=false;rw [show D3 s ⟨#[]⟩=true from e2];rfl) ?_;have ec:cnt (f+1) (.mk 3 n s l)=A0d (cnt f) l 1:=by simp [cnt,e1,e2]
   rw [ec];refine hc.c 0 rfl rfl ?_;refine⟨Nat × Int,fun q=>[(1,.int .i64 depth),(8,.int .i64 q.2),(56,.slice A l.length cap),(57,.int .i64 l.length),(58,.int .i64 q.1)],
    fun q w'=>q.1<=l.length/\1<=q.2/\q.2<=6000/\A0d (cnt f) (l.drop q.1) q.2=A0d (cnt f) l 1/\Below w.heap.size w w',fun q _=>l.length-q.1,(0,1),
    ⟨rfl,rfl,rfl,rfl,rfl,trivial⟩,⟨zb _,by decide,by decide,rfl,hc.below⟩,?_⟩
   rintro⟨i,m⟩ w' u ⟨hi,hm1,hm2,he,hb⟩;have hM:l.length<=9223372036854775807:=zo (zo hR.1 hR.2.1) (by decide);by_cases hlt:i<l.length
   ·refine dt (by show (i:Int)<(l.length:Int);omega) ?_;obtain⟨ad,es,rfl,hre,hl4,hcell⟩:=Rep.elem (hL.below hb) (hR.below hb) i hlt;rw [List.drop_eq_getElem_cons hlt] at he;rw [C4] at he;generalize l[i]=v at*;have hre0:=hre;obtain⟨k',n',s',l'⟩:=v;rw [RepC] at hre;obtain⟨A',cap',xs',rfl,_,_⟩:=hre;refine⟨⟨by omega,by omega⟩,?_⟩;refine⟨_,hl4,hcell,?_⟩;intro g5 w5 h5;have c5:=((Ctx.start w' no (fun _ h=>h.elim)).loc h5).1;refine⟨c5.may 0 rfl 0 _ (zc 4) rfl,?_⟩;intro w6 h6;have c6:=(c5.set 0 rfl h6).1;refine⟨_,?_,c6.cells 0 rfl,?_⟩
    ·rfl
    have hd1:IntKind.i64.wrap (depth+1)=7-(f:Int):=by rw [E0 _ _ (by omega) (by omega)];omega
    refine B4 (ih (IntKind.i64.wrap (depth+1)) hd1 (by omega) _ _ S w6 (hre0.below c6.below)) ?_;intro w7 h7;have c7:=(c6.quiet h7).1;have hb7:=hb.trans (c7.below.mono hb.size);have hr:=L4 f (.mk k' n' s' l');have hw:IntKind.i64.wrap (m+cnt f (.mk k' n' s' l'))=m+cnt f (.mk k' n' s' l'):=E0 _ _ (by omega) (by omega);by_cases hov:6000<m+cnt f (.mk k' n' s' l')
    ·refine dt (by rw [hw];exact hov) ?_;rw [y6 hov] at he;refine⟨?_,hb7⟩;rw [<-he];rfl
    ·refine df (by rw [hw];exact hov) ?_;rw [y7 hov] at he;refine⟨(i+1,m+cnt f (.mk k' n' s' l')),⟨rfl,y5 _ hw,rfl,rfl,y5 _ (C3 (by omega)),trivial⟩,⟨hlt,by show 1<=m+cnt f (.mk k' n' s' l');omega,by show m+cnt f (.mk k' n' s' l')<=6000;omega,he,hb7⟩,by show l.length-(i+1)<l.length-i;omega⟩
   ·refine df (by show ¬ (i:Int)<(l.length:Int);omega) ?_;rw [zq (by omega)] at he;refine⟨?_,hb⟩;rw [<-he];rfl
  ·have e3:(k != 3)=true:=by simpa using k3
   repeat' (first | refine B0 (by assumption) ?_ | refine C3X (by assumption) ?_ | refine X4 (by decide) ?_ | refine hc.c 0 rfl rfl ?_ | refine A0x (fun _=>?_) (fun _=>?_))
   all_goals refine out _ ?_
   all_goals simp [cnt,mt, *]
def A2z (v:V):Bool:=decide (cnt 6 v<=6000)
theorem A61 (v:V) (k n:Int) (s:ByteArray) (A:Option Addr) (len cap:Nat) (S:Nat->Prop) (w:World) (hr:RepC S w v [.int .i64 k,.int .i64 n,.string s,.slice A len cap]):
  Calls Tryz.prog 171 #[.agg #[.int .i64 k,.int .i64 n,.string s,.slice A len cap]] w (C8 (.bool (A2z v)) w):=by
 refine vE Tryz.func171 ?_;intro g2 w2 h2;have hc:=((Ctx.start w no (fun _ h=>h.elim)).loc h2).1;refine hc.a 0 rfl rfl ?_;refine B4 (A9m 6 1 (by decide) (by decide) v _ S w2 (hr.below hc.below)) ?_;intro w3 h3;exact⟨rfl,(hc.quiet h3).1.below⟩
def rsL (g:V->Int × Int):List V->Int->Int->Int × Int
 | [],n,d=>(n,d+1)
 | x::r,n,d=>if (g x).1<0\/6000<n then (-1,0) else rsL g r (n+(g x).1) (max d (g x).2)
def rs:Nat->V->Int × Int
 | 0,_=>(-1,0)
 | f+1,.mk k n s l=>
  if (k==1&&mt s&&((l.length:Int)==0))||(k==2&&n==0&&((l.length:Int)==0)) then (1,1)
  else if k != 3||n != 0||!mt s then (-1,0)
  else rsL (rs f) l 1 0
theorem V.kid {k n:Int} {s:ByteArray} {l:List V} {x:V} (h:x∈l):SizeOf.sizeOf x<SizeOf.sizeOf (V.mk k n s l):=by have:=List.sizeOf_lt_of_mem h;simp only [V.mk.sizeOf_spec];omega
theorem cellsAt_later {w w':World} (hb:Below w.heap.size w w') {a:Addr}:∀ (cs:List Value) (i:Nat),Go.Vc.cellsAt w a cs i->Go.Vc.cellsAt w' a cs i
 | [],_,_=>trivial
 | _::r,i,h=>⟨cell_later hb h.1,cellsAt_later hb r (i+1) h.2⟩
theorem A62 (p:Option Addr) (w:World) (ox oy:Operand):(do eqGuard .eql 241 ox oy (.pointer p) (.pointer none);Go.binOp .eql 241 (.pointer p) (.pointer none):Sem Value).run Tryz.prog w=.ok (.bool p.isNone) w:=by
 have h:∀ d:Nat,(Op.equalIn (d+1) 241 (.pointer p) (.pointer none)).run Tryz.prog w=.ok p.isNone w:=fun d=>by cases p<;>simp [Op.equalIn,run_underlying Tryz.underlying241]
 cases p<;>simp [eqGuard,Go.binOp,Op.equal,Op.maxDepth,h 9999]
theorem A0y (x:Value) (w:World):(callFunc 284 #[x]).run Tryz.prog w=.ok (.value x) w:=by rw [run_callFunc_extern Tryz.func284 (by kernel_rfl) (by kernel_rfl) (by kernel_rfl) (show Extern.find _=some Extern.AbiNoEscape.same by kernel_rfl)];rfl
theorem A9n (a:Addr) (w:World) (ox oy:Operand):(do eqGuard .neq 241 ox oy (.pointer (some a)) (.pointer (some a));Go.binOp .neq 241 (.pointer (some a)) (.pointer (some a)):Sem Value).run Tryz.prog w=.ok (.bool false) w:=by obtain⟨j,hj,_,_,_⟩:=info_parts (show (Tryz.prog.info? 243).map (fun i=>(i.zero,i.size,i.bytes))=some (some (.agg #[.pointer none,.slice none 0 0]),2,32) by kernel_rfl);have h:=Lib.run_neq_ptr_same (P:=Tryz.prog) w a Tryz.underlying241 hj;simp only [eqGuard];simpa using h
theorem A3Y (B b:Nat) (bs:List Value) (w:World) (h:Lib.IsBuilder 243 5 B b bs w):
  Calls Tryz.prog 256 #[.pointer (some ⟨b,0,none⟩)] w (fun e w'=>e=.returned (.tuple #[])/\Lib.BuilderAt 243 5 B b (.pointer (some ⟨b,0,none⟩)) bs w'/\Below B w w'):=by
 refine vE Tryz.func256 ?_;rcases h with h | h
 ·refine⟨_,h.cell0,?_⟩;refine⟨_,fun w=>A62 _ w _ _,?_⟩;obtain⟨j,hj,_,hj2,_⟩:=info_parts (show (Tryz.prog.info? 243).map (fun i=>(i.zero,i.size,i.bytes))=some (some (.agg #[.pointer none,.slice none 0 0]),2,32) by kernel_rfl);refine⟨_,_,Lib.run_to_unsafe w _ Tryz.underlying241 Tryz.underlying300 hj (by rw [hj2];decide) h.shape (by show (0:Nat)<2;decide),?_⟩;refine⟨_,_,A0y _ w,?_⟩;refine⟨_,_,Lib.run_from_unsafe w _ Tryz.underlying300 Tryz.underlying241 hj h.shape (by kernel_rfl),?_⟩;refine⟨⟨⟨_,h.cell0⟩,h.frozen0,rfl,trivial⟩,?_⟩;intro w1 h1;have e1:w1=w.setCell ⟨b,0,none⟩ (.pointer (some ⟨b,0,none⟩)):=h1;subst e1;exact⟨rfl,h.used _,(Below.refl B w).setCell (p:=⟨b,0,none⟩) h.1 _⟩
 ·refine⟨_,h.cell0,?_⟩;refine⟨_,fun w=>A62 _ w _ _,?_⟩;refine⟨_,h.cell0,?_⟩;refine⟨_,fun w=>A9n _ w _ _,?_⟩;exact⟨rfl,h,Below.refl _ _⟩
theorem B2M (B b:Nat) (l:List UInt8) (s:ByteArray) (w:World) (h:Lib.IsBuilder 243 5 B b (bv l) w) (hB:B<=w.heap.size) (hs:l.length+s.size<=34359738368):
  Calls Tryz.prog 214 #[.pointer (some ⟨b,0,none⟩),.string s] w (fun e w'=>e=.returned (.tuple #[.int .i64 s.size,.nilIface])/\Lib.IsBuilder 243 5 B b (bv (l++s.data.toList)) w'/\Below B w w'):=by
 refine vE Tryz.func214 ?_;refine⟨(A3Y B b (bv l) w h).mono fun e w1 he=>⟨_,he.1,?_⟩⟩;obtain⟨_,hw1,hb1⟩:=he;have hlt:=hw1.lt;obtain⟨hBb,v,hbk,hown,hne⟩:=hw1;have shape:∃ A cap,v=.slice A l.length cap:=by
  obtain⟨_,h6⟩:=hown;rw [A4i] at h6;rcases h6 with ⟨h6,h7⟩ | ⟨g,cp,cur,h6,_⟩
  ·exact⟨none,0,by rw [h7];exact h6⟩
  ·exact⟨_,_,h6⟩
 obtain⟨A,cap,rfl⟩:=shape;refine⟨.slice A l.length cap,Lib.cell_of_heap hbk 1,?_⟩;obtain⟨i,hi,hi1,hi2,hi3⟩:=info_parts A59;obtain⟨v',w2,hrun,hown2,hg,_⟩:=Lib.run_append_own_string (P:=Tryz.prog) w1 B 207 9 207 5 i Tryz.underlying207 Tryz.underlying9 hi hi1 hi2 hi3 _ _ _ hown s (by rw [A4i];simp only [maxLen];omega) (by rw [A4i];omega) (zo hB hb1.size);have B4M:∃ A' n' cap',v'=.slice A' n' cap':=by
  obtain⟨_,h6⟩:=hown2;rcases h6 with ⟨h6,h7⟩ | ⟨g,cp,cur,h6,_⟩
  ·exact⟨_,_,_,h6⟩
  ·exact⟨_,_,_,h6⟩
 obtain⟨A',n',cap',rfl⟩:=B4M;refine⟨.slice A' n' cap',w2,?_,?_⟩
 ·show (do pure (Next.value (<-Builtin.append_ #[207,9] 207 #[.slice A l.length cap,.string s])):Sem Next).run Tryz.prog w1=_;simp only [Sem.run_bind,hrun,Result.andThen_ok,Sem.run_pure]
 have hbk2:w2.heap[b]?=some (.cells #[.pointer (some ⟨b,0,none⟩),.slice A l.length cap] 243 (0,0)):=(hg.block b hlt (fun e=>hne e.symm)).trans hbk;refine⟨⟨⟨_,Lib.cell_of_heap hbk2 1⟩,Lib.frozen_of_heap hbk2 1,rfl,trivial⟩,?_⟩;intro w3 h3;have e3:w3=w2.setCell ⟨b,1,none⟩ (.slice A' n' cap'):=h3;subst e3;have hbs:bv l++Lib.strCells s=bv (l++s.data.toList):=by rw [A4j];rfl
 have hown3:w2.ownsRow B 5 1 (.slice A' n' cap') (bv (l++s.data.toList)).length (bv (l++s.data.toList)):=by rw [<-hbs,z6,Lib.strCells_length];exact hown2
 have hb2:Below B w w2:=hb1.grown hg (zo hB hb1.size) (fun k hk=>by have:=hown.lt k hk;exact this.1);refine⟨rfl,.inr (Lib.BuilderAt.put hBb hbk2 hown3 (by decide)),hb2.setCell (p:=⟨b,1,none⟩) hBb _⟩
end Go.Proofs.YtefdfaeieekioaaGreatDoor
section
namespace Go.Proofs
open Go.Shelf
def Tryz.lays169_ren:Go.Shelf.Ren:=⟨fun | 169=>215 | n=>n,fun | 70=>241 | 9=>9 | 0=>0 | 72=>243 | 37=>207 | 127=>278 | 3=>3 | 5=>5 | n=>n,fun | n=>n⟩
theorem Tryz.lays169:Go.Proofs.Lays.n169 Tryz.prog Tryz.lays169_ren:={
 mixed:=by kernel_rfl
 f169:=Tryz.func215.trans (y5 some (by kernel_rfl))
 t0:=Tryz.underlying0
 a0:=Tryz.isAgg0
 z0:=Tryz.sizeOf0
 v0:=Tryz.zeroValue0
 t3:=Tryz.underlying3
 a3:=Tryz.isAgg3
 z3:=Tryz.sizeOf3
 v3:=Tryz.zeroValue3
 t9:=Tryz.underlying9
 a9:=Tryz.isAgg9
 z9:=Tryz.sizeOf9
 v9:=Tryz.zeroValue9
 t37:=Tryz.underlying207
 a37:=Tryz.isAgg207
 z37:=Tryz.sizeOf207
 v37:=Tryz.zeroValue207
 t70:=Tryz.underlying241
 a70:=Tryz.isAgg241
 z70:=Tryz.sizeOf241
 v70:=Tryz.zeroValue241
 t72:=Tryz.underlying243
 a72:=Tryz.isAgg243
 z72:=Tryz.sizeOf243
 v72:=Tryz.zeroValue243
 t127:=Tryz.underlying278
 a127:=Tryz.isAgg278
 z127:=Tryz.sizeOf278
 v127:=Tryz.zeroValue278 }
theorem Tryz.Builder_Extra_169:Builder.Extra Tryz.prog Tryz.lays169_ren:={
 sizeBuilder:=by kernel_rfl
 liesBuilder:=by kernel_rfl
 t5:=Tryz.underlying5
 a5:=Tryz.isAgg5
 z5:=Tryz.sizeOf5
 v5:=Tryz.zeroValue5
 infoByte:=by kernel_rfl
 cellsByte:=by kernel_rfl
 sizeByte:=by kernel_rfl
 neB5:=by decide }
open Go.RowKit in
theorem Tryz.Builder_String_any (B b:Nat) (l:List UInt8) (w:World) (h:Lib.IsBuilder 243 5 B b (Lib.byteCells l) w) (hBw:B<=w.heap.size):
  Calls Tryz.prog 215 #[.pointer (some ⟨b,0,none⟩)] w fun e w'=>e=.returned (.string ⟨l.toArray⟩)/\Below B w w':=Any.Builder_String_any Tryz.lays169 Tryz.Builder_Extra_169 B b l w h hBw
def Tryz.lays137_ren:Go.Shelf.Ren:=⟨fun | 137=>173 | 217=>217 | 266=>258 | n=>n,fun | 9=>9 | 5=>5 | 3=>3 | n=>n,fun | n=>n⟩
theorem Tryz.lays137:Go.Proofs.Lays.n137 Tryz.prog Tryz.lays137_ren:={
 mixed:=by kernel_rfl
 f137:=Tryz.func173.trans (y5 some (by kernel_rfl))
 f217:=Tryz.func217.trans (y5 some (by kernel_rfl))
 f266:=Tryz.func258.trans (y5 some (by kernel_rfl))
 t3:=Tryz.underlying3
 a3:=Tryz.isAgg3
 z3:=Tryz.sizeOf3
 v3:=Tryz.zeroValue3
 t5:=Tryz.underlying5
 a5:=Tryz.isAgg5
 z5:=Tryz.sizeOf5
 v5:=Tryz.zeroValue5
 t9:=Tryz.underlying9
 a9:=Tryz.isAgg9
 z9:=Tryz.sizeOf9
 v9:=Tryz.zeroValue9 }
open Go.RowKit in
theorem Tryz.strings_IndexByte (s:ByteArray) (c:Int) (w:World):
  Calls Tryz.prog 173 #[.string s,.int .u8 c] w fun e w'=>e=.returned (.int .i64 (Lib.indexByte s.data.toList c.toNat.toUInt8))/\w'=w:=Any.strings_IndexByte Tryz.lays137 s c w
def Tryz.laysM171_ren:Go.Shelf.Ren:=⟨fun | 171=>216 | 243=>257 | 246=>255 | 283=>280 | 284=>281 | 285=>282 | 286=>283 | 129=>312 | 317=>311 | 318=>313 | 319=>314 | 320=>315 | 337=>330 | 338=>331 | n=>n,fun | 3=>3 | 9=>9 | 2=>2 | 4=>4 | 171=>294 | 0=>0 | 53=>295 | 37=>207 | 5=>5 | 173=>298 | 212=>330 | 51=>331 | 20=>20 | 213=>332 | 46=>305 | 232=>352 | 233=>353 | n=>n,fun | 17=>2 | 18=>3 | 19=>4 | n=>n⟩
theorem Tryz.laysM171:Go.Proofs.LaysM.n171 Tryz.prog Tryz.laysM171_ren:={
 mixed:=by kernel_rfl
 f129:=Tryz.func312.trans (y5 some (by kernel_rfl))
 f171:=Tryz.func216.trans (y5 some (by kernel_rfl))
 f243:=Tryz.func257.trans (y5 some (by kernel_rfl))
 f246:=Tryz.func255.trans (y5 some (by kernel_rfl))
 f283:=Tryz.func280.trans (y5 some (by kernel_rfl))
 f284:=Tryz.func281.trans (y5 some (by kernel_rfl))
 f285:=Tryz.func282.trans (y5 some (by kernel_rfl))
 f286:=Tryz.func283.trans (y5 some (by kernel_rfl))
 f317:=Tryz.func311.trans (y5 some (by kernel_rfl))
 f318:=Tryz.func313.trans (y5 some (by kernel_rfl))
 f319:=Tryz.func314.trans (y5 some (by kernel_rfl))
 f320:=Tryz.func315.trans (y5 some (by kernel_rfl))
 f337:=Tryz.func330.trans (y5 some (by kernel_rfl))
 f338:=Tryz.func331.trans (y5 some (by kernel_rfl))
 t0:=Tryz.underlying0
 a0:=Tryz.isAgg0
 z0:=Tryz.sizeOf0
 v0:=Tryz.zeroValue0
 t2:=Tryz.underlying2
 a2:=Tryz.isAgg2
 z2:=Tryz.sizeOf2
 v2:=Tryz.zeroValue2
 t3:=Tryz.underlying3
 a3:=Tryz.isAgg3
 z3:=Tryz.sizeOf3
 v3:=Tryz.zeroValue3
 t4:=Tryz.underlying4
 a4:=Tryz.isAgg4
 z4:=Tryz.sizeOf4
 v4:=Tryz.zeroValue4
 t5:=Tryz.underlying5
 a5:=Tryz.isAgg5
 z5:=Tryz.sizeOf5
 v5:=Tryz.zeroValue5
 t9:=Tryz.underlying9
 a9:=Tryz.isAgg9
 z9:=Tryz.sizeOf9
 v9:=Tryz.zeroValue9
 t20:=Tryz.underlying20
 a20:=Tryz.isAgg20
 z20:=Tryz.sizeOf20
 v20:=Tryz.zeroValue20
 t37:=Tryz.underlying207
 a37:=Tryz.isAgg207
 z37:=Tryz.sizeOf207
 v37:=Tryz.zeroValue207
 t46:=Tryz.underlying305
 a46:=Tryz.isAgg305
 z46:=Tryz.sizeOf305
 v46:=Tryz.zeroValue305
 t51:=Tryz.underlying331
 a51:=Tryz.isAgg331
 z51:=Tryz.sizeOf331
 v51:=Tryz.zeroValue331
 t53:=Tryz.underlying295
 a53:=Tryz.isAgg295
 z53:=Tryz.sizeOf295
 v53:=Tryz.zeroValue295
 t171:=Tryz.underlying294
 a171:=Tryz.isAgg294
 z171:=Tryz.sizeOf294
 v171:=Tryz.zeroValue294
 t173:=Tryz.underlying298
 a173:=Tryz.isAgg298
 z173:=Tryz.sizeOf298
 v173:=Tryz.zeroValue298
 t212:=Tryz.underlying330
 a212:=Tryz.isAgg330
 z212:=Tryz.sizeOf330
 v212:=Tryz.zeroValue330
 t213:=Tryz.underlying332
 a213:=Tryz.isAgg332
 z213:=Tryz.sizeOf332
 t232:=Tryz.underlying352
 a232:=Tryz.isAgg352
 z232:=Tryz.sizeOf352
 v232:=Tryz.zeroValue352
 t233:=Tryz.underlying353
 a233:=Tryz.isAgg353
 z233:=Tryz.sizeOf353
 v233:=Tryz.zeroValue353
 g17:=by kernel_rfl
 g18:=by kernel_rfl
 g19:=by kernel_rfl
 i0:=by kernel_rfl
 i2:=by kernel_rfl
 i3:=by kernel_rfl
 i4:=by kernel_rfl
 i5:=by kernel_rfl
 i9:=by kernel_rfl
 i20:=by kernel_rfl
 i37:=by kernel_rfl
 i46:=by kernel_rfl
 i51:=by kernel_rfl
 i53:=by kernel_rfl
 i171:=by kernel_rfl
 i173:=by kernel_rfl
 i212:=by kernel_rfl
 i232:=by kernel_rfl
 i233:=by kernel_rfl
 m17:=by kernel_rfl
 m18:=by kernel_rfl
 m19:=by kernel_rfl }
open Go.RowKit Go.Sort Go.Lib in
theorem Tryz.strconv_Itoa (n:Int) (h0 : -9223372036854775808<=n) (h1:n<=9223372036854775807) (w:World) (htab:Lib.TabIs Tryz.prog w "internal/strconv.uint64pow10" .u64 Lib.pow10Tab):
  Calls Tryz.prog 216 #[.int .i64 n] w fun e w'=>e=.returned (.string ⟨(Lib.itoa n).toArray⟩)/\∃ k os,w'=grow (w.drewN k) os:=Any.strconv_Itoa Tryz.laysM171 n h0 h1 w htab
def Tryz.laysM173_ren:Go.Shelf.Ren:=⟨fun | 173=>213 | 246=>255 | 283=>280 | 284=>281 | 285=>282 | 286=>283 | 129=>312 | 317=>311 | 318=>313 | 319=>314 | 320=>315 | 337=>330 | 338=>331 | n=>n,fun | 2=>2 | 3=>3 | 9=>9 | 4=>4 | 171=>294 | 0=>0 | 53=>295 | 37=>207 | 5=>5 | 173=>298 | 212=>330 | 51=>331 | 20=>20 | 213=>332 | 46=>305 | 232=>352 | 233=>353 | n=>n,fun | 17=>2 | 18=>3 | 19=>4 | n=>n⟩
theorem Tryz.laysM173:Go.Proofs.LaysM.n173 Tryz.prog Tryz.laysM173_ren:={
 mixed:=by kernel_rfl
 f129:=Tryz.func312.trans (y5 some (by kernel_rfl))
 f173:=Tryz.func213.trans (y5 some (by kernel_rfl))
 f246:=Tryz.func255.trans (y5 some (by kernel_rfl))
 f283:=Tryz.func280.trans (y5 some (by kernel_rfl))
 f284:=Tryz.func281.trans (y5 some (by kernel_rfl))
 f285:=Tryz.func282.trans (y5 some (by kernel_rfl))
 f286:=Tryz.func283.trans (y5 some (by kernel_rfl))
 f317:=Tryz.func311.trans (y5 some (by kernel_rfl))
 f318:=Tryz.func313.trans (y5 some (by kernel_rfl))
 f319:=Tryz.func314.trans (y5 some (by kernel_rfl))
 f320:=Tryz.func315.trans (y5 some (by kernel_rfl))
 f337:=Tryz.func330.trans (y5 some (by kernel_rfl))
 f338:=Tryz.func331.trans (y5 some (by kernel_rfl))
 t0:=Tryz.underlying0
 a0:=Tryz.isAgg0
 z0:=Tryz.sizeOf0
 v0:=Tryz.zeroValue0
 t2:=Tryz.underlying2
 a2:=Tryz.isAgg2
 z2:=Tryz.sizeOf2
 v2:=Tryz.zeroValue2
 t3:=Tryz.underlying3
 a3:=Tryz.isAgg3
 z3:=Tryz.sizeOf3
 v3:=Tryz.zeroValue3
 t4:=Tryz.underlying4
 a4:=Tryz.isAgg4
 z4:=Tryz.sizeOf4
 v4:=Tryz.zeroValue4
 t5:=Tryz.underlying5
 a5:=Tryz.isAgg5
 z5:=Tryz.sizeOf5
 v5:=Tryz.zeroValue5
 t9:=Tryz.underlying9
 a9:=Tryz.isAgg9
 z9:=Tryz.sizeOf9
 v9:=Tryz.zeroValue9
 t20:=Tryz.underlying20
 a20:=Tryz.isAgg20
 z20:=Tryz.sizeOf20
 v20:=Tryz.zeroValue20
 t37:=Tryz.underlying207
 a37:=Tryz.isAgg207
 z37:=Tryz.sizeOf207
 v37:=Tryz.zeroValue207
 t46:=Tryz.underlying305
 a46:=Tryz.isAgg305
 z46:=Tryz.sizeOf305
 v46:=Tryz.zeroValue305
 t51:=Tryz.underlying331
 a51:=Tryz.isAgg331
 z51:=Tryz.sizeOf331
 v51:=Tryz.zeroValue331
 t53:=Tryz.underlying295
 a53:=Tryz.isAgg295
 z53:=Tryz.sizeOf295
 v53:=Tryz.zeroValue295
 t171:=Tryz.underlying294
 a171:=Tryz.isAgg294
 z171:=Tryz.sizeOf294
 v171:=Tryz.zeroValue294
 t173:=Tryz.underlying298
 a173:=Tryz.isAgg298
 z173:=Tryz.sizeOf298
 v173:=Tryz.zeroValue298
 t212:=Tryz.underlying330
 a212:=Tryz.isAgg330
 z212:=Tryz.sizeOf330
 v212:=Tryz.zeroValue330
 t213:=Tryz.underlying332
 a213:=Tryz.isAgg332
 z213:=Tryz.sizeOf332
 t232:=Tryz.underlying352
 a232:=Tryz.isAgg352
 z232:=Tryz.sizeOf352
 v232:=Tryz.zeroValue352
 t233:=Tryz.underlying353
 a233:=Tryz.isAgg353
 z233:=Tryz.sizeOf353
 v233:=Tryz.zeroValue353
 g17:=by kernel_rfl
 g18:=by kernel_rfl
 g19:=by kernel_rfl
 i0:=by kernel_rfl
 i2:=by kernel_rfl
 i3:=by kernel_rfl
 i4:=by kernel_rfl
 i5:=by kernel_rfl
 i9:=by kernel_rfl
 i20:=by kernel_rfl
 i37:=by kernel_rfl
 i46:=by kernel_rfl
 i51:=by kernel_rfl
 i53:=by kernel_rfl
 i171:=by kernel_rfl
 i173:=by kernel_rfl
 i212:=by kernel_rfl
 i232:=by kernel_rfl
 i233:=by kernel_rfl
 m17:=by kernel_rfl
 m18:=by kernel_rfl
 m19:=by kernel_rfl }
open Go.RowKit Go.Sort Go.Lib in
theorem Tryz.strconv_FormatInt_10 (n:Int) (h0 : -9223372036854775808<=n) (h1:n<=9223372036854775807) (w:World) (htab:Lib.TabIs Tryz.prog w "internal/strconv.uint64pow10" .u64 Lib.pow10Tab):
  Calls Tryz.prog 213 #[.int .i64 n,.int .i64 10] w fun e w'=>e=.returned (.string ⟨(Lib.itoa n).toArray⟩)/\∃ k os,w'=grow (w.drewN k) os:=Any.strconv_FormatInt_10 Tryz.laysM173 n h0 h1 w htab
def Tryz.laysC174_ren:Go.Shelf.Ren:=⟨fun | 174=>286 | 247=>317 | 245=>318 | 287=>332 | 279=>333 | 280=>334 | 281=>335 | 282=>336 | 321=>341 | 322=>342 | 316=>343 | 171=>216 | 205=>344 | 243=>257 | 246=>255 | 283=>280 | 284=>281 | 285=>282 | 286=>283 | 129=>312 | 317=>311 | 318=>313 | 319=>314 | 320=>315 | 337=>330 | 338=>331 | n=>n,fun | 9=>9 | 3=>3 | 2=>2 | 75=>245 | 85=>303 | 4=>4 | 167=>343 | 5=>5 | 53=>295 | 175=>344 | 46=>305 | 168=>346 | 37=>207 | 0=>0 | 210=>356 | 21=>21 | 127=>278 | 145=>360 | 143=>358 | 171=>294 | 173=>298 | 212=>330 | 51=>331 | 20=>20 | 213=>332 | 232=>352 | 233=>353 | 80=>113 | n=>n,fun | 15=>5 | 16=>6 | 17=>2 | 18=>3 | 19=>4 | n=>n⟩
theorem Tryz.laysC174:Go.Proofs.LaysC.n174 Tryz.prog Tryz.laysC174_ren:={
 mixed:=by kernel_rfl
 f129:=Tryz.func312.trans (y5 some (by kernel_rfl))
 f171:=Tryz.func216.trans (y5 some (by kernel_rfl))
 f174:=Tryz.func286.trans (y5 some (by kernel_rfl))
 f205:=Tryz.func344.trans (y5 some (by kernel_rfl))
 f243:=Tryz.func257.trans (y5 some (by kernel_rfl))
 f245:=Tryz.func318.trans (y5 some (by kernel_rfl))
 f246:=Tryz.func255.trans (y5 some (by kernel_rfl))
 f247:=Tryz.func317.trans (y5 some (by kernel_rfl))
 f279:=Tryz.func333.trans (y5 some (by kernel_rfl))
 f280:=Tryz.func334.trans (y5 some (by kernel_rfl))
 f281:=Tryz.func335.trans (y5 some (by kernel_rfl))
 f282:=Tryz.func336.trans (y5 some (by kernel_rfl))
 f283:=Tryz.func280.trans (y5 some (by kernel_rfl))
 f284:=Tryz.func281.trans (y5 some (by kernel_rfl))
 f285:=Tryz.func282.trans (y5 some (by kernel_rfl))
 f286:=Tryz.func283.trans (y5 some (by kernel_rfl))
 f287:=Tryz.func332.trans (y5 some (by kernel_rfl))
 f316:=Tryz.func343.trans (y5 some (by kernel_rfl))
 f317:=Tryz.func311.trans (y5 some (by kernel_rfl))
 f318:=Tryz.func313.trans (y5 some (by kernel_rfl))
 f319:=Tryz.func314.trans (y5 some (by kernel_rfl))
 f320:=Tryz.func315.trans (y5 some (by kernel_rfl))
 f321:=Tryz.func341.trans (y5 some (by kernel_rfl))
 f322:=Tryz.func342.trans (y5 some (by kernel_rfl))
 f337:=Tryz.func330.trans (y5 some (by kernel_rfl))
 f338:=Tryz.func331.trans (y5 some (by kernel_rfl))
 t0:=Tryz.underlying0
 a0:=Tryz.isAgg0
 z0:=Tryz.sizeOf0
 v0:=Tryz.zeroValue0
 t2:=Tryz.underlying2
 a2:=Tryz.isAgg2
 z2:=Tryz.sizeOf2
 v2:=Tryz.zeroValue2
 t3:=Tryz.underlying3
 a3:=Tryz.isAgg3
 z3:=Tryz.sizeOf3
 v3:=Tryz.zeroValue3
 t4:=Tryz.underlying4
 a4:=Tryz.isAgg4
 z4:=Tryz.sizeOf4
 v4:=Tryz.zeroValue4
 t5:=Tryz.underlying5
 a5:=Tryz.isAgg5
 z5:=Tryz.sizeOf5
 v5:=Tryz.zeroValue5
 t9:=Tryz.underlying9
 a9:=Tryz.isAgg9
 z9:=Tryz.sizeOf9
 v9:=Tryz.zeroValue9
 t20:=Tryz.underlying20
 a20:=Tryz.isAgg20
 z20:=Tryz.sizeOf20
 v20:=Tryz.zeroValue20
 t21:=Tryz.underlying21
 a21:=Tryz.isAgg21
 z21:=Tryz.sizeOf21
 v21:=Tryz.zeroValue21
 t37:=Tryz.underlying207
 a37:=Tryz.isAgg207
 z37:=Tryz.sizeOf207
 v37:=Tryz.zeroValue207
 t46:=Tryz.underlying305
 a46:=Tryz.isAgg305
 z46:=Tryz.sizeOf305
 v46:=Tryz.zeroValue305
 t51:=Tryz.underlying331
 a51:=Tryz.isAgg331
 z51:=Tryz.sizeOf331
 v51:=Tryz.zeroValue331
 t53:=Tryz.underlying295
 a53:=Tryz.isAgg295
 z53:=Tryz.sizeOf295
 v53:=Tryz.zeroValue295
 t75:=Tryz.underlying245
 a75:=Tryz.isAgg245
 z75:=Tryz.sizeOf245
 v75:=Tryz.zeroValue245
 t85:=Tryz.underlying303
 a85:=Tryz.isAgg303
 z85:=Tryz.sizeOf303
 v85:=Tryz.zeroValue303
 t127:=Tryz.underlying278
 a127:=Tryz.isAgg278
 z127:=Tryz.sizeOf278
 v127:=Tryz.zeroValue278
 t143:=Tryz.underlying358
 a143:=Tryz.isAgg358
 z143:=Tryz.sizeOf358
 v143:=Tryz.zeroValue358
 t145:=Tryz.underlying360
 a145:=Tryz.isAgg360
 z145:=Tryz.sizeOf360
 v145:=Tryz.zeroValue360
 t167:=Tryz.underlying343
 a167:=Tryz.isAgg343
 z167:=Tryz.sizeOf343
 v167:=Tryz.zeroValue343
 t168:=Tryz.underlying346
 a168:=Tryz.isAgg346
 z168:=Tryz.sizeOf346
 v168:=Tryz.zeroValue346
 t171:=Tryz.underlying294
 a171:=Tryz.isAgg294
 z171:=Tryz.sizeOf294
 v171:=Tryz.zeroValue294
 t173:=Tryz.underlying298
 a173:=Tryz.isAgg298
 z173:=Tryz.sizeOf298
 v173:=Tryz.zeroValue298
 t175:=Tryz.underlying344
 a175:=Tryz.isAgg344
 z175:=Tryz.sizeOf344
 v175:=Tryz.zeroValue344
 t210:=Tryz.underlying356
 a210:=Tryz.isAgg356
 z210:=Tryz.sizeOf356
 v210:=Tryz.zeroValue356
 t212:=Tryz.underlying330
 a212:=Tryz.isAgg330
 z212:=Tryz.sizeOf330
 v212:=Tryz.zeroValue330
 t213:=Tryz.underlying332
 a213:=Tryz.isAgg332
 z213:=Tryz.sizeOf332
 t232:=Tryz.underlying352
 a232:=Tryz.isAgg352
 z232:=Tryz.sizeOf352
 v232:=Tryz.zeroValue352
 t233:=Tryz.underlying353
 a233:=Tryz.isAgg353
 z233:=Tryz.sizeOf353
 v233:=Tryz.zeroValue353
 g15:=by kernel_rfl
 g16:=by kernel_rfl
 g17:=by kernel_rfl
 g18:=by kernel_rfl
 g19:=by kernel_rfl
 t80:=Tryz.underlying113
 a80:=Tryz.isAgg113
 z80:=Tryz.sizeOf113
 v80:=Tryz.zeroValue113
 i0:=by kernel_rfl
 i2:=by kernel_rfl
 i3:=by kernel_rfl
 i4:=by kernel_rfl
 i5:=by kernel_rfl
 i9:=by kernel_rfl
 i20:=by kernel_rfl
 i21:=by kernel_rfl
 i37:=by kernel_rfl
 i46:=by kernel_rfl
 i51:=by kernel_rfl
 i53:=by kernel_rfl
 i75:=by kernel_rfl
 i80:=by kernel_rfl
 i85:=by kernel_rfl
 i127:=by kernel_rfl
 i143:=by kernel_rfl
 i145:=by kernel_rfl
 i167:=by kernel_rfl
 i168:=by kernel_rfl
 i171:=by kernel_rfl
 i173:=by kernel_rfl
 i175:=by kernel_rfl
 i210:=by kernel_rfl
 i212:=by kernel_rfl
 i232:=by kernel_rfl
 i233:=by kernel_rfl
 m15:=by kernel_rfl
 m16:=by kernel_rfl
 m17:=by kernel_rfl
 m18:=by kernel_rfl
 m19:=by kernel_rfl
 c0:=by kernel_rfl
 c2:=by kernel_rfl
 c3:=by kernel_rfl
 c4:=by kernel_rfl
 c5:=by kernel_rfl
 c9:=by kernel_rfl
 c20:=by kernel_rfl
 c21:=by kernel_rfl
 c37:=by kernel_rfl
 c46:=by kernel_rfl
 c51:=by kernel_rfl
 c53:=by kernel_rfl
 c75:=by kernel_rfl
 c80:=by kernel_rfl
 c85:=by kernel_rfl
 c127:=by kernel_rfl
 c143:=by kernel_rfl
 c145:=by kernel_rfl
 c167:=by kernel_rfl
 c168:=by kernel_rfl
 c171:=by kernel_rfl
 c173:=by kernel_rfl
 c175:=by kernel_rfl
 c210:=by kernel_rfl
 c212:=by kernel_rfl
 c213:=by kernel_rfl
 c232:=by kernel_rfl
 c233:=by kernel_rfl }
open Go.RowKit in
theorem Tryz.strconv_ParseInt_10_at64_ok (s:ByteArray) (hmax:s.size<=9223372036854775806) (v:Int) (h:Lib.parseIntB 64 s.data.toList=.ok v) (w:World):
  Calls Tryz.prog 286 #[.string s,.int .i64 10,.int .i64 64] w fun e w'=>e=.returned (.tuple #[.int .i64 v,.nilIface])/\(w'=w\/∃ t,w'=Lib.bytesWorld w 5 t):=Any.strconv_ParseInt_10_at64_ok Tryz.laysC174 s hmax v h w
open Go.RowKit in
theorem Tryz.strconv_ParseInt_10_at64_range_var (s:ByteArray) (hlim:s.size<=281474976710656) (h:Lib.parseIntB 64 s.data.toList=.range) (tp:TypeId) (p:Value) (w:World) (hvar:w.var? Tryz.prog "strconv.ErrRange"=some #[.iface tp p]):
  Calls Tryz.prog 286 #[.string s,.int .i64 10,.int .i64 64] w fun e w'=>∃ N,e=.returned (.tuple #[.int .i64 (Lib.intSat 64 s.data.toList),.iface 346 (.pointer (some ⟨N,0,none⟩))])/\w.heap.size<=N/\w'.heap[N]?=some (.cells #[.string ⟨#[80,97,114,115,101,73,110,116]⟩,.string s,.iface tp p] 356 (0,0))/\Below w.heap.size w w':=Any.strconv_ParseInt_10_at64_range_var Tryz.laysC174 s hlim h tp p w hvar
end Go.Proofs
end
namespace Go.Proofs.YtefdfaeieekioaaGreatDoor
open Go.Vc Go.RowKit Go.Fl
def Tab (w:World):Prop:=Lib.TabIs Tryz.prog w "internal/strconv.uint64pow10" .u64 Lib.pow10Tab
theorem Tab.below {w w':World} (h:Tab w) (hb:Below w.heap.size w w'):Tab w':=by
 unfold Tab Lib.TabIs World.var? at*;cases hg:Tryz.prog.globalNamed "internal/strconv.uint64pow10" with
 | none=>simp [hg] at h
 | some g=>
  simp only [hg,Option.bind_some] at h ⊢;have hlt:g<w.heap.size:=by
   rcases zl g w.heap.size with h' | h'
   ·exact h'
   ·rw [Array.getElem?_eq_none h'] at h;cases h
  rw [hb.block g hlt];exact h
theorem A20 {w w':World} (h:∃ k os,w'=Sort.grow (w.drewN k) os):Below w.heap.size w w':=by obtain⟨k,os,rfl⟩:=h;exact Lib.below_grow _ _ (zc _) _ _
mutual
def J1:V->List UInt8
 | .mk k n s l=>
  let t:=if k==1 then Lib.itoa n else if k==3 then M5 l else s.data.toList
  Lib.itoa (t.length:Int)++58::(t++[if k==1 then 35 else if k==3 then 93 else 44])
def M5:List V->List UInt8
 | []=>[]
 | v::r=>J1 v++M5 r
end
mutual
def okV:V->Prop
 | .mk k n s l=>B3 n/\okL l
def okL:List V->Prop
 | []=>True
 | v::r=>okV v/\okL r
end
theorem A1L (n:Int) (h:B3 n) (w:World) (ht:Tab w):Calls Tryz.prog 216 #[.int .i64 n] w (C8 (.string ⟨(Lib.itoa n).toArray⟩) w):=
 (Tryz.strconv_Itoa n h.1 h.2 w ht).mono fun e w' he=>⟨he.1,A20 he.2⟩
theorem A6A (n:Int) (h:B3 n) (w:World) (ht:Tab w):Calls Tryz.prog 213 #[.int .i64 n,.int .i64 10] w (C8 (.string ⟨(Lib.itoa n).toArray⟩) w):=
 (Tryz.strconv_FormatInt_10 n h.1 h.2 w ht).mono fun e w' he=>⟨he.1,A20 he.2⟩
theorem A1B (l:List V) (i:Nat) (h:i<l.length):M5 (l.take i)++J1 l[i]=M5 (l.take (i+1)):=by
 induction l generalizing i with
 | nil=>exact absurd h (Nat.not_lt_zero _)
 | cons v r ih=>
  cases i with
  | zero=>simp [M5]
  | succ i=>
   simp only [List.take_succ_cons,M5,List.getElem_cons_succ,zv];rw [ih i (Nat.lt_of_succ_lt_succ h)]
theorem A4p (l:List V):∀ i,(M5 (l.take i)).length<=(M5 l).length:=by
 induction l with
 | nil=>intro i;simp
 | cons v r ih=>
  intro i;cases i with
  | zero=>simp [M5]
  | succ i=>simp only [List.take_succ_cons,M5,z6];have:=ih i;omega
theorem A6B:∀ {l:List V} {v:V},okL l->v∈l->okV v
 | x::r,v,h,hm=>by
  rw [okL] at h;cases hm with
  | head=>exact h.1
  | tail _ hm=>exact A6B h.2 hm
theorem Y8:∀ {l:List V} {v:V},v∈l->(J1 v).length<=(M5 l).length
 | x::r,v,hm=>by
  rw [M5,z6];cases hm with
  | head=>omega
  | tail _ hm=>have:=Y8 hm;omega
theorem A3Z (a t:List UInt8) (e:UInt8):((⟨a.toArray⟩++⟨#[58]⟩:ByteArray)++⟨t.toArray⟩)++⟨#[e]⟩=⟨(a++58::(t++[e])).toArray⟩:=by have e1:(⟨#[58]⟩:ByteArray)=⟨([58]:List UInt8).toArray⟩:=rfl;have e2:(⟨#[e]⟩:ByteArray)=⟨[e].toArray⟩:=rfl;rw [e1,e2,U6,U6,U6];simp
theorem A0e (a t:List UInt8) (e:UInt8) (ha:a.length<=100) (ht:t.length<=1073741824):
  (⟨a.toArray⟩:ByteArray).size+(⟨#[58]⟩:ByteArray).size<=9223372036854775807/\(⟨a.toArray⟩++⟨#[58]⟩:ByteArray).size+(⟨t.toArray⟩:ByteArray).size<=9223372036854775807/\
  ((⟨a.toArray⟩++⟨#[58]⟩:ByteArray)++⟨t.toArray⟩).size+(⟨#[e]⟩:ByteArray).size<=9223372036854775807:=by
 have e1:(⟨#[58]⟩:ByteArray).size=1:=rfl;have e2:(⟨#[e]⟩:ByteArray).size=1:=rfl;have e3:(⟨a.toArray⟩:ByteArray).size=a.length:=G4 a;have e4:(⟨t.toArray⟩:ByteArray).size=t.length:=G4 t;simp only [ByteArray.size_append];omega
theorem A6C {T e:TypeId} {B b:Nat} {bs:List Value} {w w':World} (h:Lib.IsBuilder T e B b bs w) (hb:Below w.heap.size w w'):Lib.IsBuilder T e B b bs w':=by
 have one:∀ p,Lib.BuilderAt T e B b p bs w->Lib.BuilderAt T e B b p bs w':=fun p h=>by
  have hlt:=h.lt;obtain⟨hB,v,hbk,hown,hne⟩:=h;refine⟨hB,v,(hb.block b hlt).trans hbk,?_,hne⟩;refine hown.kept (row:=none) ⟨hb.os,hb.tape,hb.output,hb.size,fun k hk _=>hb.block k hk⟩ ?_;cases hv:v.ownBlock with
  | none=>exact .inl rfl
  | some k=>exact .inr (by simp)
 exact h.imp (one _) (one _)
theorem B4x:∀ (N:Nat) (v:V),SizeOf.sizeOf v<N->okV v->(J1 v).length<=1073741824->∀ (cs:List Value) (S:Nat->Prop) (w:World),RepC S w v cs->Tab w->
  Calls Tryz.prog 172 #[.agg cs.toArray] w (C8 (.string ⟨(J1 v).toArray⟩) w):=by
 intro N;induction N with
 | zero=>intro v h;exact absurd h (Nat.not_lt_zero _)
 | succ N ih=>
  intro v hN hok hlen cs S w hr ht;obtain⟨k,n,s,l⟩:=v;rw [RepC] at hr;obtain⟨A,cap,xs,rfl,hL,hR⟩:=hr;rw [okV] at hok;refine vE Tryz.func172 ?_;intro g2 w2 h2;have hc:=((Ctx.start w no (fun _ h=>h.elim)).loc h2).1;refine hc.c 0 rfl rfl ?_;refine hc.c 0 rfl rfl ?_;by_cases k1:k=1
  ·subst k1;refine hc.c 0 rfl rfl ?_;refine hc.q (A6A n hok.1 _ (ht.below hc.below)) fun w3 h3 hc=>?_;have hl:(Lib.itoa n).length<=21:=Lib.itoa_length_le n hok.1.1 hok.1.2;have hi:B3 (((⟨(Lib.itoa n).toArray⟩:ByteArray).size:Nat):Int):=by rw [G4];unfold B3;omega
   refine hc.q (A1L _ hi _ (ht.below hc.below)) fun w4 h4 hc=>?_;have hz:=A0e (Lib.itoa (((⟨(Lib.itoa n).toArray⟩:ByteArray).size:Nat):Int)) (Lib.itoa n) 35 (by have:=Lib.itoa_length_le _ hi.1 hi.2;omega) (by omega);refine⟨hz.1,?_⟩;refine⟨hz.2.1,?_⟩;refine⟨hz.2.2,?_⟩;refine⟨?_,hc.below⟩;rw [A3Z,G4,J1];rfl
  ·by_cases k3:k=3
   ·subst k3;have ev:J1 (.mk 3 n s l)=Lib.itoa ((M5 l).length:Int)++58::(M5 l++[93]):=by rw [J1];rfl
    rw [ev] at hlen ⊢;simp only [z6,zi] at hlen;intro gb w3 h3;have hM:l.length<=9223372036854775807:=zo (zo hR.1 hR.2.1) (by decide);have hc:=(hc.loc h3).1;have hB0:w.heap.size<=gb:=by have:=hc.locs.1;exact this
    have ib:Lib.IsBuilder 243 5 w.heap.size gb (bv (M5 (l.take 0))) w3:=.inl ⟨hB0,.slice none 0 0,h3.blk,World.ownsRow_nil _ _ _ _,by simp [Value.ownBlock]⟩;refine hc.c 1 rfl rfl ?_;refine⟨Nat,fun i=>[(5,.pointer (some ⟨gb,0,none⟩)),(20,.slice A l.length cap),(21,.int .i64 l.length),(22,.int .i64 i)],
     fun i w'=>i<=l.length/\Lib.IsBuilder 243 5 w.heap.size gb (bv (M5 (l.take i))) w'/\Below w.heap.size w w',fun i _=>l.length-i,0,
     ⟨rfl,rfl,rfl,rfl,trivial⟩,⟨zb _,ib,hc.below⟩,?_⟩
    rintro i w' u ⟨hi,hib,hb⟩;by_cases hlt:i<l.length
    ·refine dt (by omega) ?_;obtain⟨ad,es,rfl,hre,hl4,hcell⟩:=Rep.elem (hL.below hb) (hR.below hb) i hlt;have hmem:=List.getElem_mem hlt;have hap:=A1B l i hlt;have htk:=A4p l (i+1);generalize l[i]=x at*;have hre0:=hre;obtain⟨k',n',s',l'⟩:=x;rw [RepC] at hre;obtain⟨A',cap',xs',rfl,_,_⟩:=hre;refine⟨⟨by omega,by omega⟩,?_⟩;refine⟨_,hl4,hcell,?_⟩;intro g5 w5 h5;have c5:=((Ctx.start w' no (fun _ h=>h.elim)).loc h5).1;refine⟨c5.may 0 rfl 0 _ (zc 4) rfl,?_⟩;intro w6 h6;have c6:=(c5.set 0 rfl h6).1;refine⟨_,?_,c6.cells 0 rfl,?_⟩
     ·rfl
     refine B4 (ih (.mk k' n' s' l') (by have:=V.kid (k:=3) (n:=n) (s:=s) hmem;omega) (A6B hok.2 hmem) (by have:=Y8 hmem;omega) _ S w6 (hre0.below c6.below) ((ht.below hb).below c6.below)) ?_;intro w7 h7;have c7:=(c6.quiet h7).1;have hb7:=hb.trans (c7.below.mono hb.size);refine⟨(B2M w.heap.size gb (M5 (l.take i)) ⟨(J1 (.mk k' n' s' l')).toArray⟩ w7 (A6C hib c7.below) hb7.size (by rw [G4,<-z6,hap];omega)).mono fun e w8 he=>⟨_,he.1,?_⟩⟩;refine⟨i+1,⟨rfl,rfl,rfl,y5 _ (C3 (by omega)),trivial⟩,⟨hlt,?_,hb7.trans he.2.2⟩,by show l.length-(i+1)<l.length-i;omega⟩;rw [<-hap];exact he.2.1
    ·refine df (by omega) ?_;rw [List.take_of_length_le (by omega)] at hib;refine⟨(Tryz.Builder_String_any w.heap.size gb (M5 l) w' hib hb.size).mono fun e w8 he=>⟨_,he.1,?_⟩⟩;have hb8:=hb.trans he.2;have hi:B3 (((⟨(M5 l).toArray⟩:ByteArray).size:Nat):Int):=by rw [G4];unfold B3;omega
     refine B4 (A1L _ hi _ (ht.below hb8)) ?_;intro w9 h9;have hz:=A0e (Lib.itoa (((⟨(M5 l).toArray⟩:ByteArray).size:Nat):Int)) (M5 l) 93 (by have:=Lib.itoa_length_le _ hi.1 hi.2;omega) (by omega);refine⟨hz.1,?_⟩;refine⟨hz.2.1,?_⟩;refine⟨hz.2.2,?_⟩;refine⟨?_,hb8.trans (h9.mono hb8.size)⟩;rw [A3Z,G4];rfl
   ·have b1:(k==1)=false:=by simpa using k1
    have b3:(k==3)=false:=by simpa using k3
    refine C3X b1 ?_;refine C3X b3 ?_;obtain⟨t,rfl⟩:∃ t:List UInt8,s=⟨t.toArray⟩:=⟨s.data.toList,by apply ByteArray.ext;simp⟩;have ev:J1 (.mk k n ⟨t.toArray⟩ l)=Lib.itoa (t.length:Int)++58::(t++[44]):=by rw [J1];simp [b1,b3]
    rw [ev] at hlen ⊢;simp only [z6,zi] at hlen;have hi:B3 (((⟨t.toArray⟩:ByteArray).size:Nat):Int):=by rw [G4];unfold B3;omega
    refine hc.q (A1L _ hi _ (ht.below hc.below)) fun w4 h4 hc=>?_;have hz:=A0e (Lib.itoa (((⟨t.toArray⟩:ByteArray).size:Nat):Int)) t 44 (by have:=Lib.itoa_length_le _ hi.1 hi.2;omega) (by omega);refine⟨hz.1,?_⟩;refine⟨hz.2.1,?_⟩;refine⟨hz.2.2,?_⟩;refine⟨?_,hc.below⟩;rw [A3Z,G4];rfl
def dgt (c:UInt8):Bool:=decide (48<=c.toNat)&&decide (c.toNat<=57)
theorem L7 {c:UInt8}:dgt c=true↔48<=c.toNat/\c.toNat<=57:=by simp [dgt]
def A3a (a:Nat) (l:List UInt8):Nat:=l.foldl (fun a c=>10*a+(c.toNat-48)) a
theorem U7 (a:Nat) (c:UInt8) (l:List UInt8):A3a a (c::l)=A3a (10*a+(c.toNat-48)) l:=by unfold A3a;rw [List.foldl_cons]
theorem A4q (a:Nat) (l:List UInt8) (c:UInt8):A3a a (l++[c])=10*A3a a l+(c.toNat-48):=by simp [A3a]
theorem A6D:∀ (l:List UInt8) (a:Nat),a<=A3a a l
 | [],a=>zc _
 | c::r,a=>by rw [U7];have:=A6D r (10*a+(c.toNat-48));omega
theorem K1 (n:Nat) (h:n<256):(UInt8.ofNat n).toNat=n:=by rw [UInt8.toNat_ofNat'];exact Nat.mod_eq_of_lt h
theorem A63 {c:UInt8} (h:dgt c=true):UInt8.ofNat (48+(c.toNat-48))=c:=by rw [L7] at h;rw [show 48+(c.toNat-48)=c.toNat by omega];exact UInt8.ofNat_toNat
theorem A3b:∀ (N:Nat) (l:List UInt8),l.length<=N->l≠[]->(∀ c∈l,dgt c=true)->(∀ c r,l=c::r->r≠[]->c≠48)->Lib.decDigits (A3a 0 l)=l:=by
 intro N;induction N with
 | zero=>intro l h hn;exact absurd (zn (by omega)) hn
 | succ N ih=>
  intro l hN hne hd hz;rcases List.eq_nil_or_concat l with rfl | ⟨l',c,e0⟩
  ·exact absurd rfl hne
  rw [List.concat_eq_append] at e0;subst e0;have hc:dgt c=true:=hd c (by simp);have hc':=L7.1 hc;rw [A4q];cases l' with
  | nil=>
   have e:10*A3a 0 []+(c.toNat-48)=c.toNat-48:=by simp [A3a]
   rw [e,Lib.decDigits,dif_pos (by omega),A63 hc];rfl
  | cons b r=>
   have hb:dgt b=true:=hd b (by simp);have hb':=L7.1 hb;have hb48:b≠48:=hz b (r++[c]) rfl (by simp);have hbn:b.toNat≠48:=fun e=>hb48 (UInt8.toNat_inj.1 e);have h1:1<=A3a 0 (b::r):=by rw [U7];have:=A6D r (10*0+(b.toNat-48));omega
   rw [Lib.decDigits,dif_neg (by omega),show (10*A3a 0 (b::r)+(c.toNat-48)) / 10=A3a 0 (b::r) by omega,show (10*A3a 0 (b::r)+(c.toNat-48)) % 10=c.toNat-48 by omega,
    A63 hc,ih (b::r) (by simp at hN ⊢;omega) (by simp) (fun x hx=>hd x (List.mem_append_left _ hx)) (fun x y e hy=>by cases e;exact hb48)]
theorem P6 (u:Nat):Lib.decDigits u≠[]/\(∀ c∈Lib.decDigits u,dgt c=true)/\A3a 0 (Lib.decDigits u)=u/\∀ c r,Lib.decDigits u=c::r->r≠[]->c≠48:=by
 induction u using Nat.strongRecOn with
 | _ u ih=>
  by_cases h:u<10
  ·rw [Lib.decDigits,dif_pos h];have e:=K1 (48+u) (by omega);refine⟨by simp,fun c hc=>?_,?_,fun c r e hr=>?_⟩
   ·rw [zx] at hc;subst hc;rw [L7,e];omega
   ·show 10*0+((UInt8.ofNat (48+u)).toNat-48)=u;rw [e];omega
   ·cases e;exact absurd rfl hr
  ·obtain⟨h1,h2,h3,h4⟩:=ih (u / 10) (by omega);rw [Lib.decDigits,dif_neg h];have e:=K1 (48+u % 10) (by omega);refine⟨by simp,fun c hc=>?_,?_,fun c r e hr=>?_⟩
   ·rw [List.mem_append,zx] at hc;rcases hc with hc | hc
    ·exact h2 c hc
    ·subst hc;rw [L7,e];omega
   ·rw [A4q,h3,e];omega
   ·cases hd:Lib.decDigits (u / 10) with
    | nil=>exact absurd hd h1
    | cons b t=>
     rw [hd] at e;cases e;cases t with
     | nil=>
      rw [hd] at h3;intro e48;subst e48;have:(u / 10)=0:=h3.symm;omega
     | cons x y=>exact h4 c _ hd (by simp)
def O6:List UInt8->Nat->Nat->Nat × Nat × Int
 | [],_,_=>(0,0,2)
 | c::r,i,n=>if c=58/\0<i then (n,i+1,0) else if dgt c=false\/7<=i\/(0<i/\n=0) then (0,0,1) else O6 r (i+1) (10*n+(c.toNat-48))
theorem A64:∀ (l r:List UInt8) (i n:Nat),(∀ c∈l,dgt c=true)->i+l.length<=7->0<i+l.length->(0<i->l≠[]->0<n)->(i=0->∀ c t,l=c::t->t≠[]->c≠48)->
  O6 (l++58::r) i n=(A3a n l,i+l.length+1,0)
 | [],r,i,n,hd,h7,h0,hn,hz=>by
  rw [List.nil_append,O6,y6 ⟨rfl,by simpa using h0⟩];rfl
 | c::t,r,i,n,hd,h7,h0,hn,hz=>by
  have hc:=hd c (by simp);have hc':=L7.1 hc;simp only [zi] at h7;rw [List.cons_append,O6,y7 (fun h=>by rw [h.1] at hc';revert hc';decide),y7 (fun h=>by
   rcases h with h | h | h
   ·rw [hc] at h;cases h
   ·omega
   ·have:=hn h.1 (by simp);omega),A64 t r (i+1) _ (fun x hx=>hd x (by simp [hx])) (by omega) (by omega) (fun _ ht=>?_) (fun h=>by omega),U7]
  ·rw [zi,show i+1+t.length+1=i+(t.length+1)+1 by omega]
  ·rcases Nat.eq_zero_or_pos i with h | h
   ·have h48:=hz h c t rfl ht;have:c.toNat≠48:=fun e=>h48 (UInt8.toNat_inj.1 e);omega
   ·have:=hn h (by simp);omega
theorem A65:∀ (s:List UInt8) (i n m a:Nat),(i=0->n=0)->O6 s i n=(m,a,0)->∃ l r,s=l++58::r/\(∀ c∈l,dgt c=true)/\m=A3a n l/\a=i+l.length+1/\0<i+l.length/\(i=0->∀ c t,l=c::t->t≠[]->c≠48)/\(0<i->n=0->l=[])/\(i+l.length<=7\/l=[])
 | [],i,n,m,a,h0,h=>by simp [O6] at h
 | c::s,i,n,m,a,h0,h=>by
  rw [O6] at h;by_cases h1:c=58/\0<i
  ·rw [y6 h1] at h;simp only [Prod.mk.injEq] at h;obtain⟨rfl,rfl,_⟩:=h;obtain⟨rfl,hi⟩:=h1;exact⟨[],s,rfl,by simp,rfl,rfl,by simpa using hi,fun h=>by omega,fun _ _=>rfl,.inr rfl⟩
  ·rw [y7 h1] at h;by_cases h2:dgt c=false\/7<=i\/(0<i/\n=0)
   ·rw [y6 h2] at h;simp at h
   ·rw [y7 h2] at h;obtain⟨l,r,e,g1,g2,g3,g4,g5,g6,g7⟩:=A65 s (i+1) _ m a (fun h=>by omega) h;have hdc:dgt c=true:=by
     cases hd:dgt c
     ·exact absurd (.inl hd) h2
     ·rfl
    have hdc':=L7.1 hdc;refine⟨c::l,r,by rw [e];rfl,fun x hx=>?_,by rw [g2,U7],by rw [g3,zi];omega,by rw [zi];omega,fun hi x t ex ht=>?_,fun hi hn=>?_,?_⟩
    ·cases hx with
     | head=>exact hdc
     | tail _ hx=>exact g1 x hx
    ·cases ex;intro e48;subst e48;exact ht (g6 (by omega) (by rw [h0 hi];decide))
    ·exact absurd (.inr (.inr ⟨hi,hn⟩)) h2
    ·rw [zi];rcases g7 with g7 | g7
     ·exact .inl (by omega)
     ·subst g7;left;simp only [List.length_nil];have:¬ 7<=i:=fun h=>h2 (.inr (.inl h));omega
def A66 (t:List UInt8):Option Int:=
 match Lib.parseIntB 64 t with
 | .ok n=>if Lib.itoa n=t then some n else none
 | _=>none
theorem B2N {t:List UInt8} {n:Int} (h:A66 t=some n):Lib.itoa n=t/\B3 n:=by
 unfold A66 at h;rcases e:Lib.parseIntB 64 t with m | _ | _
 ·rw [e] at h;simp only at h;by_cases e2:Lib.itoa m=t
  ·rw [y6 e2] at h;cases h;have hb:=Lib.parseIntB_bounds e;refine⟨e2,?_⟩;unfold B3;simp only [show (2:Nat) ^ (64-1)=9223372036854775808 by decide] at hb;omega
  ·rw [y7 e2] at h;cases h
 ·rw [e] at h;cases h
 ·rw [e] at h;cases h
theorem P7:∀ (l:List UInt8) (a:Nat),(∀ c∈l,dgt c=true)->A3a a l<=18446744073709551615->Lib.parseUintM 18446744073709551615 a l=.ok (A3a a l)
 | [],a,_,_=>rfl
 | c::r,a,hd,hv=>by have hc:=L7.1 (hd c (by simp));rw [U7] at hv ⊢;have hg:=A6D r (10*a+(c.toNat-48));rw [Lib.parseUintM,y6 hc,y7 (by omega),y7 (by omega),Nat.mul_comm a 10];exact P7 r _ (fun x hx=>hd x (by simp [hx])) hv
theorem Y2 (u:Nat) (h:u<=18446744073709551615):Lib.parseUintB 64 (Lib.decDigits u)=.ok u:=by obtain⟨h1,h2,h3,_⟩:=P6 u;have:=P7 (Lib.decDigits u) 0 h2 (by rw [h3];exact h);rw [h3] at this;unfold Lib.parseUintB;rw [y7 h1];exact this
theorem B2O (n:Int) (h:B3 n):A66 (Lib.itoa n)=some n:=by
 have key:Lib.parseIntB 64 (Lib.itoa n)=.ok n:=by
  unfold B3 at h;unfold Lib.itoa;by_cases hn:n<0
  ·rw [y6 hn,Lib.parseIntB_minus,Y2 _ (by omega)];unfold Lib.signedC;simp only
   first
    | (rw [y7 (by simp;omega)];congr 1;omega)
    | (split<;>(try congr 1)<;>omega)
  ·rw [y7 hn];obtain⟨h1,h2,_,_⟩:=P6 n.toNat;cases e:Lib.decDigits n.toNat with
   | nil=>exact absurd e h1
   | cons c r=>
    have hc:=L7.1 (h2 c (by rw [e];simp));rw [Lib.parseIntB_plain _ _ _ (by omega) (by omega),<-e,Y2 _ (by omega)];unfold Lib.signlessC;simp only
    first
     | (rw [y7 (by simp;omega)];congr 1;omega)
     | (split<;>(try congr 1)<;>omega)
 unfold A66;rw [key];simp
def H9 (g:List UInt8->V × Nat × Int):Nat->List UInt8->Option (List V)
 | _,[]=>some []
 | 0,_::_=>none
 | k+1,c::r=>
  let q:=g (c::r)
  if q.2.2≠0 then none else (H9 g k ((c::r).drop q.2.1)).map (q.1::·)
def V0:V:=.mk 0 0 ⟨#[]⟩ []
def X7 (g:List UInt8->V × Nat × Int) (c:UInt8) (t:List UInt8):Option V:=
 if c=35 then (A66 t).map fun n=>.mk 1 n ⟨#[]⟩ []
 else if c=93 then (H9 g 6000 t).map fun l=>.mk 3 0 ⟨#[]⟩ l
 else if c=44 then some (.mk 2 0 ⟨t.toArray⟩ [])
 else none
def J5:Nat->List UInt8->V × Nat × Int
 | 0,s=>let q:=O6 s 0 0;if q.2.2≠0 then (V0,0,q.2.2) else (V0,0,1)
 | f+1,s=>
  let q:=O6 s 0 0
  if q.2.2≠0 then (V0,0,q.2.2)
  else if s.length<=q.2.1+q.1 then (V0,0,2)
  else match X7 (J5 f) (s.getD (q.2.1+q.1) 0) ((s.drop q.2.1).take q.1) with
   | none=>(V0,0,1)
   | some v=>(v,q.2.1+q.1+1,0)
def A0F (s:List UInt8):V × Nat × Int:=
 let q:=J5 6 s
 if q.2.2=0/\A2z q.1=false then (V0,0,1) else q
def I2:V->List UInt8
 | .mk k n s l=>if k==1 then Lib.itoa n else if k==3 then M5 l else s.data.toList
def A67:V->UInt8
 | .mk k n s l=>if k==1 then 35 else if k==3 then 93 else 44
theorem B2P (n:Nat):Lib.itoa (n:Int)=Lib.decDigits n:=by unfold Lib.itoa;rw [y7 (by omega),zh]
theorem A0f (v:V):J1 v=Lib.decDigits (I2 v).length++58::(I2 v++[A67 v]):=by obtain⟨k,n,s,l⟩:=v;rw [J1,<-B2P];rfl
theorem I3 {u:Nat} (h:u<10000000):(Lib.decDigits u).length<=7:=by
 rw [Lib.decDigits_length];rcases zl 7 (Lib.nDigits u) with h7 | h7
 ·exfalso;have key:∀ (k u:Nat),k<Lib.nDigits u->10 ^ k<=u\/k=0:=by
   intro k;induction k with
   | zero=>intro u _;exact .inr rfl
   | succ k ih=>
    intro u hk;by_cases hu:u<10
    ·rw [Lib.nDigits_small hu] at hk;omega
    ·rw [Lib.nDigits_big hu] at hk;have:=ih (u / 10) (by omega);rw [Nat.pow_succ];rcases this with h | h
     ·left;omega
     ·subst h;left;simp;omega
  have:=key 7 u h7;simp at this;omega
 ·exact h7
theorem A9o (v:V) (r:List UInt8) (h:(I2 v).length<10000000):O6 (J1 v++r) 0 0=((I2 v).length,(Lib.decDigits (I2 v).length).length+1,0):=by obtain⟨h1,h2,h3,h4⟩:=P6 (I2 v).length;have hp:0<(Lib.decDigits (I2 v).length).length:=List.length_pos_iff.2 h1;rw [A0f,zv,List.cons_append,A64 _ _ _ _ h2 (by have:=I3 h;omega) (by omega) (fun h=>by omega) (fun _=>h4),h3,zm]
theorem F6 (v:V):(J1 v).length=(Lib.decDigits (I2 v).length).length+1+(I2 v).length+1:=by rw [A0f];simp;omega
theorem A9p (v:V) (r:List UInt8):((J1 v++r).drop ((Lib.decDigits (I2 v).length).length+1)).take (I2 v).length=I2 v:=by
 rw [A0f];have e:Lib.decDigits (I2 v).length++58::(I2 v++[A67 v])++r=(Lib.decDigits (I2 v).length++[58])++(I2 v++([A67 v]++r)):=by simp
 rw [e,List.drop_left' (by simp),List.take_left' rfl]
theorem B2Q (v:V) (r:List UInt8):(J1 v++r).getD ((Lib.decDigits (I2 v).length).length+1+(I2 v).length) 0=A67 v:=by
 rw [A0f];have e:Lib.decDigits (I2 v).length++58::(I2 v++[A67 v])++r=((Lib.decDigits (I2 v).length++[58])++I2 v)++(A67 v::r):=by simp
 rw [e,List.getD_eq_getElem?_getD,List.getElem?_append_right (by simp;omega),z6,z6];simp
theorem A9q (g:V->Int) (hg:∀ v,1<=g v):∀ (l:List V) (n:Int),A0d g l n<=6000->n+l.length<=A0d g l n/\∀ x∈l,g x<=6000-n
 | [],n,h=>by rw [A0d];simp
 | x::r,n,h=>by
  rw [C4] at h ⊢;by_cases h1:6000<n+g x
  ·rw [y6 h1] at h;omega
  ·rw [y7 h1] at h ⊢;have hx:=hg x;obtain⟨h2,h3⟩:=A9q g hg r _ h;refine⟨by rw [zi];omega,fun y hy=>?_⟩;cases hy with
   | head=>omega
   | tail _ hy=>have:=h3 y hy;omega
theorem A4r (g:List UInt8->V × Nat × Int):∀ (l:List V) (k:Nat),l.length<=k->(∀ x∈l,∀ r,g (J1 x++r)=(x,(J1 x).length,0))->H9 g k (M5 l)=some l
 | [],k,hk,h=>by rw [M5];unfold H9;rfl
 | x::l,0,hk,h=>by simp at hk
 | x::l,k+1,hk,h=>by
  rw [M5];have hx:=h x (by simp) (M5 l);have hl:=F6 x;cases e:J1 x++M5 l with
  | nil=>exfalso;have:=y5 List.length e;rw [z6,hl] at this;simp only [List.length_nil] at this;omega
  | cons c r=>
   rw [H9,<-e,hx];simp only [ne_eq,not_true_eq_false,if_false,List.drop_left];rw [A4r g l k (by simpa using hk) (fun y hy=>h y (by simp [hy]))];rfl
theorem A4s {l:List V} {x:V} (h:x∈l):(I2 x).length<(M5 l).length:=by have h1:=Y8 h;have h2:=F6 x;omega
theorem B9b {s:ByteArray} (h:mt s=true):s=⟨#[]⟩:=by have h2:D3 s ⟨#[]⟩=true:=h;apply ByteArray.ext;simpa [D3] using h2
theorem B2R:∀ (f:Nat) (v:V),cnt f v<=6000->okV v->(I2 v).length<10000000->∀ r,J5 f (J1 v++r)=(v,(J1 v).length,0):=by
 intro f;induction f with
 | zero=>intro v h;rw [cnt] at h;omega
 | succ f ih=>
  intro v hc hok hlen r;rw [J5,A9o v r hlen];simp only [ne_eq,not_true_eq_false,if_false];rw [y7 (by rw [z6,F6];omega),A9p,B2Q];have hb:X7 (J5 f) (A67 v) (I2 v)=some v:=by
   obtain⟨k,n,s,l⟩:=v;rw [cnt] at hc;rw [okV] at hok;by_cases h1:(k==1&&mt s&&((l.length:Int)==0))||(k==2&&n==0&&((l.length:Int)==0))
   ·simp only [Bool.or_eq_true,z7,beq_iff_eq] at h1;rcases h1 with ⟨⟨h1,h2⟩,h3⟩ | ⟨⟨h1,h2⟩,h3⟩
    ·subst h1;have hl:l=[]:=zn (by omega);subst hl;rw [B9b h2];simp [X7,A67,I2,B2O n hok.1]
    ·subst h1;have hl:l=[]:=zn (by omega);subst hl;subst h2;simp [X7,A67,I2]
   ·rw [y7 h1] at hc;by_cases h2:(k != 3||!(n==0)||!mt s)=true
    ·rw [y6 h2] at hc;omega
    ·rw [y7 h2] at hc;simp only [Bool.or_eq_true,not_or,bne_iff_ne,ne_eq,Decidable.not_not,Bool.not_eq_true',Bool.not_eq_false',beq_iff_eq,Bool.not_eq_false] at h2;obtain⟨⟨rfl,h3⟩,h4⟩:=h2;have h3:n=0:=by simpa using h3
     have h4:mt s=true:=by simpa using h4
     subst h3;rw [B9b h4];obtain⟨h5,h6⟩:=A9q (cnt f) (fun v=>(L4 f v).1) l 1 hc;have ht:I2 (.mk 3 0 s l)=M5 l:=by simp [I2]
     rw [ht] at hlen;have hl:=A4r (J5 f) l 6000 (by omega) (fun x hx r=>ih x (by have:=h6 x hx;omega) (A6B hok.2 hx) (by have:=A4s hx;omega) r);simp [X7,A67,I2,hl]
  rw [hb];simp only;rw [F6]
theorem A9r (g:List UInt8->V × Nat × Int) (hg:∀ s v n,g s=(v,n,0)->n<=s.length/\J1 v=s.take n/\okV v):∀ (k:Nat) (t:List UInt8) (l:List V),H9 g k t=some l->M5 l=t/\okL l:=by
 intro k;induction k with
 | zero=>
  intro t l h;cases t with
  | nil=>rw [H9] at h;cases h;exact⟨by rw [M5],by rw [okL];trivial⟩
  | cons c r=>rw [H9] at h;cases h
 | succ k ih=>
  intro t l h;cases t with
  | nil=>rw [H9] at h;cases h;exact⟨by rw [M5],by rw [okL];trivial⟩
  | cons c r=>
   rw [H9] at h;generalize hq:g (c::r)=q at h;obtain⟨v,n,e⟩:=q;simp only at h;by_cases he:e=0
   ·subst he;simp only [ne_eq,not_true_eq_false,if_false] at h;cases hl:H9 g k ((c::r).drop n) with
    | none=>rw [hl] at h;cases h
    | some m=>
     rw [hl] at h;cases h;obtain⟨h1,h2⟩:=ih _ _ hl;obtain⟨h3,h4,h5⟩:=hg _ _ _ hq;refine⟨?_,by rw [okL];exact⟨h5,h2⟩⟩;rw [M5,h1,h4,List.take_append_drop]
   ·rw [y6 he] at h;cases h
theorem A68:∀ (f:Nat) (s:List UInt8) (v:V) (n:Nat),J5 f s=(v,n,0)->n<=s.length/\J1 v=s.take n/\okV v:=by
 intro f;induction f with
 | zero=>
  intro s v n h;rw [J5] at h
  try dsimp only at h
  split at h
  ·rename_i h1;simp only [Prod.mk.injEq] at h;exact absurd h.2.2 h1
  ·simp at h
 | succ f ih=>
  intro s v n h;rw [J5] at h
  try dsimp only at h
  generalize hq:O6 s 0 0=q at h;obtain⟨m,a,e⟩:=q;simp only at h;split at h
  ·rename_i h1;simp only [Prod.mk.injEq] at h;exact absurd h.2.2 h1
  rename_i h1;have he:e=0:=by simpa using h1
  subst he;split at h
  ·simp at h
  rename_i h2;obtain⟨l,r,es,g1,g2,g3,g4,g5,g6,g7⟩:=A65 s 0 0 m a (fun _=>rfl) hq;have hne:l≠[]:=fun e=>by subst e;simp at g4
  have hdec:Lib.decDigits m=l:=by rw [g2];exact A3b l.length l (zc _) hne g1 (g5 rfl)
  cases hb:X7 (J5 f) (s.getD (a+m) 0) ((s.drop a).take m) with
  | none=>rw [hb] at h;simp at h
  | some u=>
   rw [hb] at h;simp only [Prod.mk.injEq,and_true] at h;obtain⟨rfl,rfl⟩:=h;have hr:s.drop a=r:=by
    rw [es,g3];have e:l++58::r=(l++[58])++r:=by simp
    rw [e,List.drop_left' (by simp)]
   have hlen:s.length=l.length+1+r.length:=by rw [es];simp;omega
   have hmr:m<r.length:=by omega
   have hc:s.getD (a+m) 0=r[m]:=by rw [List.getD_eq_getElem?_getD,<-List.getElem?_drop,hr,List.getElem?_eq_getElem hmr];rfl
   rw [hc,hr] at hb;have key:I2 u=r.take m/\A67 u=r[m]/\okV u:=by
    unfold X7 at hb;by_cases c1:r[m]=35
    ·rw [y6 c1] at hb;cases hn:A66 (r.take m) with
     | none=>rw [hn] at hb;cases hb
     | some k=>
      rw [hn] at hb;cases hb;obtain⟨k1,k2⟩:=B2N hn;exact⟨by simp [I2,k1],by simp [A67,c1],by rw [okV,okL];exact⟨k2,trivial⟩⟩
    rw [y7 c1] at hb;by_cases c2:r[m]=93
    ·rw [y6 c2] at hb;cases hn:H9 (J5 f) 6000 (r.take m) with
     | none=>rw [hn] at hb;cases hb
     | some k=>
      rw [hn] at hb;cases hb;obtain⟨k1,k2⟩:=A9r (J5 f) ih 6000 _ _ hn;exact⟨by simp [I2,k1],by simp [A67,c2],by rw [okV];exact⟨by unfold B3;omega,k2⟩⟩
    rw [y7 c2] at hb;by_cases c3:r[m]=44
    ·rw [y6 c3] at hb;cases hb;exact⟨by simp [I2],by simp [A67,c3],by rw [okV,okL];exact⟨by unfold B3;omega,trivial⟩⟩
    ·rw [y7 c3] at hb;cases hb
   obtain⟨k1,k2,k3⟩:=key;refine⟨by omega,?_,k3⟩;have hl2:(I2 u).length=m:=by rw [k1,zf];omega
   rw [A0f,hl2,hdec,k1,k2,es,g3];have e1:r.take m++[r[m]]=r.take (m+1):=by rw [List.take_add_one,List.getElem?_eq_getElem hmr];rfl
   have e2:0+l.length+1+m+1=(l++[58]).length+(m+1):=by simp;omega
   have e3:l++58::r=(l++[58])++r:=by simp
   rw [e1,e2,e3,List.take_append,List.take_of_length_le (Nat.le_add_right _ _),Nat.add_sub_cancel_left];simp
def A4T (v:V):List UInt8:=if A2z v&&decide ((Lib.decDigits (I2 v).length).length<=7) then J1 v else []
theorem A0G:∀ (l r:List UInt8),(∀ c∈l,dgt c=true)->Lib.indexByte (l++58::r) 58=l.length
 | [],r,_=>rfl
 | c::l,r,h=>by
  have hc:=L7.1 (h c (by simp));have ih:=A0G l r fun x hx=>h x (by simp [hx]);have hne:(c==58)=false:=by rw [y4];intro e;subst e;revert hc;decide
  rw [List.cons_append,Lib.indexByte,hne,ih];have:((l.length:Int) == -1)=false:=by rw [y4];omega
  simp [this]
theorem A2l (v:V):Lib.indexByte (J1 v) 58=(Lib.decDigits (I2 v).length).length:=by rw [A0f];exact A0G _ _ (P6 _).2.1
theorem A69 (v:V) (hok:okV v) (hlen:(J1 v).length<=1073741824) (k n:Int) (s:ByteArray) (A:Option Addr) (len cap:Nat) (S:Nat->Prop) (w:World) (hr:RepC S w v [.int .i64 k,.int .i64 n,.string s,.slice A len cap]) (ht:Tab w):
  Calls Tryz.prog 117 #[.agg #[.int .i64 k,.int .i64 n,.string s,.slice A len cap]] w (C8 (.string ⟨(A4T v).toArray⟩) w):=by
 refine vE Tryz.func117 ?_;intro g2 w2 h2;have hc:=((Ctx.start w no (fun _ h=>h.elim)).loc h2).1;refine hc.a 0 rfl rfl ?_;refine hc.q (A61 v k n s A len cap S w2 (hr.below hc.below)) fun w3 h3 hc=>?_;cases hm:A2z v
 ·refine⟨?_,hc.below⟩;simp [A4T,hm];rfl
 refine hc.a 0 rfl rfl ?_;refine hc.q (B4x _ v (Nat.lt_succ_self _) hok hlen _ S w3 (hr.below hc.below) (ht.below hc.below)) fun w4 h4 hc=>?_;have hi:Calls Tryz.prog 173 #[.string ⟨(J1 v).toArray⟩,.int .u8 58] w4 (C8 (.int .i64 (Lib.decDigits (I2 v).length).length) w4):=
  (Tryz.strings_IndexByte ⟨(J1 v).toArray⟩ 58 w4).mono fun e w' he=>⟨by rw [he.1,<-A2l];rfl,by rw [he.2];exact Below.refl _ _⟩
 refine hc.q hi fun w5 h5 hc=>?_;by_cases h7:(Lib.decDigits (I2 v).length).length<=7
 ·refine df (by omega) ?_;refine⟨?_,hc.below⟩;simp [A4T,hm,h7];rfl
 ·refine dt (by omega) ?_;refine⟨?_,hc.below⟩;simp [A4T,hm,h7];rfl
theorem A4t (t:List UInt8) (ht:t.length<=1073741824) (w:World):
  Calls Tryz.prog 262 #[.string ⟨t.toArray⟩] w (C8 (.tuple #[.int .i64 (O6 t 0 0).1,.int .i64 (O6 t 0 0).2.1,.int .i64 (O6 t 0 0).2.2]) w):=by
 refine vE Tryz.func262 ?_;have hsz:(((⟨t.toArray⟩:ByteArray).size:Nat):Int)=t.length:=by rw [G4]
 refine⟨Nat × Nat,fun x=>[(0,.string ⟨t.toArray⟩),(5,.int .i64 x.2),(9,.int .i64 ((⟨t.toArray⟩:ByteArray).size:Nat)),(10,.int .i64 x.1)],
  fun x w'=>x.1<=t.length/\x.1<=7/\x.2<10 ^ x.1/\O6 (t.drop x.1) x.1 x.2=O6 t 0 0/\Below w.heap.size w w',fun x _=>t.length-x.1,(0,0),
  ⟨rfl,rfl,rfl,rfl,trivial⟩,⟨zb _,zb _,Nat.one_pos,rfl,Below.refl _ _⟩,?_⟩
 rintro⟨i,n⟩ w' u ⟨hi,h7,hn,he,hb⟩;simp only at hi h7 hn he;have hn7:n<10000000:=Nat.lt_of_lt_of_le hn (Nat.pow_le_pow_right (by decide) h7);by_cases hlt:i<t.length
 ·refine dt (by rw [hsz];omega) ?_;refine⟨⟨by omega,by rw [hsz];omega⟩,?_⟩;have eg:t.getD i 0=t[i]:=by rw [List.getD_eq_getElem?_getD,List.getElem?_eq_getElem hlt];rfl
  have ec:(⟨t.toArray⟩:ByteArray).data.toList.getD ((i:Int).toNat) 0=t[i]:=by rw [zh];exact eg
  rw [List.drop_eq_getElem_cons hlt,O6] at he;generalize ex:(⟨t.toArray⟩:ByteArray).data.toList.getD ((i:Int).toNat) 0=x at*;rw [<-ec] at he;have err:(x=58/\0<i->False)->(dgt x=false\/7<=i\/(0<i/\n=0))->C8 (.tuple #[.int .i64 (O6 t 0 0).1,.int .i64 (O6 t 0 0).2.1,.int .i64 (O6 t 0 0).2.2]) w (.returned (.tuple #[.int .i64 0,.int .i64 0,.int .i64 1])) w':=fun h1 h2=>⟨by rw [y7 h1,y6 h2] at he;rw [<-he];rfl,hb⟩;have go:(x=58/\0<i->False)->¬ (dgt x=false\/7<=i\/(0<i/\n=0))->O6 (t.drop (i+1)) (i+1) (10*n+(x.toNat-48))=O6 t 0 0:=fun h1 h2=>by rw [y7 h1,y7 h2] at he;exact he
  have h58:((x.toNat:Int)==58)=decide (x=58):=by
   rw [Bool.eq_iff_iff,beq_iff_eq,y0];constructor
   ·intro h;exact UInt8.toNat_inj.1 (by have:(58:UInt8).toNat=58:=rfl;omega)
   ·intro h;subst h;rfl
  have rest:(x=58/\0<i->False)->True:=fun _=>trivial;have hxx:=x.toNat_lt;by_cases hx:x=58
  ·refine B0 (by show ((x.toNat:Int)==58)=true;rw [h58,zy hx]) ?_;by_cases h0:0<i
   ·refine dt (by omega) ?_;rw [y6 ⟨hx,h0⟩] at he;refine⟨?_,hb⟩;rw [<-he];show Ending.returned (.tuple #[.int .i64 n,.int .i64 (IntKind.i64.wrap ((i:Int)+1)),.int .i64 0])=_;rw [C3 (by omega)]
   ·refine df (by omega) ?_;refine df (by subst hx;decide) ?_;refine dt (by subst hx;decide) ?_;exact err (fun h=>h0 h.2) (.inl (by subst hx;rfl))
  ·refine C3X (by show ((x.toNat:Int)==58)=false;rw [h58,zz hx]) ?_;by_cases c1:x.toNat<48
   ·refine dt (by omega) ?_;exact err (fun h=>hx h.1) (.inl (by unfold dgt;rw [zz (by omega)];rfl))
   refine df (by omega) ?_;by_cases c2:57<x.toNat
   ·refine dt (by omega) ?_;exact err (fun h=>hx h.1) (.inl (by unfold dgt;rw [zz (show ¬ x.toNat<=57 by omega),Bool.and_false]))
   refine df (by omega) ?_;have hd:dgt x=true:=L7.2 ⟨by omega,by omega⟩;by_cases c3:7<=i
   ·refine dt (by omega) ?_;exact err (fun h=>hx h.1) (.inr (.inl c3))
   refine df (by omega) ?_;have ew:IntKind.i64.wrap (IntKind.i64.wrap (10*(n:Int))+IntKind.i64.wrap (IntKind.u8.wrap ((x.toNat:Int)-48)))=((10*n+(x.toNat-48):Nat):Int):=by rw [IntWalk.i64_in (10*(n:Int)) ⟨by omega,by omega⟩,IntWalk.u8_in _ ⟨by omega,by omega⟩,IntWalk.i64_in ((x.toNat:Int)-48) ⟨by omega,by omega⟩,IntWalk.i64_in _ ⟨by omega,by omega⟩];omega
   have hn':10*n+(x.toNat-48)<10 ^ (i+1):=by rw [Nat.pow_succ];omega
   by_cases c4:0<i
   ·refine dt (by omega) ?_;by_cases c5:n=0
    ·refine B0 (by subst c5;rfl) ?_;exact err (fun h=>hx h.1) (.inr (.inr ⟨c4,c5⟩))
    ·refine C3X (by show ((n:Int)==0)=false;rw [y4];omega) ?_;refine⟨(i+1,10*n+(x.toNat-48)),⟨rfl,y5 _ ew,rfl,y5 _ (C3 (by omega)),trivial⟩,⟨hlt,by show i+1<=7;omega,hn',go (fun h=>hx h.1) (fun h=>?_),hb⟩,by show t.length-(i+1)<t.length-i;omega⟩;rcases h with h | h | h
     ·rw [hd] at h;cases h
     ·exact c3 h
     ·exact c5 h.2
   ·refine df (by omega) ?_;refine⟨(i+1,10*n+(x.toNat-48)),⟨rfl,y5 _ ew,rfl,y5 _ (C3 (by omega)),trivial⟩,⟨hlt,by show i+1<=7;omega,hn',go (fun h=>hx h.1) (fun h=>?_),hb⟩,by show t.length-(i+1)<t.length-i;omega⟩;rcases h with h | h | h
    ·rw [hd] at h;cases h
    ·exact c3 h
    ·exact c4 h.1
 ·refine df (by rw [hsz];omega) ?_;rw [zq (by omega),O6] at he;refine⟨?_,hb⟩;rw [<-he];rfl
end Go.Proofs.YtefdfaeieekioaaGreatDoor
section
namespace Go.Vc
open Go Go.RowKit
section
variable {S0 S:Nat->Prop} {w0 w w':World} {l:List LB} {e sz:Nat} {A:Option Addr} {n cap:Nat} {xs:List Value} {n0:Nat}
theorem Locs.turned {S:Nat->Prop} {n0:Nat} {w w':World}:∀ {l:List LB} {k g T:Nat} {cs cs':List Value},Locs S n0 w l->l[k]?=some (g,T,cs)->Blk w' g T cs'->(∀ b,b<w.heap.size->b≠g->w'.heap[b]?=w.heap[b]?)->Locs S n0 w' (F4 l k cs')
 | (g',T',c)::r,k,g,T,cs,cs',⟨h1,h2,h3,h4,h5⟩,hk,hb,ho=>by
  cases k with
  | zero=>
   simp at hk;obtain⟨rfl,rfl,rfl⟩:=hk;exact⟨h1,h2,hb,h4,h5.mono (fun x hx=>ho _ (h5.lt x hx) (h4 x hx)) (fun _ _ h=>h)⟩
  | succ k=>
   have hk':r[k]?=some (g,T,cs):=by simpa using hk
   have hne:g≠g':=h4 _ (List.mem_of_getElem? hk');refine⟨h1,h2,h3.of_eq (ho _ h3.lt (Ne.symm hne)),fun x hx=>?_,h5.turned hk' hb ho⟩;obtain⟨y,hy,e⟩:=J4 hx;rw [<-e];exact h4 y hy
theorem Ctx.turned (hc:Ctx S0 w0 S w l) (k:Nat) {g T:Nat} {cs cs':List Value} (h:l[k]?=some (g,T,cs)) (hg:w.grownBy w' (some g)) (hB:Blk w' g T cs'):
  Ctx S0 w0 S w' (F4 l k cs')/\Fut S w S w':=by
 obtain⟨hn,hge⟩:=hc.locs.notS h;refine⟨⟨hc.below.grown hg hc.below.size (fun k hk=>by cases hk;exact hge),hc.sub,hc.new,fun b hb=>Nat.lt_of_lt_of_le (hc.lt b hb) hg.size,hc.locs.turned h hB (fun b hb hne=>hg.block b hb (fun e=>hne (Option.some.inj e)))⟩,
  ⟨fun _ h=>h,fun b hb=>hg.block b (hc.lt b hb) (fun e=>hn ((Option.some.inj e)▸hb))⟩⟩
theorem Ctx.fresh (hc:Ctx S0 w0 S w l) (hb:Below w.heap.size w w') (ho:w'.ownsRow w.heap.size e sz (.slice A n cap) n xs):
  Ctx S0 w0 S w' l/\Fut S w S w'/\Own S w0.heap.size w' l e sz A n cap xs:=by
 obtain⟨h1,h2⟩:=hc.quiet hb;refine⟨h1,h2,?_,fun a ha=>?_⟩
 ·refine⟨ho.1,?_⟩;rcases ho.2 with h | ⟨g,cp,cur,h3,h4,h5⟩
  ·exact .inl h
  ·exact .inr ⟨g,cp,cur,h3,zo hc.below.size h4,h5⟩
 ·subst ha;have hlt:=(ho.lt a.block rfl).1;exact⟨fun hs=>by have:=hc.lt _ hs;omega,fun x hx e1=>by have:=hc.locs.lt x hx;omega⟩
theorem Own.opened (h:Own S w0.heap.size w l e sz A n cap xs) (hc:Ctx S0 w0 S w l) {a:Addr} (hA:A=some a):
  ∃ g cur,A=some ⟨g,0,none⟩/\Ctx S0 w0 S w ((g,e,cur)::l)/\cur.length=cap*sz/\cur.take (n*sz)=xs/\n<=cap/\cap<=maxLen:=by
 subst hA;rcases h.row.2 with ⟨h3,_⟩ | ⟨g,cp,cur,h3,h4,h5,h6,h7,h8,h9⟩
 ·cases h3
 ·cases h3;refine⟨g,cur.toList,rfl,⟨hc.below,hc.sub,hc.new,hc.lt,?_⟩,by simpa using h8,h9,h6,h7⟩;refine⟨h4,(h.out _ rfl).1,?_,(h.out _ rfl).2,hc.locs⟩;unfold Blk;simpa using h5
theorem Ctx.closed {g:Nat} {cur:List Value} (hc:Ctx S0 w0 S w ((g,e,cur)::l)) (sz n cap:Nat) (h1:n<=cap) (h2:cap<=maxLen) (h3:cur.length=cap*sz):
  Ctx S0 w0 S w l/\Own S w0.heap.size w l e sz (some ⟨g,0,none⟩) n cap (cur.take (n*sz)):=by
 obtain⟨k1,k2,k3,k4,k5⟩:=hc.locs;refine⟨hc.drop,⟨?_,.inr ⟨g,cap,cur.toArray,rfl,k1,k3,h1,h2,by simpa using h3,by simp⟩⟩,fun a ha=>?_⟩
 ·rw [zf,h3];exact Nat.min_eq_left (Nat.mul_le_mul_right _ h1)
 ·cases ha;exact⟨k2,k4⟩
theorem Own.made (hc:Ctx S0 w0 S w l) {cs:List Value} {g:Nat} (hN:New w cs e g w') (sz n:Nat) (h:cs.length=n*sz) (hn:n<=maxLen):Ctx S0 w0 S w' l/\Fut S w S w'/\Own S w0.heap.size w' l e sz (some ⟨g,0,none⟩) n n cs:=by obtain⟨h1,h2⟩:=hc.loc hN;obtain⟨h3,h4⟩:=h1.closed sz n n (zc _) hn h;refine⟨h3,h2,?_⟩;rw [List.take_of_length_le (Nat.le_of_eq h)] at h4;exact h4
theorem Own.none' (h:Own S n0 w l e sz A n cap xs) (hA:A=none):n=0/\cap=0/\xs=[]:=by
 subst hA;rcases h.row.2 with ⟨h3,h4⟩ | ⟨g,cp,cur,h3,_⟩
 ·cases h3;have:=h.row.1;rw [Nat.zero_mul] at this;exact⟨rfl,rfl,zn this⟩
 ·cases h3
end
theorem Keeps.look {w x:World} (h:Keeps (fun b=>b<w.heap.size) w x) {a:Addr} {v:Value} (hc:w.cell? a=some v):x.cell? a=some v:=h.at hc (World.block_lt_of_cell? w a hc)
theorem Keeps.looks {w x:World} (h:Keeps (fun b=>b<w.heap.size) w x) {a:Addr}:∀ (cs:List Value) (i:Nat),Go.Vc.cellsAt w a cs i->Go.Vc.cellsAt x a cs i
 | [],_,_=>trivial
 | v::r,i,hc=>⟨h.look hc.1,h.looks r (i+1) hc.2⟩
theorem Y9 (g cap k:Nat) (j:Int) (i:Nat) (hj:j=i) (hne:cap≠i):(if (cap:Int)=j then some (⟨g,0,none⟩:Addr) else (some (⟨g,0,none⟩:Addr)).map (·.add (j.toNat*k)))=some ⟨g,i*k,none⟩:=by rw [y7 (by omega),Option.map_some,Addr.add_lit,zm,hj,zh]
theorem Row.front {S:Nat->Prop} {w:World} {A:Option Addr} {n cap k:Nat} {xs:List Value} (hR:Row S w A n cap xs) (sz:Nat) (hk:k<=n):Row S w A k cap (xs.take (k*sz)):=
 ⟨zo hk hR.1,hR.2.1,fun hx=>by
  obtain⟨ad,e,hs,hc⟩:=hR.2.2 (fun h=>hx (by rw [h];simp));refine⟨ad,e,hs,fun j u hu=>?_⟩;rw [List.getElem?_take] at hu;split at hu
  ·exact hc j u hu
  ·cases hu⟩
theorem W2 (A:Option Addr) (cap sz:Nat):(if (cap:Int)=0 then A else A.map (·.add ((0:Int).toNat*sz)))=A:=by
 have e:∀ a:Addr,a.add ((0:Int).toNat*sz)=a:=fun a=>by unfold Addr.add;simp
 split
 ·rfl
 ·cases A with
  | none=>rfl
  | some a=>rw [Option.map_some,e]
theorem Row.back {S:Nat->Prop} {w:World} {A:Option Addr} {n cap:Nat} {xs:List Value} (hR:Row S w A n cap xs) (sz:Nat) (hx:xs.length=n*sz) (i:Nat) (j:Int) (hj:j=i) (hi:i<=n):
  Row S w (if (cap:Int)=j then A else A.map (·.add (j.toNat*sz))) (n-i) (cap-i) (xs.drop (i*sz)):=by
 have hjn:j.toNat=i:=by omega
 refine⟨Nat.sub_le_sub_right hR.1 i,zo (Nat.sub_le _ _) hR.2.1,fun h0=>?_⟩;have hlt:i*sz<xs.length:=by
  rcases zl (i*sz) xs.length with h | h
  ·exact h
  ·rw [zq h] at h0;exact absurd rfl h0
 have hin:i<n:=by
  rcases zl i n with h | h
  ·exact h
  ·have:=Nat.mul_le_mul_right sz h;omega
 have hcap:=hR.1;rw [y7 (by omega),hjn];obtain⟨ad,e,hs,hc⟩:=hR.2.2 (fun h=>by subst h;simp at hlt);subst e;refine⟨ad.add (i*sz),rfl,by rw [K8];exact hs,fun k u hu=>?_⟩;rw [add_add];rw [List.getElem?_drop] at hu;exact hc _ _ hu
theorem E5:∀ (xs cs:List Value) (o:Nat),o+xs.length<=cs.length->C0 cs o xs=cs.take o++xs++cs.drop (o+xs.length)
 | [],cs,o,h=>by simp [C0]
 | x::r,cs,o,h=>by
  simp only [zi] at h;rw [C0,E5 r (cs.set o x) (o+1) (by simp;omega),List.take_set,List.drop_set,y6 (by omega),zi,show o+1+r.length=o+(r.length+1) by omega];have e:(cs.take (o+1)).set o x=cs.take o++[x]:=by
   have hl:o<cs.length:=by omega
   rw [List.take_add_one,List.getElem?_eq_getElem hl];simp only [Option.toList_some];rw [List.set_append_right _ _ (by rw [zf];omega)];have:o-(cs.take o).length=0:=by rw [zf];omega
   rw [this];rfl
  rw [e];simp
theorem putAt_len:∀ (xs cs:List Value) (o:Nat),(C0 cs o xs).length=cs.length
 | [],_,_=>rfl
 | x::r,cs,o=>by rw [C0,putAt_len r];simp
section
variable {P:Program} {w:World} {e sz bytes:Nat} {K:Value->World->Prop} {z:Value}
theorem A7A {S0 S:Nat->Prop} {w0:World} {l:List LB} {t T g n cap m c:Nat} {cs:Array Bool} {cur ys:List Value} (ht:P.underlying t=some (.slice e)) (hi:(P.info? e).map (fun i=>(i.zero,i.size,i.bytes))=some (some z,sz,bytes))
  (hc:Ctx S0 w0 S w ((g,e,cur)::l)) (hcur:cur.length=cap*sz) (hroom:n+m<=cap) {ad:Addr} (hl:ys.length=m*sz) (hy:cellsAt w ad ys 0) (h1:D7 ys=true)
  {x y:Value} (ex:x=.slice (some ⟨g,0,none⟩) n cap) (ey:y=.slice (some ad) m c)
  (k:∀ w',Ctx S0 w0 S w' ((g,e,cur.take (n*sz)++ys++cur.drop ((n+m)*sz))::l)->Fut S w S w'->K (.slice (some ⟨g,0,none⟩) (n+m) cap) w'):
  ∃ v w',(builtin .append #[t,t] T cs #[x,y]).run P w=.ok (.value v) w'/\K v w':=by
 subst ex;subst ey;obtain⟨i,h2,h3,h4,h5⟩:=info_parts hi;subst h4;have hB:=hc.blk 0 rfl;have cellsOf:∀ (ys:List Value) (i:Nat),cellsAt w ad ys i->∀ j u,ys[j]?=some u->w.cell? (ad.add (i+j))=some u:=by
  intro ys;induction ys with
  | nil=>intro i _ j u h;cases h
  | cons v r ih=>
   intro i h j u hu;cases j with
   | zero=>cases hu;exact h.1
   | succ j=>rw [show i+(j+1)=i+1+j from by omega];exact ih (i+1) h.2 j u hu
 have hfit:n*i.size+ys.length<=cur.length:=by rw [hl,hcur,<-Nat.add_mul];exact Nat.mul_le_mul_right _ hroom
 have hr:=run_append_room (P:=P) w t T e i ht h2 g n cap cur.toArray hB ad m c ys hl (fun j u hu=>by have:=cellsOf ys 0 hy j u hu;rwa [zm] at this) (H7 h1) hroom (by simpa using hfit);have hlen:n*i.size+ys.length=(n+m)*i.size:=by rw [hl,Nat.add_mul]
 rw [hlen] at hr;have hB':Blk (w.setRow g (cur.toArray.toList.take (n*i.size)++ys++cur.toArray.toList.drop ((n+m)*i.size)).toArray) g e (cur.take (n*i.size)++ys++cur.drop ((n+m)*i.size)):=by have:=setRow_heap w g cur.toArray (cur.toArray.toList.take (n*i.size)++ys++cur.toArray.toList.drop ((n+m)*i.size)).toArray e (0,0) hB;exact this
 have hg:w.grownBy (w.setRow g (cur.toArray.toList.take (n*i.size)++ys++cur.toArray.toList.drop ((n+m)*i.size)).toArray) (some g):=
  ⟨rfl,rfl,rfl,by simp,fun k _ hk=>setRow_other w g k _ (fun e=>hk (by simp [e]))⟩
 obtain⟨k1,k2⟩:=hc.turned 0 rfl hg hB';refine⟨_,_,?_,k _ k1 k2⟩;show (do pure (Next.value (<-Builtin.append_ #[t,t] T #[.slice (some ⟨g,0,none⟩) n cap,.slice (some ad) m c])):Sem Next).run P w=_;simp only [Sem.run_bind,hr,Result.andThen_ok,Sem.run_pure]
theorem Z0 {S0 S S':Nat->Prop} {w0:World} {l:List LB} {t T n cap m c:Nat} {A B:Option Addr} {cs:Array Bool} {xs ys:List Value} (ht:P.underlying t=some (.slice e)) (hi:(P.info? e).map (fun i=>(i.zero,i.size,i.bytes))=some (some z,sz,bytes))
  (hzs:z.cells.size=sz) (hsz:0<sz) (hc:Ctx S0 w0 S w l) (ho:Own S w0.heap.size w l e sz A n cap xs) (hR:Row S' w B m c ys) (hl:ys.length=m*sz) (h1:D7 ys=true) (h63:n+m<=34359738368) (hby:bytes<=4096)
  (k:∀ A' cap' w',Ctx S0 w0 S w' l->Fut S w S w'->Own S w0.heap.size w' l e sz A' (n+m) cap' (xs++ys)->w.grownBy w' (Value.slice A n cap).ownBlock->K (.slice A' (n+m) cap') w'):
  ∃ v w',(builtin .append #[t,t] T cs #[.slice A n cap,.slice B m c]).run P w=.ok (.value v) w'/\K v w':=by
 cases B with
 | some ad=>
  refine R0 ht hi hzs hsz hc ho hl ?_ h1 h63 hby k;rcases ys with _ | ⟨y,r⟩
  ·trivial
  ·obtain⟨ad',e1,hcell⟩:=hR.get (i:=0) (by simp);cases e1;have:=Z8 hcell 0 (y::r) 0 (fun j u hu=>by simpa using hu);have e0:ad.add 0=ad:=by unfold Addr.add;simp
   rw [e0] at this;exact this
 | none=>
  have hys:ys=[]:=by
   rcases ys with _ | ⟨y,r⟩
   ·rfl
   ·obtain⟨ad',e1,_⟩:=hR.get (i:=0) (by simp);cases e1
  subst hys;have hm:m=0:=by
   rcases Nat.eq_zero_or_pos m with h | h
   ·exact h
   ·have:=Nat.mul_pos h hsz;rw [<-hl] at this;simp at this
  subst hm;obtain⟨i,h2,h3,h4,h5⟩:=info_parts hi;obtain⟨f1,f2⟩:=ho.fit;have hr:(Builtin.append_ #[t,t] T #[.slice A n cap,.slice none 0 c]).run P w=.ok (.slice A n cap) w:=by cases A<;>simp [Builtin.append_,run_underlying ht,sizeOf,typeInfo,h2,Builtin.lenOf,Builtin.firstCells,f1,storeCells]
  refine⟨_,_,?_,k A cap w hc (Fut.refl _ _) (by rw [zw];exact ho) ⟨rfl,rfl,rfl,zc _,fun _ _ _=>rfl⟩⟩;show (do pure (Next.value (<-Builtin.append_ #[t,t] T #[.slice A n cap,.slice none 0 c])):Sem Next).run P w=_;simp only [Sem.run_bind,hr,Result.andThen_ok,Sem.run_pure];rfl
theorem B2S {S0 S S':Nat->Prop} {w0:World} {l:List LB} {t T n cap m c:Nat} {A B:Option Addr} {cs:Array Bool} {xs ys:List Value} (ht:P.underlying t=some (.slice e)) (hi:(P.info? e).map (fun i=>(i.zero,i.size,i.bytes))=some (some z,sz,bytes))
  (hzs:z.cells.size=sz) (hsz:0<sz) (hc:Ctx S0 w0 S w l) (ho:Own S w0.heap.size w l e sz A n cap xs) (hR:Row S' w B m c ys) (hl:ys.length=m*sz) (h1:D7 ys=true) (h63:n+m<=34359738368) (hby:bytes<=4096)
  {x y:Value} (ex:x=.slice A n cap) (ey:y=.slice B m c)
  (k:∀ A' cap' w',Ctx S0 w0 S w' l->Fut S w S w'->Own S w0.heap.size w' l e sz A' (n+m) cap' (xs++ys)->w.grownBy w' (Value.slice A n cap).ownBlock->K (.slice A' (n+m) cap') w'):
  ∃ v w',(builtin .append #[t,t] T cs #[x,y]).run P w=.ok (.value v) w'/\K v w':=by
 subst ex;subst ey;exact Z0 ht hi hzs hsz hc ho hR hl h1 h63 hby k
theorem A4u {S0 S:Nat->Prop} {w0:World} {l:List LB} {t tn T g n cap k:Nat} {kn kq:IntKind} {cs:Array Bool} {cur:List Value} (ht:P.underlying t=some (.slice e)) (htn:P.underlying tn=some (.int kn)) (hi:(P.info? e).map (fun i=>(i.zero,i.size,i.bytes))=some (some z,sz,bytes))
  (hzs:z.cells.size=sz) (hsz:0<sz) (hc:Ctx S0 w0 S w ((g,e,cur)::l)) (hcur:cur.length=cap*sz) (hn:n<=cap) (h0:0<k) (hg:cap<n+k) (hk:n+k<=34359738368) (hby:bytes<=4096)
  {x y:Value} (ex:x=.slice (some ⟨g,0,none⟩) n cap) (ey:y=.int kq k)
  (K':∀ g2 cap2 cur2 w',Ctx S0 w0 S w' ((g2,e,cur2)::(g,e,cur)::l)->Fut S w S w'->cur2.length=cap2*sz->n+k<=cap2->cap2<=maxLen->cur2.take (n*sz)=cur.take (n*sz)->K (.slice (some ⟨g2,0,none⟩) (n+k) cap2) w'):
  ∃ v w',(builtin .append #[t,tn] T cs #[x,y]).run P w=.ok (.value v) w'/\K v w':=by
 subst ex;subst ey;obtain⟨i,h2,h3,h4,h5⟩:=info_parts hi;subst h4;subst h5;have hle:n*i.size<=cur.length:=by rw [hcur];exact Nat.mul_le_mul_right _ hn
 have hcd:=hc.drew;have hB:=hcd.blk 0 rfl;have hold:=run_firstCells_some (P:=P) w.drew i.size n ⟨g,0,none⟩ n cap (cur.take (n*i.size)) (by rw [zf];exact Nat.min_eq_left hle) (fun j u hu=>by
  rw [List.getElem?_take] at hu;split at hu
  ·rw [Addr.add_lit,zm,hB.cell j];exact hu
  ·cases hu)
 have hbytes:(n+k)*i.bytes<=140737488355328:=zo (Nat.mul_le_mul hk hby) (by decide);have hr:=Lib.run_append_grow_zeros (P:=P) w t tn T e i z kq kn ht htn h2 h3 (some ⟨g,0,none⟩) n cap (cur.take (n*i.size)) hold k h0 hsz hg (by omega) (zo (Nat.mul_le_mul_right _ (by omega:k<=n+k)) (zo hbytes (by decide))) (growslice_fits (by omega) hbytes);have hge:=grownCap_ge w (n+k) cap e;have hmx:=grownCap_le_maxLen w (n+k) cap e (by simp only [maxLen];omega);have hloc:=hcd.loc (cs:=((cur.take (n*i.size)).toArray++Builtin.zeroCells z.cells k++Builtin.zeroCells z.cells (grownCap w (n+k) cap e-(n+k))).toList) (T:=e) (g:=w.heap.size)
  (w':=w.drew.alloc (.cells ((cur.take (n*i.size)).toArray++Builtin.zeroCells z.cells k++Builtin.zeroCells z.cells (grownCap w (n+k) cap e-(n+k))) e)) ⟨rfl,by rw [Array.toArray_toList]⟩
 refine⟨_,_,?_,K' _ (grownCap w (n+k) cap e) _ _ hloc.1 hloc.2 ?_ hge hmx ?_⟩
 ·show (do pure (Next.value (<-Builtin.append_ #[t,tn] T #[.slice (some ⟨g,0,none⟩) n cap,.int kq k])):Sem Next).run P w=_;simp only [Sem.run_bind,hr,Result.andThen_ok,Sem.run_pure]
 ·rw [Array.length_toList,Array.size_append,Array.size_append,size_zeroCells,size_zeroCells,hzs,List.size_toArray,zf,Nat.min_eq_left hle,<-Nat.add_mul,<-Nat.add_mul];congr 1;omega
 ·have e1:(cur.take (n*i.size)).length=n*i.size:=by rw [zf];exact Nat.min_eq_left hle
  rw [Array.toList_append,Array.toList_append,zv,List.take_left' (by simpa using e1)]
theorem A9s {P:Program} {t T e:Nat} {cs:Array Bool} (ht:P.underlying t=some (.slice e)) (A:Option Addr) (n c:Nat) (w:World):(builtin .cap #[t] T cs #[.slice A n c]).run P w=.ok (.value (.int .i64 c)) w:=by show (do pure (Next.value (<-Builtin.cap_ #[t] T #[.slice A n c])):Sem Next).run P w=_;simp [Builtin.cap_,run_underlying ht,goInt]
theorem N9 {t T:Nat} {cs:Array Bool} (ht:P.underlying t=some (.slice e)) (hi:(P.info? e).map (fun i=>(i.zero,i.size,i.bytes))=some (some z,sz,bytes)) {da sa:Addr} {dn dc sn sc:Nat} {xs:List Value}
  (hl:xs.length=Nat.min sn dn*sz) (hx:cellsAt w sa xs 0) (hm:C7 w da xs 0) {x y:Value} (ex:x=.slice (some da) dn dc) (ey:y=.slice (some sa) sn sc) (k:∀ w',D0 w da xs w'->K (.int .i64 (Nat.min sn dn:Nat)) w'):
  ∃ v w',(builtin .copy #[t,t] T cs #[x,y]).run P w=.ok (.value v) w'/\K v w':=by
 subst ex;subst ey;obtain⟨i,h2,h3,h4,h5⟩:=info_parts hi;subst h4;refine⟨_,_,?_,k _ rfl⟩;show (do pure (Next.value (<-Builtin.copy_ #[t,t] T #[.slice (some da) dn dc,.slice (some sa) sn sc])):Sem Next).run P w=_;have cellsOf:∀ (ys:List Value) (i:Nat),cellsAt w sa ys i->∀ j u,ys[j]?=some u->w.cell? (sa.add (i+j))=some u:=by
  intro ys;induction ys with
  | nil=>intro i _ j u h;cases h
  | cons v r ih=>
   intro i h j u hu;cases j with
   | zero=>cases hu;exact h.1
   | succ j=>rw [show i+(j+1)=i+1+j from by omega];exact ih (i+1) h.2 j u hu
 have hf:=run_firstCells_some (P:=P) w i.size (Nat.min sn dn) sa sn sc xs hl (fun j u hu=>by have:=cellsOf xs 0 hx j u hu;rwa [zm] at this);have hst:=J9 (P:=P) xs w 0 hm;simp [Builtin.copy_,run_underlying ht,Builtin.lenOf,sizeOf,typeInfo,h2,hf,hst,goInt]
theorem A1n {t T:Nat} {cs:Array Bool} (ht:P.underlying t=some (.slice e)) (hz:∀ w,(zeroValue e).run P w=.ok z w) {a:Addr} {n c:Nat} (hn:0<n) {x:Value} (ex:x=.slice (some a) n c) {zs:List Value} (ez:(Builtin.zeroCells z.cells n).toList=zs) (hm:C7 w a zs 0) (k:∀ w',D0 w a zs w'->K (.tuple #[]) w'):
  ∃ v w',(builtin .clear #[t] T cs #[x]).run P w=.ok (.value v) w'/\K v w':=by
 subst ex;subst ez;refine⟨_,_,?_,k _ rfl⟩;show (do pure (Next.value (<-Builtin.clear_ #[t] T #[.slice (some a) n c])):Sem Next).run P w=_;have hst:=J9 (P:=P) (Builtin.zeroCells z.cells n).toList w 0 hm;cases n with
 | zero=>exact absurd hn (Nat.lt_irrefl _)
 | succ n=>simp [Builtin.clear_,run_underlying ht,hz,hst]
end
end Go.Vc
end
section
namespace Go.Proofs.YtefdfaeieekioaaGreatDoor
open Go.Vc Go.RowKit Go.Fl
structure Env (w:World):Prop where
 tab:Tab w
 syn:∃ tp p,w.var? Tryz.prog "strconv.ErrSyntax"=some #[.iface tp p]
 rng:∃ tp p,w.var? Tryz.prog "strconv.ErrRange"=some #[.iface tp p]
theorem A4v {w w':World} {n:String} {x:Array Value} (h:w.var? Tryz.prog n=some x) (hb:Below w.heap.size w w'):w'.var? Tryz.prog n=some x:=by
 unfold World.var? at*;cases hg:Tryz.prog.globalNamed n with
 | none=>simp [hg] at h
 | some g=>
  simp only [hg,Option.bind_some] at h ⊢;have hlt:g<w.heap.size:=by
   rcases zl g w.heap.size with h' | h'
   ·exact h'
   ·rw [Array.getElem?_eq_none h'] at h;cases h
  rw [hb.block g hlt];exact h
theorem Env.below {w w':World} (h:Env w) (hb:Below w.heap.size w w'):Env w':=
 ⟨h.tab.below hb,by obtain⟨a,b,c⟩:=h.syn;exact⟨a,b,A4v c hb⟩,by obtain⟨a,b,c⟩:=h.rng;exact⟨a,b,A4v c hb⟩⟩
theorem P8 (t:List UInt8) (a b:Nat):(⟨t.toArray⟩:ByteArray).extract a b=⟨((t.drop a).take (b-a)).toArray⟩:=by apply ByteArray.ext;rw [ByteArray.data_extract];simp [List.extract]
theorem A6E (w:World) (ox:Operand):(do eqGuard .neq 245 ox (.const .nilIface) .nilIface .nilIface;Go.binOp .neq 245 .nilIface .nilIface:Sem Value).run Tryz.prog w=.ok (.bool false) w:=by
 have h:(Go.binOp .neq 245 .nilIface .nilIface).run Tryz.prog w=.ok (.bool false) w:=by kernel_rfl
 simp [eqGuard,h]
theorem A1o (w:World) (ox:Operand) (tp:TypeId) (p:Value):(do eqGuard .neq 245 ox (.const .nilIface) (.iface tp p) .nilIface;Go.binOp .neq 245 (.iface tp p) .nilIface:Sem Value).run Tryz.prog w=.ok (.bool true) w:=by
 have h:(Go.binOp .neq 245 (.iface tp p) .nilIface).run Tryz.prog w=.ok (.bool true) w:=by kernel_rfl
 simp [eqGuard,h]
theorem A6F {w w':World} {e:TypeId} (h:w'=w\/∃ t,w'=Lib.bytesWorld w e t):Below w.heap.size w w':=by
 rcases h with rfl | ⟨t,rfl⟩
 ·exact Below.refl _ _
 ·exact Lib.bytesWorld_below w e t
theorem A7B (t:List UInt8) (ht:t.length<=1073741824) (n:Int) (h:Lib.parseIntB 64 t=.ok n) (w:World):Calls Tryz.prog 286 #[.string ⟨t.toArray⟩,.int .i64 10,.int .i64 64] w (C8 (.tuple #[.int .i64 n,.nilIface]) w):=
 (Tryz.strconv_ParseInt_10_at64_ok ⟨t.toArray⟩ (by rw [G4];omega) n h w).mono fun e w' he=>⟨he.1,A6F he.2⟩
theorem A4w (t:List UInt8) (ht:t.length<=1073741824) (h:∀ n,Lib.parseIntB 64 t≠.ok n) (w:World) (hw:Env w):
  Calls Tryz.prog 286 #[.string ⟨t.toArray⟩,.int .i64 10,.int .i64 64] w (fun e w'=>∃ x tp p,e=.returned (.tuple #[.int .i64 x,.iface tp p])/\Below w.heap.size w w'):=by
 have hl:(⟨t.toArray⟩:ByteArray).size<=281474976710656:=by rw [G4];omega
 rcases hp:Lib.parseIntB 64 t with n | _ | _
 ·exact absurd hp (h n)
 ·obtain⟨tp,p,hv⟩:=hw.syn;refine (Any.strconv_ParseInt_10_at64_syntax_var Tryz.laysC174 ⟨t.toArray⟩ hl hp tp p w hv).mono fun e w' he=>?_;obtain⟨N,h1,_,_,h2⟩:=he;exact⟨_,_,_,h1,h2⟩
 ·obtain⟨tp,p,hv⟩:=hw.rng;refine (Tryz.strconv_ParseInt_10_at64_range_var ⟨t.toArray⟩ hl hp tp p w hv).mono fun e w' he=>?_;obtain⟨N,h1,_,_,h2⟩:=he;exact⟨_,_,_,h1,h2⟩
def A5z (t:List UInt8):Int × Int × Int:=match A66 t with | some n=>(1,n,0) | none=>(0,0,1)
theorem A8C (t:List UInt8) (ht:t.length<=1073741824) (w:World) (hw:Env w):
  Calls Tryz.prog 263 #[.string ⟨t.toArray⟩] w (C8 (.tuple #[.agg #[.int .i64 (A5z t).1,.int .i64 (A5z t).2.1,.string ⟨#[]⟩,.slice none 0 0],.int .i64 (A5z t).2.2]) w):=by
 refine vE Tryz.func263 ?_;have hc:=Ctx.start w no (fun _ h=>h.elim);refine hc.n fun gA wgA hgA hc=>?_;have bad:A66 t=none->A5z t=(0,0,1):=fun h=>by rw [A5z,h]
 rcases hp:Lib.parseIntB 64 t with n | _ | _
 ·have hn:B3 n:=by have hb:=Lib.parseIntB_bounds hp;simp only [show (2:Nat) ^ (64-1)=9223372036854775808 by decide] at hb;unfold B3;omega
  refine hc.q (A7B t ht n hp _) fun w3 h3 hc=>?_;refine⟨_,fun w=>A6E w _,?_⟩;refine hc.q (A6A n hn _ (hw.tab.below hc.below)) fun w4 h4 hc=>?_;by_cases he:Lib.itoa n=t
  ·refine C3X (by show (!D3 _ _)=false;rw [he];simp [D3]) ?_;refine hc.s 0 rfl fun wS hS hc=>?_;refine hc.a 0 rfl rfl ?_;refine⟨?_,hc.below⟩;have e:A5z t=(1,n,0):=by rw [A5z,A66,hp];simp [he]
   rw [e];rfl
  ·refine B0 (by show (!D3 _ _)=true;simp [D3,he]) ?_;refine hc.s 0 rfl fun wS hS hc=>?_;refine hc.a 0 rfl rfl ?_;refine⟨?_,hc.below⟩;have e:A5z t=(0,0,1):=bad (by rw [A66,hp];simp [he]);rw [e];rfl
 ·refine⟨(A4w t ht (fun n h=>by rw [hp] at h;cases h) _ (hw.below hc.below)).mono fun e w3 he=>?_⟩;obtain⟨x,tp,p,e1,h3⟩:=he;refine⟨_,e1,?_⟩;have hc:=(hc.quiet h3).1;refine⟨_,fun w=>A1o w _ tp p,?_⟩;refine hc.s 0 rfl fun wS hS hc=>?_;refine hc.a 0 rfl rfl ?_;refine⟨?_,hc.below⟩;have e:A5z t=(0,0,1):=bad (by rw [A66,hp]);rw [e];rfl
 ·refine⟨(A4w t ht (fun n h=>by rw [hp] at h;cases h) _ (hw.below hc.below)).mono fun e w3 he=>?_⟩;obtain⟨x,tp,p,e1,h3⟩:=he;refine⟨_,e1,?_⟩;have hc:=(hc.quiet h3).1;refine⟨_,fun w=>A1o w _ tp p,?_⟩;refine hc.s 0 rfl fun wS hS hc=>?_;refine hc.a 0 rfl rfl ?_;refine⟨?_,hc.below⟩;have e:A5z t=(0,0,1):=bad (by rw [A66,hp]);rw [e];rfl
def B8p (f:Nat):Prop:=∀ (t:List UInt8) (depth:Int) (w:World),depth=7-(f:Int)->t.length<=1073741824->Env w->
 Calls Tryz.prog 221 #[.string ⟨t.toArray⟩,.int .i64 depth] w (fun e w'=>∃ cs,e=.returned (.tuple #[.agg cs.toArray,.int .i64 ((J5 f t).2.1:Nat),.int .i64 (J5 f t).2.2])/\Below w.heap.size w w'/\RepC (ext no w w') w' (J5 f t).1 cs)
def A0H (f:Nat) (t:List UInt8):V × Int:=match H9 (J5 f) 6000 t with | some l=>(.mk 3 0 ⟨#[]⟩ l,0) | none=>(V0,1)
theorem RepC.V0 (S:Nat->Prop) (w:World):RepC S w V0 [.int .i64 0,.int .i64 0,.string ⟨#[]⟩,.slice none 0 0]:=by rw [Go.Proofs.YtefdfaeieekioaaGreatDoor.V0,RepC];exact⟨none,0,[],rfl,by rw [RepL],zc _,zb _,fun h=>absurd rfl h⟩
theorem RepC.sub {S S':Nat->Prop} {w:World} {v:V} {cs:List Value} (h:RepC S w v cs) (hs:∀ b,S b->S' b):RepC S' w v cs:=RepC.map (fun h=>h.sub hs) h
theorem RepC.fut {S S':Nat->Prop} {w w':World} {v:V} {cs:List Value} (h:RepC S w v cs) (f:Fut S w S' w'):RepC S' w' v cs:=RepC.map (fun h=>h.fut f) h
theorem RepL.fut {S S':Nat->Prop} {w w':World} {v:List V} {cs:List Value} (h:RepL S w v cs) (f:Fut S w S' w'):RepL S' w' v cs:=RepL.map (fun h=>h.fut f) h
theorem RepL.snoc {S:Nat->Prop} {w:World} {x:V} {c:List Value} (hx:RepC S w x c):∀ {l:List V} {xs:List Value},RepL S w l xs->RepL S w (l++[x]) (xs++c)
 | [],xs,h=>by
  rw [RepL] at h;subst h;rw [List.nil_append,List.nil_append,RepL];exact⟨c,[],hx,by rw [RepL],by simp⟩
 | v::r,xs,h=>by rw [RepL] at h;obtain⟨cs,ys,h1,h2,e⟩:=h;rw [List.cons_append,RepL];exact⟨cs,ys++c,h1,RepL.snoc hx h2,by rw [e,zv]⟩
theorem B2T:(Tryz.prog.info? 107).map (fun i=>(i.zero,i.size,i.bytes))=some (some (.agg #[.int .i64 0,.int .i64 0,.string ⟨#[]⟩,.slice none 0 0]),4,56):=by kernel_rfl
attribute [local irreducible] Int.subNatNat in
theorem B2U (f:Nat) (hf:f<=6) (ih:B8p f) (t:List UInt8) (depth:Int) (w:World) (hd:depth=6-(f:Int)) (ht:t.length<=1073741824) (hw:Env w):
  Calls Tryz.prog 264 #[.string ⟨t.toArray⟩,.int .i64 depth] w (fun e w'=>∃ cs,e=.returned (.tuple #[.agg cs.toArray,.int .i64 (A0H f t).2])/\Below w.heap.size w w'/\RepC (ext no w w') w' (A0H f t).1 cs):=by
 refine vE Tryz.func264 ?_;intro g4 w1 h1;have hc:=((Ctx.start w no (fun _ h=>h.elim)).loc h1).1;refine hc.n fun g6 w2 h2 hc=>?_;refine⟨hc.may 0 rfl 0 _ (zc 4) rfl,?_⟩;intro w3 h3;have hc:=(hc.set 0 rfl h3).1;refine⟨(Nat->Prop) × Option Addr × Nat × List V × List Value × List UInt8,fun x=>[(0,.string ⟨x.2.2.2.2.2.toArray⟩),(1,.int .i64 depth),(4,.pointer (some ⟨g4,0,none⟩)),(6,.pointer (some ⟨g6,0,none⟩))],
  fun x w'=>Ctx no w x.1 w' [(g6,107,[.int .i64 3,.int .i64 0,.string ⟨#[]⟩,.slice x.2.1 x.2.2.2.1.length x.2.2.1]),(g4,107,[.int .i64 0,.int .i64 0,.string ⟨#[]⟩,.slice none 0 0])]/\
   Own x.1 w.heap.size w' [(g6,107,[.int .i64 3,.int .i64 0,.string ⟨#[]⟩,.slice x.2.1 x.2.2.2.1.length x.2.2.1]),(g4,107,[.int .i64 0,.int .i64 0,.string ⟨#[]⟩,.slice none 0 0])] 107 4 x.2.1 x.2.2.2.1.length x.2.2.1 x.2.2.2.2.1/\
   RepL x.1 w' x.2.2.2.1 x.2.2.2.2.1/\x.2.2.2.1.length<=6000/\x.2.2.2.2.2.length<=1073741824/\
   H9 (J5 f) 6000 t=(H9 (J5 f) (6000-x.2.2.2.1.length) x.2.2.2.2.2).map (x.2.2.2.1++·),
  fun x _=>x.2.2.2.2.2.length,(no,none,0,[],[],t),⟨rfl,rfl,rfl,rfl,trivial⟩,⟨hc,Own.nil,by rw [RepL],zb _,ht,?_⟩,?_⟩
 ·show H9 (J5 f) 6000 t=(H9 (J5 f) (6000-0) t).map ([]++·);cases H9 (J5 f) 6000 t<;>simp
 rintro⟨S,A,cap,l,xs,rest⟩ w' u ⟨hc,ho,hL,hl,hrest,he⟩;simp only at hc ho hL hl hrest he;cases rest with
 | nil=>
  refine df (Int.lt_irrefl 0) ?_;refine df (Int.lt_irrefl 0) ?_;obtain⟨hc,hf,hrow⟩:=ho.told hc;have hrow:=hrow ho.fit.1 ho.fit.2;have hL:=hL.fut hf;refine hc.a 0 rfl rfl ?_;refine⟨hc.may 1 rfl 0 _ (zc 4) rfl,?_⟩;intro w4 h4;have hq:=hc.set 1 rfl h4;have hc:=hq.1;refine hc.a 1 rfl rfl ?_;have e:A0H f t=(.mk 3 0 ⟨#[]⟩ l,0):=by rw [A0H,he,H9];simp
  refine⟨[.int .i64 3,.int .i64 0,.string ⟨#[]⟩,.slice A l.length cap],?_,hc.below,?_⟩
  ·rw [e];rfl
  ·rw [e,RepC];exact⟨A,cap,xs,rfl,(hL.fut hq.2).fut hc.out,(hrow.fut hq.2).fut hc.out⟩
 | cons c r=>
  have hpos:(0:Int)<(((⟨(c::r).toArray⟩:ByteArray).size:Nat):Int):=by rw [G4,zi];omega
  refine dt hpos ?_;refine hc.c 0 rfl rfl ?_;have fail:H9 (J5 f) 6000 t=none->∀ w4:World,(hq:Below w.heap.size w w4)->∃ cs:List Value,Ending.returned (.tuple #[.agg #[.int .i64 0,.int .i64 0,.string ⟨#[]⟩,.slice none 0 0],.int .i64 1])=.returned (.tuple #[.agg cs.toArray,.int .i64 (A0H f t).2])/\Below w.heap.size w w4/\RepC (ext no w w4) w4 (A0H f t).1 cs:=by
   intro hn w4 hq;have e:A0H f t=(Go.Proofs.YtefdfaeieekioaaGreatDoor.V0,1):=by rw [A0H,hn]
   rw [e];exact⟨[.int .i64 0,.int .i64 0,.string ⟨#[]⟩,.slice none 0 0],rfl,hq,RepC.V0 _ _⟩
  refine A0x (fun h6=>?_) (fun h6=>?_)
  ·have h6:l.length<6000:=by have:=of_decide_eq_true h6;omega
   have hdw:IntKind.i64.wrap (depth+1)=7-(f:Int):=by rw [E0 _ _ (by omega) (by omega)];omega
   refine⟨(ih (c::r) (IntKind.i64.wrap (depth+1)) w' hdw hrest (hw.below hc.below)).mono fun e w4 hq=>?_⟩;obtain⟨cs,e1,hb4,hr4⟩:=hq;refine⟨_,e1,?_⟩;have hstep:H9 (J5 f) (6000-l.length) (c::r)=if (J5 f (c::r)).2.2≠0 then none else (H9 (J5 f) (6000-(l.length+1)) ((c::r).drop (J5 f (c::r)).2.1)).map ((J5 f (c::r)).1::·):=by rw [show 6000-l.length=(6000-(l.length+1))+1 by omega,H9]
   have hget:=A68 f (c::r);have hgp:∀ v n,J5 f (c::r)=(v,n,0)->0<n:=by
    intro v n hq;have h1:=(hget v n hq).2.1;rcases Nat.eq_zero_or_pos n with h | h
    ·subst h;have h2:=y5 List.length h1;rw [F6] at h2;simp at h2
    ·exact h
   generalize hgen:J5 f (c::r)=q at*;obtain⟨v,n,er⟩:=q;simp only at hstep hr4;obtain⟨k',n',s',l'⟩:=v;have hr4':=hr4;rw [RepC] at hr4';obtain⟨A',cap',xs',rfl,_,_⟩:=hr4';have hC:=hc.call hb4;have hc:=hC.1;have ho:=ho.below hb4;have hL:=hL.fut hC.2;have hr:=hr4.sub (S':=ext S w' w4) (fun b hb=>.inr (hb.resolve_left (fun h=>h.elim)));intro g7 w5 h5;have ho:=ho.loc h5;have hC:=hc.loc h5;have hc:=hC.1;have hL:=hL.fut hC.2;have hr:=hr.fut hC.2;refine⟨hc.may 0 rfl 0 _ (zc 4) rfl,?_⟩;intro w6 h6';have ho:=ho.set hc 0 rfl h6';have hC:=hc.set 0 rfl h6';have hc:=hC.1;have hL:=hL.fut hC.2;have hr:=hr.fut hC.2;by_cases her:er=0
   ·subst her;refine hc.c 1 rfl rfl ?_;refine hc.a 0 rfl rfl ?_;intro g8 w7 h7;have ho:=ho.loc h7;have hC:=hc.loc h7;have hc:=hC.1;have hL:=hL.fut hC.2;have hr:=hr.fut hC.2;refine R0 Tryz.underlying105 B2T rfl (by decide) hc ho (ys:=[.int .i64 k',.int .i64 n',.string s',.slice A' l'.length cap']) rfl (hc.cells 0 rfl) rfl (by omega) (by decide) ?_;intro B capB w8 hc hf8 ho _;have hL:=hL.fut hf8;have hr:=hr.fut hf8;refine⟨hc.may 2 rfl 3 _ (zc 4) rfl,?_⟩;intro w9 h9;have ho:=ho.set hc 2 rfl h9;have hC:=hc.set 2 rfl h9;have hc:=hC.1;have hL:=hL.fut hC.2;have hr:=hr.fut hC.2;obtain⟨hn1,_,_⟩:=hget _ _ rfl;have hnpos:=hgp _ _ rfl;refine⟨⟨Int.natCast_nonneg _,by rw [G4];exact Int.ofNat_le.2 hn1,Int.le_refl _⟩,?_⟩;have hstep:H9 (J5 f) (6000-l.length) (c::r)=(H9 (J5 f) (6000-(l.length+1)) ((c::r).drop n)).map (V.mk k' n' s' l'::·):=by simpa using hstep
    refine⟨(_,B,capB,l++[V.mk k' n' s' l'],xs++[.int .i64 k',.int .i64 n',.string s',.slice A' l'.length cap'],(c::r).drop n),⟨?_,rfl,rfl,rfl,trivial⟩,⟨?_,?_,hL.snoc hr,?_,?_,?_⟩,?_⟩
    ·refine y5 _ ((P8 (c::r) _ _).trans ?_);rw [List.take_of_length_le (by rw [zg,zh,zh,G4];exact zc _),zh]
    ·have:=hc.drop.drop;rw [z6,List.length_singleton];exact this
    ·have:=ho.drop.drop;rw [z6,List.length_singleton];exact this
    ·show (l++[V.mk k' n' s' l']).length<=6000;rw [z6,List.length_singleton];omega
    ·show ((c::r).drop n).length<=_;rw [zg];omega
    ·show H9 (J5 f) 6000 t=(H9 (J5 f) (6000-(l++[V.mk k' n' s' l']).length) ((c::r).drop n)).map ((l++[V.mk k' n' s' l'])++·);rw [he,hstep,Option.map_map,z6,List.length_singleton];congr 1;funext z;simp
    ·show ((c::r).drop n).length<(c::r).length;rw [zg,zi] at *;omega
   ·refine B0 (by show (er != 0)=true;simpa using her) ?_;refine⟨hc.may 2 rfl 0 _ (zc 4) rfl,?_⟩;intro w7 h7;have hc:=(hc.set 2 rfl h7).1;refine hc.a 2 rfl rfl ?_;exact fail (by rw [he,hstep,y6 her];rfl) _ hc.below
  ·have h6:¬ l.length<6000:=by have:=of_decide_eq_false h6;omega
   refine dt hpos ?_;refine⟨hc.may 1 rfl 0 _ (zc 4) rfl,?_⟩;intro w7 h7;have hc:=(hc.set 1 rfl h7).1;refine hc.a 1 rfl rfl ?_;exact fail (by rw [he,show 6000-l.length=0 by omega,H9];rfl) _ hc.below
end Go.Proofs.YtefdfaeieekioaaGreatDoor
end
