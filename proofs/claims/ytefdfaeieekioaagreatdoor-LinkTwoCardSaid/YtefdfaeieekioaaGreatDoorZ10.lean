import Derived.Test.YtefdfaeieekioaaGreatDoorZ09
import Derived.Laws.OwnMore
set_option maxRecDepth 100000
set_option maxHeartbeats 40000000
set_option linter.unusedVariables false
set_option linter.unusedSimpArgs false
section
namespace Go.Vc
open Go Go.RowKit
open Go.Proofs.YtefdfaeieekioaaGreatDoor (no RetOb)
section
variable {w0 w w':World} {S Sx:Nat->Prop} {l:List LB} {os:List OR} {R O X:Kn} {n0 g T:Nat} {cs:List Value}
theorem CtxF.enterO (hlt:∀ x,Sx x->x<w.heap.size) (h:O Sx w) (sO:Stab O):CtxF no (bare w) (fun x=>x<w.heap.size) w [] [] (Sep 0 (Keep w Sx) O):=
 CtxF.enter (fun x hx=>hx) trivial trivial ⟨fun x=>x<w.heap.size/\¬ Sx x,Sx,fun x hx=>hx,fun x hx=>⟨hlt x hx,zb _⟩,fun x hx hg=>⟨⟨hx,hg⟩,rfl⟩,h⟩ (Sep.stab y8 sO)
theorem CtxF.leaveO (hc:CtxF no (bare w) S w' l os (Sep 0 (Keep w Sx) O)):Turn Sx w w'/\∃ Sn:Nat->Prop,(∀ x,Sn x->(Sx x\/w.heap.size<=x)/\x<w'.heap.size)/\O Sn w'/\(∀ y,Sn y->S y):=by
 obtain⟨S1,Sa,h1,h2,h3,h4⟩:=hc.row;refine⟨hc.leave h3,Sa,fun x hx=>⟨?_,hc.ctx.lt x (h2 x hx).1⟩,h4,fun y hy=>(h2 y hy).1⟩;rcases zl x w.heap.size with hl | hl
 ·rcases Classical.em (Sx x) with hs | hs
  ·exact .inl hs
  ·exact absurd hx (h1 x (h3 x hl hs).1).2
 ·exact .inr hl
theorem CtxF.endO (hc:CtxF no (bare w) S w' l os (Sep 0 (Keep w Sx) O)) (v:Value):RetOb Sx w v O (.returned v) w':=by obtain⟨h1,Sn,h2,h3,_⟩:=hc.leaveO;exact⟨rfl,h1,Sn,h2,h3⟩
theorem Sep.inner (h:Sep n0 R (Sep 0 X O) S w):Sep n0 (Sep 0 R X) O S w:=by
 obtain⟨S1,Sa,h1,h2,h3,Sx,So,k1,k2,k3,k4⟩:=h;refine⟨fun x=>S1 x\/Sx x,So,fun x hx=>?_,fun x hx=>h2 x (k2 x hx).1,⟨S1,Sx,fun x hx=>⟨.inl hx,fun e=>(h1 x hx).2 (k1 x e).1⟩,fun x hx=>⟨.inr hx,zb _⟩,h3,k3⟩,k4⟩;rcases hx with hx | hx
 ·exact⟨(h1 x hx).1,fun ho=>(h1 x hx).2 (k2 x ho).1⟩
 ·exact⟨(h2 x (k1 x hx).1).1,(k1 x hx).2⟩
theorem Sep.outer (h:Sep 0 (Sep 0 R X) O S w):Sep 0 R (Sep 0 X O) S w:=by
 obtain⟨S1,So,h1,h2,⟨Sr,Sx,k1,k2,k3,k4⟩,h4⟩:=h;refine⟨Sr,fun x=>Sx x\/So x,fun x hx=>⟨(h1 x (k1 x hx).1).1,?_⟩,fun x hx=>⟨?_,zb _⟩,k3,Sx,So,fun x hx=>⟨.inl hx,(h1 x (k2 x hx).1).2⟩,fun x hx=>⟨.inr hx,zb _⟩,k4,h4⟩
 ·rintro (e | e)
  ·exact (k1 x hx).2 e
  ·exact (h1 x (k1 x hx).1).2 e
 ·rcases hx with hx | hx
  ·exact (h1 x (k2 x hx).1).1
  ·exact (h2 x hx).1
theorem Sep.swapIn (h:Sep 0 R (Sep 0 X O) S w):Sep 0 X (Sep 0 R O) S w:=by obtain⟨S1,Sa,h1,h2,h3,Sx,So,k1,k2,k3,k4⟩:=h;exact⟨Sx,fun y=>S1 y\/So y,fun y hy=>⟨(h2 y (k1 y hy).1).1,fun e=>e.elim (fun e=>(h1 y e).2 (k1 y hy).1) (k1 y hy).2⟩,fun y hy=>⟨hy.elim (fun h=>(h1 y h).1) (fun h=>(h2 y (k2 y h).1).1),zb _⟩,k3,S1,So,fun y hy=>⟨.inl hy,fun e=>(h1 y hy).2 (k2 y e).1⟩,fun y hy=>⟨.inr hy,zb _⟩,h3,k4⟩
theorem A8l (hc:CtxF no (bare w0) S w l os R) {S1 Sa:Nat->Prop} (h1:∀ x,S1 x->S x/\¬ Sa x) (h3:Keep w0 Sx S1 w) (he:EnvFree Sx w0):EnvFree Sa w:=
 he.kept fun x hx hg=>⟨fun h=>(h1 x (h3 x hx hg).1).2 h,(h3 x hx hg).2⟩
def HdK (g T:Nat) (cs:List Value) (R:Kn):Kn:=fun S w=>S g/\Blk w g T cs/\R (fun x=>S x/\x≠g) w
theorem HdK.stab (hR:Stab R):Stab (HdK g T cs R):=fun S w S' w' h f=>
 ⟨f.1 _ h.1,h.2.1.of_eq (f.2 _ h.1),hR _ _ _ _ h.2.2 ⟨fun x hx=>⟨f.1 x hx.1,hx.2⟩,fun x hx=>f.2 x hx.1⟩⟩
theorem ObjK.sep (hR:Stab R) (h:ObjK g T cs R O S w):Sep 0 (HdK g T cs R) O S w:=by
 obtain⟨h1,h2,S1,Sa,k1,k2,k3,k4⟩:=h;refine⟨fun x=>x=g\/S1 x,Sa,fun x hx=>?_,fun x hx=>⟨(k2 x hx).1.1,zb _⟩,⟨.inl rfl,h2,hR _ _ _ _ k3 ⟨fun x hx=>⟨.inr hx,(k1 x hx).1.2⟩,fun _ _=>rfl⟩⟩,k4⟩;rcases hx with rfl | hx
 ·exact⟨h1,fun e=>(k2 _ e).1.2 rfl⟩
 ·exact⟨(k1 x hx).1.1,(k1 x hx).2⟩
theorem Sep.obj (h:Sep 0 (HdK g T cs R) O S w):ObjK g T cs R O S w:=by obtain⟨S1,Sa,h1,h2,⟨k1,k2,k3⟩,h4⟩:=h;exact⟨(h1 g k1).1,k2,fun x=>S1 x/\x≠g,Sa,fun x hx=>⟨⟨(h1 x hx.1).1,hx.2⟩,(h1 x hx.1).2⟩,fun x hx=>⟨⟨(h2 x hx).1,fun e=>(h1 g k1).2 (e▸hx)⟩,zb _⟩,k3,h4⟩
def OwnK (e sz:Nat) (A:Option Addr) (n cap:Nat) (xs:List Value):Kn:=fun S w=>w.ownsRow 0 e sz (.slice A n cap) n xs/\∀ a,A=some a->S a.block
theorem OwnK.stab (e sz:Nat) (A:Option Addr) (n cap:Nat) (xs:List Value):Stab (OwnK e sz A n cap xs):=fun S w S' w' h f=>by have h0:Own no 0 w [] e sz A n cap xs:=⟨h.1,fun a ha=>⟨fun h=>h.elim,fun x hx=>by cases hx⟩⟩;exact⟨h0.kept fun a ha=>f.2 _ (h.2 a ha),fun a ha=>f.1 _ (h.2 a ha)⟩
theorem OwnK.nil (e sz:Nat) (S:Nat->Prop) (w:World):OwnK e sz none 0 0 [] S w:=⟨World.ownsRow_nil ..,fun a h=>by cases h⟩
theorem CtxF.pull {e sz n cap:Nat} {A:Option Addr} {xs:List Value} (hc:CtxF no (bare w0) S w l [] (Sep 0 (Sep 0 R (Sep 0 X (OwnK e sz A n cap xs))) O)) (hR:Stab R) (hX:Stab X) (hO:Stab O):∃ S',CtxF no (bare w0) S' w l [⟨e,sz,A,n,cap,xs⟩] (Sep 0 (Sep 0 R X) O):=by
 obtain⟨S1,So,h1,h2,⟨Sr,Sm,k1,k2,k3,Sx,Sq,j1,j2,j3,j4,j5⟩,h4⟩:=hc.row;have hq:∀ a,A=some a->S a.block:=fun a ha=>(h1 _ (k2 _ (j2 _ (j5 a ha)).1).1).1;refine⟨fun x=>S x/\∀ a,A=some a->a.block≠x,⟨hc.ctx.below,fun x hx=>hx.elim,fun x hx=>hc.ctx.new x hx.1,fun x hx=>hc.ctx.lt x hx.1,hc.ctx.locs.mono (fun _ _=>rfl) (fun x hx h=>h.1)⟩,⟨⟨j4,fun a ha=>⟨fun h=>h.2 a ha rfl,fun x hx e=>?_⟩⟩,(fun p hp=>by cases hp),trivial⟩,?_,Sep.stab (Sep.stab hR hX) hO⟩
 ·obtain⟨i,hi⟩:=List.getElem?_of_mem hx;obtain⟨g,T,cs⟩:=x;exact (hc.ctx.locs.notS hi).1 ((show g=a.block from e)▸hq a ha)
 ·refine⟨fun x=>Sr x\/Sx x,So,fun x hx=>?_,fun x hx=>⟨⟨(h2 x hx).1,fun a ha e=>?_⟩,zb _⟩,⟨Sr,Sx,fun x hx=>⟨.inl hx,fun e=>(k1 x hx).2 (j1 x e).1⟩,fun x hx=>⟨.inr hx,zb _⟩,k3,j3⟩,h4⟩
  ·rcases hx with hx | hx
   ·exact⟨⟨(h1 x (k1 x hx).1).1,fun a ha e=>(k1 x hx).2 (e▸(j2 _ (j5 a ha)).1)⟩,(h1 x (k1 x hx).1).2⟩
   ·exact⟨⟨(h1 x (k2 x (j1 x hx).1).1).1,fun a ha e=>(j1 x hx).2 (e▸j5 a ha)⟩,(h1 x (k2 x (j1 x hx).1).1).2⟩
  ·exact (h1 x (k2 x (e▸(j2 _ (j5 a ha)).1)).1).2 hx
theorem CtxF.push {o:OR} (hc:CtxF no (bare w0) S w l [o] (Sep 0 (Sep 0 R X) O)) (hR:Stab R) (hX:Stab X) (hO:Stab O):∃ S',CtxF no (bare w0) S' w l [] (Sep 0 (Sep 0 R (Sep 0 X (OwnK o.e o.sz o.A o.n o.cap o.xs))) O):=by
 obtain⟨S1,So,h1,h2,⟨Sr,Sx,k1,k2,k3,k4⟩,h4⟩:=hc.row;have hout:=hc.fst.out;have hrow:w.ownsRow 0 o.e o.sz (.slice o.A o.n o.cap) o.n o.xs:=hc.fst.row;have hnS:∀ x,(∃ a,o.A=some a/\a.block=x)->¬ S x:=fun x ⟨a,ha,e⟩=>e▸(hout a ha).1;have hSr:∀ x,Sr x->S x:=fun x hx=>(h1 x (k1 x hx).1).1;have hSx:∀ x,Sx x->S x:=fun x hx=>(h1 x (k2 x hx).1).1;refine⟨fun b=>S b\/∃ a,o.A=some a/\a.block=b,(hc.fst.told hc.ctx).1,trivial,⟨fun x=>S1 x\/∃ a,o.A=some a/\a.block=x,So,fun x hx=>?_,fun x hx=>⟨.inl (h2 x hx).1,zb _⟩,⟨Sr,fun x=>Sx x\/∃ a,o.A=some a/\a.block=x,fun x hx=>⟨.inl (k1 x hx).1,fun e=>e.elim (k1 x hx).2 fun e=>hnS x e (hSr x hx)⟩,fun x hx=>⟨hx.elim (fun h=>.inl (k2 x h).1) .inr,zb _⟩,k3,Sx,fun x=>∃ a,o.A=some a/\a.block=x,fun x hx=>⟨.inl hx,fun e=>hnS x e (hSx x hx)⟩,fun x hx=>⟨.inr hx,zb _⟩,k4,hrow,fun a ha=>⟨a,ha,rfl⟩⟩,h4⟩,Sep.stab (Sep.stab hR (Sep.stab hX (OwnK.stab _ _ _ _ _ _))) hO⟩;rcases hx with hx | hx
 ·exact⟨.inl (h1 x hx).1,(h1 x hx).2⟩
 ·exact⟨.inr hx,fun h=>hnS x hx (h2 x h).1⟩
end
end Go.Vc
end
namespace Go.Proofs.YtefdfaeieekioaaGreatDoor
open Go.Vc Go.RowKit Go.Fl Go.ChangeShapes Go.WideShapes Go.ChangeAt
def RetWdo (q:Option Wd) (w:World) (en:Ending) (w':World):Prop:=∃ x N,en=.returned (.tuple #[.agg (wdC (q.getD Wd0) x).toArray,.int .i64 (if q.isSome then 0 else 1)])/\Below w.heap.size w w'/\WdO w.heap.size (q.getD Wd0) x N w'
theorem RetWdo.none {w w':World} (h:Below w.heap.size w w'):RetWdo none w (.returned (.tuple #[.agg (wdC Wd0 WX0).toArray,.int .i64 1])) w':=⟨WX0,no,rfl,h,WdO.zero _ _⟩
def RetWd (q:Option Wd) (w:World) (en:Ending) (w':World):Prop:=∃ x,en=.returned (.tuple #[.agg (wdC (q.getD Wd0) x).toArray,.int .i64 (if q.isSome then 0 else 1)])/\Below w.heap.size w w'/\WdR (q.getD Wd0) x (ext no w w') w'
theorem RetWd.none {w w':World} (h:Below w.heap.size w w'):RetWd none w (.returned (.tuple #[.agg (wdC Wd0 WX0).toArray,.int .i64 1])) w':=⟨WX0,rfl,h,A6S _ _⟩
def flC (A:Option Addr) (n cap:Nat):List Value:=[.slice A n cap]
def FlockK (gf:Nat) (F:List ByteArray):Kn:=fun S w=>∃ A cap,ObjK gf 232 (flC A F.length cap) (RecK 9 A F.length cap (F.map Value.string)) (fun _ _=>True) S w
theorem FlockK.stab (gf:Nat) (F:List ByteArray):Stab (FlockK gf F):=fun S w S' w' h f=>by obtain⟨A,cap,h⟩:=h;exact⟨A,cap,ObjK.stab ya Stab.true _ _ _ _ h f⟩
theorem FlockK.later {gf:Nat} {F:List ByteArray} {S:Nat->Prop} {w w':World} (h:FlockK gf F S w) (hlt:∀ x,S x->x<w.heap.size) (hb:Below w.heap.size w w'):FlockK gf F S w':=
 FlockK.stab gf F S w S w' h ⟨fun _ h=>h,fun b hs=>hb.block b (hlt b hs)⟩
def RetPko (q:Option Wd) (w:World) (en:Ending) (w':World):Prop:=∃ x N,en=.returned (.tuple #[.agg (wdC (q.getD Wd0) x).toArray,.bool q.isSome])/\Below w.heap.size w w'/\WdO w.heap.size (q.getD Wd0) x N w'
theorem RetPko.none {w w':World} (h:Below w.heap.size w w'):RetPko none w (.returned (.tuple #[.agg (wdC Wd0 WX0).toArray,.bool false])) w':=⟨WX0,no,rfl,h,WdO.zero _ _⟩
def RetPk (q:Option Wd) (w:World) (en:Ending) (w':World):Prop:=∃ x,en=.returned (.tuple #[.agg (wdC (q.getD Wd0) x).toArray,.bool q.isSome])/\Below w.heap.size w w'/\WdR (q.getD Wd0) x (ext no w w') w'
theorem RetPk.none {w w':World} (h:Below w.heap.size w w'):RetPk none w (.returned (.tuple #[.agg (wdC Wd0 WX0).toArray,.bool false])) w':=⟨WX0,rfl,h,A6S _ _⟩
end Go.Proofs.YtefdfaeieekioaaGreatDoor
section
namespace Go.Vc
open Go Go.RowKit
open Go.Proofs.YtefdfaeieekioaaGreatDoor (no)
def ZA (A:Option Addr):Prop:=∀ a,A=some a->a=⟨a.block,0,none⟩
theorem row_stab {A:Option Addr} {n cap:Nat} {xs:List Value}:Stab (fun S w=>Row S w A n cap xs):=fun _ _ _ _ h f=>h.fut f
theorem Own.za {S:Nat->Prop} {n0:Nat} {w:World} {l:List LB} {e sz n cap:Nat} {A:Option Addr} {xs:List Value} (h:Own S n0 w l e sz A n cap xs):ZA A:=fun a ha=>by
 rcases h.row.2 with ⟨e1,_⟩ | ⟨g,cp,cur,e1,_⟩
 ·subst ha;cases e1
 ·subst ha;cases e1;rfl
section
variable {S0 S:Nat->Prop} {w0 w w':World} {l:List LB} {os:List OR} {o:OR} {R O O':Kn}
structure Cel (w:World) (a:Addr):Prop where
 spot:a.spot=none
 blk:∃ T cs,Blk w a.block T cs/\a.off<cs.length
theorem Cel.of {a:Addr} {v:Value} (hs:a.spot=none) (hB:∃ T cs,Blk w a.block T cs) (hv:w.cell? a=some v):Cel w a:=by obtain⟨T,cs,hB⟩:=hB;refine⟨hs,T,cs,hB,?_⟩;obtain⟨b,off,sub⟩:=a;cases hs;rw [hB.cell] at hv;exact (List.getElem?_eq_some_iff.1 hv).1
end
end Go.Vc
namespace Go.Proofs.YtefdfaeieekioaaGreatDoor
open Go.Vc Go.RowKit Go.Fl Go.ChangeShapes Go.WideShapes Go.ChangeAt
end Go.Proofs.YtefdfaeieekioaaGreatDoor
end
namespace Go.Proofs.YtefdfaeieekioaaGreatDoor
open Go.Vc Go.RowKit Go.Fl Go.ChangeShapes Go.WideShapes Go.ChangeAt
def dA:D:=⟨2,⟨#[107]⟩,⟨#[]⟩,0,0,⟨#[]⟩,4294967297,0⟩
def wA:Wd:=⟨4,1,2,3,4,0,0,⟨0,0⟩,Ros0,[dA],A4z⟩
def xA (g:Nat):WX:=⟨none,0,some ⟨g,0,none⟩,1,SX0⟩
def WsR:List Wd->List (List Value)->(Nat->Prop)->World->Prop
 | [],css,S,w=>css=[]
 | v::r,css,S,w=>∃ x t,css=wdC v x::t/\WdR v x S w/\WsR r t S w
theorem WsR.stab:∀ (l:List Wd) (css:List (List Value)),Stab (WsR l css)
 | [],css=>fun _ _ _ _ h _=>h
 | v::r,css=>fun S w S' w' h f=>by obtain⟨x,t,e,h1,h2⟩:=h;exact⟨x,t,e,WdR.stab v x _ _ _ _ h1 f,WsR.stab r t _ _ _ _ h2 f⟩
theorem WsR.len {S:Nat->Prop} {w:World}:∀ {l:List Wd} {css:List (List Value)},WsR l css S w->css.length=l.length
 | [],css,h=>by rw [show css=[] from h];rfl
 | v::r,css,⟨x,t,e,h1,h2⟩=>by rw [e,zi,zi,h2.len]
theorem A7g (v:Wd) (x:WX):(wdC v x).length=21/\D7 (wdC v x)=true:=⟨rfl,rfl⟩
theorem WsR.flat {S:Nat->Prop} {w:World}:∀ {l:List Wd} {css:List (List Value)},WsR l css S w->Flat 21 css
 | [],css,h=>by rw [show css=[] from h];intro c hc;cases hc
 | v::r,css,⟨x,t,e,h1,h2⟩=>by
  rw [e];intro c hc;cases hc with
  | head=>exact A7g _ _
  | tail _ hc=>exact h2.flat c hc
theorem WsR.snoc {S:Nat->Prop} {w:World} {v:Wd} {x:WX}:∀ {l:List Wd} {css:List (List Value)},WsR l css S w->WdR v x S w->WsR (l++[v]) (css++[wdC v x]) S w
 | [],css,h,hk=>by rw [show css=[] from h];exact⟨x,[],rfl,hk,rfl⟩
 | v'::r,css,⟨x',t,e,h1,h2⟩,hk=>by rw [e];exact⟨x',_,rfl,h1,WsR.snoc h2 hk⟩
theorem WsR.append {S:Nat->Prop} {w:World}:∀ {l m:List Wd} {a b:List (List Value)},WsR l a S w->WsR m b S w->WsR (l++m) (a++b) S w
 | [],m,a,b,h,k=>by rw [show a=[] from h];exact k
 | v::r,m,a,b,⟨x,t,e,h1,h2⟩,k=>by rw [e];exact⟨x,_,rfl,h1,WsR.append h2 k⟩
theorem _root_.Go.Vc.CtxF.castOs {S0 S:Nat->Prop} {w0 w:World} {l:List LB} {os os':List OR} {R:Kn} (hc:CtxF S0 w0 S w l os R) (h:os=os'):CtxF S0 w0 S w l os' R:=h▸hc
theorem W7 {S0 S:Nat->Prop} {w0 w:World} {l:List LB} {os:List OR} {R:Kn} {e sz n cc:Nat} {A:Option Addr} {xs:List Value} (hc:CtxF S0 w0 S w l (⟨e,sz,A,n,cc,xs⟩::os) R):∃ S',Row S' w A n cc xs:=⟨_,(hc.fst.told hc.ctx).2.2 hc.fst.fit.1 hc.fst.fit.2⟩
end Go.Proofs.YtefdfaeieekioaaGreatDoor
section
namespace Go.Vc
open Go Go.RowKit
open Go.Proofs.YtefdfaeieekioaaGreatDoor
def Fresh (w:World) (Sx:Nat->Prop) (X:Kn):Kn:=fun S w'=>∃ Sl:Nat->Prop,(∀ y,Sl y->S y/\(Sx y\/w.heap.size<=y))/\X Sl w'
theorem Fresh.stab {w:World} {Sx:Nat->Prop} {X:Kn} (hX:Stab X):Stab (Fresh w Sx X):=fun S w1 S' w2 h f=>by obtain⟨Sl,h1,h2⟩:=h;exact⟨Sl,fun y hy=>⟨f.1 y (h1 y hy).1,(h1 y hy).2⟩,hX _ _ _ _ h2 ⟨fun _ h=>h,fun y hy=>f.2 y (h1 y hy).1⟩⟩
theorem Fresh.mono {w:World} {Sx S:Nat->Prop} {w':World} {X Y:Kn} (h:Fresh w Sx X S w') (k:∀ S,X S w'->Y S w'):Fresh w Sx Y S w':=by obtain⟨Sl,h1,h2⟩:=h;exact⟨Sl,h1,k _ h2⟩
theorem Fresh.plain {w:World} {Sx S:Nat->Prop} {w':World} {X:Kn} (hX:Stab X) (h:Fresh w Sx X S w'):X S w':=by obtain⟨Sl,h1,h2⟩:=h;exact hX _ _ _ _ h2 ⟨fun y hy=>(h1 y hy).1,fun _ _=>rfl⟩
theorem Fresh.none {w:World} {Sx S:Nat->Prop} {w':World} {X:Kn} (h:X no w'):Fresh w Sx X S w':=⟨no,fun y h=>h.elim,h⟩
theorem Fresh.both {w:World} {Sx S:Nat->Prop} {w':World} {X Y Z:Kn} (hX:Stab X) (hY:Stab Y) (h:Fresh w Sx X S w') (k:Fresh w Sx Y S w') (c:∀ S,X S w'->Y S w'->Z S w'):Fresh w Sx Z S w':=by obtain⟨Sl,h1,h2⟩:=h;obtain⟨Sm,k1,k2⟩:=k;exact⟨fun y=>Sl y\/Sm y,fun y hy=>hy.elim (h1 y) (k1 y),c _ (hX _ _ _ _ h2 ⟨fun _ h=>.inl h,fun _ _=>rfl⟩) (hY _ _ _ _ k2 ⟨fun _ h=>.inr h,fun _ _=>rfl⟩)⟩
abbrev orW (ws:List Wd) (A:Option Addr) (c:Nat) (css:List (List Value)):OR:=⟨43,21,A,ws.length,c,css.flatten⟩
def RetWL (Sx:Nat->Prop) (w:World) (O:Kn) (ws:List Wd) (en:Ending) (w':World):Prop:=∃ (A:Option Addr) (c:Nat) (css:List (List Value)) (N Sn:Nat->Prop),en=.returned (.slice A ws.length c)/\Turn Sx w w'/\(∀ x,Sn x->(Sx x\/w.heap.size<=x)/\x<w'.heap.size)/\O Sn w'/\w'.ownsRow 0 43 21 (.slice A ws.length c) ws.length css.flatten/\WsR ws css N w'/\
 (∀ y,N y->(Sx y\/w.heap.size<=y)/\y<w'.heap.size/\¬ Sn y)/\(∀ a,A=some a->(Sx a.block\/w.heap.size<=a.block)/\¬ Sn a.block/\¬ N a.block)
theorem RetWL.nil {Sx:Nat->Prop} {w w':World} {O:Kn} {v:Value} {en:Ending} (h:RetOb Sx w v O en w') (e:v=.slice none 0 0):RetWL Sx w O [] en w':=by obtain⟨h1,h2,Sn,h3,h4⟩:=h;subst e;exact⟨none,0,[],no,Sn,h1,h2,h3,h4,World.ownsRow_nil ..,rfl,fun y h=>h.elim,fun a h=>by cases h⟩
theorem W8 {n0 n1 e sz n cap:Nat} {A:Option Addr} {xs:List Value} {w:World} (h:w.ownsRow n0 e sz (.slice A n cap) n xs) (hA:∀ a,A=some a->n1<=a.block):w.ownsRow n1 e sz (.slice A n cap) n xs:=by
 obtain⟨h1,h2⟩:=h;refine⟨h1,?_⟩;rcases h2 with h2 | ⟨g,cp,cur,e1,h3,h4⟩
 ·exact .inl h2
 ·refine .inr ⟨g,cp,cur,e1,?_,h4⟩;cases e1;exact hA _ rfl
section
variable {w0 w w':World} {S Sx:Nat->Prop} {l:List LB} {os:List OR} {R O O':Kn} {n0:Nat}
theorem CtxF.turnW (hc:CtxF no w0 S w l os (Sep w0.heap.size R O)) (hR:Stab R) {S1 Sa Sn N:Nat->Prop} (h1:∀ x,S1 x->S x/\¬ Sa x) (h2:∀ x,Sa x->S x/\w0.heap.size<=x) (h3:R S1 w) (hT:Turn Sa w w')
  (hSn:∀ x,Sn x->(Sa x\/w.heap.size<=x)/\x<w'.heap.size) (hO:O' Sn w') (hs:Stab O') {ws:List Wd} {A:Option Addr} {c:Nat} {css:List (List Value)} (hr:w'.ownsRow 0 43 21 (.slice A ws.length c) ws.length css.flatten) (hW:WsR ws css N w')
  (hN:∀ y,N y->(Sa y\/w.heap.size<=y)/\y<w'.heap.size/\¬ Sn y) (hA:∀ a,A=some a->(Sa a.block\/w.heap.size<=a.block)/\¬ Sn a.block/\¬ N a.block):
  CtxF no w0 (fun x=>(S x/\¬ Sa x)\/(Sn x\/N x)) w' l (orW ws A c css::os) (Sep w0.heap.size (fun S w=>R S w/\WsR ws css S w) O'):=by
 have hsz:=hc.ctx.below.size;have hn0:∀ x,(Sa x\/w.heap.size<=x)->w0.heap.size<=x:=fun x h=>h.elim (fun h=>(h2 x h).2) (fun h=>zo hsz h);have hS1:∀ x,S1 x->¬ (Sa x\/w.heap.size<=x):=fun x hx h=>h.elim (h1 x hx).2 (fun h=>by have:=hc.ctx.lt x (h1 x hx).1;omega);have h:=hc.turn h2 hT (Sn:=fun x=>Sn x\/N x) (fun x hx=>hx.elim (hSn x) fun h=>⟨(hN x h).1,(hN x h).2.1⟩) (Y:=Sep w0.heap.size (fun S w=>R S w/\WsR ws css S w) O')
  ⟨fun x=>S1 x\/N x,Sn,fun x hx=>?_,fun x hx=>⟨.inr (.inl hx),hn0 x (hSn x hx).1⟩,⟨hR _ _ _ _ h3 ⟨fun _ h=>.inl h,fun x hx=>hT.block x (hc.ctx.lt x (h1 x hx).1) (h1 x hx).2⟩,WsR.stab _ _ _ _ _ _ hW ⟨fun _ h=>.inr h,fun _ _=>rfl⟩⟩,hO⟩ (Sep.stab (hR.and (WsR.stab _ _)) hs)
 ·refine h.hold (e:=43) (sz:=21) (n:=ws.length) (cap:=c) (A:=A) (xs:=css.flatten) ⟨W8 hr fun a ha=>hn0 _ (hA a ha).1,fun a ha=>⟨?_,fun x hx e=>?_⟩⟩ (fun p hp a b ha hb e=>?_)
  ·obtain⟨k1,k2,k3⟩:=hA a ha;rintro (e | e | e)
   ·exact k1.elim e.2 (fun h=>by have:=hc.ctx.lt _ e.1;omega)
   ·exact k2 e
   ·exact k3 e
  ·obtain⟨i,hi⟩:=List.getElem?_of_mem hx;obtain⟨g,T,cs⟩:=x;have e:g=a.block:=e;rcases (hA a ha).1 with k | k
   ·exact (hc.ctx.locs.notS hi).1 (e▸(h2 _ k).1)
   ·have:=hc.ctx.locs.lt _ hx;have:g<w.heap.size:=this;omega
  ·rcases (hA a ha).1 with k | k
   ·exact ((hc.own.mem p hp).out b hb).1 (e▸(h2 _ k).1)
   ·have:=((hc.own.mem p hp).lt hb).2;omega
 ·rcases hx with hx | hx
  ·exact⟨.inl ⟨(h1 x hx).1,(h1 x hx).2⟩,fun h=>hS1 x hx (hSn x h).1⟩
  ·exact⟨.inr (.inr hx),(hN x hx).2.2⟩
theorem CtxF.thingNew (hc:CtxF no (bare w) S w' l os (Sep 0 (fun S w'=>Keep w Sx S w'/\R S w') O)) {S1 Sa:Nat->Prop} (h1:∀ x,S1 x->S x/\¬ Sa x) (h3:Keep w Sx S1 w'):∀ x,Sa x->Sx x\/w.heap.size<=x:=fun x hx=>by
 rcases zl x w.heap.size with hl | hl
 ·rcases Classical.em (Sx x) with hs | hs
  ·exact .inl hs
  ·exact absurd hx (h1 x (h3 x hl hs).1).2
 ·exact .inr hl
theorem CtxF.endW {ws:List Wd} {A:Option Addr} {c:Nat} {css:List (List Value)} (hc:CtxF no (bare w) S w' l (orW ws A c css::os) (Sep 0 (fun S w'=>Keep w Sx S w'/\Fresh w Sx (WsR ws css) S w') O)):RetWL Sx w O ws (.returned (.slice A ws.length c)) w':=by
 obtain⟨S1,Sa,h1,h2,⟨h3,Sl,k1,k2⟩,h4⟩:=hc.row;have hthing:=hc.thingNew h1 h3;refine⟨A,c,css,Sl,Sa,rfl,hc.leave h3,fun x hx=>⟨hthing x hx,hc.ctx.lt x (h2 x hx).1⟩,h4,hc.fst.row,k2,fun y hy=>⟨(k1 y hy).2,hc.ctx.lt y (h1 y (k1 y hy).1).1,(h1 y (k1 y hy).1).2⟩,fun a ha=>⟨?_,fun h=>(hc.fst.out a ha).1 (h2 _ h).1,fun h=>(hc.fst.out a ha).1 (h1 _ (k1 _ h).1).1⟩⟩;rcases zl a.block w.heap.size with hl | hl
 ·rcases Classical.em (Sx a.block) with hs | hs
  ·exact .inl hs
  ·exact absurd (h1 _ (h3 _ hl hs).1).1 (hc.fst.out a ha).1
 ·exact .inr hl
theorem CtxF.isNew (hc:CtxF no (bare w0) S w l os (Sep 0 (fun S w'=>Keep w0 Sx S w'/\R S w') O)) {S1 Sa:Nat->Prop} (h1:∀ x,S1 x->S x/\¬ Sa x) (h3:Keep w0 Sx S1 w):∀ x,(Sa x\/w.heap.size<=x)->Sx x\/w0.heap.size<=x:=fun x hx=>by
 rcases zl x w0.heap.size with hl | hl
 ·rcases Classical.em (Sx x) with hs | hs
  ·exact .inl hs
  ·have hk:=h1 x (h3 x hl hs).1;rcases hx with hx | hx
   ·exact absurd hx hk.2
   ·have:=hc.ctx.lt x hk.1;omega
 ·exact .inr hl
theorem CtxF.turnB (hc:CtxF no (bare w0) S w l os (Sep 0 (fun S w=>Keep w0 Sx S w/\R S w) O)) (hR:Stab R) {S1 Sa Sn N:Nat->Prop} (h1:∀ x,S1 x->S x/\¬ Sa x) (h2:∀ x,Sa x->S x/\0<=x) (h3:Keep w0 Sx S1 w/\R S1 w) (hT:Turn Sa w w')
  (hSn:∀ x,Sn x->(Sa x\/w.heap.size<=x)/\x<w'.heap.size) (hO:O' Sn w') (hs:Stab O') {ws:List Wd} {A:Option Addr} {c:Nat} {css:List (List Value)} (hr:w'.ownsRow 0 43 21 (.slice A ws.length c) ws.length css.flatten) (hW:WsR ws css N w')
  (hN:∀ y,N y->(Sa y\/w.heap.size<=y)/\y<w'.heap.size/\¬ Sn y) (hA:∀ a,A=some a->(Sa a.block\/w.heap.size<=a.block)/\¬ Sn a.block/\¬ N a.block):
  ∃ S',CtxF no (bare w0) S' w' l (orW ws A c css::os) (Sep 0 (fun S w=>Keep w0 Sx S w/\(R S w/\Fresh w0 Sx (WsR ws css) S w)) O'):=by
 have hnew:=hc.isNew h1 h3.1;have sK:Stab (fun S w=>Keep w0 Sx S w/\R S w):=y8.and hR;have h:=hc.turnW sK h1 h2 h3 hT hSn hO hs hr hW hN hA;refine⟨_,h.now (fun _=>⟨fun x=>S1 x\/N x,Sn,fun x hx=>?_,fun x hx=>⟨.inr (.inl hx),zb _⟩,⟨?_,?_,N,fun y hy=>⟨.inr hy,hnew y (hN y hy).1⟩,hW⟩,hO⟩) (Sep.stab (y8.and (hR.and (Fresh.stab (WsR.stab _ _)))) hs)⟩
 ·rcases hx with hx | hx
  ·refine⟨.inl ⟨(h1 x hx).1,(h1 x hx).2⟩,fun h=>?_⟩;rcases (hSn x h).1 with k | k
   ·exact (h1 x hx).2 k
   ·have:=hc.ctx.lt x (h1 x hx).1;omega
  ·exact⟨.inr (.inr hx),(hN x hx).2.2⟩
 ·exact Keep.stab _ _ _ _ _ _ h3.1 ⟨fun _ h=>.inl h,fun x hx=>hT.block x (hc.ctx.lt x (h1 x hx).1) (h1 x hx).2⟩
 ·exact hR _ _ _ _ h3.2 ⟨fun _ h=>.inl h,fun x hx=>hT.block x (hc.ctx.lt x (h1 x hx).1) (h1 x hx).2⟩
theorem CtxF.tailW (hc:CtxF no (bare w0) S w l os (Sep 0 (fun S w=>Keep w0 Sx S w/\R S w) O)) {S1 Sa:Nat->Prop} (h1:∀ x,S1 x->S x/\¬ Sa x) (h3:Keep w0 Sx S1 w) {ws:List Wd} {en:Ending} (h:RetWL Sa w O' ws en w'):RetWL Sx w0 O' ws en w':=by have hnew:=hc.isNew h1 h3;obtain⟨A,c,css,N,Sn,e,hT,hSn,hO,hr,hW,hN,hA⟩:=h;refine⟨A,c,css,N,Sn,e,⟨hT.os.trans hc.below.os,hT.tape.trans hc.below.tape,hT.output.trans hc.below.output,fun x hx hs=>?_⟩,fun x hx=>⟨hnew x (hSn x hx).1,(hSn x hx).2⟩,hO,hr,hW,fun y hy=>⟨hnew y (hN y hy).1,(hN y hy).2⟩,fun a ha=>⟨hnew _ (hA a ha).1,(hA a ha).2⟩⟩;obtain⟨k1,k2⟩:=h3 x hx hs;exact (hT.block x (hc.ctx.lt x (h1 x k1).1) (h1 x k1).2).trans k2
theorem CtxF.tailW0 (hc:CtxF no (bare w0) S w l os (Sep 0 (Keep w0 Sx) O)) (hO:Stab O) {S1 Sa:Nat->Prop} (h1:∀ x,S1 x->S x/\¬ Sa x) (h3:Keep w0 Sx S1 w) {ws:List Wd} {en:Ending} (h:RetWL Sa w O' ws en w'):RetWL Sx w0 O' ws en w':=
 (hc.now (X:=Sep 0 (fun S w'=>Keep w0 Sx S w'/\True) O) (fun h=>h.mono (fun _ h=>⟨h,trivial⟩) fun _ h=>h) (Sep.stab (y8.and Stab.true) hO)).tailW h1 h3 h
theorem RetWL.quiet {ws:List Wd} {A:Option Addr} {c:Nat} {css:List (List Value)} {Sx N:Nat->Prop} {O:Kn} {en:Ending} (e:en=.returned (.slice A ws.length c)) (hb:Below w.heap.size w w') (hr:w'.ownsRow w.heap.size 43 21 (.slice A ws.length c) ws.length css.flatten) (hW:WsR ws css N w')
  (hN:∀ y,N y->w.heap.size<=y/\y<w'.heap.size) (hA:∀ a,A=some a->¬ N a.block) (hO:O Sx w') (hlt:∀ x,Sx x->x<w.heap.size):RetWL Sx w O ws en w':=by
 refine⟨A,c,css,N,Sx,e,Turn.below hb,fun x hx=>⟨.inl hx,Nat.lt_of_lt_of_le (hlt x hx) hb.size⟩,hO,W8 hr fun a ha=>zb _,hW,fun y hy=>⟨.inr (hN y hy).1,(hN y hy).2,fun h=>?_⟩,fun a ha=>⟨.inr ?_,fun h=>?_,hA a ha⟩⟩
 ·have:=hlt y h;have:=(hN y hy).1;omega
 ·rw [ha] at hr;exact (hr.lt a.block rfl).1
 ·rw [ha] at hr;have:=(hr.lt a.block rfl).1;have:=hlt _ h;omega
theorem CtxF.toldB {o:OR} (hc:CtxF no (bare w0) S w l (o::os) (Sep 0 (fun S w=>Keep w0 Sx S w/\R S w) O)) (hR:Stab R) (hO:Stab O):∃ S',CtxF no (bare w0) S' w l os (Sep 0 (fun S w=>Keep w0 Sx S w/\(R S w/\Fresh w0 Sx (fun S w=>Row S w o.A o.n o.cap o.xs) S w)) O):=by
 obtain⟨S1,Sa,h1,h2,h3,h4⟩:=hc.row;have hout:=hc.fst.out;obtain⟨S2,hs,hc2⟩:=hc.told;refine⟨S2,hc2.now (fun hh=>?_) (Sep.stab (y8.and (hR.and (Fresh.stab fun _ _ _ _ h f=>h.fut f))) hO)⟩;obtain⟨_,hR1,hR2,hR3⟩:=hh;refine⟨fun x=>S1 x\/(S2 x/\∃ a,o.A=some a/\a.block=x),Sa,fun x hx=>?_,fun x hx=>⟨hs x (h2 x hx).1,(h2 x hx).2⟩,⟨Keep.stab _ _ _ _ _ _ h3.1 ⟨fun _ h=>.inl h,fun _ _=>rfl⟩,hR _ _ _ _ h3.2 ⟨fun _ h=>.inl h,fun _ _=>rfl⟩,fun x=>S2 x/\∃ a,o.A=some a/\a.block=x,fun y hy=>⟨.inr hy,?_⟩,hR1,hR2,fun hx=>?_⟩,h4⟩
 ·rcases hx with hx | ⟨hx,a,ha,e⟩
  ·exact⟨hs x (h1 x hx).1,(h1 x hx).2⟩
  ·exact⟨hx,fun h=>(hout a ha).1 (e▸(h2 x h).1)⟩
 ·obtain⟨_,a,ha,rfl⟩:=hy;rcases zl a.block w0.heap.size with hl | hl
  ·rcases Classical.em (Sx a.block) with hs | hs
   ·exact .inl hs
   ·exact absurd (h1 _ (h3.1 _ hl hs).1).1 (hout a ha).1
  ·exact .inr hl
 ·obtain⟨ad,e,hsa,hcl⟩:=hR3 hx;exact⟨ad,e,⟨hsa,ad,e,rfl⟩,hcl⟩
end
end Go.Vc
end
section
namespace Go.Proofs.YtefdfaeieekioaaGreatDoor
open Go.Vc Go.RowKit Go.Fl Go.ChangeShapes Go.WideShapes Go.ChangeAt
def liC (L:Lk) (gs:Nat) (A:Option Addr) (cA:Nat) (D:Option Addr) (cD:Nat):List Value:=[.int .i64 L.id,.pointer (some ⟨gs,0,none⟩),.int .i64 L.r.ep,.slice A L.r.l.length cA,.int .i64 L.r.new,.int .i64 L.til,.slice D L.done.length cD]
def LiR (L:Lk) (A:Option Addr) (cA:Nat) (D:Option Addr) (cD:Nat) (css:List (List Value)):Kn:=Vc.Sep 0 (fun S w=>RosR L.r A cA S w/\WsR L.done css S w) (OwnK 43 21 D L.done.length cD css.flatten)
theorem LiR.stab (L:Lk) (A:Option Addr) (cA:Nat) (D:Option Addr) (cD:Nat) (css:List (List Value)):Stab (LiR L A cA D cD css):=Vc.Sep.stab ((RosR.stab _ _ _).and (WsR.stab _ _)) (OwnK.stab _ _ _ _ _ _)
theorem yf {L:Lk} {A:Option Addr} {cA:Nat} {D:Option Addr} {cD:Nat} {css:List (List Value)}:Stab (LiR L A cA D cD css):=LiR.stab _ _ _ _ _ _
structure Lg where
 gl:Nat
 gs:Nat
 gj:Nat
 gc:Nat
 b:Nat
def LinkK (g:Lg) (L:Lk):Kn:=fun S w=>∃ A cA D cD css,ObjK g.gl 85 (liC L g.gs A cA D cD) (LiR L A cA D cD css) (ShelfK g.gs g.gj g.gc g.b L.H) S w
theorem LinkK.stab (g:Lg) (L:Lk):Stab (LinkK g L):=fun S w S' w' h f=>by obtain⟨A,cA,D,cD,css,h⟩:=h;exact⟨A,cA,D,cD,css,ObjK.stab yf ye _ _ _ _ h f⟩
theorem yg {g:Lg} {L:Lk}:Stab (LinkK g L):=LinkK.stab _ _
theorem LinkK.shelf {g:Lg} {L:Lk} {S:Nat->Prop} {w:World} (h:LinkK g L S w):ShelfK g.gs g.gj g.gc g.b L.H S w:=by obtain⟨A,cA,D,cD,css,h⟩:=h;exact h.right ye
theorem LinkK.cells {g:Lg} {L:Lk} {S:Nat->Prop} {w:World} (h:LinkK g L S w):∃ A cA D cD,Blk w g.gl 85 (liC L g.gs A cA D cD)/\RosR L.r A cA S w:=by obtain⟨A,cA,D,cD,css,h⟩:=h;exact⟨A,cA,D,cD,h.2.1,((h.left yf).left ((RosR.stab _ _ _).and (WsR.stab _ _))).1⟩
theorem LinkK.later {g:Lg} {L:Lk} {S:Nat->Prop} {w w':World} (h:LinkK g L S w) (hlt:∀ x,S x->x<w.heap.size) (hb:Below w.heap.size w w'):LinkK g L S w':=
 LinkK.stab g L S w S w' h ⟨fun _ h=>h,fun b hs=>hb.block b (hlt b hs)⟩
theorem ShelfK.later {gs gj gc b:Nat} {H:Sh} {S:Nat->Prop} {w w':World} (h:ShelfK gs gj gc b H S w) (hlt:∀ x,S x->x<w.heap.size) (hb:Below w.heap.size w w'):ShelfK gs gj gc b H S w':=
 ShelfK.stab gs gj gc b H S w S w' h ⟨fun _ h=>h,fun b hs=>hb.block b (hlt b hs)⟩
section
variable {g:Lg} {L:Lk} {S:Nat->Prop} {w:World}
theorem B7C (gl:Nat) (ox oy:Operand) (w:World):(do eqGuard BinOp.eql 25 ox oy (.pointer (some ⟨gl,0,none⟩)) (.pointer none);Go.binOp BinOp.eql 25 (.pointer (some ⟨gl,0,none⟩)) (.pointer none):Sem Value).run Tryz.prog w=.ok (.bool false) w:=by kernel_rfl
theorem B1B (gl:Nat) (ox oy:Operand) (w:World):(do eqGuard BinOp.neq 25 ox oy (.pointer (some ⟨gl,0,none⟩)) (.pointer none);Go.binOp BinOp.neq 25 (.pointer (some ⟨gl,0,none⟩)) (.pointer none):Sem Value).run Tryz.prog w=.ok (.bool true) w:=by kernel_rfl
end
end Go.Proofs.YtefdfaeieekioaaGreatDoor
end
section
namespace Go.Proofs.YtefdfaeieekioaaGreatDoor
open Go.Vc Go.RowKit Go.Fl Go.ChangeShapes Go.WideShapes Go.ChangeAt
section
variable {g:Lg} {L:Lk} {S:Nat->Prop} {w:World}
theorem A8m (g:Lg) (L:Lk) (S:Nat->Prop) (w:World) (hK:LinkK g L S w) (hlt:∀ x,S x->x<w.heap.size):Calls Tryz.prog 57 #[.pointer (some ⟨g.gl,0,none⟩)] w (C8 (.bool (Z2 L)) w):=by
 obtain⟨A,cA,D,cD,hB,hR⟩:=hK.cells;obtain⟨z,hz⟩:∃ z,z=Z2 L:=⟨_,rfl⟩;rw [<-hz];unfold Z2 at hz;refine vE Tryz.func57 ?_;have hc:=CtxF.start w no (fun _ h=>h.elim) (R:=fun _ _=>True) trivial Stab.true;have hr:=hc;refine vD (.Q [0,1,2,3,4,5,6,7,8,9,10,11,12,13,14,16,17,18,19,20] (.n 15 (.Q [21,22,23] .fin) .stop)) (Old _) (Old.start _) ?_;have hk:=hc.old0;have hc:=hc.drew;refine⟨_,fun z hz=>Keeps.look hz (hB.cell 4),?_⟩;refine⟨_,fun z hz=>Keeps.look hz (hB.cell 0),?_⟩;rcases Bool.eq_false_or_eq_true (L.r.new==L.id) with h | h
 ·refine C3X (by show (!(L.r.new==L.id))=false;rw [h];rfl) ?_;refine⟨_,fun z hz=>Keeps.look hz (hB.cell 1),?_⟩;refine⟨_,fun z hz=>Keeps.look hz (hB.cell 2),?_⟩;refine⟨hc.q (A8i g.gs g.gj g.gc g.b L.H S _ (hK.shelf.later hlt hc.below)) fun wA hA hc=>?_,trivial⟩;have hk:=Keeps.below hk (fun _ h=>h) hA;refine⟨hk,?_⟩;refine⟨B7 ?_,hc.below⟩;rw [hz,h];rfl
 ·refine B0 (by show (!(L.r.new==L.id))=true;rw [h];rfl) ?_;refine⟨?_,trivial⟩;refine⟨B7 ?_,hc.below⟩;rw [hz,h];rfl
theorem A34 (g:Lg) (L:Lk) (S:Nat->Prop) (w:World) (hK:LinkK g L S w):Calls Tryz.prog 59 #[.pointer (some ⟨g.gl,0,none⟩)] w (C8 (.bool (A1H L)) w):=by obtain⟨A,cA,D,cD,hB,hR⟩:=hK.cells;refine vE Tryz.func59 ?_;have hc:=CtxF.start w no (fun _ h=>h.elim) (R:=fun _ _=>True) trivial Stab.true;have hr:=hc;refine vD (.Q [0,1,2,3,5,6,7,8] (.n 4 (.Q [9,10] .fin) .stop)) (Old _) (Old.start _) ?_;have hk:=hc.old0;have hc:=hc.drew;refine⟨R9 L.r A cA,rfl,fun z hz=>Old.looks hz (Blk.part hB 2 (R9 L.r A cA) rfl),?_⟩;refine⟨_,fun z hz=>Keeps.look hz (hB.cell 0),?_⟩;refine⟨hc.q (A5P (RosR.below hR hc.below)) fun wA hA hc=>?_,trivial⟩;have hk:=Keeps.below hk (fun _ h=>h) hA;refine⟨hk,?_⟩;exact⟨rfl,hc.below⟩
theorem A0p (g:Lg) (L:Lk) (now:Int) (S:Nat->Prop) (w:World) (hK:LinkK g L S w) (hlt:∀ x,S x->x<w.heap.size):Calls Tryz.prog 29 #[.pointer (some ⟨g.gl,0,none⟩),.int .i64 now] w (C8 (.bool (H6 L now)) w):=by
 obtain⟨A,cA,D,cD,hB,hR⟩:=hK.cells;obtain⟨z,hz⟩:∃ z,z=H6 L now:=⟨_,rfl⟩;rw [<-hz];unfold H6 at hz;refine vE Tryz.func29 ?_;have hc:=CtxF.start w no (fun _ h=>h.elim) (R:=fun _ _=>True) trivial Stab.true;have hr:=hc;refine vD (.Q [0,1,2,3,4,5,6,7,8,9,10] (.n 11 (.Q [12,13,14] (.n 15 (.Q [16,17,18,19,20,21,22,23,24,25,26,27,28,29] (.n 30 (.Q [31,32,33,34,35,36,37,39,40,41,42,43] (.n 38 (.Q [44,45,46] .fin) .stop)) .stop)) .stop)) .stop)) (Old _) (Old.start _) ?_;have hk:=hc.old0;have hc:=hc.drew;refine⟨.bool true,fun w=>B1B g.gl _ _ w,?_⟩;refine⟨R9 L.r A cA,rfl,fun z hz=>Old.looks hz (Blk.part hB 2 (R9 L.r A cA) rfl),?_⟩;refine⟨_,fun z hz=>Keeps.look hz (hB.cell 0),?_⟩;have h1:=A7b L.id (RosR.below hR hc.below);obtain⟨b1,e1⟩:∃ b,b=decide (L.id∈L.r.l):=⟨_,rfl⟩;rw [<-e1] at h1 hz;refine⟨hc.q (h1) fun wA hA hc=>?_,trivial⟩;have hk:=Keeps.below hk (fun _ h=>h) hA;refine⟨hk,?_⟩;cases b1 with
 | false=>
  refine⟨?_,trivial⟩;refine⟨?_,trivial⟩;refine⟨?_,trivial⟩;exact⟨B7 (by rw [hz];rfl),hc.below⟩
 | true=>
 rw [Bool.true_and] at hz;have h2:=A8m g L S _ (hK.later hlt hc.below) (fun x hx=>Nat.lt_of_lt_of_le (hlt x hx) hc.below.size);obtain⟨b2,e2⟩:∃ b,b=Z2 L:=⟨_,rfl⟩;rw [<-e2] at h2 hz;refine⟨hc.q (h2) fun wA hA hc=>?_,trivial⟩;have hk:=Keeps.below hk (fun _ h=>h) hA;refine⟨hk,?_⟩;cases b2 with
 | false=>
  refine⟨?_,trivial⟩;refine⟨?_,trivial⟩;exact⟨B7 (by rw [hz];rfl),hc.below⟩
 | true=>
 rw [Bool.true_and] at hz;refine⟨_,fun z hz=>Keeps.look hz (hB.cell 5),?_⟩;by_cases h3:now<=L.til;rotate_left
 ·refine df h3 ?_;refine⟨?_,trivial⟩;refine⟨?_,trivial⟩;exact⟨B7 (by rw [hz,zz h3];rfl),hc.below⟩
 refine dt h3 ?_;rw [zy h3,Bool.true_and] at hz;refine⟨_,fun z hz=>Keeps.look hz (hB.cell 1),?_⟩;have h4:=B3E g.gs g.gj g.gc g.b L.H S _ (hK.shelf.later hlt hc.below);obtain⟨b4,e4⟩:∃ b,b=L.H.down:=⟨_,rfl⟩;rw [<-e4] at h4 hz;refine⟨hc.q (h4) fun wA hA hc=>?_,trivial⟩;have hk:=Keeps.below hk (fun _ h=>h) hA;refine⟨hk,?_⟩;cases b4 with
 | true=>
  refine⟨?_,trivial⟩;exact⟨B7 (by rw [hz];rfl),hc.below⟩
 | false=>
 rw [Bool.not_false,Bool.true_and] at hz;refine⟨_,fun z hz=>Keeps.look hz (hB.cell 1),?_⟩;refine⟨_,fun z hz=>Keeps.look hz (hB.cell 2),?_⟩;refine⟨hc.q (A2I g.gs g.gj g.gc g.b L.H S _ (hK.shelf.later hlt hc.below)) fun wA hA hc=>?_,trivial⟩;have hk:=Keeps.below hk (fun _ h=>h) hA;refine⟨hk,?_⟩;exact⟨B7 (by rw [hz]),hc.below⟩
theorem W9 (g:Lg) (L:Lk) (S:Nat->Prop) (w:World) (hK:LinkK g L S w):Calls Tryz.prog 21 #[.pointer (some ⟨g.gl,0,none⟩)] w (C8 (.pointer (some ⟨g.gs,0,none⟩)) w):=by obtain⟨A,cA,D,cD,hB,hR⟩:=hK.cells;refine vE Tryz.func21 ?_;refine⟨.bool false,fun w=>B7C g.gl _ _ w,?_⟩;refine⟨_,hB.cell 1,?_⟩;exact⟨rfl,Below.refl _ _⟩
end
end Go.Proofs.YtefdfaeieekioaaGreatDoor
end
namespace Go.Proofs.YtefdfaeieekioaaGreatDoor
open Go.Vc Go.RowKit Go.Fl Go.ChangeShapes Go.WideShapes Go.ChangeAt
theorem B9Z:(Tryz.prog.info? 43).map (fun i=>(i.zero,i.size,i.bytes))=some (some (.agg (wdC Wd0 WX0).toArray),21,232):=by kernel_rfl
def LkR (L:Lk) (A:Option Addr) (cA:Nat) (css:List (List Value)):Kn:=fun S w=>RosR L.r A cA S w/\WsR L.done css S w
theorem LkR.stab (L:Lk) (A:Option Addr) (cA:Nat) (css:List (List Value)):Stab (LkR L A cA css):=(RosR.stab _ _ _).and (WsR.stab _ _)
theorem LinkK.enter {g:Lg} {L:Lk} {Sx:Nat->Prop} {w:World} (h:LinkK g L Sx w) (hlt:∀ x,Sx x->x<w.heap.size):∃ A cA D cD css S,CtxF no (bare w) S w [(g.gl,85,liC L g.gs A cA D cD)] [orW L.done D cD css] (Vc.Sep 0 (Vc.Sep 0 (Keep w Sx) (LkR L A cA css)) (ShelfK g.gs g.gj g.gc g.b L.H)):=by obtain⟨A,cA,D,cD,css,h⟩:=h;have hc:=ObjK.enter h hlt yf ye;obtain⟨S',hc⟩:=CtxF.pull (X:=LkR L A cA css) hc y8 (LkR.stab _ _ _ _) ye;exact⟨A,cA,D,cD,css,S',hc⟩
theorem LinkK.leave {g:Lg} {L:Lk} {A D:Option Addr} {cA cD:Nat} {css:List (List Value)} {S Sx:Nat->Prop} {w w':World} (hc:CtxF no (bare w) S w' [(g.gl,85,liC L g.gs A cA D cD)] [orW L.done D cD css] (Vc.Sep 0 (Vc.Sep 0 (Keep w Sx) (LkR L A cA css)) (ShelfK g.gs g.gj g.gc g.b L.H))) (v:Value):RetOb Sx w v (LinkK g L) (.returned v) w':=by obtain⟨S',hc⟩:=CtxF.push hc y8 (LkR.stab _ _ _ _) ye;obtain⟨h1,h2,Sn,h3,h4⟩:=ObjK.leave hc v;exact⟨h1,h2,Sn,h3,A,cA,D,cD,css,h4⟩
def F0 (L:Lk) (v:Wd):Lk:={ L with done:=L.done++[v] }
theorem B3K (g:Lg) (L:Lk) (hd:L.done.length<=1000000) (v:Wd) (hth:Thin v) (x:WX) (Sw Sx:Nat->Prop) (w:World) (hR:WdR v x Sw w) (hlt:∀ x,Sx x->x<w.heap.size) (hK:LinkK g L Sx w):
  Calls Tryz.prog 96 #[.pointer (some ⟨g.gl,0,none⟩),.agg (wdC v x).toArray] w (RetOb Sx w (.tuple #[]) (LinkK g (Z1 L v))):=by
 obtain⟨A,cA,D,cD,css,S,hc⟩:=hK.enter hlt;obtain⟨L',hL'⟩:∃ L',L'=Z1 L v:=⟨_,rfl⟩;rw [<-hL'];unfold Z1 at hL';refine vE Tryz.func96 ?_;refine hc.n fun g3 wg3 hg3 hc=>?_;have hr:=hc;refine vD (.Q [0,1,3,4,5,6] (.n 2 (.q 7 .fin) .stop)) (Old _) (Old.start _) ?_;have hk:=hc.old0;have hc:=hc.drew;refine⟨_,fun x hx=>Keeps.cell hx (hr.blk 0 rfl) (hr.blk 0 rfl).lt rfl,?_⟩;refine⟨_,fun x hx=>Keeps.cell hx (hr.blk 1 rfl) (hr.blk 1 rfl).lt rfl,?_⟩;refine⟨hc.q (K0 v.req _) fun wA hA hc=>?_,trivial⟩;have hk:=Keeps.below hk (fun _ h=>h) hA;refine⟨hk,?_⟩;rcases Bool.eq_false_or_eq_true (S6 v.req==L.id) with h | h;rotate_left
 ·refine C3X h ?_;rw [y7 (by rw [y4] at h;exact h)] at hL';subst hL';exact LinkK.leave hc.drop _
 refine B0 h ?_;rw [y6 (by rw [beq_iff_eq] at h;exact h)] at hL';subst hL';clear hk hr;refine vD (.Q [0,1,2,3] (.n 4 (.n 5 (.n 6 (.n 7 (.Q [8,9] (.n 10 .fin .stop)) .stop) .stop) .stop) (.n 5 (.n 4 (.n 6 (.n 7 (.Q [8,9] (.n 10 .fin .stop)) .stop) .stop) (.n 6 (.n 4 (.n 7 (.Q [8,9] (.n 10 .fin .stop)) .stop) .stop) .stop)) .stop))) (fun _=>True) trivial ?_;have hc:=hc.drew;refine⟨?_,?_⟩
 ·skip
  refine⟨_,hc.cell 1 rfl _ rfl,trivial,?_⟩;refine⟨⟨wdC v x,rfl,hc.cells 0 rfl,trivial,?_⟩,trivial⟩;refine⟨hc.n' fun gv wgv hgv hc=>?_,trivial⟩;refine⟨K4 Tryz.underlying32 B9Z rfl (by decide) hc (ys:=wdC v x) (m:=1) rfl (hc.cells 0 rfl) rfl (by omega) (by decide) rfl rfl ?_,trivial⟩;intro A3 c3 w3 hc;refine⟨trivial,?_⟩;refine⟨hc.s' 2 rfl fun wS hS hc=>?_,trivial⟩;have en:(L.done++[v]).length=L.done.length+1:=by rw [z6];rfl
  have hc:=hc.drop.drop;have hc:=I9 hc (l':=[(g.gl,85,liC (F0 L v) g.gs A cA A3 c3)]) (by unfold liC;rw [show (F0 L v).done.length=L.done.length+1 from en];kernel_rfl);have hc:=hc.castOs (os':=[orW (F0 L v).done A3 c3 (css++[wdC v x])]) (by unfold orW;rw [show (F0 L v).done.length=L.done.length+1 from en,zr,List.flatten_singleton]);have hc:=hc.now (X:=Vc.Sep 0 (Vc.Sep 0 (Keep w Sx) (LkR (F0 L v) A cA (css++[wdC v x]))) (ShelfK g.gs g.gj g.gc g.b L.H)) (fun h=>h.mono (fun _ h=>h.mono (fun _ h=>h) fun _ h=>⟨h.1,h.2.snoc (W6 hth _ _ hR)⟩) fun _ h=>h) (Vc.Sep.stab (Vc.Sep.stab y8 (LkR.stab _ _ _ _)) ye);exact LinkK.leave (L:=F0 L v) hc _
 refine⟨⟨wdC v x,rfl,hc.cells 0 rfl,trivial,?_⟩,trivial⟩;refine⟨?_,?_⟩
 ·skip
  refine⟨_,hc.cell 1 rfl _ rfl,trivial,?_⟩;refine⟨hc.n' fun gv wgv hgv hc=>?_,trivial⟩;refine⟨K4 Tryz.underlying32 B9Z rfl (by decide) hc (ys:=wdC v x) (m:=1) rfl (hc.cells 0 rfl) rfl (by omega) (by decide) rfl rfl ?_,trivial⟩;intro A3 c3 w3 hc;refine⟨trivial,?_⟩;refine⟨hc.s' 2 rfl fun wS hS hc=>?_,trivial⟩;have en:(L.done++[v]).length=L.done.length+1:=by rw [z6];rfl
  have hc:=hc.drop.drop;have hc:=I9 hc (l':=[(g.gl,85,liC (F0 L v) g.gs A cA A3 c3)]) (by unfold liC;rw [show (F0 L v).done.length=L.done.length+1 from en];kernel_rfl);have hc:=hc.castOs (os':=[orW (F0 L v).done A3 c3 (css++[wdC v x])]) (by unfold orW;rw [show (F0 L v).done.length=L.done.length+1 from en,zr,List.flatten_singleton]);have hc:=hc.now (X:=Vc.Sep 0 (Vc.Sep 0 (Keep w Sx) (LkR (F0 L v) A cA (css++[wdC v x]))) (ShelfK g.gs g.gj g.gc g.b L.H)) (fun h=>h.mono (fun _ h=>h.mono (fun _ h=>h) fun _ h=>⟨h.1,h.2.snoc (W6 hth _ _ hR)⟩) fun _ h=>h) (Vc.Sep.stab (Vc.Sep.stab y8 (LkR.stab _ _ _ _)) ye);exact LinkK.leave (L:=F0 L v) hc _
 refine⟨hc.n' fun gv wgv hgv hc=>?_,trivial⟩;refine⟨⟨_,hc.cell 2 rfl _ rfl,trivial,?_⟩,trivial⟩;refine⟨K4 Tryz.underlying32 B9Z rfl (by decide) hc (ys:=wdC v x) (m:=1) rfl (hc.cells 0 rfl) rfl (by omega) (by decide) rfl rfl ?_,trivial⟩;intro A3 c3 w3 hc;refine⟨trivial,?_⟩;refine⟨hc.s' 2 rfl fun wS hS hc=>?_,trivial⟩;have en:(L.done++[v]).length=L.done.length+1:=by rw [z6];rfl
 have hc:=hc.drop.drop;have hc:=I9 hc (l':=[(g.gl,85,liC (F0 L v) g.gs A cA A3 c3)]) (by unfold liC;rw [show (F0 L v).done.length=L.done.length+1 from en];kernel_rfl);have hc:=hc.castOs (os':=[orW (F0 L v).done A3 c3 (css++[wdC v x])]) (by unfold orW;rw [show (F0 L v).done.length=L.done.length+1 from en,zr,List.flatten_singleton]);have hc:=hc.now (X:=Vc.Sep 0 (Vc.Sep 0 (Keep w Sx) (LkR (F0 L v) A cA (css++[wdC v x]))) (ShelfK g.gs g.gj g.gc g.b L.H)) (fun h=>h.mono (fun _ h=>h.mono (fun _ h=>h) fun _ h=>⟨h.1,h.2.snoc (W6 hth _ _ hR)⟩) fun _ h=>h) (Vc.Sep.stab (Vc.Sep.stab y8 (LkR.stab _ _ _ _)) ye);exact LinkK.leave (L:=F0 L v) hc _
def LkO (g:Lg) (L:Lk) (A:Option Addr) (cA:Nat) (D:Option Addr) (cD:Nat) (css:List (List Value)):Kn:=ObjK g.gl 85 (liC L g.gs A cA D cD) (LiR L A cA D cD css) (ShelfK g.gs g.gj g.gc g.b L.H)
theorem LkO.stab (g:Lg) (L:Lk) (A:Option Addr) (cA:Nat) (D:Option Addr) (cD:Nat) (css:List (List Value)):Stab (LkO g L A cA D cD css):=ObjK.stab yf ye
theorem yh {g:Lg} {L:Lk} {A:Option Addr} {cA:Nat} {D:Option Addr} {cD:Nat} {css:List (List Value)}:Stab (LkO g L A cA D cD css):=LkO.stab _ _ _ _ _ _ _
theorem LkO.link {g:Lg} {L:Lk} {A:Option Addr} {cA:Nat} {D:Option Addr} {cD:Nat} {css:List (List Value)} {S:Nat->Prop} {w:World} (h:LkO g L A cA D cD css S w):LinkK g L S w:=⟨A,cA,D,cD,css,h⟩
theorem LkO.ros {g:Lg} {L:Lk} {A:Option Addr} {cA:Nat} {D:Option Addr} {cD:Nat} {css:List (List Value)} {S:Nat->Prop} {w:World} (h:LkO g L A cA D cD css S w):RosR L.r A cA S w:=((ObjK.left yf h).left ((RosR.stab _ _ _).and (WsR.stab _ _))).1
theorem LinkK.seen {g:Lg} {L:Lk} {S:Nat->Prop} {w:World} (h:LinkK g L S w):∃ A cA D cD css,LkO g L A cA D cD css S w:=h
theorem A35 (g:Lg) (L:Lk) (v:Wd) (x:WX) (hto:v.to≠L.id) (now:Int) (S:Nat->Prop) (w:World) (hlt:∀ x,S x->x<w.heap.size) (hK:LinkK g L S w):
  Calls Tryz.prog 51 #[.pointer (some ⟨g.gl,0,none⟩),.agg (wdC v x).toArray,.int .i64 now] w (B2g 43 21 1 (wdC (A1G L v) x) w):=by
 obtain⟨A,cA,D,cD,css,hB⟩:=hK.seen;refine vE Tryz.func51 ?_;have hc:=CtxF.start w S hlt (R:=LkO g L A cA D cD css) hB yh;refine hc.n fun g4 wg4 hg4 hc=>?_;refine vD (.Q [0,1,2,3,4,5,6,7,8,9] (.n 10 (.q 11 (.z 12)) .stop)) (fun z=>Blk z g.gl 85 (liC L g.gs A cA D cD)) (hc.row.2.1) ?_;have hc:=hc.drew;refine⟨.int .i64 L.id,fun z hz=>(Blk.cell hz 0).trans rfl,?_⟩;refine⟨.int .i64 L.r.ep,fun z hz=>(Blk.cell hz 2).trans rfl,?_⟩;refine⟨hc.s 0 rfl fun wS hS hc=>?_,trivial⟩;refine⟨(hc.row.2.1),?_⟩;refine hc.s 0 rfl fun wS hS hc=>?_;have hc:=I9 hc (l':=[(g4,43,wdC (A1G L v) x)]) (by kernel_rfl);have hB:=hc.row.2.1;have hr:=hc;refine vD (.Q [0,1,2,3,4,5,6] .fin) (Old _) (Old.start _) ?_;have hk:=hc.old0;have hc:=hc.drew;refine⟨_,fun x hx=>Keeps.cell hx (hr.blk 0 rfl) (hr.blk 0 rfl).lt rfl,?_⟩;refine⟨_,fun z hz=>Keeps.look hz (hB.cell 0),?_⟩;refine C3X (by show (v.to==L.id)=false;rw [y4];exact hto) ?_;refine⟨wdC (A1G L v) x,rfl,hc.cells 0 rfl,?_⟩;intro gb wgb hgb;have hc:=hc.made hgb 21 1 rfl (by decide);exact⟨some ⟨gb,0,none⟩,1,rfl,hc.below,hc.fst.row⟩
theorem A8n (g:Lg) (L:Lk) (hd:L.done.length<=1000000) (v:Wd) (hth:Thin v) (h7:v.kind=7) (x:WX) (Sw Sx:Nat->Prop) (now:Int) (w:World) (hR:WdR v x Sw w) (hlt:∀ x,Sx x->x<w.heap.size) (hK:LinkK g L Sx w):
  Calls Tryz.prog 48 #[.pointer (some ⟨g.gl,0,none⟩),.agg (wdC v x).toArray,.int .i64 now] w (RetWL Sx w (LinkK g (Z1 L v)) []):=by
 have hc:=CtxF.enterO hlt hK (LinkK.stab g L);refine vE Tryz.func48 ?_;refine hc.n fun g4 wg4 hg4 hc=>?_;refine hc.c 0 rfl rfl ?_;refine B0 (by show (v.kind==7)=true;rw [h7];rfl) ?_;refine⟨wdC v x,rfl,hc.cells 0 rfl,?_⟩;obtain⟨S1,Sa,h1,h2,h3,hO⟩:=hc.row;refine⟨(B3K g L hd v hth x (fun _=>True) Sa _ (W6 hth _ _ hR) (fun x hx=>hc.ctx.lt x (h2 x hx).1) hO).mono fun en wq hq=>?_⟩;obtain⟨e1,hT,Sn,hSn,hO⟩:=hq;have hc:=hc.turnO y8 h1 h2 h3 hT hSn hO yg;refine⟨_,e1,?_⟩;exact RetWL.nil (hc.endO _) rfl
theorem A36 {v:Wd} (h:Thin v) (L:Lk):Thin (A1G L v):=⟨h.ros,h.deeds,h.st⟩
theorem B1C (g:Lg) (L:Lk) (hd:L.done.length<=1000000) (v:Wd) (hth:Thin v) (h7:v.kind=7) (x:WX) (Sw Sx:Nat->Prop) (now:Int) (w:World) (hR:WdR v x Sw w) (hlt:∀ x,Sx x->x<w.heap.size) (hK:LinkK g L Sx w):
  Calls Tryz.prog 51 #[.pointer (some ⟨g.gl,0,none⟩),.agg (wdC v x).toArray,.int .i64 now] w (RetWL Sx w (LinkK g (A5W L v).1) (A5W L v).2):=by
 by_cases hto:v.to=L.id;rotate_left
 ·have e:A5W L v=(L,[A1G L v]):=y7 hto;rw [e];refine (A35 g L v x hto now Sx w hlt hK).mono fun en w' h=>?_;obtain⟨A,c,e1,hb,ho⟩:=h;exact RetWL.quiet (ws:=[A1G L v]) (css:=[wdC (A1G L v) x]) (N:=no) e1 hb (by rw [List.flatten_singleton];exact ho) ⟨x,[],rfl,W6 (A36 hth L) no w' hR,rfl⟩ (fun y h=>h.elim) (fun a ha h=>h) (hK.later hlt hb) hlt
 have e:A5W L v=(Z1 L (A1G L v),[]):=y6 hto;rw [e];obtain⟨A,cA,D,cD,css,hB⟩:=hK.seen;have hc:=CtxF.enterO hlt hB (LkO.stab g L A cA D cD css);refine vE Tryz.func51 ?_;refine hc.n fun g4 wg4 hg4 hc=>?_;refine vD (.Q [0,1,2,3,4,5,6,7,8,9] (.n 10 (.q 11 (.z 12)) .stop)) (fun z=>Blk z g.gl 85 (liC L g.gs A cA D cD)) ((hc.row.right (LkO.stab g L A cA D cD css)).2.1) ?_;have hc:=hc.drew;refine⟨.int .i64 L.id,fun z hz=>(Blk.cell hz 0).trans rfl,?_⟩;refine⟨.int .i64 L.r.ep,fun z hz=>(Blk.cell hz 2).trans rfl,?_⟩;refine⟨hc.s 0 rfl fun wS hS hc=>?_,trivial⟩;refine⟨((hc.row.right (LkO.stab g L A cA D cD css)).2.1),?_⟩;refine hc.s 0 rfl fun wS hS hc=>?_;have hc:=I9 hc (l':=[(g4,43,wdC (A1G L v) x)]) (by kernel_rfl);have hB:=(hc.row.right (LkO.stab g L A cA D cD css)).2.1;have hr:=hc;refine vD (.Q [0,1,2,3,4,5,6] .fin) (Old _) (Old.start _) ?_;have hk:=hc.old0;have hc:=hc.drew;refine⟨_,fun x hx=>Keeps.cell hx (hr.blk 0 rfl) (hr.blk 0 rfl).lt rfl,?_⟩;refine⟨_,fun z hz=>Keeps.look hz (hB.cell 0),?_⟩;refine B0 (by show (v.to==L.id)=true;rw [beq_iff_eq];exact hto) ?_;refine⟨wdC (A1G L v) x,rfl,hc.cells 0 rfl,?_⟩;obtain⟨S1,Sa,h1,h2,h3,hO⟩:=hc.row;refine⟨(A8n g L hd (A1G L v) (A36 hth L) h7 x (fun _=>True) Sa now _ (W6 (A36 hth L) _ _ hR) (fun x hx=>hc.ctx.lt x (h2 x hx).1) hO.link).mono fun en wq hq=>?_⟩;have hq0:=hq;obtain⟨A3,c3,css3,N3,Sn,e1,_⟩:=hq0;refine⟨_,e1,?_⟩;have hc:=hc.now (X:=Vc.Sep 0 (fun S w'=>Keep w Sx S w'/\True) (LkO g L A cA D cD css)) (fun h=>h.mono (fun _ h=>⟨h,trivial⟩) fun _ h=>h) (Vc.Sep.stab (y8.and Stab.true) yh);rw [e1] at hq;exact hc.tailW h1 h3 hq
theorem A5Y (g:Lg) (L:Lk) (hd:L.done.length<=1000000) (req:Int) (r:Res) (Sx:Nat->Prop) (now:Int) (w:World) (hlt:∀ x,Sx x->x<w.heap.size) (hK:LinkK g L Sx w):
  Calls Tryz.prog 160 #[.pointer (some ⟨g.gl,0,none⟩),.int .i64 req,.agg #[.int .i64 r.err,.int .i64 r.ver],.int .i64 now] w (RetWL Sx w (LinkK g (toldL L req r).1) (toldL L req r).2):=by
 have zd:wdC (B5i req r) WX0=[.int .i64 7,.int .i64 0,.int .i64 (S6 req),.int .i64 0,.int .i64 0,.int .i64 req,.int .i64 0,.int .i64 r.err,.int .i64 r.ver,.int .i64 0,.slice none 0 0,.int .i64 0,.slice none 0 0,.int .i64 0,.slice none 0 0,.slice none 0 0,.int .i64 0,.int .i64 0,.int .i64 0,.int .i64 0,.int .i64 0]:=by kernel_rfl
 have sd:=fun Sx w hlt hK=>B1C g L hd (B5i req r) ⟨rfl,rfl,rfl⟩ rfl WX0 no Sx now w ⟨⟨A28 _ _,A28 _ _⟩,A15 _ _⟩ hlt hK;rw [zd] at sd;have hc:=CtxF.enterO hlt hK (LinkK.stab g L);refine vE Tryz.func160 ?_;refine hc.n fun g6 wg6 hg6 hc=>?_;refine vD (.Q [0,1,3,6] (.n 2 (.n 4 (.q 5 (.n 7 (.q 8 .fin) .stop)) .stop) (.n 4 (.n 2 (.q 5 (.n 7 (.q 8 .fin) .stop)) .stop) .stop))) (fun _=>True) trivial ?_;have hc:=hc.drew;refine⟨?_,?_⟩
 ·skip
  refine hc.q' (K0 req _) fun wQ hQ hc=>?_;refine⟨hc.a' 0 rfl rfl ?_,trivial⟩;refine⟨?_,trivial⟩;obtain⟨S1,Sa,h1,h2,h3,hO⟩:=hc.row;refine⟨(sd Sa _ (fun x hx=>hc.ctx.lt x (h2 x hx).1) hO).mono fun en wq hq=>?_⟩;have hq0:=hq;obtain⟨A3,c3,css3,N3,Sn,e1,_⟩:=hq0;refine⟨_,e1,trivial,?_⟩;have hc:=hc.now (X:=Vc.Sep 0 (fun S w'=>Keep w Sx S w'/\True) (LinkK g L)) (fun h=>h.mono (fun _ h=>⟨h,trivial⟩) fun _ h=>h) (Vc.Sep.stab (y8.and Stab.true) yg);rw [e1] at hq;exact hc.tailW h1 h3 hq
 refine⟨hc.a' 0 rfl rfl ?_,trivial⟩;refine⟨hc.q' (K0 req _) fun wQ hQ hc=>?_,trivial⟩;refine⟨?_,trivial⟩;obtain⟨S1,Sa,h1,h2,h3,hO⟩:=hc.row;refine⟨(sd Sa _ (fun x hx=>hc.ctx.lt x (h2 x hx).1) hO).mono fun en wq hq=>?_⟩;have hq0:=hq;obtain⟨A3,c3,css3,N3,Sn,e1,_⟩:=hq0;refine⟨_,e1,trivial,?_⟩;have hc:=hc.now (X:=Vc.Sep 0 (fun S w'=>Keep w Sx S w'/\True) (LinkK g L)) (fun h=>h.mono (fun _ h=>⟨h,trivial⟩) fun _ h=>h) (Vc.Sep.stab (y8.and Stab.true) yg);rw [e1] at hq;exact hc.tailW h1 h3 hq
theorem Z3 (q:Int) (r:Res):∀ (l:List (Int × Res)) (L:Lk),B8 L (l++[(q,r)])=((toldL (B8 L l).1 q r).1,(B8 L l).2++(toldL (B8 L l).1 q r).2)
 | [],L=>by
  show ((toldL L q r).1,(toldL L q r).2++[])=((toldL L q r).1,[]++(toldL L q r).2);rw [zw,List.nil_append]
 | (a,b)::t,L=>by show ((B8 (toldL L a b).1 (t++[(q,r)])).1,(toldL L a b).2++(B8 (toldL L a b).1 (t++[(q,r)])).2)=_;rw [Z3 q r t];show _=(_,((toldL L a b).2++(B8 (toldL L a b).1 t).2)++_);rw [zv];rfl
theorem B3L (L:Lk) (q:Int) (r:Res):(toldL L q r).1.done.length<=L.done.length+1:=by
 unfold toldL A5W;split
 ·exact B3J _ _
 ·exact Nat.le_succ _
theorem A5Z:∀ (l:List (Int × Res)) (L:Lk),(B8 L l).1.done.length<=L.done.length+l.length
 | [],L=>zc _
 | (a,b)::t,L=>by have h1:=B3L L a b;have h2:=A5Z t (toldL L a b).1;rw [zi];show (B8 (toldL L a b).1 t).1.done.length<=_;omega
theorem A37 (L:Lk) (q:Int) (r:Res):(toldL L q r).2.length<=1:=by
 unfold toldL A5W;split
 ·exact zb _
 ·exact zc _
theorem A0V:∀ (l:List (Int × Res)) (L:Lk),(B8 L l).2.length<=l.length
 | [],L=>zc _
 | (a,b)::t,L=>by have h1:=A37 L a b;have h2:=A0V t (toldL L a b).1;show ((toldL L a b).2++(B8 (toldL L a b).1 t).2).length<=_;rw [z6,zi];omega
theorem B7D (L:Lk) (q:Int) (r:Res):(toldL L q r).1.H=L.H/\(toldL L q r).1.id=L.id/\(toldL L q r).1.r=L.r/\(toldL L q r).1.til=L.til:=by
 unfold toldL A5W;split
 ·exact B7B _ _
 ·exact⟨rfl,rfl,rfl,rfl⟩
theorem B1D:∀ (l:List (Int × Res)) (L:Lk),(B8 L l).1.H=L.H/\(B8 L l).1.id=L.id/\(B8 L l).1.r=L.r/\(B8 L l).1.til=L.til
 | [],L=>⟨rfl,rfl,rfl,rfl⟩
 | (a,b)::t,L=>by obtain⟨a1,a2,a3,a4⟩:=B7D L a b;obtain⟨b1,b2,b3,b4⟩:=B1D t (toldL L a b).1;exact⟨b1.trans a1,b2.trans a2,b3.trans a3,b4.trans a4⟩
theorem LkO.open {g:Lg} {L:Lk} {A:Option Addr} {cA:Nat} {D:Option Addr} {cD:Nat} {css:List (List Value)} {K:Kn} {n0:Nat} {S:Nat->Prop} {w:World} (h:Vc.Sep n0 K (LkO g L A cA D cD css) S w):Vc.Sep n0 (Vc.Sep 0 K (HdK g.gl 85 (liC L g.gs A cA D cD) (LiR L A cA D cD css))) (ShelfK g.gs g.gj g.gc g.b L.H) S w:=by obtain⟨S1,Sa,h1,h2,h3,h4⟩:=h;exact Vc.Sep.inner ⟨S1,Sa,h1,h2,h3,ObjK.sep yf h4⟩
theorem A2O (g:Lg) (L:Lk) (hL:L.H.Ok) (hd:L.done.length<=900000) (now:Int) (Sx:Nat->Prop) (w:World) (hlt:∀ x,Sx x->x<w.heap.size) (he:EnvFree Sx w) (hK:LinkK g L Sx w):
  Calls Tryz.prog 95 #[.pointer (some ⟨g.gl,0,none⟩),.int .i64 now] w (RetWL Sx w (LinkK g (K6 L).1) (K6 L).2):=by
 have hko:=hL.k;have hseq:B3 L.H.k.seq:=by have h1:=hko.seq;have h2:=hko.len;have h3:=(C5.1 hko.may).1;have hm:E3=1099511627776:=rfl;unfold Known.seq B3;omega
 obtain⟨cm,hcm⟩:∃ c,c=E2 L.H L.H.k.seq:=⟨_,rfl⟩;obtain⟨L1,hL1⟩:∃ L1:Lk,L1={ L with H:=cm.1 }:=⟨_,rfl⟩;obtain⟨z,hz⟩:∃ z,z=(L.H.k.pend.map fun d=>d.req).zip cm.2.1:=⟨_,rfl⟩;obtain⟨A,cA,D,cD,css,hB⟩:=hK.seen;have hO1:∀ S w,LkO g { L with H:=cm.1 } A cA D cD css S w->LkO g L1 A cA D cD css S w:=by rw [hL1];exact fun S w h=>h
 have hB1:∀ w,Blk w g.gl 85 (liC L1 g.gs A cA D cD)->Blk w g.gl 85 (liC L g.gs A cA D cD):=by rw [hL1];exact fun w h=>h
 have hlen:cm.2.1.length<=L.H.k.pend.length:=by
  rw [hcm];unfold E2
  repeat' split
  all_goals first | exact zb _ | (rw [(A3F _ _).1];exact Nat.min_le_right _ _)
 have hzl:z.length=cm.2.1.length:=by rw [hz,List.length_zip,zj];omega
 have hd1:L1.done.length=L.done.length:=by rw [hL1]
 have hres:K6 L=B8 L1 z:=by rw [hL1,hz,hcm];rfl
 rw [hres];have hpl:=hko.len;have hc:=CtxF.enterO hlt hB (LkO.stab g L A cA D cD css);refine A2E lay_ok Tryz.func95 rfl (by kernel_rfl) (by kernel_rfl) ?_;refine SemC.cut lay_ok (fun (y:Option Addr × Nat × Option Addr × Nat)=>[(0,.pointer (some ⟨g.gl,0,none⟩)),(1,.int .i64 now),(5,.slice y.1 L.H.k.pend.length y.2.1),(6,.slice y.2.2.1 cm.2.1.length y.2.2.2)]) (fun y w'=>∃ S,CtxF no (bare w) S w' [] [⟨45,8,y.1,L.H.k.pend.length,y.2.1,(L.H.k.pend.map dC).flatten⟩] (Vc.Sep 0 (fun S w'=>Keep w Sx S w'/\Row S w' y.2.2.1 cm.2.1.length y.2.2.2 (cm.2.1.map X8).flatten) (LinkK g L1))) 2 (by kernel_rfl) ?_ ?_
 ·skip
  refine⟨_,(hc.row.right (LkO.stab g L A cA D cD css)).2.1.cell 1,?_⟩;refine⟨(A1R g.gs g.gj g.gc g.b L.H hL _ _ (hc.row.right (LkO.stab g L A cA D cD css)).link.shelf).mono fun en wq hq=>?_⟩;obtain⟨A5,c5,e1,hb,ho⟩:=hq;have hc:=hc.fresh hb ho;refine⟨_,e1,?_⟩;refine vD (.Q [0,1,2,3,4,5,6,7] (.n 8 (.n 9 (.Q [10,11,12,13,14] .fin) .stop) .stop)) (fun z=>Blk z g.gl 85 (liC L g.gs A cA D cD)) ((hc.row.right (LkO.stab g L A cA D cD css)).2.1) ?_;have hc:=hc.drew;refine⟨.pointer (some ⟨g.gs,0,none⟩),fun z hz=>(Blk.cell hz 1).trans rfl,?_⟩;refine⟨.pointer (some ⟨g.gs,0,none⟩),fun z hz=>(Blk.cell hz 1).trans rfl,?_⟩;refine⟨hc.q (A0o g.gs g.gj g.gc g.b L.H hL _ _ (hc.row.right (LkO.stab g L A cA D cD css)).link.shelf) fun wQ hQ hc=>?_,trivial⟩;refine⟨((hc.row.right (LkO.stab g L A cA D cD css)).2.1),?_⟩;refine⟨?_,trivial⟩;have hc:=hc.now (X:=Vc.Sep 0 (Vc.Sep 0 (Keep w Sx) (HdK g.gl 85 (liC L g.gs A cA D cD) (LiR L A cA D cD css))) (ShelfK g.gs g.gj g.gc g.b L.H)) (fun h=>LkO.open h) (Vc.Sep.stab (Vc.Sep.stab y8 (HdK.stab yf)) ye);obtain⟨S1,Sa,h1,h2,h3,hO⟩:=hc.row;have hen:=A8l hc h1 (h3.left (Keep.stab w Sx)) he;refine⟨(A2J g.gs g.gj g.gc g.b L.H hL L.H.k.seq hseq Sa _ (fun x hx=>hc.ctx.lt x (h2 x hx).1) hen hO).mono fun en wq hq=>?_⟩;rw [<-hcm] at hq;obtain⟨A9,c9,e1,hT,Sn,Sl,hSn,hO,hSl,hX⟩:=hq;have hc:=hc.turnO (O':=Vc.Sep 0 (fun S w=>Row S w A9 cm.2.1.length c9 (cm.2.1.map X8).flatten) (ShelfK g.gs g.gj g.gc g.b cm.1)) (Vc.Sep.stab y8 (HdK.stab yf)) h1 h2 h3 hT (Sn:=fun y=>Sn y\/Sl y) (fun y hy=>hy.elim (hSn y) fun h=>⟨.inr (hSl y h).1,(hSl y h).2.1⟩) ⟨Sl,Sn,fun y hy=>⟨.inr hy,(hSl y hy).2.2⟩,fun y hy=>⟨.inl hy,zb _⟩,hX,hO⟩ (Vc.Sep.stab row_stab ye);have hc:=hc.now (X:=Vc.Sep 0 (fun S w'=>Keep w Sx S w'/\Row S w' A9 cm.2.1.length c9 (cm.2.1.map X8).flatten) (LkO g L1 A cA D cD css)) (fun h=>Vc.Sep.assoc y8 row_stab ((Vc.Sep.outer h).mono (fun _ h=>h) fun _ h=>(Vc.Sep.swapIn h).mono (fun _ h=>h) fun _ h=>hO1 _ _ (Vc.Sep.obj h))) (Vc.Sep.stab (y8.and row_stab) yh);refine⟨_,e1,hB1 _ (hc.row.right (LkO.stab g L1 A cA D cD css)).2.1,?_⟩;exact⟨(A5,c5,A9,c9),⟨rfl,rfl,rfl,rfl,trivial⟩,_,hc.now (fun h=>h.mono (fun _ h=>h) fun _ h=>LkO.link h) (Vc.Sep.stab (y8.and row_stab) yg)⟩
 clear hc;rintro⟨A5,c5,A9,c9⟩ u w1 ⟨S,hc⟩;refine SemC.vc lay_ok ?_;have hc:=hc.nil 43 21;have hc:=hc.now (X:=Vc.Sep 0 (fun S w'=>Keep w Sx S w'/\(Row S w' A9 cm.2.1.length c9 (cm.2.1.map X8).flatten/\Fresh w Sx (WsR [] []) S w')) (LinkK g L1)) (fun h=>h.mono (fun _ h=>⟨h.1,h.2,Fresh.none rfl⟩) fun _ h=>h) (Vc.Sep.stab (y8.and (row_stab.and (Fresh.stab (WsR.stab _ _)))) yg);have hf0:B8 L1 (z.take 0)=(L1,[]):=by rw [List.take_zero];rfl
 refine⟨Nat × Option Addr × Nat,fun (i,A8,c8)=>[(0,.pointer (some ⟨g.gl,0,none⟩)),(1,.int .i64 now),(5,.slice A5 L.H.k.pend.length c5),(8,.slice A8 (B8 L1 (z.take i)).2.length c8),(29,.slice A9 cm.2.1.length c9),(30,.int .i64 (cm.2.1.length:Int)),(31,.int .i64 (i:Int))],
  fun (i,A8,c8) w'=>i<=cm.2.1.length/\∃ css8 S,CtxF no (bare w) S w' [] [orW (B8 L1 (z.take i)).2 A8 c8 css8,⟨45,8,A5,L.H.k.pend.length,c5,(L.H.k.pend.map dC).flatten⟩] (Vc.Sep 0 (fun S w'=>Keep w Sx S w'/\(Row S w' A9 cm.2.1.length c9 (cm.2.1.map X8).flatten/\Fresh w Sx (WsR (B8 L1 (z.take i)).2 css8) S w')) (LinkK g (B8 L1 (z.take i)).1)),
  fun (i,_) _=>cm.2.1.length-i,(0,none,0),⟨rfl,rfl,rfl,rfl,rfl,rfl,rfl,trivial⟩,⟨zb _,[],_,hc⟩,?_⟩
 clear hc;rintro⟨i,A8,c8⟩ w1 u ⟨hi,css8,S,hc⟩;have hf:=A5Z (z.take i) L1;rw [zf] at hf;by_cases hil:i<cm.2.1.length;rotate_left
 ·refine df (by omega) ?_;have ez:z.take i=z:=List.take_of_length_le (by omega);have hend:=(hc.now (X:=Vc.Sep 0 (fun S w'=>Keep w Sx S w'/\Fresh w Sx (WsR (B8 L1 (z.take i)).2 css8) S w') (LinkK g (B8 L1 (z.take i)).1)) (fun h=>h.mono (fun _ h=>⟨h.1,h.2.2⟩) fun _ h=>h) (Vc.Sep.stab (y8.and (Fresh.stab (WsR.stab _ _))) yg)).endW;have hend2:RetWL Sx w (LinkK g (B8 L1 z).1) (B8 L1 z).2 (.returned (.slice A8 (B8 L1 (z.take i)).2.length c8)) w1:=by rw [ez] at hend ⊢;exact hend
  exact hend2
 refine dt (by omega) ?_;have sR:Stab (fun S w'=>Keep w Sx S w'/\(Row S w' A9 cm.2.1.length c9 (cm.2.1.map X8).flatten/\Fresh w Sx (WsR (B8 L1 (z.take i)).2 css8) S w')):=y8.and (row_stab.and (Fresh.stab (WsR.stab _ _)));have sR2:Stab (fun S w'=>Row S w' A9 cm.2.1.length c9 (cm.2.1.map X8).flatten/\Fresh w Sx (WsR (B8 L1 (z.take i)).2 css8) S w'):=row_stab.and (Fresh.stab (WsR.stab _ _));obtain⟨ad9,hA9,hcell⟩:=RowR8.elem (hc.row.left sR).2.1 i hil;subst hA9;obtain⟨r,hr⟩:∃ r,r=cm.2.1[i]:=⟨_,rfl⟩;have hip:i<L.H.k.pend.length:=by omega
 obtain⟨d,hdd⟩:∃ d,d=L.H.k.pend[i]:=⟨_,rfl⟩;rw [<-hr] at hcell;have hzi:z.take (i+1)=z.take i++[(d.req,r)]:=by
  rw [List.take_add_one,List.getElem?_eq_getElem (by omega)];have:z[i]'(by omega)=(d.req,r):=by simp only [hz,List.getElem_zip,List.getElem_map,hr,hdd]
  rw [this];rfl
 refine⟨⟨by omega,by omega⟩,?_⟩;refine⟨X8 r,rfl,by rw [zh];exact hcell,?_⟩;refine hc.n fun g10 wg10 hg10 hc=>?_;refine hc.s 0 rfl fun wS hS hc=>?_;have hc:CtxF no (bare w) _ _ [(g10,36,X8 r)] _ _:=hc;obtain⟨A5',hA5,hd5⟩:∃ a,A5=some a/\Go.Vc.cellsAt wS (a.add (i*8)) (dC d) 0:=by obtain⟨S9,hrow⟩:=W7 hc.rest;obtain⟨a,e,h⟩:=RowD8.elem hrow i hip;exact⟨a,e,hdd▸h⟩
 subst hA5;obtain⟨b5,rfl⟩:∃ b,A5'=⟨b,0,none⟩:=⟨_,hc.rest.fst.za _ rfl⟩;have hd6:wS.cell? ⟨b5,i*8+6,none⟩=some (.int .i64 d.req):=by
  have h:=cells_of (dC d) 0 hd5 6 (.int .i64 d.req) rfl;rw [Addr.add_lit,Addr.add_lit] at h;have e:0+i*8+(0+6)=i*8+6:=by omega
  rw [e] at h;exact h
 refine vD (.Q [0,1,2,3,4,5,8] (.n 6 (.n 7 (.n 9 (.n 10 (.q 11 .fin) .stop) .stop) .stop) (.n 7 (.n 6 (.n 9 (.n 10 (.q 11 .fin) .stop) .stop) .stop) .stop))) (fun _=>True) trivial ?_;have hc:=hc.drew;refine⟨⟨by omega,by omega⟩,?_⟩;generalize hae:((⟨b5,0,none⟩:Addr).add ((i:Int).toNat*8))=ae;have hae:(⟨b5,i*8,none⟩:Addr)=ae:=by rw [<-hae,Addr.add_lit,zm,zh]
 subst hae;refine⟨?_,?_⟩
 ·skip
  refine⟨.int .i64 d.req,hd6,trivial,?_⟩;refine⟨⟨X8 r,rfl,hc.cells 0 rfl,trivial,?_⟩,trivial⟩;refine⟨?_,trivial⟩;obtain⟨S1,Sa,h1,h2,h3,hO⟩:=hc.row;refine⟨(A5Y g _ (by omega) d.req r Sa now _ (fun x hx=>hc.ctx.lt x (h2 x hx).1) hO).mono fun en wq hq=>?_⟩;obtain⟨A3,c3,css3,N3,Sn,e1,hT,hSn,hO,hr3,hW,hN,hA⟩:=hq;obtain⟨S',hc⟩:=hc.turnB sR2 h1 h2 h3 hT hSn hO yg hr3 hW hN hA;refine⟨_,e1,trivial,?_⟩;refine⟨?_,trivial⟩;obtain⟨S8,hrow⟩:=W7 hc;have hf3:Flat 21 css3:=hW.flat;have hl3:css3.length=(toldL (B8 L1 (z.take i)).1 d.req r).2.length:=hW.len;have ho1:=A37 (B8 L1 (z.take i)).1 d.req r;have ho2:=A0V (z.take i) L1;rw [zf] at ho2;refine A1O Tryz.underlying32 B9Z rfl (by decide) hc.swap hrow (by rw [hf3.len,hl3]) hf3.ones (by omega) (by decide) rfl rfl ?_;intro A4 c4 w4 hc;have hc:=hc.swap.rest;refine⟨trivial,?_⟩;have et:B8 L1 (z.take (i+1))=((toldL (B8 L1 (z.take i)).1 d.req r).1,(B8 L1 (z.take i)).2++(toldL (B8 L1 (z.take i)).1 d.req r).2):=by rw [hzi,Z3]
  have hn:(B8 L1 (z.take (i+1))).2.length=(B8 L1 (z.take i)).2.length+(toldL (B8 L1 (z.take i)).1 d.req r).2.length:=by rw [et];exact z6
  have hc:=hc.drop.castOs (os':=[orW (B8 L1 (z.take (i+1))).2 A4 c4 (css8++css3),⟨45,8,some ⟨b5,0,none⟩,L.H.k.pend.length,c5,(L.H.k.pend.map dC).flatten⟩]) (by unfold orW;rw [hn,zr]);have hc:=hc.now (X:=Vc.Sep 0 (fun S w'=>Keep w Sx S w'/\(Row S w' (some ad9) cm.2.1.length c9 (cm.2.1.map X8).flatten/\Fresh w Sx (WsR (B8 L1 (z.take (i+1))).2 (css8++css3)) S w')) (LinkK g (B8 L1 (z.take (i+1))).1)) (fun h=>by rw [et];exact h.mono (fun _ h=>⟨h.1,h.2.1.1,Fresh.both (WsR.stab _ _) (WsR.stab _ _) h.2.1.2 h.2.2 fun _ a b=>WsR.append a b⟩) fun _ h=>h) (Vc.Sep.stab (y8.and (row_stab.and (Fresh.stab (WsR.stab _ _)))) yg);exact⟨(i+1,A4,c4),⟨rfl,rfl,rfl,y5 (fun n=>Value.slice A4 n c4) hn.symm,rfl,rfl,y5 _ (C3 (by omega)),trivial⟩,⟨hil,css8++css3,_,hc⟩,by show cm.2.1.length-(i+1)<cm.2.1.length-i;omega⟩
 refine⟨⟨X8 r,rfl,hc.cells 0 rfl,trivial,?_⟩,trivial⟩;refine⟨⟨.int .i64 d.req,hd6,trivial,?_⟩,trivial⟩;refine⟨?_,trivial⟩;obtain⟨S1,Sa,h1,h2,h3,hO⟩:=hc.row;refine⟨(A5Y g _ (by omega) d.req r Sa now _ (fun x hx=>hc.ctx.lt x (h2 x hx).1) hO).mono fun en wq hq=>?_⟩;obtain⟨A3,c3,css3,N3,Sn,e1,hT,hSn,hO,hr3,hW,hN,hA⟩:=hq;obtain⟨S',hc⟩:=hc.turnB sR2 h1 h2 h3 hT hSn hO yg hr3 hW hN hA;refine⟨_,e1,trivial,?_⟩;refine⟨?_,trivial⟩;obtain⟨S8,hrow⟩:=W7 hc;have hf3:Flat 21 css3:=hW.flat;have hl3:css3.length=(toldL (B8 L1 (z.take i)).1 d.req r).2.length:=hW.len;have ho1:=A37 (B8 L1 (z.take i)).1 d.req r;have ho2:=A0V (z.take i) L1;rw [zf] at ho2;refine A1O Tryz.underlying32 B9Z rfl (by decide) hc.swap hrow (by rw [hf3.len,hl3]) hf3.ones (by omega) (by decide) rfl rfl ?_;intro A4 c4 w4 hc;have hc:=hc.swap.rest;refine⟨trivial,?_⟩;have et:B8 L1 (z.take (i+1))=((toldL (B8 L1 (z.take i)).1 d.req r).1,(B8 L1 (z.take i)).2++(toldL (B8 L1 (z.take i)).1 d.req r).2):=by rw [hzi,Z3]
 have hn:(B8 L1 (z.take (i+1))).2.length=(B8 L1 (z.take i)).2.length+(toldL (B8 L1 (z.take i)).1 d.req r).2.length:=by rw [et];exact z6
 have hc:=hc.drop.castOs (os':=[orW (B8 L1 (z.take (i+1))).2 A4 c4 (css8++css3),⟨45,8,some ⟨b5,0,none⟩,L.H.k.pend.length,c5,(L.H.k.pend.map dC).flatten⟩]) (by unfold orW;rw [hn,zr]);have hc:=hc.now (X:=Vc.Sep 0 (fun S w'=>Keep w Sx S w'/\(Row S w' (some ad9) cm.2.1.length c9 (cm.2.1.map X8).flatten/\Fresh w Sx (WsR (B8 L1 (z.take (i+1))).2 (css8++css3)) S w')) (LinkK g (B8 L1 (z.take (i+1))).1)) (fun h=>by rw [et];exact h.mono (fun _ h=>⟨h.1,h.2.1.1,Fresh.both (WsR.stab _ _) (WsR.stab _ _) h.2.1.2 h.2.2 fun _ a b=>WsR.append a b⟩) fun _ h=>h) (Vc.Sep.stab (y8.and (row_stab.and (Fresh.stab (WsR.stab _ _)))) yg);exact⟨(i+1,A4,c4),⟨rfl,rfl,rfl,y5 (fun n=>Value.slice A4 n c4) hn.symm,rfl,rfl,y5 _ (C3 (by omega)),trivial⟩,⟨hil,css8++css3,_,hc⟩,by show cm.2.1.length-(i+1)<cm.2.1.length-i;omega⟩
def toW (v:Wd) (n:Int):Wd:={ v with to:=n }
def RetAh (L:Lk) (v:Wd) (x:WX) (w:World) (en:Ending) (w':World):Prop:=∃ A c css,en=.returned (.slice A (E4 L v).length c)/\Below w.heap.size w w'/\w'.ownsRow w.heap.size 43 21 (.slice A (E4 L v).length c) (E4 L v).length css.flatten/\((E4 L v=[]/\css=[])\/(E4 L v=[A1G L (toW v (V7 L))]/\css=[wdC (A1G L (toW v (V7 L))) x]))
theorem A0W (g:Lg) (L:Lk) (hL:L.Ok) (v:Wd) (x:WX) (S:Nat->Prop) (w:World) (hlt:∀ x,S x->x<w.heap.size) (hK:LinkK g L S w):
  Calls Tryz.prog 58 #[.pointer (some ⟨g.gl,0,none⟩),.agg (wdC v x).toArray] w (RetAh L v x w):=by
 obtain⟨A,cA,D,cD,css,hB⟩:=hK.seen;obtain⟨f,hf⟩:∃ f,f=V7 L:=⟨_,rfl⟩;have hro:=fun w (h:RosR L.r A cA S w)=>A3C L.id h;rw [show A04 L.r.l L.id=f from hf.symm] at hro;refine vE Tryz.func58 ?_;have hc:=CtxF.start w S hlt (R:=LkO g L A cA D cD css) hB yh;refine hc.n fun g3 wg3 hg3 hc=>?_;refine vD (.Q [0,1,2,3,4,5,6,7] (.n 8 (.q 9 (.z 10)) .stop)) (fun z=>Blk z g.gl 85 (liC L g.gs A cA D cD)) (hc.row.2.1) ?_;have hc:=hc.drew;refine⟨R9 L.r A cA,rfl,fun z hz=>Blk.part hz 2 (R9 L.r A cA) rfl,?_⟩;refine⟨.int .i64 L.id,fun z hz=>(Blk.cell hz 0).trans rfl,?_⟩;refine⟨hc.q (hro _ hc.row.ros) fun wQ hQ hc=>?_,trivial⟩;refine⟨(hc.row.2.1),?_⟩;refine hc.s 0 rfl fun wS hS hc=>?_;have hc:=I9 hc (l':=[(g3,43,wdC (toW v f) x)]) (by kernel_rfl);refine hc.c 0 rfl rfl ?_;by_cases h0:f=0
 ·refine B0 (by show (f==0)=true;rw [h0];rfl) ?_;have e:E4 L v=[]:=by unfold E4;rw [y6 (by rw [<-hf];exact h0)]
  unfold RetAh;rw [e];exact⟨none,0,[],rfl,hc.below,World.ownsRow_nil ..,.inl ⟨rfl,rfl⟩⟩
 refine C3X (by show (f==0)=false;rw [y4];exact h0) ?_;refine⟨wdC (toW v f) x,rfl,hc.cells 0 rfl,?_⟩;have hne:(toW v f).to≠L.id:=by rw [show (toW v f).to=f from rfl,hf];exact hL.front
 refine⟨(A35 g L (toW v f) x hne 0 _ _ hc.ctx.lt hc.row.link).mono fun en wq hq=>?_⟩;obtain⟨A3,c3,e1,hb,ho⟩:=hq;have ho:=ho;have hsz:=hc.below.size;have hbb:=hc.below.trans (hb.mono hsz);refine⟨_,e1,?_⟩;have e:E4 L v=[A1G L (toW v f)]:=by unfold E4;rw [y7 (by rw [<-hf];exact h0),<-hf];rfl
 unfold RetAh;rw [e,<-hf];exact⟨A3,c3,[wdC (A1G L (toW v f)) x],rfl,hbb,by rw [List.flatten_singleton];exact W8 ho fun a ha=>zo hsz (by rw [ha] at ho;exact (ho.lt a.block rfl).1),.inr ⟨rfl,rfl⟩⟩
def RetWq (ws:List Wd) (w:World) (en:Ending) (w':World):Prop:=∃ (A:Option Addr) (c:Nat) (css:List (List Value)) (N:Nat->Prop),en=.returned (.slice A ws.length c)/\Below w.heap.size w w'/\w'.ownsRow w.heap.size 43 21 (.slice A ws.length c) ws.length css.flatten/\WsR ws css N w'/\(∀ y,N y->w.heap.size<=y/\y<w'.heap.size)/\(∀ a,A=some a->¬ N a.block)
theorem RetWq.turn {ws:List Wd} {w w':World} {en:Ending} {g:Lg} {L:Lk} {Sx:Nat->Prop} (h:RetWq ws w en w') (hK:LinkK g L Sx w) (hlt:∀ x,Sx x->x<w.heap.size):RetWL Sx w (LinkK g L) ws en w':=by obtain⟨A,c,css,N,e,hb,ho,hW,hN,hA⟩:=h;exact RetWL.quiet e hb ho hW hN hA (hK.later hlt hb) hlt
theorem RetAh.quiet {L:Lk} {v:Wd} {x:WX} {w w':World} {en:Ending} (h:RetAh L v x w en w') (hth:Thin v) (hR:∀ S w,WdR v x S w):RetWq (E4 L v) w en w':=by
 obtain⟨A,c,css,e,hb,ho,hs⟩:=h;refine⟨A,c,css,no,e,hb,ho,?_,fun y h=>h.elim,fun a ha h=>h⟩;rcases hs with ⟨h1,h2⟩ | ⟨h1,h2⟩
 ·rw [h1,h2];rfl
 ·rw [h1,h2];exact⟨x,[],rfl,hR _ _,rfl⟩
theorem _root_.Go.Vc.CtxF.toldN {S0 S:Nat->Prop} {w0 w:World} {l:List LB} {o:OR} {os:List OR} {R:Kn} (hc:CtxF S0 w0 S w l (o::os) R):∃ S',CtxF S0 w0 S' w l os (fun S w=>R S w/\Fresh w0 no (fun S w=>Row S w o.A o.n o.cap o.xs) S w):=by
 obtain⟨S',hs,hc2⟩:=hc.told;have hlt:=fun a (ha:o.A=some a)=>hc.fst.lt ha;refine⟨S',hc2.now (fun h=>⟨h.1,fun x=>S' x/\∃ a,o.A=some a/\a.block=x,fun y hy=>⟨hy.1,.inr ?_⟩,h.2.1,h.2.2.1,fun hx=>?_⟩) (hc.stab.and (Fresh.stab fun _ _ _ _ h f=>h.fut f))⟩
 ·obtain⟨_,a,ha,rfl⟩:=hy;exact (hlt a ha).1
 ·obtain⟨ad,e,hsa,hcl⟩:=h.2.2.2 hx;exact⟨ad,e,⟨hsa,ad,e,rfl⟩,hcl⟩
def pB (A5:Option Addr) (c5:Nat) (m:Int):Option Addr:=if ((((c5:Int)-m).toNat:Nat):Int)=0 then (if (c5:Int)=m then A5 else A5.map (·.add (m.toNat*8))) else (if (c5:Int)=m then A5 else A5.map (·.add (m.toNat*8))).map (·.add ((0:Int).toNat*8))
def pC (c5:Nat) (m:Int):Nat:=(((((c5:Int)-m).toNat:Nat):Int)-0).toNat
def pN (n:Nat) (m:Int):Nat:=((if (6:Int)<((((n:Int)-m).toNat:Nat):Int) then (6:Int) else ((((n:Int)-m).toNat:Nat):Int))-0).toNat
theorem B3M {S:Nat->Prop} {w:World} {A5:Option Addr} {c5 k:Nat} {l:List D} (hk:k<=l.length) (h:Row S w A5 l.length c5 (l.map dC).flatten) (m:Int) (hm:m=(k:Int)):Row S w (pB A5 c5 m) ((l.drop k).take 6).length (pC c5 m) (((l.drop k).take 6).map dC).flatten:=by
 subst hm;have h1:=RowD8.sub h k hk;have h2:=Row.front h1 8 (k:=((l.drop k).take 6).length) (by rw [zf];omega);have e1:((l.drop k).map dC).flatten.take (((l.drop k).take 6).length*8)=(((l.drop k).take 6).map dC).flatten:=by rw [<-(V4 _).flat_take,<-List.map_take];congr 2;rw [zf];exact List.take_eq_take_iff.2 (by omega)
 rw [e1] at h2;have e2:pB A5 c5 (k:Int)=if (c5:Int)=(k:Int) then A5 else A5.map (·.add ((k:Int).toNat*8)):=W2 _ _ _
 have e3:pC c5 (k:Int)=c5-k:=by unfold pC;omega
 rw [e2,e3];exact h2
theorem A8o (g:Lg) (L:Lk) (hL:L.Ok) (q now:Int) (hq0:L.H.k.b.seq<=q) (hq1:q<=L.H.k.seq) (S:Nat->Prop) (w:World) (hlt:∀ x,S x->x<w.heap.size) (hK:LinkK g L S w):
  Calls Tryz.prog 60 #[.pointer (some ⟨g.gl,0,none⟩),.int .i64 q,.int .i64 now] w (RetWq (A31 L q) w):=by
 have hko:=hL.H.k;have hb0:=(C5.1 hko.may).1;have hsq:=hko.seq;have hpl:=hko.len;have hm:E3=1099511627776:=rfl;obtain⟨k,hk0⟩:∃ k:Nat,q=L.H.k.b.seq+(k:Int):=⟨(q-L.H.k.b.seq).toNat,by omega⟩;have hkl:k<=L.H.k.pend.length:=by unfold Known.seq at hq1;omega
 have hw1:IntKind.i64.wrap (q-L.H.k.b.seq)=(k:Int):=by rw [IntWalk.i64_in _ ⟨by omega,by omega⟩];omega
 obtain⟨A,cA,D,cD,css,hB⟩:=hK.seen;obtain⟨f,hf⟩:∃ f,f=A1I L:=⟨_,rfl⟩;refine vE Tryz.func60 ?_;have hc:=CtxF.start w S hlt (R:=LkO g L A cA D cD css) hB yh;have hB0:=hc.row.2.1;have hr:=hc;refine vD (.Q [0,1,2,3,5,6,7,8,9] (.n 4 (.n 10 (.Q [11,12,13,14] .fin) .stop) .stop)) (Old _) (Old.start _) ?_;have hk:=hc.old0;have hc:=hc.drew;refine⟨_,fun z hz=>Keeps.look hz (hB0.cell 1),?_⟩;refine⟨_,fun z hz=>Keeps.look hz (hB0.cell 1),?_⟩;refine⟨⟨(A1R g.gs g.gj g.gc g.b L.H hL.H _ _ hc.row.link.shelf).mono fun en wq hq=>?_⟩,trivial⟩;obtain⟨A5,c5,e1,hb,ho⟩:=hq;have hc:=hc.fresh hb ho;have hk:=Keeps.below hk (fun _ h=>h) hb;refine⟨_,e1,hk,?_⟩;refine⟨⟨(A0S g.gs g.gj g.gc g.b L.H hL.H _ _ hc.row.link.shelf).mono fun en wq hq=>?_⟩,trivial⟩;obtain⟨cs,e1,hb,hrep⟩:=hq;obtain⟨y,rfl⟩:=hrep.stX;have hc:=(hc.quiet hb).1;have hk:=Keeps.below hk (fun _ h=>h) hb;refine⟨_,e1,hk,?_⟩;have hnc:L.H.k.pend.length<=c5:=hc.fst.fit.1;have hnc2:c5<=maxLen:=hc.fst.fit.2;refine⟨⟨by rw [hw1];omega,by rw [hw1];omega,by omega,by omega⟩,?_⟩;clear hk hr;obtain⟨S2,hc⟩:=hc.toldN;have hB1:=hc.row.1.2.1;have hr:=hc;refine vD (.Q [0,1,2,3,4,5,6,7,8,10,11,12,13,14,15,17] (.n 9 (.q 16 (.n 18 (.q 19 .fin) .stop)) .stop)) (Old _) (Old.start _) ?_;have hk:=hc.old0;have hc:=hc.drew;refine⟨R9 L.r A cA,rfl,fun z hz=>Old.looks hz (Blk.part hB1 2 (R9 L.r A cA) rfl),?_⟩;refine⟨_,fun z hz=>Keeps.look hz (hB1.cell 0),?_⟩;have hnx:=A5Q L.id hc.row.1.ros;rw [show A5O L.r.l L.id=f from hf.symm] at hnx;refine⟨⟨by omega,by omega,by omega,by omega⟩,?_⟩;refine⟨hc.q (hnx) fun wA hA hc=>?_,trivial⟩;have hk:=Keeps.below hk (fun _ h=>h) hA;refine⟨hk,?_⟩;have hne:(A2L L q).to≠L.id:=hL.next;have hdl:(A2L L q).deeds=(L.H.k.pend.drop k).take 6:=by show (L.H.k.pend.drop (q-L.H.k.b.seq).toNat).take 6=_;rw [show (q-L.H.k.b.seq).toNat=k by omega]
 have hpn:pN L.H.k.pend.length (IntKind.i64.wrap (q-L.H.k.b.seq))=(A2L L q).deeds.length:=by rw [hdl,zf,zg,hw1];unfold pN;split<;>omega
 have hrow:Fresh w no (WdR (A2L L q) ⟨none,0,pB A5 c5 (IntKind.i64.wrap (q-L.H.k.b.seq)),pC c5 (IntKind.i64.wrap (q-L.H.k.b.seq)),SX0⟩) _ wA:=hc.row.2.mono fun S h=>⟨⟨Ros0.rep _ _,by show Row S wA (pB A5 c5 (IntKind.i64.wrap (q-L.H.k.b.seq))) (A2L L q).deeds.length (pC c5 (IntKind.i64.wrap (q-L.H.k.b.seq))) ((A2L L q).deeds.map dC).flatten;rw [hdl];exact B3M hkl h _ hw1⟩,A15 _ _⟩;have zp:wdC (A2L L q) ⟨none,0,pB A5 c5 (IntKind.i64.wrap (q-L.H.k.b.seq)),pC c5 (IntKind.i64.wrap (q-L.H.k.b.seq)),SX0⟩=[.int .i64 4,.int .i64 0,.int .i64 f,.int .i64 0,.int .i64 q,.int .i64 0,.int .i64 0,.int .i64 0,.int .i64 0,.int .i64 0,.slice none 0 0,.int .i64 0,.slice (pB A5 c5 (IntKind.i64.wrap (q-L.H.k.b.seq))) (pN L.H.k.pend.length (IntKind.i64.wrap (q-L.H.k.b.seq))) (pC c5 (IntKind.i64.wrap (q-L.H.k.b.seq))),.int .i64 0,.slice none 0 0,.slice none 0 0,.int .i64 0,.int .i64 0,.int .i64 0,.int .i64 0,.int .i64 0]:=by rw [hpn,hf];kernel_rfl
 have sw:=A35 g L (A2L L q) ⟨none,0,pB A5 c5 (IntKind.i64.wrap (q-L.H.k.b.seq)),pC c5 (IntKind.i64.wrap (q-L.H.k.b.seq)),SX0⟩ hne now _ _ hc.ctx.lt hc.row.1.link;rw [zp] at sw;refine⟨⟨sw.mono fun en wq hq=>?_⟩,trivial⟩;obtain⟨A3,c3,e1,hb3,ho3⟩:=hq;have hsz:=hc.below.size;have hbb:=hc.below.trans (hb3.mono hsz);have hk:=Keeps.below hk (fun _ h=>h) hb3;refine⟨_,e1,hk,?_⟩;obtain⟨Sl,k1,k2⟩:=hrow;refine⟨A3,c3,[wdC (A1G L (A2L L q)) ⟨none,0,pB A5 c5 (IntKind.i64.wrap (q-L.H.k.b.seq)),pC c5 (IntKind.i64.wrap (q-L.H.k.b.seq)),SX0⟩],Sl,rfl,hbb,?_,⟨_,[],rfl,WdR.below (v:=A2L L q) k2 ?_,rfl⟩,fun y hy=>⟨(k1 y hy).2.resolve_left id,?_⟩,fun a ha hn=>?_⟩
 ·rw [List.flatten_singleton];exact W8 ho3 fun a ha=>zo hsz (by rw [ha] at ho3;exact (ho3.lt a.block rfl).1)
 ·exact hb3
 ·exact Nat.lt_of_lt_of_le (hc.ctx.lt y (k1 y hy).1) hb3.size
 ·rw [ha] at ho3;have h1:=(ho3.lt a.block rfl).1;have h2:=hc.ctx.lt _ (k1 _ hn).1;omega
def C4B (g:Lg) (now:Int) (L:Lk):Prop:=A1H L=true->∀ (Sx:Nat->Prop) (w:World),(∀ x,Sx x->x<w.heap.size)->EnvFree Sx w->LinkK g L Sx w->Calls Tryz.prog 95 #[.pointer (some ⟨g.gl,0,none⟩),.int .i64 now] w (RetWL Sx w (LinkK g (K6 L).1) (K6 L).2)
def C4C (g:Lg) (now:Int) (L:Lk):Prop:=∀ L':Lk,L'.id=L.id->L'.r=L.r->L'.H.Ok->L'.done.length<=900000->C4B g now L'
theorem C4D {g:Lg} {now:Int} {L:Lk} (h:A1H L=false):C4C g now L:=fun L' h1 h2 _ _ ht=>by unfold A1H at h ht;rw [h1,h2,h] at ht;cases ht
theorem B7E (g:Lg) (L:Lk) (hL:L.Ok) (hd:L.done.length<=900000) (q now:Int) (hcm:C4B g now L) (hq0:L.H.k.b.seq<=q) (hq1:q<=L.H.k.seq) (Sx:Nat->Prop) (w:World) (hlt:∀ x,Sx x->x<w.heap.size) (he:EnvFree Sx w) (hK:LinkK g L Sx w):
  Calls Tryz.prog 164 #[.pointer (some ⟨g.gl,0,none⟩),.int .i64 q,.int .i64 now] w (RetWL Sx w (LinkK g (onL L q).1) (onL L q).2):=by
 have hT:=A34 g L Sx w hK;refine vE Tryz.func164 ?_;have hc:=CtxF.enterO hlt hK (LinkK.stab g L);cases ht:A1H L with
 | true=>
  have e:onL L q=K6 L:=y6 ht;rw [e];rw [ht] at hT;refine hc.q (hT) fun wQ hQ hc=>?_;obtain⟨S1,Sa,h1,h2,h3,hO⟩:=hc.row;have hen:=A8l hc h1 h3 he;refine⟨((fun Sa w hlt hen hO=>hcm ht Sa w hlt hen hO) Sa _ (fun x hx=>hc.ctx.lt x (h2 x hx).1) hen hO).mono fun en wq hq=>?_⟩;have hq0:=hq;obtain⟨A3,c3,css3,N3,Sn,e1,_⟩:=hq0;refine⟨_,e1,?_⟩;rw [e1] at hq;exact hc.tailW0 yg h1 h3 hq
 | false=>
  have e:onL L q=(L,A31 L q):=y7 (by rw [ht];decide);rw [e];rw [ht] at hT;refine hc.q (hT) fun wQ hQ hc=>?_;obtain⟨S1,Sa,h1,h2,h3,hO⟩:=hc.row;have hen:=A8l hc h1 h3 he;refine⟨((fun Sa w hlt (hen:EnvFree Sa w) hO=>(A8o g L hL q now hq0 hq1 Sa w hlt hO).mono fun en w' h=>h.turn hO hlt) Sa _ (fun x hx=>hc.ctx.lt x (h2 x hx).1) hen hO).mono fun en wq hq=>?_⟩;have hq0:=hq;obtain⟨A3,c3,css3,N3,Sn,e1,_⟩:=hq0;refine⟨_,e1,?_⟩;rw [e1] at hq;exact hc.tailW0 yg h1 h3 hq
theorem C0W (p:D->Bool) (f:Nat) (a:Addr) (hfn:lay.fns f=true) (l:List D) (A:Option Addr) (cap:Nat) (S:Nat->Prop) (w:World) (hf:∀ (d:D) w',Below w.heap.size w w'->Calls Tryz.prog f #[.agg (dC d).toArray,.pointer (some a)] w' (C8 (.bool (p d)) w')) (hR:Row S w A l.length cap (l.map dC).flatten):
  Calls Tryz.prog 114 #[.slice A l.length cap,.func (.func f) #[] #[.pointer (some a)]] w (C8 (.int .i64 (B5A (l.findIdx? p))) w):=by
 refine vE Tryz.func114 ?_;have hM:l.length<=9223372036854775807:=zo hR.1 hR.2.1;refine⟨Nat,fun i=>[(0,.slice A l.length cap),(1,.func (.func f) #[] #[.pointer (some a)]),(7,.int .i64 l.length),(8,.int .i64 i)],
  fun i w'=>i<=l.length/\(∀ j (hj:j<l.length),j<i->p l[j]=false)/\Below w.heap.size w w',fun i _=>l.length-i,0,
  ⟨rfl,rfl,rfl,rfl,trivial⟩,⟨zb _,fun j hj h=>absurd h (Nat.not_lt_zero _),Below.refl _ _⟩,?_⟩
 rintro i w' u ⟨hi,he,hb⟩;by_cases hlt:i<l.length
 ·refine dt (by omega) ?_;obtain⟨ad,rfl,hcell⟩:=Row.elemF (hR.below hb) (by decide) (V4 _) i (by rw [zj];exact hlt);rw [List.getElem_map] at hcell;refine⟨⟨by omega,by omega⟩,?_⟩;refine⟨dC l[i],rfl,hcell,?_⟩;refine B26 (L:=lay) hfn ?_;refine B4 (hf l[i] w' hb) ?_;intro w2 h2;have hb2:=hb.trans (h2.mono hb.size);rcases Bool.eq_false_or_eq_true (p l[i]) with hv | hv
  ·refine B0 hv ?_;refine⟨?_,hb2⟩;rw [A16 p l i hlt hv he];rfl
  ·refine C3X hv ?_;refine⟨i+1,⟨rfl,rfl,rfl,y5 _ (C3 (by omega)),trivial⟩,⟨hlt,fun j hj h=>?_,hb2⟩,by show l.length-(i+1)<l.length-i;omega⟩;rcases Nat.lt_succ_iff_lt_or_eq.1 h with h | h
   ·exact he j hj h
   ·subst h;exact hv
 ·refine df (by omega) ?_;refine⟨?_,hb⟩;rw [A17 p l (fun j hj=>he j hj (by omega))];rfl
theorem B9j (p:D->Bool) (f:Nat) (a:Addr) (hfn:lay.fns f=true) (l:List D) (A:Option Addr) (cap:Nat) (S:Nat->Prop) (w:World) (hf:∀ (d:D) w',Below w.heap.size w w'->Calls Tryz.prog f #[.agg (dC d).toArray,.pointer (some a)] w' (C8 (.bool (p d)) w')) (hR:Row S w A l.length cap (l.map dC).flatten):
  Calls Tryz.prog 63 #[.slice A l.length cap,.func (.func f) #[] #[.pointer (some a)]] w (C8 (.bool (l.any p)) w):=by
 refine vE Tryz.func63 ?_;refine B4 (C0W p f a hfn l A cap S w hf hR) ?_;intro w2 h2;exact⟨B7 (A3m p l),h2⟩
theorem C0X (d0 d:D) (a:Addr) (w:World) (ha:w.cell? (a.add 6)=some (.int .i64 d0.req)):Calls Tryz.prog 163 #[.agg (dC d).toArray,.pointer (some a)] w (C8 (.bool (d.req==d0.req)) w):=by refine vE Tryz.func163 ?_;have hc:=CtxF.start w no (fun _ h=>h.elim) (R:=fun _ _=>True) trivial Stab.true;refine hc.n fun g2 wg2 hg2 hc=>?_;refine hc.c 0 rfl rfl ?_;refine⟨_,cell_later hc.below ha,?_⟩;exact⟨rfl,hc.below⟩
def C1X (key:ByteArray) (d:D):Bool:=D3 key ⟨#[]⟩||D3 d.key key
theorem C0Y (key:ByteArray) (d:D) (a:Addr) (w:World) (ha:w.cell? a=some (.string key)):Calls Tryz.prog 64 #[.agg (dC d).toArray,.pointer (some a)] w (C8 (.bool (C1X key d)) w):=by
 obtain⟨z,hz⟩:∃ z,z=C1X key d:=⟨_,rfl⟩;rw [<-hz];unfold C1X at hz;refine vE Tryz.func64 ?_;have hc:=CtxF.start w no (fun _ h=>h.elim) (R:=fun _ _=>True) trivial Stab.true;refine hc.n fun g2 wg2 hg2 hc=>?_;refine⟨_,cell_later hc.below ha,?_⟩;rcases Bool.eq_false_or_eq_true (D3 key ⟨#[]⟩) with h | h
 ·refine B0 h ?_;exact⟨B7 (by rw [hz,h];rfl),hc.below⟩
 ·refine C3X h ?_;refine hc.c 0 rfl rfl ?_;refine⟨_,cell_later hc.below ha,?_⟩;exact⟨B7 (by rw [hz,h];rfl),hc.below⟩
theorem B9k (g:Lg) (L:Lk) (hL:L.Ok) (key:ByteArray) (now:Int) (S:Nat->Prop) (w:World) (hlt:∀ x,S x->x<w.heap.size) (hK:LinkK g L S w):Calls Tryz.prog 27 #[.pointer (some ⟨g.gl,0,none⟩),.string key,.int .i64 now] w (C8 (.bool (readyL L key now)) w):=by
 obtain⟨A,cA,D,cD,css,hB⟩:=hK.seen;obtain⟨z,hz⟩:∃ z,z=readyL L key now:=⟨_,rfl⟩;rw [<-hz];unfold readyL at hz;refine vE Tryz.func27 ?_;have hc:=CtxF.start w S hlt (R:=LkO g L A cA D cD css) hB yh;refine hc.n fun g4 wg4 hg4 hc=>?_;have ha:=A0p g L now _ _ hc.row.link hc.ctx.lt;obtain⟨b1,e1⟩:∃ b,b=H6 L now:=⟨_,rfl⟩;rw [<-e1] at ha hz;refine hc.q (ha) fun wQ hQ hc=>?_;cases b1 with
 | false=>exact⟨B7 (by rw [hz];rfl),hc.below⟩
 | true=>
 rw [Bool.true_and] at hz;refine⟨_,hc.row.2.1.cell 1,?_⟩;refine⟨(A1R g.gs g.gj g.gc g.b L.H hL.H _ _ hc.row.link.shelf).mono fun en wq hq=>?_⟩;obtain⟨A5,c5,e1,hb,ho⟩:=hq;have hc:=hc.fresh hb ho;refine⟨_,e1,?_⟩;obtain⟨S9,hrow⟩:=W7 hc;have hcc:=hc.cell 0 rfl 0 (v:=.string key) rfl;refine hc.q (B9j (C1X key) 64 ⟨g4,0,none⟩ (by kernel_rfl) L.H.k.pend A5 c5 S9 _ (fun d w' hb=>C0Y key d ⟨g4,0,none⟩ w' (cell_later hb hcc)) hrow) fun wQ hQ hc=>?_;exact⟨B7 hz.symm,hc.below⟩
theorem B1E {H:Sh} {d:D} (h:H.Ok) (hd:d.Ok):(M8 H d).1.Ok:=by
 unfold M8;split
 ·exact h
 split
 ·rename_i hk;obtain⟨hm,hc⟩:=A7f hk;show (A07 H (.add d) true).Ok;unfold A07;split
  ·exact h.fell
  ·rename_i hr;exact h.write (r:=.add d) ⟨hm,hd⟩ hc true (by omega)
 ·exact h
theorem B3N {H:Sh} {d:D} (h:(M8 H d).2=0):(M8 H d).1.k=⟨H.k.b,H.k.pend++[d],H.k.ep,H.k.ln⟩:=by
 unfold M8 at h ⊢;split at h
 ·exact absurd h (by show ¬ ((7:Int)=0);decide)
 rename_i hdn;rw [y7 hdn];split at h
 ·rename_i hk;rw [y6 hk];have h:A9M H (.add d)=0:=h;show (A07 H (.add d) true).k=_;unfold A9M at h;unfold A07;split at h
  ·exact absurd h (by show ¬ ((7:Int)=0);decide)
  ·rename_i hr;rw [y7 hr];exact A2K _ _ _
 ·rename_i hk;exact absurd h hk
theorem C0Z (g:Lg) (L:Lk) (hL:L.Ok) (hd:L.done.length<=900000) (v:Wd) (hdk:∀ d∈v.deeds,d.Ok) (x:WX) (now:Int) (hcm0:C4C g now L) (Sx:Nat->Prop) (w:World) (hlt:∀ x,Sx x->x<w.heap.size) (he:EnvFree Sx w) (hK:LinkK g L Sx w)
  (Sv:Nat->Prop) (hvd:∀ y,Sv y->y<w.heap.size/\¬ Sx y) (hR:WdR v x Sv w):
  Calls Tryz.prog 99 #[.pointer (some ⟨g.gl,0,none⟩),.agg (wdC v x).toArray,.int .i64 now] w (RetWL Sx w (LinkK g (B09 L v).1) (B09 L v).2):=by
 obtain⟨A,cA,D,cD,css,hB⟩:=hK.seen;have sO:=fun L=>LkO.stab g L A cA D cD css;have fin:∀ {S:Nat->Prop} {w1:World} {l:List LB} {os:List OR},CtxF no (bare w) S w1 l os (Vc.Sep 0 (Keep w Sx) (LkO g L A cA D cD css))->RetWL Sx w (LinkK g L) [] (.returned (.slice none 0 0)) w1:=fun hc=>RetWL.nil ((hc.now (fun h=>h.mono (fun _ h=>h) fun _ h=>LkO.link h) (Vc.Sep.stab y8 yg)).endO _) rfl;have kept:∀ {S:Nat->Prop} {w1:World} {l:List LB} {os:List OR},CtxF no (bare w) S w1 l os (Vc.Sep 0 (Keep w Sx) (LkO g L A cA D cD css))->∃ Sk:Nat->Prop,WdR v x Sk w1:=fun hc=>by obtain⟨S1,So,h1,h2,h3,h4⟩:=hc.row;exact⟨S1,Keep.of h3 yb hR hvd⟩
 have hc:=CtxF.enterO hlt hB (sO L);obtain⟨z,hz⟩:∃ z,z=B09 L v:=⟨_,rfl⟩;rw [<-hz];unfold B09 at hz;by_cases hhd:B8J L.r.l=L.id;rotate_left
 ·rw [y6 hhd] at hz;subst hz;refine vE Tryz.func99 ?_;refine hc.n fun g4 wg4 hg4 hc=>?_;have hB1:=(hc.row.right (sO L)).2.1;have hr:=hc;refine vD (.Q [0,1,2,3,5,6,7,8] (.n 4 (.Q [9,10,11,12,13,14,15] .fin) .stop)) (Old _) (Old.start _) ?_;have hk:=hc.old0;have hc:=hc.drew;refine⟨R9 L.r A cA,rfl,fun z hz=>Old.looks hz (Blk.part hB1 2 (R9 L.r A cA) rfl),?_⟩;refine⟨_,fun z hz=>Keeps.look hz (hB1.cell 0),?_⟩;refine⟨hc.q (B9r (hc.row.right (sO L)).ros) fun wA hA hc=>?_,trivial⟩;have hk:=Keeps.below hk (fun _ h=>h) hA;refine⟨hk,?_⟩;refine B0 (by show (B8J L.r.l != L.id)=true;rw [bne_iff_ne];exact hhd) ?_;exact fin hc
 rw [y7 (fun h=>h hhd)] at hz;obtain⟨xA,xcA,xB,xcB,xy⟩:=x;by_cases hln:v.deeds.length=1;rotate_left
 ·have e:z=(L,[]):=by
   rw [hz];split
   ·rename_i h1;rw [h1] at hln;exact absurd rfl hln
   ·rfl
  subst e;refine vE Tryz.func99 ?_;refine hc.n fun g4 wg4 hg4 hc=>?_;have hB1:=(hc.row.right (sO L)).2.1;have hr:=hc;refine vD (.Q [0,1,2,3,5,6,7,8] (.n 4 (.Q [9,10,11,12,13,14,15] .fin) .stop)) (Old _) (Old.start _) ?_;have hk:=hc.old0;have hc:=hc.drew;refine⟨R9 L.r A cA,rfl,fun z hz=>Old.looks hz (Blk.part hB1 2 (R9 L.r A cA) rfl),?_⟩;refine⟨_,fun z hz=>Keeps.look hz (hB1.cell 0),?_⟩;refine⟨hc.q (B9r (hc.row.right (sO L)).ros) fun wA hA hc=>?_,trivial⟩;have hk:=Keeps.below hk (fun _ h=>h) hA;refine⟨hk,?_⟩;refine C3X (by show (B8J L.r.l != L.id)=false;rw [bne_eq_false_iff_eq];exact hhd) ?_;refine⟨_,fun x hx=>Keeps.cell hx (hr.blk 0 rfl) (hr.blk 0 rfl).lt rfl,?_⟩;refine B0 (by show ((v.deeds.length:Int) != 1)=true;rw [bne_iff_ne];omega) ?_;exact fin hc
 obtain⟨d,hv1⟩:=List.length_eq_one_iff.1 hln;have hz:z=if (B6t L.k.b d.req).2=true then toldL L d.req (B6t L.k.b d.req).1
  else if L.k.pend.any (fun x=>x.req==d.req)=true then (L,[])
  else if (M8 L.H d).2≠0 then ({ L with H:=(M8 L.H d).1 },[]) else onL { L with H:=(M8 L.H d).1 } L.k.seq:=by
  rw [hz,hv1]
 have hd1:d.Ok:=hdk d (by rw [hv1];exact List.mem_singleton.2 rfl);obtain⟨tp,htp⟩:∃ tp,tp=B6t L.H.k.b d.req:=⟨_,rfl⟩;rw [show B6t L.k.b d.req=tp from htp.symm] at hz;have hbt:=fun cs S w h=>C0o L.H.k.b d.req cs S w h;rw [<-htp] at hbt;refine vE Tryz.func99 ?_;refine hc.n fun g4 wg4 hg4 hc=>?_;have hB1:=(hc.row.right (sO L)).2.1;have hr:=hc;refine vD (.Q [0,1,2,3,5,6,7,8] (.n 4 (.Q [9,10,11,12,13,14,15] .fin) .stop)) (Old _) (Old.start _) ?_;have hk:=hc.old0;have hc:=hc.drew;refine⟨R9 L.r A cA,rfl,fun z hz=>Old.looks hz (Blk.part hB1 2 (R9 L.r A cA) rfl),?_⟩;refine⟨_,fun z hz=>Keeps.look hz (hB1.cell 0),?_⟩;refine⟨hc.q (B9r (hc.row.right (sO L)).ros) fun wA hA hc=>?_,trivial⟩;have hk:=Keeps.below hk (fun _ h=>h) hA;refine⟨hk,?_⟩;refine C3X (by show (B8J L.r.l != L.id)=false;rw [bne_eq_false_iff_eq];exact hhd) ?_;refine⟨_,fun x hx=>Keeps.cell hx (hr.blk 0 rfl) (hr.blk 0 rfl).lt rfl,?_⟩;refine C3X (by show ((v.deeds.length:Int) != 1)=false;rw [bne_eq_false_iff_eq];omega) ?_;clear hk hr;obtain⟨Sk,hW⟩:=kept hc;obtain⟨ad,had,hcell⟩:=RowD8.elem hW.1.2 0 (by omega);have e0:v.deeds[0]'(by omega)=d:=by simp only [hv1,List.getElem_cons_zero]
 rw [e0] at hcell;subst had;refine hc.c 0 rfl rfl ?_;refine⟨⟨by omega,by omega⟩,?_⟩;refine⟨dC d,rfl,hcell,?_⟩;refine hc.n fun gd wgd hgd hc=>?_;refine hc.s 0 rfl fun wS hS hc=>?_;have hc:=I9 hc (l':=[(gd,45,dC d),(g4,43,wdC v ⟨xA,xcA,some ad,xcB,xy⟩)]) (by kernel_rfl);have hB2:=(hc.row.right (sO L)).2.1;refine Drawn.join (α:=Nat) (fun y=>[(0,.pointer (some ⟨g.gl,0,none⟩)),(2,.int .i64 now),(7,.pointer (some ⟨gd,0,none⟩)),(8,.pointer (some ⟨y,0,none⟩)),(9,.bool tp.2)]) (fun y w'=>∃ S,CtxF no (bare w) S w' [(y,36,X8 tp.1),(gd,45,dC d),(g4,43,wdC v ⟨xA,xcA,some ad,xcB,xy⟩)] [] (Vc.Sep 0 (Keep w Sx) (LkO g L A cA D cD css))) ?_ ?_
 ·have hr:=hc;refine vD (.Q [0,1,2,3,5,6] (.n 4 (.n 7 (.Q [8,9,10] (.n 11 (.n 12 (.q 13 .fin) .stop) .stop)) (.n 11 (.n 7 (.Q [8,9,10] (.n 12 (.q 13 .fin) .stop)) .stop) .stop)) (.n 11 (.n 4 (.n 7 (.Q [8,9,10] (.n 12 (.q 13 .fin) .stop)) .stop) .stop) .stop))) (Old _) (Old.start _) ?_;have hk:=hc.old0;have hc:=hc.drew;refine⟨_,fun z hz=>Keeps.look hz (hB2.cell 1),?_⟩;refine⟨_,fun x hx=>Keeps.cell hx (hr.blk 0 rfl) (hr.blk 0 rfl).lt rfl,?_⟩;refine⟨?_,?_⟩
  ·skip
   refine⟨(A0S g.gs g.gj g.gc g.b L.H hL.H _ _ (hc.row.right (sO L)).link.shelf).mono fun en wq hq=>?_⟩;obtain⟨cs,e1,hb,hrep⟩:=hq;obtain⟨y,rfl⟩:=hrep.stX;have hc:=(hc.quiet hb).1;have hk:=Keeps.below hk (fun _ h=>h) hb;refine⟨_,e1,hk,?_⟩;refine⟨?_,?_⟩
   ·skip
    refine hc.q (hbt (stX L.H.k.b y) _ _ (hrep.below (by first | exact Below.refl _ _ | exact hgr.below))) fun wA hA hc=>?_;have hk:=Keeps.below hk (fun _ h=>h) hA;refine⟨hk,?_⟩;refine⟨hc.n fun gr wgr hgr hc=>?_,trivial⟩;have ngr:=Old.new hk hgr;have hk:=Keeps.below hk (fun _ h=>h) hgr.below;refine⟨hk,?_⟩;refine⟨⟨hc.may 0 rfl _ _ (nle rfl) rfl,?_⟩,trivial⟩;intro wS hS;have hk:=Keeps.stored hk (hc.blk 0 rfl) ngr hS;have hc:=(hc.set 0 rfl hS).1;refine⟨hk,?_⟩;have hc:=I9 hc (l':=[(gr,36,X8 tp.1),(gd,45,dC d),(g4,43,wdC v ⟨xA,xcA,some ad,xcB,xy⟩)]) (by kernel_rfl);exact⟨gr,⟨rfl,rfl,rfl,rfl,rfl,trivial⟩,_,hc⟩
   refine⟨hc.n fun gr wgr hgr hc=>?_,trivial⟩;have ngr:=Old.new hk hgr;have hk:=Keeps.below hk (fun _ h=>h) hgr.below;refine⟨hk,?_⟩;refine⟨hc.q (hbt (stX L.H.k.b y) _ _ (hrep.below (by first | exact Below.refl _ _ | exact hgr.below))) fun wA hA hc=>?_,trivial⟩;have hk:=Keeps.below hk (fun _ h=>h) hA;refine⟨hk,?_⟩;refine⟨⟨hc.may 0 rfl _ _ (nle rfl) rfl,?_⟩,trivial⟩;intro wS hS;have hk:=Keeps.stored hk (hc.blk 0 rfl) ngr hS;have hc:=(hc.set 0 rfl hS).1;refine⟨hk,?_⟩;have hc:=I9 hc (l':=[(gr,36,X8 tp.1),(gd,45,dC d),(g4,43,wdC v ⟨xA,xcA,some ad,xcB,xy⟩)]) (by kernel_rfl);exact⟨gr,⟨rfl,rfl,rfl,rfl,rfl,trivial⟩,_,hc⟩
  refine⟨hc.n fun gr wgr hgr hc=>?_,trivial⟩;have ngr:=Old.new hk hgr;have hk:=Keeps.below hk (fun _ h=>h) hgr.below;refine⟨hk,?_⟩;refine⟨⟨(A0S g.gs g.gj g.gc g.b L.H hL.H _ _ (hc.row.right (sO L)).link.shelf).mono fun en wq hq=>?_⟩,trivial⟩;obtain⟨cs,e1,hb,hrep⟩:=hq;obtain⟨y,rfl⟩:=hrep.stX;have hc:=(hc.quiet hb).1;have hk:=Keeps.below hk (fun _ h=>h) hb;refine⟨_,e1,hk,?_⟩;refine⟨hc.q (hbt (stX L.H.k.b y) _ _ (hrep.below (by first | exact Below.refl _ _ | exact hgr.below))) fun wA hA hc=>?_,trivial⟩;have hk:=Keeps.below hk (fun _ h=>h) hA;refine⟨hk,?_⟩;refine⟨⟨hc.may 0 rfl _ _ (nle rfl) rfl,?_⟩,trivial⟩;intro wS hS;have hk:=Keeps.stored hk (hc.blk 0 rfl) ngr hS;have hc:=(hc.set 0 rfl hS).1;refine⟨hk,?_⟩;have hc:=I9 hc (l':=[(gr,36,X8 tp.1),(gd,45,dC d),(g4,43,wdC v ⟨xA,xcA,some ad,xcB,xy⟩)]) (by kernel_rfl);exact⟨gr,⟨rfl,rfl,rfl,rfl,rfl,trivial⟩,_,hc⟩
 clear hc;rintro gr u w1 ⟨S,hc⟩;rcases Bool.eq_false_or_eq_true tp.2 with ht | ht
 ·rw [y6 ht] at hz;subst hz;refine B0 ht ?_;have hc:=hc.now (X:=Vc.Sep 0 (Keep w Sx) (LinkK g L)) (fun h=>h.mono (fun _ h=>h) fun _ h=>LkO.link h) (Vc.Sep.stab y8 yg);refine hc.c 1 rfl rfl ?_;refine⟨X8 tp.1,rfl,hc.cells 0 rfl,?_⟩;obtain⟨S1,Sa,h1,h2,h3,hO⟩:=hc.row;have hen:=A8l hc h1 h3 he;refine⟨((fun Sa w hlt hen hO=>A5Y g L (by omega) d.req tp.1 Sa now w hlt hO) Sa _ (fun x hx=>hc.ctx.lt x (h2 x hx).1) hen hO).mono fun en wq hq=>?_⟩;have hq0:=hq;obtain⟨A3,c3,css3,N3,Sn,e1,_⟩:=hq0;refine⟨_,e1,?_⟩;rw [e1] at hq;exact hc.tailW0 yg h1 h3 hq
 rw [y7 (by rw [ht];decide)] at hz;refine C3X ht ?_;refine⟨_,(hc.row.right (sO L)).2.1.cell 1,?_⟩;refine⟨(A1R g.gs g.gj g.gc g.b L.H hL.H _ _ (hc.row.right (sO L)).link.shelf).mono fun en wq hq=>?_⟩;obtain⟨A5,c5,e1,hb,ho⟩:=hq;have hc:=hc.fresh hb ho;refine⟨_,e1,?_⟩;obtain⟨S9,hrow⟩:=W7 hc;have hcc:=hc.cell 1 rfl 6 (v:=.int .i64 d.req) rfl;obtain⟨b1,e1⟩:∃ b,b=L.H.k.pend.any fun x=>x.req==d.req:=⟨_,rfl⟩;have hct:=B9j (fun x=>x.req==d.req) 163 ⟨gd,0,none⟩ (by kernel_rfl) L.H.k.pend A5 c5 S9 _ (fun d' w' hb=>C0X d d' ⟨gd,0,none⟩ w' (cell_later hb hcc)) hrow;rw [<-e1] at hct;rw [show (L.k.pend.any fun x=>x.req==d.req)=b1 from e1.symm] at hz;refine hc.q (hct) fun wQ hQ hc=>?_;have hc:=hc.rest;refine⟨_,(hc.row.right (sO L)).2.1.cell 1,?_⟩;refine hc.q (A0o g.gs g.gj g.gc g.b L.H hL.H _ _ (hc.row.right (sO L)).link.shelf) fun wQ hQ hc=>?_;have hB4:=(hc.row.right (sO L)).2.1;cases b1 with
 | true=>
  rw [y6 rfl] at hz;subst hz;have hr:=hc;refine vD (.Q [0,1,2,3,4,5,6] (.n 7 (.Q [8,9] .fin) .stop)) (Old _) (Old.start _) ?_;have hk:=hc.old0;have hc:=hc.drew;refine⟨?_,trivial⟩;exact fin hc
 | false=>
 rw [y7 (by decide)] at hz;obtain⟨cm,hcm⟩:∃ c,c=M8 L.H d:=⟨_,rfl⟩;obtain⟨L1,hL1⟩:∃ L1:Lk,L1={ L with H:=cm.1 }:=⟨_,rfl⟩;have hO1:∀ S w,LkO g { L with H:=cm.1 } A cA D cD css S w->LkO g L1 A cA D cD css S w:=by rw [hL1];exact fun S w h=>h
 have hB1:∀ w,Blk w g.gl 85 (liC L1 g.gs A cA D cD)->Blk w g.gl 85 (liC L g.gs A cA D cD):=by rw [hL1];exact fun w h=>h
 have hz:z=if cm.2≠0 then (L1,[]) else onL L1 L.k.seq:=by rw [hz,hL1,hcm]
 have hok1:L1.Ok:=by rw [hL1,hcm];exact⟨hL.id,B1E hL.H hd1,hL.r,hL.nd,hL.til⟩
 have hdn1:L1.done.length<=900000:=by rw [hL1];exact hd
 have hsq1:cm.2=0->L1.H.k=⟨L.H.k.b,L.H.k.pend++[d],L.H.k.ep,L.H.k.ln⟩:=fun h=>by rw [hL1];rw [hcm] at h ⊢;exact B3N h
 refine vD (.Q [0,1,2,3,4,5,6] (.n 7 (.Q [8,9] .fin) .stop)) (fun z=>Blk z g.gl 85 (liC L g.gs A cA D cD)/\Blk z gd 45 (dC d)) ⟨(hc.row.right (sO L)).2.1,hc.blk 1 rfl⟩ ?_;have hc:=hc.drew;refine⟨.pointer (some ⟨g.gs,0,none⟩),fun z hz=>(Blk.cell hz.1 1).trans rfl,?_⟩;refine⟨dC d,rfl,fun z hz=>B5 hz.2 0 _ 0 (fun j v hj=>by simpa using hj),?_⟩;refine⟨?_,trivial⟩;have hc:=hc.now (X:=Vc.Sep 0 (Vc.Sep 0 (Keep w Sx) (HdK g.gl 85 (liC L g.gs A cA D cD) (LiR L A cA D cD css))) (ShelfK g.gs g.gj g.gc g.b L.H)) (fun h=>LkO.open h) (Vc.Sep.stab (Vc.Sep.stab y8 (HdK.stab yf)) ye);obtain⟨S1,Sa,h1,h2,h3,hO⟩:=hc.row;have hen:=A8l hc h1 (h3.left (Keep.stab w Sx)) he;refine⟨(B3F g.gs g.gj g.gc g.b L.H hL.H d hd1 Sa _ (fun x hx=>hc.ctx.lt x (h2 x hx).1) hen hO).mono fun en wq hq=>?_⟩;rw [<-hcm] at hq;obtain⟨e1,hT,Sn,hSn,hO⟩:=hq;have hc:=hc.turnO (Vc.Sep.stab y8 (HdK.stab yf)) h1 h2 h3 hT hSn hO ye;have hc:=hc.now (X:=Vc.Sep 0 (Keep w Sx) (LkO g L1 A cA D cD css)) (fun h=>(Vc.Sep.outer h).mono (fun _ h=>h) fun _ h=>hO1 _ _ (Vc.Sep.obj h)) (Vc.Sep.stab y8 yh);refine⟨_,e1,⟨hB1 _ (hc.row.right (sO L1)).2.1,hc.blk 1 rfl⟩,?_⟩;have hc:=hc.now (X:=Vc.Sep 0 (Keep w Sx) (LinkK g L1)) (fun h=>h.mono (fun _ h=>h) fun _ h=>LkO.link h) (Vc.Sep.stab y8 yg);by_cases h0:cm.2=0
 ·rw [y7 (fun h=>h h0)] at hz;subst hz;refine C3X (by show (cm.2 != 0)=false;rw [bne_eq_false_iff_eq];exact h0) ?_;have hk1:=hsq1 h0;obtain⟨S1,Sa,h1,h2,h3,hO⟩:=hc.row;have hen:=A8l hc h1 h3 he;refine⟨((fun Sa w hlt hen hO=>B7E g L1 hok1 hdn1 L.H.k.seq now (hcm0 L1 (by rw [hL1]) (by rw [hL1]) hok1.H hdn1) (by rw [hk1];show L.H.k.b.seq<=L.H.k.b.seq+((L.H.k.pend.length:Nat):Int);omega) (by rw [hk1];unfold Known.seq;show _<=L.H.k.b.seq+(((L.H.k.pend++[d]).length:Nat):Int);rw [z6];omega) Sa w hlt hen hO) Sa _ (fun x hx=>hc.ctx.lt x (h2 x hx).1) hen hO).mono fun en wq hq=>?_⟩;have hq0:=hq;obtain⟨A3,c3,css3,N3,Sn,e1,_⟩:=hq0;refine⟨_,e1,?_⟩;rw [e1] at hq;exact hc.tailW0 yg h1 h3 hq
 ·rw [y6 h0] at hz;subst hz;refine B0 (by show (cm.2 != 0)=true;rw [bne_iff_ne];exact h0) ?_;exact RetWL.nil (hc.endO _) rfl
theorem A8p {H:Sh} {n:Int} (h:H.Ok) (hn:B3 n):(E2 H n).1.Ok:=by
 unfold E2;split
 ·exact h
 split
 ·exact h
 split
 ·exact h
 split
 ·exact h.fell
 ·rename_i h1 h2 h3;exact h.write (r:=.done n) hn (by show n<=H.k.seq;omega) false (by omega)
theorem Lk.Ok.commit {L:Lk} {n:Int} (h:L.Ok) (hn:B3 n):(F8 L n).Ok:=⟨h.id,A8p h.H hn,h.r,h.nd,h.til⟩
theorem Lk.Ok.seq {L:Lk} (h:L.Ok):B3 L.H.k.seq:=by have hko:=h.H.k;have h1:=hko.seq;have h2:=hko.len;have h3:=(C5.1 hko.may).1;have hm:E3=1099511627776:=rfl;unfold Known.seq B3;omega
theorem B1F {a b:Int} (ha:B3 a) (hb:B3 b):B3 (min a b):=by
 rcases Int.le_total a b with h | h
 ·rw [Int.min_eq_left h];exact ha
 ·rw [Int.min_eq_right h];exact hb
theorem B3O {g:Lg} {L:Lk} {A:Option Addr} {cA:Nat} {D:Option Addr} {cD:Nat} {css:List (List Value)} {w w1:World} {S Sx:Nat->Prop} {l:List LB} {os:List OR} (n:Int) (hL:L.Ok) (hn:B3 n) (he:EnvFree Sx w) (hc:CtxF no (bare w) S w1 l os (Vc.Sep 0 (Keep w Sx) (LkO g L A cA D cD css))):
  Calls Tryz.prog 98 #[.pointer (some ⟨g.gs,0,none⟩),.int .i64 n] w1 (fun en w2=>∃ v S',en=.returned v/\CtxF no (bare w) S' w2 l os (Vc.Sep 0 (Keep w Sx) (LkO g (F8 L n) A cA D cD css))):=by
 have hc:=hc.now (X:=Vc.Sep 0 (Vc.Sep 0 (Keep w Sx) (HdK g.gl 85 (liC L g.gs A cA D cD) (LiR L A cA D cD css))) (ShelfK g.gs g.gj g.gc g.b L.H)) (fun h=>LkO.open h) (Vc.Sep.stab (Vc.Sep.stab y8 (HdK.stab yf)) ye);obtain⟨S1,Sa,h1,h2,h3,hO⟩:=hc.row;have hen:=A8l hc h1 (h3.left (Keep.stab w Sx)) he;refine (A2J g.gs g.gj g.gc g.b L.H hL.H n hn Sa _ (fun x hx=>hc.ctx.lt x (h2 x hx).1) hen hO).mono fun en wq hq=>?_;obtain⟨A9,c9,e1,hT,Sn,Sl,hSn,hO,hSl,hX⟩:=hq;have hc:=hc.turnO (Vc.Sep.stab y8 (HdK.stab yf)) h1 h2 h3 hT hSn hO ye;exact⟨_,_,e1,hc.now (fun h=>(Vc.Sep.outer h).mono (fun _ h=>h) fun _ h=>Vc.Sep.obj h) (Vc.Sep.stab y8 yh)⟩
theorem B3P (g:Lg) (L:Lk) (hL:L.Ok) (v:Wd) (hs:B3 v.seq) (x:WX) (Sx:Nat->Prop) (w:World) (hlt:∀ x,Sx x->x<w.heap.size) (he:EnvFree Sx w) (hK:LinkK g L Sx w):
  Calls Tryz.prog 102 #[.pointer (some ⟨g.gl,0,none⟩),.agg (wdC v x).toArray] w (RetWL Sx w (LinkK g (B4X L v).1) (B4X L v).2):=by
 obtain⟨A,cA,D,cD,css,hB⟩:=hK.seen;have sO:=fun L=>LkO.stab g L A cA D cD css;have fin:∀ {L:Lk} {S:Nat->Prop} {w1:World} {l:List LB} {os:List OR},CtxF no (bare w) S w1 l os (Vc.Sep 0 (Keep w Sx) (LkO g L A cA D cD css))->RetWL Sx w (LinkK g L) [] (.returned (.slice none 0 0)) w1:=fun hc=>RetWL.nil ((hc.now (fun h=>h.mono (fun _ h=>h) fun _ h=>LkO.link h) (Vc.Sep.stab y8 yg)).endO _) rfl;have hc:=CtxF.enterO hlt hB (sO L);obtain⟨z,hz⟩:∃ z,z=B4X L v:=⟨_,rfl⟩;rw [<-hz];unfold B4X at hz;obtain⟨f,hf⟩:∃ f,f=A1I L:=⟨_,rfl⟩;rw [<-hf] at hz;have hmn:=B1F hs hL.seq;obtain⟨m,hm⟩:∃ m,m=min v.seq L.H.k.seq:=⟨_,rfl⟩;rw [<-hm] at hmn;have hme:m=if L.H.k.seq<v.seq then L.H.k.seq else v.seq:=by rw [hm];split<;>omega
 obtain⟨L1,hL1⟩:∃ L1,L1=F8 L m:=⟨_,rfl⟩;have hok1:L1.Ok:=hL1▸hL.commit hmn;have hB1:∀ w,Blk w g.gl 85 (liC L1 g.gs A cA D cD)->Blk w g.gl 85 (liC L g.gs A cA D cD):=by rw [hL1];exact fun w h=>h
 rw [show F8 L (min v.seq L.k.seq)=L1 from by rw [hL1,hm];rfl] at hz;refine vE Tryz.func102 ?_;refine hc.n fun g3 wg3 hg3 hc=>?_;have hB2:=(hc.row.right (sO L)).2.1;have hr:=hc;refine vD (.Q [0,1,2,3,4,5,6,7] (.n 8 (.q 9 .fin) .stop)) (Old _) (Old.start _) ?_;have hk:=hc.old0;have hc:=hc.drew;refine⟨R9 L.r A cA,rfl,fun z hz=>Old.looks hz (Blk.part hB2 2 (R9 L.r A cA) rfl),?_⟩;refine⟨_,fun z hz=>Keeps.look hz (hB2.cell 0),?_⟩;have hnx:=A5Q L.id (hc.row.right (sO L)).ros;rw [show A5O L.r.l L.id=f from hf.symm] at hnx;refine⟨hc.q (hnx) fun wA hA hc=>?_,trivial⟩;have hk:=Keeps.below hk (fun _ h=>h) hA;refine⟨hk,?_⟩;clear hk hr;by_cases h0:f=0
 ·rw [y6 (.inl h0)] at hz;subst hz;refine B0 (by show (f==0)=true;rw [h0];rfl) ?_;exact fin hc
 refine C3X (by show (f==0)=false;rw [y4];exact h0) ?_;refine hc.c 0 rfl rfl ?_;by_cases h1:v.frm=f;rotate_left
 ·rw [y6 (.inr h1)] at hz;subst hz;refine B0 (by show (v.frm != f)=true;rw [bne_iff_ne];exact h1) ?_;exact fin hc
 refine C3X (by show (v.frm != f)=false;rw [bne_eq_false_iff_eq];exact h1) ?_;rw [y7 (fun h=>h.elim h0 fun h=>h h1)] at hz;refine⟨_,(hc.row.right (sO L)).2.1.cell 1,?_⟩;refine⟨(A0S g.gs g.gj g.gc g.b L.H hL.H _ _ (hc.row.right (sO L)).link.shelf).mono fun en wq hq=>?_⟩;obtain⟨cs,e1,hb,hrep⟩:=hq;obtain⟨y,rfl⟩:=hrep.stX;have hc:=(hc.quiet hb).1;refine⟨_,e1,?_⟩;refine vD (.Q [0,1,2,3,4,5,6,7,8,9] (.n 10 (.q 11 (.n 12 .fin .stop)) .stop)) (fun z=>Blk z g.gl 85 (liC L g.gs A cA D cD)/\z.cell? ⟨g3,4,none⟩=some (.int .i64 v.seq)) ⟨(hc.row.right (sO L)).2.1,hc.cell 0 rfl 4 rfl⟩ ?_;have hc:=hc.drew;refine⟨.pointer (some ⟨g.gs,0,none⟩),fun z hz=>(Blk.cell hz.1 1).trans rfl,?_⟩;refine⟨_,fun z hz=>hz.2,?_⟩;refine⟨.pointer (some ⟨g.gs,0,none⟩),fun z hz=>(Blk.cell hz.1 1).trans rfl,?_⟩;refine⟨hc.q (A0o g.gs g.gj g.gc g.b L.H hL.H _ _ (hc.row.right (sO L)).link.shelf) fun wQ hQ hc=>?_,trivial⟩;refine⟨⟨(hc.row.right (sO L)).2.1,hc.cell 0 rfl 4 rfl⟩,?_⟩;refine⟨?_,trivial⟩;have hcm:=B3O (if L.H.k.seq<v.seq then L.H.k.seq else v.seq) hL (by rw [<-hme];exact hmn) he hc;rw [show F8 L (if L.H.k.seq<v.seq then L.H.k.seq else v.seq)=L1 from by rw [hL1,hme]] at hcm;refine⟨hcm.mono fun en wq hq=>?_⟩;obtain⟨v9,S9,e1,hc⟩:=hq;refine⟨_,e1,⟨hB1 _ (hc.row.right (sO L1)).2.1,hc.cell 0 rfl 4 rfl⟩,?_⟩;refine⟨_,(hc.row.right (sO L1)).2.1.cell 1,?_⟩;refine⟨(A0S g.gs g.gj g.gc g.b L1.H hok1.H _ _ (hc.row.right (sO L1)).link.shelf).mono fun en wq hq=>?_⟩;obtain⟨cs,e1,hb,hrep⟩:=hq;obtain⟨y2,rfl⟩:=hrep.stX;have hc:=(hc.quiet hb).1;refine⟨_,e1,?_⟩;have hc:=hc.now (X:=Vc.Sep 0 (Keep w Sx) (LinkK g L1)) (fun h=>h.mono (fun _ h=>h) fun _ h=>LkO.link h) (Vc.Sep.stab y8 yg);by_cases h3:L.H.k.b.seq<L1.H.k.b.seq
 ·have hz:z=(L1,E4 L1 (A5X L1.H.k.b.seq)):=hz.trans (y5 (Prod.mk L1) (y6 h3));subst hz;refine dt h3 ?_;have zp:wdC (A5X L1.H.k.b.seq) WX0=[.int .i64 6,.int .i64 0,.int .i64 0,.int .i64 0,.int .i64 L1.H.k.b.seq,.int .i64 0,.int .i64 0,.int .i64 0,.int .i64 0,.int .i64 0,.slice none 0 0,.int .i64 0,.slice none 0 0,.int .i64 0,.slice none 0 0,.slice none 0 0,.int .i64 0,.int .i64 0,.int .i64 0,.int .i64 0,.int .i64 0]:=by kernel_rfl
  have sd:=fun S w hlt hK=>A0W g L1 hok1 (A5X L1.H.k.b.seq) WX0 S w hlt hK;rw [zp] at sd;obtain⟨S1,Sa,h1,h2,h3,hO⟩:=hc.row;have hen:=A8l hc h1 h3 he;refine⟨((fun Sa w hlt (hen:EnvFree Sa w) hO=>(sd Sa w hlt hO).mono fun en w' h=>(h.quiet ⟨rfl,rfl,rfl⟩ (fun _ _=>⟨⟨A28 _ _,A28 _ _⟩,A15 _ _⟩)).turn hO hlt) Sa _ (fun x hx=>hc.ctx.lt x (h2 x hx).1) hen hO).mono fun en wq hq=>?_⟩;have hq0:=hq;obtain⟨A3,c3,css3,N3,Sn,e1,_⟩:=hq0;refine⟨_,e1,?_⟩;rw [e1] at hq;exact hc.tailW0 yg h1 h3 hq
 ·have hz:z=(L1,[]):=hz.trans (y5 (Prod.mk L1) (y7 h3));subst hz;refine df h3 ?_;exact RetWL.nil (hc.endO _) rfl
end Go.Proofs.YtefdfaeieekioaaGreatDoor
