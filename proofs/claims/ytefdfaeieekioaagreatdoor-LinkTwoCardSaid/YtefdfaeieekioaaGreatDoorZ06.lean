import Derived.Test.YtefdfaeieekioaaGreatDoorZ05
import Derived.Test.YtefdfaeieekioaaGreatDoorRows
import Derived.Test.YtefdfaeieekioaaGreatDoorCards
import Derived.Test.YtefdfaeieekioaaGreatDoorTie
import Derived.WalkKit
import Derived.ProofKit
import Derived.OpenShut
import Derived.Deep.DeepHandedRow
import Derived.Deep.DeepWitnessRowRef
import Derived.Lib.LaidTab
import Derived.Stop.LaidErr
import Derived.Lay
import Derived.Carry
import Derived.RowKit3
set_option maxRecDepth 100000
set_option maxHeartbeats 40000000
set_option linter.unusedVariables false
set_option linter.unusedSimpArgs false
section
namespace Go.Vc
open Go Go.RowKit
theorem cellsAt_later {w w':World} (hb:Below w.heap.size w w') {a:Addr}:∀ (cs:List Value) (i:Nat),cellsAt w a cs i->cellsAt w' a cs i
 | [],_,_=>trivial
 | v::r,i,h=>⟨cell_later hb h.1,cellsAt_later hb r (i+1) h.2⟩
structure OR where
 e:Nat
 sz:Nat
 A:Option Addr
 n:Nat
 cap:Nat
 xs:List Value
def Owns (S:Nat->Prop) (n0:Nat) (w:World) (l:List LB):List OR->Prop
 | []=>True
 | o::r=>Own S n0 w l o.e o.sz o.A o.n o.cap o.xs/\(∀ p∈r,∀ a b,o.A=some a->p.A=some b->a.block≠b.block)/\Owns S n0 w l r
abbrev Kn:=(Nat->Prop)->World->Prop
def Stab (R:Kn):Prop:=∀ S w S' w',R S w->Fut S w S' w'->R S' w'
theorem Stab.and {R X:Kn} (h:Stab R) (k:Stab X):Stab (fun S w=>R S w/\X S w):=fun _ _ _ _ hx f=>⟨h _ _ _ _ hx.1 f,k _ _ _ _ hx.2 f⟩
theorem Stab.true:Stab (fun _ _=>True):=fun _ _ _ _ _ _=>trivial
structure CtxF (S0:Nat->Prop) (w0:World) (S:Nat->Prop) (w:World) (l:List LB) (os:List OR) (R:Kn):Prop where
 ctx:Ctx S0 w0 S w l
 own:Owns S w0.heap.size w l os
 row:R S w
 stab:Stab R
section
variable {S0 S S':Nat->Prop} {w0 w w':World} {l l':List LB} {os:List OR} {R:Kn} {n0:Nat}
theorem Owns.step:∀ {os:List OR},Owns S n0 w l os->(∀ o∈os,∀ a,o.A=some a->w'.heap[a.block]?=w.heap[a.block]?/\¬ S' a.block/\∀ x∈l',x.1≠a.block)->Owns S' n0 w' l' os
 | [],_,_=>trivial
 | o::r,⟨h1,h2,h3⟩,hh=>
  ⟨⟨h1.kept fun a ha=>(hh o (zu ..) a ha).1,fun a ha=>(hh o (zu ..) a ha).2⟩,h2,h3.step fun p hp=>hh p (zt _ hp)⟩
theorem Owns.mem:∀ {os:List OR},Owns S n0 w l os->∀ o∈os,Own S n0 w l o.e o.sz o.A o.n o.cap o.xs
 | o::r,⟨h1,h2,h3⟩,p,hp=>by
  cases hp with
  | head=>exact h1
  | tail _ h=>exact h3.mem p h
theorem CtxF.below (hc:CtxF S0 w0 S w l os R):Below w0.heap.size w0 w:=hc.ctx.below
theorem CtxF.start (w0:World) (S0:Nat->Prop) (h:∀ b,S0 b->b<w0.heap.size) {R:Kn} (hr:R S0 w0) (hs:Stab R):CtxF S0 w0 S0 w0 [] [] R:=⟨Ctx.start w0 S0 h,trivial,hr,hs⟩
theorem CtxF.loc (hc:CtxF S0 w0 S w l os R) {cs:List Value} {T g:Nat} (hN:New w cs T g w'):CtxF S0 w0 S w' ((g,T,cs)::l) os R/\Fut S w S w':=by
 obtain⟨h1,h2⟩:=hc.ctx.loc hN;refine⟨⟨h1,hc.own.step fun o ho a ha=>?_,hc.stab _ _ _ _ hc.row h2,hc.stab⟩,h2⟩;have hO:=hc.own.mem o ho;refine⟨hN.below.block _ (hO.lt ha).2,(hO.out a ha).1,fun x hx=>?_⟩;cases hx with
 | head=>have:=(hO.lt ha).2;have:=hN.1;show g≠a.block;omega
 | tail _ hx=>exact (hO.out a ha).2 x hx
theorem CtxF.quiet (hc:CtxF S0 w0 S w l os R) (hb:Below w.heap.size w w'):CtxF S0 w0 S w' l os R/\Fut S w S w':=by obtain⟨h1,h2⟩:=hc.ctx.quiet hb;exact⟨⟨h1,hc.own.step fun o ho a ha=>⟨hb.block _ ((hc.own.mem o ho).lt ha).2,(hc.own.mem o ho).out a ha⟩,hc.stab _ _ _ _ hc.row h2,hc.stab⟩,h2⟩
theorem CtxF.call (hc:CtxF S0 w0 S w l os R) (hb:Below w.heap.size w w'):CtxF S0 w0 (ext S w w') w' l os R/\Fut S w (ext S w w') w':=by
 obtain⟨h1,h2⟩:=hc.ctx.call hb;refine⟨⟨h1,hc.own.step fun o ho a ha=>⟨hb.block _ ((hc.own.mem o ho).lt ha).2,fun hs=>?_,((hc.own.mem o ho).out a ha).2⟩,hc.stab _ _ _ _ hc.row h2,hc.stab⟩,h2⟩;rcases hs with hs | hs
 ·exact ((hc.own.mem o ho).out a ha).1 hs
 ·have:=((hc.own.mem o ho).lt ha).2;omega
theorem CtxF.know (hc:CtxF S0 w0 S w l os R) {X:Kn} (h:X S w) (hs:Stab X):CtxF S0 w0 S w l os (fun S w=>R S w/\X S w):=⟨hc.ctx,hc.own,⟨hc.row,h⟩,hc.stab.and hs⟩
theorem CtxF.now (hc:CtxF S0 w0 S w l os R) {X:Kn} (h:R S w->X S w) (hs:Stab X):CtxF S0 w0 S w l os X:=⟨hc.ctx,hc.own,h hc.row,hs⟩
theorem CtxF.blk (hc:CtxF S0 w0 S w l os R) (k:Nat) {g T:Nat} {cs:List Value} (h:l[k]?=some (g,T,cs)):Blk w g T cs:=hc.ctx.blk k h
theorem CtxF.cell (hc:CtxF S0 w0 S w l os R) (k:Nat) {g T:Nat} {cs:List Value} (h:l[k]?=some (g,T,cs)) (i:Nat) {v:Value} (hv:cs[i]?=some v):w.cell? ⟨g,i,none⟩=some v:=hc.ctx.cell k h i hv
theorem CtxF.cells (hc:CtxF S0 w0 S w l os R) (k:Nat) {g T:Nat} {cs:List Value} (h:l[k]?=some (g,T,cs)):Go.Vc.cellsAt w ⟨g,0,none⟩ cs 0:=hc.ctx.cells k h
theorem CtxF.cellsAt (hc:CtxF S0 w0 S w l os R) (k:Nat) {g T:Nat} {cs:List Value} (h:l[k]?=some (g,T,cs)) (o:Nat) (xs:List Value) (hx:(cs.drop o).take xs.length=xs):Go.Vc.cellsAt w ⟨g,o,none⟩ xs 0:=hc.ctx.cellsAt k h o xs hx
theorem CtxF.may (hc:CtxF S0 w0 S w l os R) (k:Nat) {g T:Nat} {cs:List Value} (h:l[k]?=some (g,T,cs)) (o:Nat) (xs:List Value) (hl:o+xs.length<=cs.length) (h1:D7 xs=true):C7 w ⟨g,o,none⟩ xs 0:=hc.ctx.may k h o xs hl h1
theorem CtxF.set (hc:CtxF S0 w0 S w l os R) (k:Nat) {g T:Nat} {cs:List Value} (h:l[k]?=some (g,T,cs)) {o:Nat} {xs:List Value} (hS:D0 w ⟨g,o,none⟩ xs w'):
  CtxF S0 w0 S w' (F4 l k (C0 cs o xs)) os R/\Fut S w S w':=by
 obtain⟨h1,h2⟩:=hc.ctx.set k h hS;refine⟨⟨h1,hc.own.step fun p hp a ha=>?_,hc.stab _ _ _ _ hc.row h2,hc.stab⟩,h2⟩;have hO:=(hc.own.mem p hp).set hc.ctx k h hS;obtain⟨_,k2,_⟩:=H8 o xs w 0 cs (hc.blk k h);rw [<-(show w'=_ from hS)] at k2;exact⟨k2 _ fun e=>((hc.own.mem p hp).out a ha).2 _ (List.mem_of_getElem? h) e.symm,hO.out a ha⟩
theorem CtxF.drop {x:LB} (h:CtxF S0 w0 S w (x::l) os R):CtxF S0 w0 S w l os R:=
 ⟨h.ctx.drop,h.own.step fun o ho a ha=>⟨rfl,((h.own.mem o ho).out a ha).1,fun y hy=>((h.own.mem o ho).out a ha).2 y (zt _ hy)⟩,h.row,h.stab⟩
theorem CtxF.drew (hc:CtxF S0 w0 S w l os R):CtxF S0 w0 S w.drew l os R:=
 ⟨hc.ctx.drew,hc.own.step fun o ho a ha=>⟨rfl,(hc.own.mem o ho).out a ha⟩,hc.stab _ _ _ _ hc.row ⟨fun _ h=>h,fun _ _=>rfl⟩,hc.stab⟩
theorem CtxF.hold (hc:CtxF S0 w0 S w l os R) {e sz n cap:Nat} {A:Option Addr} {xs:List Value} (ho:Own S w0.heap.size w l e sz A n cap xs) (hd:∀ p∈os,∀ a b,A=some a->p.A=some b->a.block≠b.block):CtxF S0 w0 S w l (⟨e,sz,A,n,cap,xs⟩::os) R:=
 ⟨hc.ctx,⟨ho,hd,hc.own⟩,hc.row,hc.stab⟩
theorem CtxF.nil (hc:CtxF S0 w0 S w l os R) (e sz:Nat):CtxF S0 w0 S w l (⟨e,sz,none,0,0,[]⟩::os) R:=hc.hold Own.nil (fun p hp a b h=>by cases h)
theorem CtxF.fst {o:OR} (hc:CtxF S0 w0 S w l (o::os) R):Own S w0.heap.size w l o.e o.sz o.A o.n o.cap o.xs:=hc.own.1
theorem CtxF.rest {o:OR} (hc:CtxF S0 w0 S w l (o::os) R):CtxF S0 w0 S w l os R:=⟨hc.ctx,hc.own.2.2,hc.row,hc.stab⟩
theorem CtxF.swap {o p:OR} (hc:CtxF S0 w0 S w l (o::p::os) R):CtxF S0 w0 S w l (p::o::os) R:=by
 obtain⟨h1,h2,h3,h4,h5⟩:=hc.own;refine⟨hc.ctx,⟨h3,fun q hq a b ha hb=>?_,h1,fun q hq=>h2 q (zt _ hq),h5⟩,hc.row,hc.stab⟩;cases hq with
 | head=>exact fun e=>h2 p (zu ..) b a hb ha e.symm
 | tail _ hq=>exact h4 q hq a b ha hb
theorem CtxF.fresh (hc:CtxF S0 w0 S w l os R) {e sz n cap:Nat} {A:Option Addr} {xs:List Value} (hb:Below w.heap.size w w') (ho:w'.ownsRow w.heap.size e sz (.slice A n cap) n xs):
  CtxF S0 w0 S w' l (⟨e,sz,A,n,cap,xs⟩::os) R:=by
 obtain⟨h1,h2,h3⟩:=hc.ctx.fresh hb ho;refine (hc.quiet hb).1.hold h3 fun p hp a b ha hb' e1=>?_;subst ha;have:=(ho.lt a.block rfl).1;have:=((hc.own.mem p hp).lt hb').2;omega
theorem CtxF.told {o:OR} (hc:CtxF S0 w0 S w l (o::os) R):∃ S':Nat->Prop,(∀ b,S b->S' b)/\CtxF S0 w0 S' w l os (fun S w=>R S w/\Row S w o.A o.n o.cap o.xs):=by
 obtain⟨h1,h2,h3⟩:=hc.fst.told hc.ctx;refine⟨_,fun b hb=>.inl hb,h1,hc.own.2.2.step fun p hp a ha=>⟨rfl,?_,((hc.own.2.2.mem p hp).out a ha).2⟩,⟨hc.stab _ _ _ _ hc.row h2,h3 hc.fst.fit.1 hc.fst.fit.2⟩,hc.stab.and fun _ _ _ _ h f=>h.fut f⟩;rintro (hs | ⟨b,hb,e⟩)
 ·exact ((hc.own.2.2.mem p hp).out a ha).1 hs
 ·exact hc.own.2.1 p hp b a hb ha e
theorem CtxF.opened {e sz n cap:Nat} {A:Option Addr} {xs:List Value} (hc:CtxF S0 w0 S w l (⟨e,sz,A,n,cap,xs⟩::os) R) {a:Addr} (hA:A=some a):
  ∃ g cur,A=some ⟨g,0,none⟩/\CtxF S0 w0 S w ((g,e,cur)::l) os R/\cur.length=cap*sz/\cur.take (n*sz)=xs/\n<=cap/\cap<=maxLen:=by
 obtain⟨g,cur,e1,h1,h2⟩:=hc.fst.opened hc.ctx hA;have e1:A=some ⟨g,0,none⟩:=e1;refine⟨g,cur,e1,⟨h1,hc.own.2.2.step fun p hp b hb=>⟨rfl,((hc.own.2.2.mem p hp).out b hb).1,fun x hx=>?_⟩,hc.row,hc.stab⟩,h2⟩;cases hx with
 | head=>exact hc.own.2.1 p hp _ b e1 hb
 | tail _ hx=>exact ((hc.own.2.2.mem p hp).out b hb).2 x hx
theorem CtxF.closed {e g:Nat} {cur:List Value} (hc:CtxF S0 w0 S w ((g,e,cur)::l) os R) (sz n cap:Nat) (h1:n<=cap) (h2:cap<=maxLen) (h3:cur.length=cap*sz):
  CtxF S0 w0 S w l (⟨e,sz,some ⟨g,0,none⟩,n,cap,cur.take (n*sz)⟩::os) R:=by
 obtain⟨k1,k2⟩:=Ctx.closed hc.ctx sz n cap h1 h2 h3;refine hc.drop.hold k2 fun p hp a b ha hb e1=>?_;cases ha;exact ((hc.own.mem p hp).out b hb).2 _ (zu ..) e1
theorem CtxF.made (hc:CtxF S0 w0 S w l os R) {cs:List Value} {e g:Nat} (hN:New w cs e g w') (sz n:Nat) (h:cs.length=n*sz) (hn:n<=maxLen):CtxF S0 w0 S w' l (⟨e,sz,some ⟨g,0,none⟩,n,n,cs⟩::os) R:=by have h4:=(hc.loc hN).1.closed sz n n (zc _) hn h;rw [List.take_of_length_le (Nat.le_of_eq h)] at h4;exact h4
theorem CtxF.out (hc:CtxF S0 w0 S w l os R):R (ext S0 w0 w) w:=hc.stab _ _ _ _ hc.row hc.ctx.out
theorem CtxF.old (hc:CtxF S0 w0 S w l os R) {X:Kn} (hs:Stab X) (h:X S0 w0) (hlt:∀ b,S0 b->b<w0.heap.size):X S w:=hs _ _ _ _ h ⟨hc.ctx.sub,fun b hb=>hc.below.block b (hlt b hb)⟩
def Oth (S:Nat->Prop) (os:List OR):Nat->Prop:=fun b=>S b\/∃ p∈os,∃ a,p.A=some a/\a.block=b
theorem CtxF.others {o:OR} (hc:CtxF S0 w0 S w l (o::os) R):Ctx S0 w0 (Oth S os) w l/\Own (Oth S os) w0.heap.size w l o.e o.sz o.A o.n o.cap o.xs:=by
 obtain⟨h1,h2,h3⟩:=hc.own;refine⟨⟨hc.below,fun b hb=>.inl (hc.ctx.sub b hb),fun b hb=>?_,fun b hb=>?_,hc.ctx.locs.mono (fun _ _=>rfl) (fun x hx hs=>?_)⟩,h1.row,fun a ha=>⟨fun hs=>?_,(h1.out a ha).2⟩⟩
 ·rcases hb with hb | ⟨p,hp,a,ha,rfl⟩
  ·exact hc.ctx.new b hb
  ·exact .inr ((h3.mem p hp).lt ha).1
 ·rcases hb with hb | ⟨p,hp,a,ha,rfl⟩
  ·exact hc.ctx.lt b hb
  ·exact ((h3.mem p hp).lt ha).2
 ·rcases hs with hs | ⟨p,hp,a,ha,e1⟩
  ·exact hs
  ·exact absurd e1.symm (((h3.mem p hp).out a ha).2 x hx)
 ·rcases hs with hs | ⟨p,hp,b,hb,e1⟩
  ·exact (h1.out a ha).1 hs
  ·exact h2 p hp a b ha hb e1.symm
theorem CtxF.back {o o':OR} (hc:CtxF S0 w0 S w l (o::os) R) (h1:Ctx S0 w0 (Oth S os) w' l') (h2:Fut (Oth S os) w (Oth S os) w') (h3:Own (Oth S os) w0.heap.size w' l' o'.e o'.sz o'.A o'.n o'.cap o'.xs) (hl:∀ x∈l',∃ y∈l,y.1=x.1):
  CtxF S0 w0 S w' l' (o'::os) R:=by
 have hlo:∀ x∈l',∀ a:Addr,(∀ y∈l,y.1≠a.block)->x.1≠a.block:=fun x hx a h=>by obtain⟨y,hy,e⟩:=hl x hx;rw [<-e];exact h y hy
 refine⟨⟨h1.below,hc.ctx.sub,hc.ctx.new,fun b hb=>h1.lt b (.inl hb),h1.locs.mono (fun _ _=>rfl) (fun _ _ h=>.inl h)⟩,⟨⟨h3.row,fun a ha=>⟨fun hs=>(h3.out a ha).1 (.inl hs),(h3.out a ha).2⟩⟩,fun p hp a b ha hb e1=>(h3.out a ha).1 (.inr ⟨p,hp,b,hb,e1.symm⟩),?_⟩,?_,hc.stab⟩
 ·exact hc.own.2.2.step fun p hp b hb=>⟨h2.2 _ (.inr ⟨p,hp,b,hb,rfl⟩),((hc.own.2.2.mem p hp).out b hb).1,fun x hx=>hlo x hx b ((hc.own.2.2.mem p hp).out b hb).2⟩
 ·exact hc.stab _ _ _ _ hc.row ⟨fun _ h=>h,fun b hb=>h2.2 b (.inl hb)⟩
end
section
variable {P:Program} {S0 S:Nat->Prop} {w0 w:World} {l:List LB} {os:List OR} {R:Kn} {n:Nat} {args:List Value} {K:Value->World->Prop}
section
variable {e sz bytes:Nat} {A B:Option Addr} {m cap c:Nat} {xs ys:List Value} {z:Value}
theorem K4 {t T:Nat} {cs:Array Bool} (ht:P.underlying t=some (.slice e)) (hi:(P.info? e).map (fun i=>(i.zero,i.size,i.bytes))=some (some z,sz,bytes)) (hzs:z.cells.size=sz) (hsz:0<sz)
  (hc:CtxF S0 w0 S w l (⟨e,sz,A,n,cap,xs⟩::os) R) {ad:Addr} (hl:ys.length=m*sz) (hy:Go.Vc.cellsAt w ad ys 0) (h1:D7 ys=true) (h63:n+m<=34359738368) (hby:bytes<=4096)
  {x y:Value} (ex:x=.slice A n cap) (ey:y=.slice (some ad) m c)
  (k:∀ A' cap' w',CtxF S0 w0 S w' l (⟨e,sz,A',n+m,cap',xs++ys⟩::os) R->K (.slice A' (n+m) cap') w'):
  ∃ v w',(builtin .append #[t,t] T cs #[x,y]).run P w=.ok (.value v) w'/\K v w':=by
 subst ex;subst ey;obtain⟨hc',ho'⟩:=hc.others;refine R0 ht hi hzs hsz hc' ho' hl hy h1 h63 hby fun A' cap' w' h2 h3 h4 _=>k A' cap' w' ?_;exact hc.back h2 h3 (o':=⟨e,sz,A',n+m,cap',xs++ys⟩) h4 fun x hx=>⟨x,hx,rfl⟩
theorem A1O {t T:Nat} {cs:Array Bool} {S1:Nat->Prop} (ht:P.underlying t=some (.slice e)) (hi:(P.info? e).map (fun i=>(i.zero,i.size,i.bytes))=some (some z,sz,bytes)) (hzs:z.cells.size=sz) (hsz:0<sz)
  (hc:CtxF S0 w0 S w l (⟨e,sz,A,n,cap,xs⟩::os) R) (hR:Row S1 w B m c ys) (hl:ys.length=m*sz) (h1:D7 ys=true) (h63:n+m<=34359738368) (hby:bytes<=4096)
  {x y:Value} (ex:x=.slice A n cap) (ey:y=.slice B m c)
  (k:∀ A' cap' w',CtxF S0 w0 S w' l (⟨e,sz,A',n+m,cap',xs++ys⟩::os) R->K (.slice A' (n+m) cap') w'):
  ∃ v w',(builtin .append #[t,t] T cs #[x,y]).run P w=.ok (.value v) w'/\K v w':=by
 obtain⟨hc',ho'⟩:=hc.others;refine B2S ht hi hzs hsz hc' ho' hR hl h1 h63 hby ex ey fun A' cap' w' h2 h3 h4 _=>k A' cap' w' ?_;exact hc.back h2 h3 (o':=⟨e,sz,A',n+m,cap',xs++ys⟩) h4 fun x hx=>⟨x,hx,rfl⟩
end
end
section
variable {S0 S:Nat->Prop} {w0 w:World} {l:List LB} {os:List OR} {R:Kn} {g T:Nat} {cs xs:List Value} {o:Nat} {K:World->Prop}
theorem CtxF.s (hc:CtxF S0 w0 S w l os R) (k:Nat) (h:l[k]?=some (g,T,cs)) (hk:∀ w',D0 w ⟨g,o,none⟩ xs w'->CtxF S0 w0 S w' (F4 l k (C0 cs o xs)) os R->K w') (hl:Nat.ble (o+xs.length) cs.length=true:=by rfl) (h1:D7 xs=true:=by rfl):C7 w ⟨g,o,none⟩ xs 0/\∀ w',D0 w ⟨g,o,none⟩ xs w'->K w':=
 ⟨hc.may k h o xs (ze hl) h1,fun w' hS=>hk w' hS (hc.set k h hS).1⟩
theorem CtxF.s' (hc:CtxF S0 w0 S w l os R) (k:Nat) (h:l[k]?=some (g,T,cs)) (hk:∀ w',D0 w ⟨g,o,none⟩ xs w'->CtxF S0 w0 S w' (F4 l k (C0 cs o xs)) os R->K w') (hl:Nat.ble (o+xs.length) cs.length=true:=by rfl) (h1:D7 xs=true:=by rfl):C7 w ⟨g,o,none⟩ xs 0/\∀ w',D0 w ⟨g,o,none⟩ xs w'->True/\K w':=
 ⟨hc.may k h o xs (ze hl) h1,fun w' hS=>⟨trivial,hk w' hS (hc.set k h hS).1⟩⟩
theorem CtxF.c (hc:CtxF S0 w0 S w l os R) (k:Nat) (h:l[k]?=some (g,T,cs)) {i:Nat} {v:Value} {K:Value->Prop} (hv:cs[i]?=some v) (hk:K v):∃ v,w.cell? ⟨g,i,none⟩=some v/\K v:=⟨v,hc.cell k h i hv,hk⟩
theorem CtxF.a (hc:CtxF S0 w0 S w l os R) (k:Nat) (h:l[k]?=some (g,T,cs)) {n:Nat} {K:List Value->Prop} (hn:cs.length=n) (hk:K cs):∃ ds:List Value,ds.length=n/\Go.Vc.cellsAt w ⟨g,0,none⟩ ds 0/\K ds:=⟨cs,hn,hc.cells k h,hk⟩
theorem CtxF.a' (hc:CtxF S0 w0 S w l os R) (k:Nat) (h:l[k]?=some (g,T,cs)) {n:Nat} {K:List Value->Prop} (hn:cs.length=n) (hk:K cs):∃ ds:List Value,ds.length=n/\Go.Vc.cellsAt w ⟨g,0,none⟩ ds 0/\True/\K ds:=⟨cs,hn,hc.cells k h,trivial,hk⟩
theorem CtxF.n (hc:CtxF S0 w0 S w l os R) {K:Nat->World->Prop} (hk:∀ g w',New w cs T g w'->CtxF S0 w0 S w' ((g,T,cs)::l) os R->K g w'):∀ g w',New w cs T g w'->K g w':=fun g w' h=>hk g w' h (hc.loc h).1
theorem CtxF.n' (hc:CtxF S0 w0 S w l os R) {K:Nat->World->Prop} (hk:∀ g w',New w cs T g w'->CtxF S0 w0 S w' ((g,T,cs)::l) os R->K g w'):∀ g w',New w cs T g w'->True/\K g w':=fun g w' h=>⟨trivial,hk g w' h (hc.loc h).1⟩
theorem CtxF.q (hc:CtxF S0 w0 S w l os R) {P:Program} {n:Nat} {args:List Value} {v:Value} {K:Value->World->Prop} (h:Calls P n args.toArray w (C8 v w)) (hk:∀ w',Below w.heap.size w w'->CtxF S0 w0 S w' l os R->K v w'):CallVc P n args w K:=B4 h fun w' hb=>hk w' hb (hc.quiet hb).1
theorem CtxF.q' (hc:CtxF S0 w0 S w l os R) {P:Program} {n:Nat} {args:List Value} {v:Value} {K:Value->World->Prop} (h:Calls P n args.toArray w (C8 v w)) (hk:∀ w',Below w.heap.size w w'->CtxF S0 w0 S w' l os R->K v w'):CallVc P n args w (fun v w'=>True/\K v w'):=B4 h fun w' hb=>⟨trivial,hk w' hb (hc.quiet hb).1⟩
end
end Go.Vc
end
namespace Go.Proofs.YtefdfaeieekioaaGreatDoor
open Go.Vc Go.RowKit Go.Fl
theorem B4S (l:List Ent) (seq:Int) (d:D) (has:Bool) (e:Ent) (h1:(E8 l d.key).isSome=has) (h2:(E8 l d.key).getD ⟨d.key,[]⟩=e):
  doK l seq d=if d.kind==3 then M0 l (posK l d.key) e d.ver else if d.kind==1&&!I4 e d.cond d.tag then (l,⟨9,0⟩) else if d.kind==2&&!has then (l,⟨6,0⟩)
   else if 12<=e.vs.length||(!has&&decide (40<=l.length)) then (l,⟨5,0⟩) else (A1s l d.key has [⟨e.key,e.vs++[⟨seq,d.kind==2,d.body⟩]⟩],⟨0,seq⟩):=by
 unfold doK;simp only [h1,h2];cases hk:(d.kind==3)
 ·rfl
 ·cases has with
  | true=>
   unfold M0 A1s;cases A1q e.vs d.ver<;>rfl
  | false=>
   cases he:E8 l d.key with
   | some x=>rw [he] at h1;cases h1
   | none=>
    rw [he] at h2;subst h2;rfl
theorem Row.cutS {S:Nat->Prop} {w:World} {A:Option Addr} {n cap:Nat} {xs:List Value} (h:Row S w A n cap xs):Row (fun b=>S b/\b<w.heap.size) w A n cap xs:=
 ⟨h.1,h.2.1,fun hx=>by
  obtain⟨ad,e,hs,hc⟩:=h.2.2 hx;refine⟨ad,e,⟨hs,?_⟩,hc⟩;cases xs with
  | nil=>exact absurd rfl hx
  | cons v r=>
   have h0:=hc 0 v rfl;have:=World.block_lt_of_cell? w _ h0;rwa [K8] at this⟩
theorem B0M {S:Nat->Prop} {w w':World}:∀ b,ext (fun b=>S b/\b<w.heap.size) w w' b->ext S w w' b:=fun b h=>by
 rcases h with h | h
 ·exact .inl h.1
 ·exact .inr h
theorem RepEs.cutS {S:Nat->Prop} {w:World} {l:List Ent} {css:List (List Value)} (h:RepEs S w l css):RepEs (fun b=>S b/\b<w.heap.size) w l css:=h.map (fun h=>Row.cutS h)
theorem RepEs.wide {S S':Nat->Prop} {w:World} {l:List Ent} {css:List (List Value)} (h:RepEs S w l css) (f:∀ b,S b->S' b):RepEs S' w l css:=h.map (fun h=>h.wide f)
theorem RepEs.fut {S S':Nat->Prop} {w w':World} {l:List Ent} {css:List (List Value)} (h:RepEs S w l css) (f:Fut S w S' w'):RepEs S' w' l css:=h.map (fun h=>h.fut f)
theorem RetK.wide {s:Stt} {B:Option Addr} {cap':Nat} {l0 l1 l2 l3 l4:Int} {S:Nat->Prop} {q:List Ent × Res} {w w':World} {en:Ending} (h:RetK s B cap' l0 l1 l2 l3 l4 (fun b=>S b/\b<w.heap.size) q w en w'):RetK s B cap' l0 l1 l2 l3 l4 S q w en w':=by obtain⟨A,c,css,h1,h2,h3,h4⟩:=h;exact⟨A,c,css,h1,h2,h3.wide B0M,h4.wide B0M⟩
theorem A14:∀ (l:List Ent) (k:ByteArray),posK l k<=l.length
 | [],_=>zc _
 | e::r,k=>by
  rw [posK];split
  ·exact Nat.succ_le_succ (A14 r k)
  ·exact zb _
def B0N (l:List Ent) (css:List (List Value)) (A:Option Addr) (cap:Nat):Kn:=fun S w=>RepEs S w l css/\Row S w A l.length cap css.flatten
theorem A27 (l:List Ent) (css:List (List Value)) (A:Option Addr) (cap:Nat):Stab (B0N l css A cap):=fun _ _ _ _ h f=>⟨RepEs.fut h.1 f,h.2.fut f⟩
theorem B2m (s:Stt) (d:D) (A B:Option Addr) (cap cap':Nat) (l0 l1 l2 l3 l4:Int) (el:s.lows=[l0,l1,l2,l3,l4]) (css:List (List Value)) (S:Nat->Prop) (w:World) (hlt:∀ b,S b->b<w.heap.size) (hE:RepEs S w s.l css) (hR:Row S w A s.l.length cap css.flatten) (hM:Row S w B s.ms.length cap' (s.ms.map F7).flatten)
  (hn:s.l.length<=1000000) (hp:s.l.Pairwise (fun a b=>C6 a.key b.key=true)) (hok:∀ e∈s.l,e.vs.length<=1000000/\(e.vs.length≠0->(G5 e.vs).ver<s.seq)/\(A4y e).1.body.size<=maxLen) (hq:E8 s.l d.key=none):
  Calls Tryz.prog 235 #[.agg (stC s A cap B cap' l0 l1 l2 l3 l4).toArray,.agg (dC d).toArray] w (RetK s B cap' l0 l1 l2 l3 l4 S (doK s.l s.seq d) w):=by
 have hrep:RepS S w s (stC s A cap B cap' l0 l1 l2 l3 l4):=⟨A,cap,css,B,cap',by rw [el];rfl,by rw [el];rfl,hE,hR,hM⟩;have hRm:=D4 hR;refine vE Tryz.func235 ?_;intro g2 w1 h1;have hc:=((CtxF.start w S hlt (R:=B0N s.l css A cap) ⟨hE,hR⟩ (A27 _ _ _ _)).loc h1).1;refine hc.n fun g3 w2 h2 hc=>?_;refine hc.n fun g4 w3 h3 hc=>?_;refine hc.n fun g5 w4 h4 hc=>?_;refine hc.a 3 rfl rfl ?_;refine hc.c 2 rfl rfl ?_;have hfind:=A7O s d.key hp hn _ S w4 (hrep.below hc.below);rw [hq] at hfind;refine B4 hfind ?_;clear hfind;intro w5 h5;have hc:=(hc.quiet h5).1;refine hc.c 2 rfl rfl ?_;refine hc.n fun g8 w6 h6 hc=>?_;refine⟨hc.may 0 rfl _ _ (zc 2) rfl,?_⟩;intro w7 h7;have hc:=(hc.set 0 rfl h7).1;have hD:=B4S s.l s.seq d;rw [hq] at hD;obtain⟨e,he⟩:∃ e:Ent,e=⟨d.key,[]⟩:=⟨_,rfl⟩;have hD:=hD false e rfl (by rw [he];rfl);have hev:e.vs=[]:=by rw [he]
 have heb:(A4y e).1.body.size<=maxLen:=by rw [he];exact zb _
 have hRe:Row S w none 0 0 (([]:List Ver).map K2).flatten:=⟨zc _,zb _,fun h=>absurd rfl h⟩;obtain⟨A1,cap1,hRe,hc⟩:∃ (A1:Option Addr) (cap1:Nat),Row S w A1 e.vs.length cap1 (e.vs.map K2).flatten/\CtxF S w S w7 [(g8,99,[.string e.key,.slice A1 e.vs.length cap1]),(g5,36,[.int .i64 0,.int .i64 0]),(g4,41,(lay.ty 41).zero),(g3,45,dC d),(g2,41,stC s A cap B cap' l0 l1 l2 l3 l4)] [] (B0N s.l css A cap):=⟨none,0,by rw [hev];exact hRe,by rw [he];exact hc⟩;have hel:e.vs.length<=1000000:=by rw [hev];exact zb _
 have h12:¬ 12<=e.vs.length:=by rw [hev];decide
 refine hc.c 0 rfl rfl ?_;refine df (show ¬ (12:Int)<=(e.vs.length:Int) by omega) ?_;refine hc.c 4 rfl rfl ?_;refine hc.c 4 rfl rfl ?_;refine hc.c 3 rfl rfl ?_;refine hc.c 3 rfl rfl ?_;refine hc.n fun g10 w10 h10 hc=>?_;refine⟨hc.may 0 rfl _ _ (zc 3) rfl,?_⟩;intro w11 h11;have hc:=(hc.set 0 rfl h11).1;refine hc.c 4 rfl rfl ?_;cases k3:(d.kind==3);rotate_left
 ·refine B0 k3 ?_;rw [show doK s.l s.seq d=M0 s.l (posK s.l d.key) e d.ver by rw [hD,k3];rfl];refine hc.a 5 rfl rfl ?_;refine hc.a 1 rfl rfl ?_;refine hc.c 4 rfl rfl ?_;refine⟨(A0k s A B cap cap' l0 l1 l2 l3 l4 css S w11 (hE.below hc.below) (hR.below hc.below) hn (posK s.l d.key) e A1 cap1 (hRe.below hc.below) hel d.ver (fun h=>by rw [hev] at h;cases h)).mono fun en w12 hq=>?_⟩;obtain⟨A5,c5,css5,e5,h12,hE5,hR5⟩:=hq;have hc:=(hc.call h12).1.know (X:=fun S w=>RepEs S w (M0 s.l (posK s.l d.key) e d.ver).1 css5/\Row S w A5 (M0 s.l (posK s.l d.key) e d.ver).1.length c5 css5.flatten) ⟨hE5,hR5⟩ (fun _ _ _ _ h f=>⟨RepEs.fut h.1 f,h.2.fut f⟩);refine⟨_,e5,?_⟩;refine⟨hc.may 3 rfl 0 _ (nle rfl) rfl,?_⟩;intro w20 h20;have hc:=(hc.set 3 rfl h20).1;refine⟨hc.may 2 rfl 0 _ (nle rfl) rfl,?_⟩;intro w21 h21;have hc:=(hc.set 2 rfl h21).1;refine hc.a 3 rfl rfl ?_;refine hc.a 2 rfl rfl ?_;exact⟨A5,c5,css5,rfl,hc.below,hc.out.2.1,hc.out.2.2⟩
 refine C3X k3 ?_;refine hc.c 4 rfl rfl ?_;cases k1:(d.kind==1)
 ·refine C3X k1 ?_;have hH:(d.kind==1&&!I4 e d.cond d.tag)=false:=by rw [k1];rfl
  cases k2:(d.kind==2)
  ·skip
   refine hc.c 4 rfl rfl ?_;refine C3X k2 ?_;have hN:(d.kind==2&&!false)=false:=by rw [k2];rfl
   rcases zl s.l.length 40 with h40 | h40;rotate_left
   ·refine dt (show (40:Int)<=(s.l.length:Int) by omega) ?_;rw [show doK s.l s.seq d=(s.l,⟨5,0⟩) by rw [hD,k3,hH,hN,zy h40,Bool.not_false,Bool.true_and,Bool.or_true];rfl];refine hc.a 5 rfl rfl ?_;refine⟨hc.may 3 rfl 0 _ (nle rfl) rfl,?_⟩;intro w20 h20;have hc:=(hc.set 3 rfl h20).1;refine⟨hc.may 2 rfl 0 _ (nle rfl) rfl,?_⟩;intro w21 h21;have hc:=(hc.set 2 rfl h21).1;refine hc.a 3 rfl rfl ?_;refine hc.a 2 rfl rfl ?_;exact⟨A,cap,css,rfl,hc.below,hc.out.1,hc.out.2⟩
   refine df (show ¬ (40:Int)<=(s.l.length:Int) by omega) ?_;have ek:doK s.l s.seq d=(A1s s.l d.key false [⟨e.key,e.vs++[⟨s.seq,d.kind==2,d.body⟩]⟩],⟨0,s.seq⟩):=by rw [hD,k3,hH,hN,zz (show ¬ 40<=s.l.length by omega),zz h12];rfl
   have hadd:A6G e ⟨s.seq,d.kind==2,d.body⟩=(⟨e.key,e.vs++[⟨s.seq,d.kind==2,d.body⟩]⟩,true):=by
    rw [A6G,y7];rintro (h' | h')
    ·exact absurd (by rw [hev];rfl) h'.1
    ·omega
   obtain⟨vs,hvs⟩:∃ vs:List Ver,vs=e.vs++[⟨s.seq,d.kind==2,d.body⟩]:=⟨_,rfl⟩;rw [<-hvs] at hadd ek;clear hvs;rw [ek];clear ek;refine hc.a 1 rfl rfl ?_;refine hc.a 0 rfl rfl ?_;refine⟨(A10 e ⟨s.seq,d.kind==2,d.body⟩ A1 cap1 hel S _ (hRe.below hc.below)).mono fun en w13 hq=>?_⟩;rw [hadd] at hq;obtain⟨A2,cap2,e1,h13,ho⟩:=hq;simp only at e1 ho;have hc:=hc.fresh h13 ho;obtain⟨S1,hs1,hc⟩:=hc.told;refine⟨_,e1,?_⟩;refine⟨hc.may 1 rfl 0 _ (zc 2) rfl,?_⟩;intro w14 h14;have hc:=(hc.set 1 rfl h14).1;refine hc.c 5 rfl rfl ?_;refine⟨(C4J A s.l.length cap css hE.flat hE.len hn S w14 (hR.below hc.below)).mono fun en w15 hq=>?_⟩;obtain⟨A3,cap3,e3,h15,ho⟩:=hq;have hc:=hc.fresh h15 ho;refine⟨_,e3,?_⟩;refine hc.s 5 rfl fun w16 h16 hc=>?_;refine hc.c 5 rfl rfl ?_;refine hc.a 1 rfl rfl ?_;refine hc.n fun g17 w17 h17 hc=>?_;have hcel:=hE.len;obtain⟨hcx,hox⟩:=hc.others;have hd:=A12 hcx css hE.flat (by rw [hcel];exact hn) (A:=A3) (cap:=cap3) (by rw [hcel];exact hox) (posK s.l d.key) (by rw [hcel];exact A14 _ _) 0 g17 [.string e.key,.slice A2 vs.length cap2] rfl rfl rfl;rw [hcel] at hd;refine⟨hd.mono fun en w18 hq=>?_⟩;obtain⟨A4,cap4,e4,hcx,hfx,hox⟩:=hq;have hc:=hc.back (o':=⟨99,2,A4,s.l.length+1,cap4,(css.take (posK s.l d.key)).flatten++[.string e.key,.slice A2 vs.length cap2]++(css.drop (posK s.l d.key)).flatten⟩) hcx hfx hox (fun x hx=>⟨x,hx,rfl⟩);refine⟨_,e4,?_⟩;refine⟨hc.may 6 rfl _ _ (nle rfl) rfl,?_⟩;intro w19 h19;have hc:=(hc.set 6 rfl h19).1.drop;obtain⟨S2,hs2,hc⟩:=hc.told;refine vD (.Q [0,1,2,3] (.n 4 (.z 5) .stop)) (fun x=>Blk x g2 41 _) (hc.blk 5 rfl) ?_;have hc:=hc.drew;refine⟨_,?_,fun x hx=>B5 hx 0 _ 0 (fun j v hj=>by simpa using hj),?_⟩
   ·rfl
   refine⟨_,fun x hx=>hx.cell 0,?_⟩;refine⟨⟨hc.may 3 rfl 0 _ (nle rfl) rfl,?_⟩,trivial⟩;intro w20 h20;have hc:=(hc.set 3 rfl h20).1;refine⟨hc.blk 5 rfl,?_⟩;refine⟨hc.may 2 rfl 0 _ (nle rfl) rfl,?_⟩;intro w21 h21;have hc:=(hc.set 2 rfl h21).1;refine hc.a 3 rfl rfl ?_;refine hc.a 2 rfl rfl ?_;have ho:=hc.out;have hpe:A1s s.l d.key false [⟨e.key,vs⟩]=s.l.take (posK s.l d.key)++[⟨e.key,vs⟩]++s.l.drop (posK s.l d.key):=rfl;have hlen:(A1s s.l d.key false [⟨e.key,vs⟩]).length=s.l.length+1:=by have:=A14 s.l d.key;rw [hpe,z6,z6,zf,zg];show min (posK s.l d.key) s.l.length+1+_=_;omega
   refine⟨A4,cap4,css.take (posK s.l d.key)++[[.string e.key,.slice A2 vs.length cap2]]++css.drop (posK s.l d.key),?_,hc.below,?_,?_⟩
   ·simp only [hlen];rfl
   ·refine ((ho.1.1.1.take _).append ?_).append (ho.1.1.1.drop _);exact⟨_,_,rfl,⟨A2,cap2,rfl,ho.1.2⟩,rfl⟩
   ·simp only [hlen];rw [zr,zr,List.flatten_cons,List.flatten_nil,zw];exact ho.2
  ·skip
   refine hc.c 4 rfl rfl ?_;refine B0 k2 ?_;rw [show doK s.l s.seq d=(s.l,⟨6,0⟩) by rw [hD,k3,hH,k2];rfl];refine hc.a 5 rfl rfl ?_;refine⟨hc.may 3 rfl 0 _ (nle rfl) rfl,?_⟩;intro w20 h20;have hc:=(hc.set 3 rfl h20).1;refine⟨hc.may 2 rfl 0 _ (nle rfl) rfl,?_⟩;intro w21 h21;have hc:=(hc.set 2 rfl h21).1;refine hc.a 3 rfl rfl ?_;refine hc.a 2 rfl rfl ?_;exact⟨A,cap,css,rfl,hc.below,hc.out.1,hc.out.2⟩
 ·refine B0 k1 ?_;have k2:(d.kind==2)=false:=by
   have:d.kind=1:=by simpa using k1
   rw [this];rfl
  refine hc.a 1 rfl rfl ?_;refine hc.c 4 rfl rfl ?_;refine hc.c 4 rfl rfl ?_;refine hc.q (A1y e d.cond d.tag A1 cap1 S w11 (hRe.below hc.below) heb) fun w12 h12w hc=>?_;rcases Bool.eq_false_or_eq_true (I4 e d.cond d.tag) with hh | hh;rotate_left
  ·refine B0 (by show (!I4 e d.cond d.tag)=true;rw [hh];rfl) ?_;rw [show doK s.l s.seq d=(s.l,⟨9,0⟩) by rw [hD,k3,k1,hh];rfl];refine hc.a 5 rfl rfl ?_;refine⟨hc.may 3 rfl 0 _ (nle rfl) rfl,?_⟩;intro w20 h20;have hc:=(hc.set 3 rfl h20).1;refine⟨hc.may 2 rfl 0 _ (nle rfl) rfl,?_⟩;intro w21 h21;have hc:=(hc.set 2 rfl h21).1;refine hc.a 3 rfl rfl ?_;refine hc.a 2 rfl rfl ?_;exact⟨A,cap,css,rfl,hc.below,hc.out.1,hc.out.2⟩
  refine C3X (by show (!I4 e d.cond d.tag)=false;rw [hh];rfl) ?_;have hH:(d.kind==1&&!I4 e d.cond d.tag)=false:=by rw [hh,Bool.not_true,Bool.and_false]
  refine hc.c 4 rfl rfl ?_;refine C3X k2 ?_;have hN:(d.kind==2&&!false)=false:=by rw [k2];rfl
  rcases zl s.l.length 40 with h40 | h40;rotate_left
  ·refine dt (show (40:Int)<=(s.l.length:Int) by omega) ?_;rw [show doK s.l s.seq d=(s.l,⟨5,0⟩) by rw [hD,k3,hH,hN,zy h40,Bool.not_false,Bool.true_and,Bool.or_true];rfl];refine hc.a 5 rfl rfl ?_;refine⟨hc.may 3 rfl 0 _ (nle rfl) rfl,?_⟩;intro w20 h20;have hc:=(hc.set 3 rfl h20).1;refine⟨hc.may 2 rfl 0 _ (nle rfl) rfl,?_⟩;intro w21 h21;have hc:=(hc.set 2 rfl h21).1;refine hc.a 3 rfl rfl ?_;refine hc.a 2 rfl rfl ?_;exact⟨A,cap,css,rfl,hc.below,hc.out.1,hc.out.2⟩
  refine df (show ¬ (40:Int)<=(s.l.length:Int) by omega) ?_;have ek:doK s.l s.seq d=(A1s s.l d.key false [⟨e.key,e.vs++[⟨s.seq,d.kind==2,d.body⟩]⟩],⟨0,s.seq⟩):=by rw [hD,k3,hH,hN,zz (show ¬ 40<=s.l.length by omega),zz h12];rfl
  have hadd:A6G e ⟨s.seq,d.kind==2,d.body⟩=(⟨e.key,e.vs++[⟨s.seq,d.kind==2,d.body⟩]⟩,true):=by
   rw [A6G,y7];rintro (h' | h')
   ·exact absurd (by rw [hev];rfl) h'.1
   ·omega
  obtain⟨vs,hvs⟩:∃ vs:List Ver,vs=e.vs++[⟨s.seq,d.kind==2,d.body⟩]:=⟨_,rfl⟩;rw [<-hvs] at hadd ek;clear hvs;rw [ek];clear ek;refine hc.a 1 rfl rfl ?_;refine hc.a 0 rfl rfl ?_;refine⟨(A10 e ⟨s.seq,d.kind==2,d.body⟩ A1 cap1 hel S _ (hRe.below hc.below)).mono fun en w13 hq=>?_⟩;rw [hadd] at hq;obtain⟨A2,cap2,e1,h13,ho⟩:=hq;simp only at e1 ho;have hc:=hc.fresh h13 ho;obtain⟨S1,hs1,hc⟩:=hc.told;refine⟨_,e1,?_⟩;refine⟨hc.may 1 rfl 0 _ (zc 2) rfl,?_⟩;intro w14 h14;have hc:=(hc.set 1 rfl h14).1;refine hc.c 5 rfl rfl ?_;refine⟨(C4J A s.l.length cap css hE.flat hE.len hn S w14 (hR.below hc.below)).mono fun en w15 hq=>?_⟩;obtain⟨A3,cap3,e3,h15,ho⟩:=hq;have hc:=hc.fresh h15 ho;refine⟨_,e3,?_⟩;refine hc.s 5 rfl fun w16 h16 hc=>?_;refine hc.c 5 rfl rfl ?_;refine hc.a 1 rfl rfl ?_;refine hc.n fun g17 w17 h17 hc=>?_;have hcel:=hE.len;obtain⟨hcx,hox⟩:=hc.others;have hd:=A12 hcx css hE.flat (by rw [hcel];exact hn) (A:=A3) (cap:=cap3) (by rw [hcel];exact hox) (posK s.l d.key) (by rw [hcel];exact A14 _ _) 0 g17 [.string e.key,.slice A2 vs.length cap2] rfl rfl rfl;rw [hcel] at hd;refine⟨hd.mono fun en w18 hq=>?_⟩;obtain⟨A4,cap4,e4,hcx,hfx,hox⟩:=hq;have hc:=hc.back (o':=⟨99,2,A4,s.l.length+1,cap4,(css.take (posK s.l d.key)).flatten++[.string e.key,.slice A2 vs.length cap2]++(css.drop (posK s.l d.key)).flatten⟩) hcx hfx hox (fun x hx=>⟨x,hx,rfl⟩);refine⟨_,e4,?_⟩;refine⟨hc.may 6 rfl _ _ (nle rfl) rfl,?_⟩;intro w19 h19;have hc:=(hc.set 6 rfl h19).1.drop;obtain⟨S2,hs2,hc⟩:=hc.told;refine vD (.Q [0,1,2,3] (.n 4 (.z 5) .stop)) (fun x=>Blk x g2 41 _) (hc.blk 5 rfl) ?_;have hc:=hc.drew;refine⟨_,?_,fun x hx=>B5 hx 0 _ 0 (fun j v hj=>by simpa using hj),?_⟩
  ·rfl
  refine⟨_,fun x hx=>hx.cell 0,?_⟩;refine⟨⟨hc.may 3 rfl 0 _ (nle rfl) rfl,?_⟩,trivial⟩;intro w20 h20;have hc:=(hc.set 3 rfl h20).1;refine⟨hc.blk 5 rfl,?_⟩;refine⟨hc.may 2 rfl 0 _ (nle rfl) rfl,?_⟩;intro w21 h21;have hc:=(hc.set 2 rfl h21).1;refine hc.a 3 rfl rfl ?_;refine hc.a 2 rfl rfl ?_;have ho:=hc.out;have hpe:A1s s.l d.key false [⟨e.key,vs⟩]=s.l.take (posK s.l d.key)++[⟨e.key,vs⟩]++s.l.drop (posK s.l d.key):=rfl;have hlen:(A1s s.l d.key false [⟨e.key,vs⟩]).length=s.l.length+1:=by have:=A14 s.l d.key;rw [hpe,z6,z6,zf,zg];show min (posK s.l d.key) s.l.length+1+_=_;omega
  refine⟨A4,cap4,css.take (posK s.l d.key)++[[.string e.key,.slice A2 vs.length cap2]]++css.drop (posK s.l d.key),?_,hc.below,?_,?_⟩
  ·simp only [hlen];rfl
  ·refine ((ho.1.1.1.take _).append ?_).append (ho.1.1.1.drop _);exact⟨_,_,rfl,⟨A2,cap2,rfl,ho.1.2⟩,rfl⟩
  ·simp only [hlen];rw [zr,zr,List.flatten_cons,List.flatten_nil,zw];exact ho.2
theorem B5G (s:Stt) (d:D) (A B:Option Addr) (cap cap':Nat) (l0 l1 l2 l3 l4:Int) (el:s.lows=[l0,l1,l2,l3,l4]) (css:List (List Value)) (S:Nat->Prop) (w:World) (hlt:∀ b,S b->b<w.heap.size) (hE:RepEs S w s.l css) (hR:Row S w A s.l.length cap css.flatten) (hM:Row S w B s.ms.length cap' (s.ms.map F7).flatten)
  (hn:s.l.length<=1000000) (hp:s.l.Pairwise (fun a b=>C6 a.key b.key=true)) (hok:∀ e∈s.l,e.vs.length<=1000000/\(e.vs.length≠0->(G5 e.vs).ver<s.seq)/\(A4y e).1.body.size<=maxLen) (e:Ent) (hq:E8 s.l d.key=some e):
  Calls Tryz.prog 235 #[.agg (stC s A cap B cap' l0 l1 l2 l3 l4).toArray,.agg (dC d).toArray] w (RetK s B cap' l0 l1 l2 l3 l4 S (doK s.l s.seq d) w):=by
 have hrep:RepS S w s (stC s A cap B cap' l0 l1 l2 l3 l4):=⟨A,cap,css,B,cap',by rw [el];rfl,by rw [el];rfl,hE,hR,hM⟩;have hRm:=D4 hR;refine vE Tryz.func235 ?_;intro g2 w1 h1;have hc:=((CtxF.start w S hlt (R:=B0N s.l css A cap) ⟨hE,hR⟩ (A27 _ _ _ _)).loc h1).1;refine hc.n fun g3 w2 h2 hc=>?_;refine hc.n fun g4 w3 h3 hc=>?_;refine hc.n fun g5 w4 h4 hc=>?_;refine hc.a 3 rfl rfl ?_;refine hc.c 2 rfl rfl ?_;have hfind:=A7O s d.key hp hn _ S w4 (hrep.below hc.below);rw [hq] at hfind;refine B4 hfind ?_;clear hfind;intro w5 h5;have hc:=(hc.quiet h5).1;refine hc.c 2 rfl rfl ?_;refine hc.n fun g8 w6 h6 hc=>?_;refine⟨hc.may 0 rfl _ _ (zc 2) rfl,?_⟩;intro w7 h7;have hc:=(hc.set 0 rfl h7).1;have hD:=B4S s.l s.seq d;rw [hq] at hD;have hD:=hD true e rfl rfl;obtain⟨hg,_⟩:=Q0 hq;have hpl:posK s.l d.key<s.l.length:=(List.getElem?_eq_some_iff.1 hg).1;have hge:s.l[posK s.l d.key]=e:=(List.getElem?_eq_some_iff.1 hg).2;obtain⟨hel,hev,heb⟩:=hok e (A45 hq);refine hc.c 4 rfl rfl ?_;obtain⟨ad,A1,cap1,e1,hcell,hRe⟩:=RowE.elem hR hE (posK s.l d.key) hpl;have hcell:=cellsAt_later hc.below _ _ hcell;rw [hge] at hcell hRe;subst e1;refine⟨⟨Int.natCast_nonneg _,Int.ofNat_lt.2 hpl⟩,?_⟩;refine⟨[.string e.key,.slice A1 e.vs.length cap1],rfl,hcell,?_⟩;refine⟨hc.may 0 rfl _ _ (zc 2) rfl,?_⟩;intro w8 h8;have hc:=(hc.set 0 rfl h8).1;have hc:CtxF S w S w8 [(g8,99,[.string e.key,.slice A1 e.vs.length cap1]),(g5,36,[.int .i64 0,.int .i64 0]),(g4,41,(lay.ty 41).zero),(g3,45,dC d),(g2,41,stC s (some ad) cap B cap' l0 l1 l2 l3 l4)] [] (B0N s.l css (some ad) cap):=hc;refine hc.c 0 rfl rfl ?_;rcases zl e.vs.length 12 with h12' | h12;rotate_left
 ·refine dt (show (12:Int)<=(e.vs.length:Int) by omega) ?_;refine hc.c 4 rfl rfl ?_;refine hc.c 3 rfl rfl ?_;refine hc.c 3 rfl rfl ?_;refine hc.n fun g10 w10 h10 hc=>?_;refine⟨hc.may 0 rfl _ _ (zc 3) rfl,?_⟩;intro w11 h11;have hc:=(hc.set 0 rfl h11).1;refine hc.c 4 rfl rfl ?_;cases k3:(d.kind==3);rotate_left
  ·refine B0 k3 ?_;rw [show doK s.l s.seq d=M0 s.l (posK s.l d.key) e d.ver by rw [hD,k3];rfl];refine hc.a 5 rfl rfl ?_;refine hc.a 1 rfl rfl ?_;refine hc.c 4 rfl rfl ?_;refine⟨(A0k s (some ad) B cap cap' l0 l1 l2 l3 l4 css S w11 (hE.below hc.below) (hR.below hc.below) hn (posK s.l d.key) e A1 cap1 (hRe.below hc.below) hel d.ver (fun h=>hpl)).mono fun en w12 hq=>?_⟩;obtain⟨A5,c5,css5,e5,h12,hE5,hR5⟩:=hq;have hc:=(hc.call h12).1.know (X:=fun S w=>RepEs S w (M0 s.l (posK s.l d.key) e d.ver).1 css5/\Row S w A5 (M0 s.l (posK s.l d.key) e d.ver).1.length c5 css5.flatten) ⟨hE5,hR5⟩ (fun _ _ _ _ h f=>⟨RepEs.fut h.1 f,h.2.fut f⟩);refine⟨_,e5,?_⟩;refine⟨hc.may 3 rfl 0 _ (nle rfl) rfl,?_⟩;intro w20 h20;have hc:=(hc.set 3 rfl h20).1;refine⟨hc.may 2 rfl 0 _ (nle rfl) rfl,?_⟩;intro w21 h21;have hc:=(hc.set 2 rfl h21).1;refine hc.a 3 rfl rfl ?_;refine hc.a 2 rfl rfl ?_;exact⟨A5,c5,css5,rfl,hc.below,hc.out.2.1,hc.out.2.2⟩
  refine C3X k3 ?_;refine hc.c 4 rfl rfl ?_;cases k1:(d.kind==1)
  ·refine C3X k1 ?_;have hH:(d.kind==1&&!I4 e d.cond d.tag)=false:=by rw [k1];rfl
   cases k2:(d.kind==2)
   ·skip
    refine hc.c 4 rfl rfl ?_;refine C3X k2 ?_;have hN:(d.kind==2&&!true)=false:=by rw [Bool.not_true,Bool.and_false]
    rw [show doK s.l s.seq d=(s.l,⟨5,0⟩) by rw [hD,k3,hH,hN,zy h12];rfl];refine hc.a 5 rfl rfl ?_;refine⟨hc.may 3 rfl 0 _ (nle rfl) rfl,?_⟩;intro w20 h20;have hc:=(hc.set 3 rfl h20).1;refine⟨hc.may 2 rfl 0 _ (nle rfl) rfl,?_⟩;intro w21 h21;have hc:=(hc.set 2 rfl h21).1;refine hc.a 3 rfl rfl ?_;refine hc.a 2 rfl rfl ?_;exact⟨(some ad),cap,css,rfl,hc.below,hc.out.1,hc.out.2⟩
   ·skip
    refine hc.c 4 rfl rfl ?_;refine B0 k2 ?_;have hN:(d.kind==2&&!true)=false:=by rw [Bool.not_true,Bool.and_false]
    rw [show doK s.l s.seq d=(s.l,⟨5,0⟩) by rw [hD,k3,hH,hN,zy h12];rfl];refine hc.a 5 rfl rfl ?_;refine⟨hc.may 3 rfl 0 _ (nle rfl) rfl,?_⟩;intro w20 h20;have hc:=(hc.set 3 rfl h20).1;refine⟨hc.may 2 rfl 0 _ (nle rfl) rfl,?_⟩;intro w21 h21;have hc:=(hc.set 2 rfl h21).1;refine hc.a 3 rfl rfl ?_;refine hc.a 2 rfl rfl ?_;exact⟨(some ad),cap,css,rfl,hc.below,hc.out.1,hc.out.2⟩
  ·refine B0 k1 ?_;have k2:(d.kind==2)=false:=by
    have:d.kind=1:=by simpa using k1
    rw [this];rfl
   refine hc.a 1 rfl rfl ?_;refine hc.c 4 rfl rfl ?_;refine hc.c 4 rfl rfl ?_;refine hc.q (A1y e d.cond d.tag A1 cap1 S w11 (hRe.below hc.below) heb) fun w12 h12w hc=>?_;rcases Bool.eq_false_or_eq_true (I4 e d.cond d.tag) with hh | hh;rotate_left
   ·refine B0 (by show (!I4 e d.cond d.tag)=true;rw [hh];rfl) ?_;rw [show doK s.l s.seq d=(s.l,⟨9,0⟩) by rw [hD,k3,k1,hh];rfl];refine hc.a 5 rfl rfl ?_;refine⟨hc.may 3 rfl 0 _ (nle rfl) rfl,?_⟩;intro w20 h20;have hc:=(hc.set 3 rfl h20).1;refine⟨hc.may 2 rfl 0 _ (nle rfl) rfl,?_⟩;intro w21 h21;have hc:=(hc.set 2 rfl h21).1;refine hc.a 3 rfl rfl ?_;refine hc.a 2 rfl rfl ?_;exact⟨(some ad),cap,css,rfl,hc.below,hc.out.1,hc.out.2⟩
   refine C3X (by show (!I4 e d.cond d.tag)=false;rw [hh];rfl) ?_;have hH:(d.kind==1&&!I4 e d.cond d.tag)=false:=by rw [hh,Bool.not_true,Bool.and_false]
   refine hc.c 4 rfl rfl ?_;refine C3X k2 ?_;have hN:(d.kind==2&&!true)=false:=by rw [Bool.not_true,Bool.and_false]
   rw [show doK s.l s.seq d=(s.l,⟨5,0⟩) by rw [hD,k3,hH,hN,zy h12];rfl];refine hc.a 5 rfl rfl ?_;refine⟨hc.may 3 rfl 0 _ (nle rfl) rfl,?_⟩;intro w20 h20;have hc:=(hc.set 3 rfl h20).1;refine⟨hc.may 2 rfl 0 _ (nle rfl) rfl,?_⟩;intro w21 h21;have hc:=(hc.set 2 rfl h21).1;refine hc.a 3 rfl rfl ?_;refine hc.a 2 rfl rfl ?_;exact⟨(some ad),cap,css,rfl,hc.below,hc.out.1,hc.out.2⟩
 have h12:¬ 12<=e.vs.length:=by omega
 refine df (show ¬ (12:Int)<=(e.vs.length:Int) by omega) ?_;refine hc.c 4 rfl rfl ?_;refine hc.c 3 rfl rfl ?_;refine hc.c 3 rfl rfl ?_;refine hc.n fun g10 w10 h10 hc=>?_;refine⟨hc.may 0 rfl _ _ (zc 3) rfl,?_⟩;intro w11 h11;have hc:=(hc.set 0 rfl h11).1;refine hc.c 4 rfl rfl ?_;cases k3:(d.kind==3);rotate_left
 ·refine B0 k3 ?_;rw [show doK s.l s.seq d=M0 s.l (posK s.l d.key) e d.ver by rw [hD,k3];rfl];refine hc.a 5 rfl rfl ?_;refine hc.a 1 rfl rfl ?_;refine hc.c 4 rfl rfl ?_;refine⟨(A0k s (some ad) B cap cap' l0 l1 l2 l3 l4 css S w11 (hE.below hc.below) (hR.below hc.below) hn (posK s.l d.key) e A1 cap1 (hRe.below hc.below) hel d.ver (fun h=>hpl)).mono fun en w12 hq=>?_⟩;obtain⟨A5,c5,css5,e5,h12,hE5,hR5⟩:=hq;have hc:=(hc.call h12).1.know (X:=fun S w=>RepEs S w (M0 s.l (posK s.l d.key) e d.ver).1 css5/\Row S w A5 (M0 s.l (posK s.l d.key) e d.ver).1.length c5 css5.flatten) ⟨hE5,hR5⟩ (fun _ _ _ _ h f=>⟨RepEs.fut h.1 f,h.2.fut f⟩);refine⟨_,e5,?_⟩;refine⟨hc.may 3 rfl 0 _ (nle rfl) rfl,?_⟩;intro w20 h20;have hc:=(hc.set 3 rfl h20).1;refine⟨hc.may 2 rfl 0 _ (nle rfl) rfl,?_⟩;intro w21 h21;have hc:=(hc.set 2 rfl h21).1;refine hc.a 3 rfl rfl ?_;refine hc.a 2 rfl rfl ?_;exact⟨A5,c5,css5,rfl,hc.below,hc.out.2.1,hc.out.2.2⟩
 refine C3X k3 ?_;refine hc.c 4 rfl rfl ?_;cases k1:(d.kind==1)
 ·refine C3X k1 ?_;have hH:(d.kind==1&&!I4 e d.cond d.tag)=false:=by rw [k1];rfl
  cases k2:(d.kind==2)
  ·skip
   refine hc.c 4 rfl rfl ?_;refine C3X k2 ?_;have hN:(d.kind==2&&!true)=false:=by rw [Bool.not_true,Bool.and_false]
   have ek:doK s.l s.seq d=(A1s s.l d.key true [⟨e.key,e.vs++[⟨s.seq,d.kind==2,d.body⟩]⟩],⟨0,s.seq⟩):=by rw [hD,k3,hH,hN,zz h12];rfl
   have hadd:A6G e ⟨s.seq,d.kind==2,d.body⟩=(⟨e.key,e.vs++[⟨s.seq,d.kind==2,d.body⟩]⟩,true):=by
    rw [A6G,y7];rintro (h' | h')
    ·have:=hev h'.1;exact absurd h'.2 (by show ¬ s.seq<=(G5 e.vs).ver;omega)
    ·omega
   obtain⟨vs,hvs⟩:∃ vs:List Ver,vs=e.vs++[⟨s.seq,d.kind==2,d.body⟩]:=⟨_,rfl⟩;rw [<-hvs] at hadd ek;clear hvs;rw [ek];clear ek;refine hc.a 1 rfl rfl ?_;refine hc.a 0 rfl rfl ?_;refine⟨(A10 e ⟨s.seq,d.kind==2,d.body⟩ A1 cap1 hel S _ (hRe.below hc.below)).mono fun en w13 hq=>?_⟩;rw [hadd] at hq;obtain⟨A2,cap2,e1,h13,ho⟩:=hq;simp only at e1 ho;have hc:=hc.fresh h13 ho;obtain⟨S1,hs1,hc⟩:=hc.told;refine⟨_,e1,?_⟩;refine⟨hc.may 1 rfl 0 _ (zc 2) rfl,?_⟩;intro w14 h14;have hc:=(hc.set 1 rfl h14).1;refine hc.c 5 rfl rfl ?_;refine⟨(C4J (some ad) s.l.length cap css hE.flat hE.len hn S w14 (hR.below hc.below)).mono fun en w15 hq=>?_⟩;obtain⟨A3,cap3,e3,h15,ho⟩:=hq;have hc:=hc.fresh h15 ho;refine⟨_,e3,?_⟩;refine hc.s 5 rfl fun w16 h16 hc=>?_;refine hc.c 5 rfl rfl ?_;refine hc.a 1 rfl rfl ?_;cases hA3:A3 with
   | none=>
    have hz:s.l.length=0:=(hc.fst.none' hA3).1;omega
   | some a=>
   obtain⟨g,cur,ea,hc,hcl,hct,hnc,hcm⟩:=hc.opened hA3;rw [hA3] at ea;cases ea;refine⟨⟨Int.natCast_nonneg _,Int.ofNat_lt.2 hpl⟩,?_⟩;generalize hae:((⟨g,0,none⟩:Addr).add ((posK s.l d.key:Int).toNat*2))=ae;rw [Addr.add_lit,zm,zh] at hae;subst hae;refine⟨hc.may 0 rfl (posK s.l d.key*2) [.string e.key,.slice A2 vs.length cap2] (by show posK s.l d.key*2+2<=cur.length;omega) rfl,?_⟩;intro w17 h17;have h17:D0 w16 ⟨g,posK s.l d.key*2,none⟩ [.string e.key,.slice A2 vs.length cap2] w17:=h17;have hc:=(hc.set 0 rfl h17).1;have hc:=CtxF.closed hc 2 s.l.length cap3 hnc hcm (by rw [putAt_len,hcl]);rw [A3j (c:=[.string e.key,.slice A2 vs.length cap2]) hE.flat rfl hcl hE.len hnc hct _ hpl] at hc;obtain⟨S2,hs2,hc⟩:=hc.told;refine vD (.Q [0,1,2,3] (.n 4 (.z 5) .stop)) (fun x=>Blk x g2 41 _) (hc.blk 5 rfl) ?_;have hc:=hc.drew;refine⟨_,?_,fun x hx=>B5 hx 0 _ 0 (fun j v hj=>by simpa using hj),?_⟩
   ·rfl
   refine⟨_,fun x hx=>hx.cell 0,?_⟩;refine⟨⟨hc.may 3 rfl 0 _ (nle rfl) rfl,?_⟩,trivial⟩;intro w20 h20;have hc:=(hc.set 3 rfl h20).1;refine⟨hc.blk 5 rfl,?_⟩;refine⟨hc.may 2 rfl 0 _ (nle rfl) rfl,?_⟩;intro w21 h21;have hc:=(hc.set 2 rfl h21).1;refine hc.a 3 rfl rfl ?_;refine hc.a 2 rfl rfl ?_;have ho:=hc.out;have hlen:(A1s s.l d.key true [⟨e.key,vs⟩]).length=s.l.length:=by unfold A1s;rw [y6 rfl,z6,z6,zf,zg];show min (posK s.l d.key) s.l.length+1+_=_;omega
   refine⟨A3,cap3,css.take (posK s.l d.key)++[[.string e.key,.slice A2 vs.length cap2]]++css.drop (posK s.l d.key+1),?_,hc.below,?_,?_⟩
   ·simp only [hlen];rfl
   ·refine ((ho.1.1.1.take _).append ?_).append (ho.1.1.1.drop _);exact⟨_,_,rfl,⟨A2,cap2,rfl,ho.1.2⟩,rfl⟩
   ·simp only [hlen];rw [hA3];exact ho.2
  ·skip
   refine hc.c 4 rfl rfl ?_;refine B0 k2 ?_;have hN:(d.kind==2&&!true)=false:=by rw [Bool.not_true,Bool.and_false]
   have ek:doK s.l s.seq d=(A1s s.l d.key true [⟨e.key,e.vs++[⟨s.seq,d.kind==2,d.body⟩]⟩],⟨0,s.seq⟩):=by rw [hD,k3,hH,hN,zz h12];rfl
   have hadd:A6G e ⟨s.seq,d.kind==2,d.body⟩=(⟨e.key,e.vs++[⟨s.seq,d.kind==2,d.body⟩]⟩,true):=by
    rw [A6G,y7];rintro (h' | h')
    ·have:=hev h'.1;exact absurd h'.2 (by show ¬ s.seq<=(G5 e.vs).ver;omega)
    ·omega
   obtain⟨vs,hvs⟩:∃ vs:List Ver,vs=e.vs++[⟨s.seq,d.kind==2,d.body⟩]:=⟨_,rfl⟩;rw [<-hvs] at hadd ek;clear hvs;rw [ek];clear ek;refine hc.a 1 rfl rfl ?_;refine hc.a 0 rfl rfl ?_;refine⟨(A10 e ⟨s.seq,d.kind==2,d.body⟩ A1 cap1 hel S _ (hRe.below hc.below)).mono fun en w13 hq=>?_⟩;rw [hadd] at hq;obtain⟨A2,cap2,e1,h13,ho⟩:=hq;simp only at e1 ho;have hc:=hc.fresh h13 ho;obtain⟨S1,hs1,hc⟩:=hc.told;refine⟨_,e1,?_⟩;refine⟨hc.may 1 rfl 0 _ (zc 2) rfl,?_⟩;intro w14 h14;have hc:=(hc.set 1 rfl h14).1;refine hc.c 5 rfl rfl ?_;refine⟨(C4J (some ad) s.l.length cap css hE.flat hE.len hn S w14 (hR.below hc.below)).mono fun en w15 hq=>?_⟩;obtain⟨A3,cap3,e3,h15,ho⟩:=hq;have hc:=hc.fresh h15 ho;refine⟨_,e3,?_⟩;refine hc.s 5 rfl fun w16 h16 hc=>?_;refine hc.c 5 rfl rfl ?_;refine hc.a 1 rfl rfl ?_;cases hA3:A3 with
   | none=>
    have hz:s.l.length=0:=(hc.fst.none' hA3).1;omega
   | some a=>
   obtain⟨g,cur,ea,hc,hcl,hct,hnc,hcm⟩:=hc.opened hA3;rw [hA3] at ea;cases ea;refine⟨⟨Int.natCast_nonneg _,Int.ofNat_lt.2 hpl⟩,?_⟩;generalize hae:((⟨g,0,none⟩:Addr).add ((posK s.l d.key:Int).toNat*2))=ae;rw [Addr.add_lit,zm,zh] at hae;subst hae;refine⟨hc.may 0 rfl (posK s.l d.key*2) [.string e.key,.slice A2 vs.length cap2] (by show posK s.l d.key*2+2<=cur.length;omega) rfl,?_⟩;intro w17 h17;have h17:D0 w16 ⟨g,posK s.l d.key*2,none⟩ [.string e.key,.slice A2 vs.length cap2] w17:=h17;have hc:=(hc.set 0 rfl h17).1;have hc:=CtxF.closed hc 2 s.l.length cap3 hnc hcm (by rw [putAt_len,hcl]);rw [A3j (c:=[.string e.key,.slice A2 vs.length cap2]) hE.flat rfl hcl hE.len hnc hct _ hpl] at hc;obtain⟨S2,hs2,hc⟩:=hc.told;refine vD (.Q [0,1,2,3] (.n 4 (.z 5) .stop)) (fun x=>Blk x g2 41 _) (hc.blk 5 rfl) ?_;have hc:=hc.drew;refine⟨_,?_,fun x hx=>B5 hx 0 _ 0 (fun j v hj=>by simpa using hj),?_⟩
   ·rfl
   refine⟨_,fun x hx=>hx.cell 0,?_⟩;refine⟨⟨hc.may 3 rfl 0 _ (nle rfl) rfl,?_⟩,trivial⟩;intro w20 h20;have hc:=(hc.set 3 rfl h20).1;refine⟨hc.blk 5 rfl,?_⟩;refine⟨hc.may 2 rfl 0 _ (nle rfl) rfl,?_⟩;intro w21 h21;have hc:=(hc.set 2 rfl h21).1;refine hc.a 3 rfl rfl ?_;refine hc.a 2 rfl rfl ?_;have ho:=hc.out;have hlen:(A1s s.l d.key true [⟨e.key,vs⟩]).length=s.l.length:=by unfold A1s;rw [y6 rfl,z6,z6,zf,zg];show min (posK s.l d.key) s.l.length+1+_=_;omega
   refine⟨A3,cap3,css.take (posK s.l d.key)++[[.string e.key,.slice A2 vs.length cap2]]++css.drop (posK s.l d.key+1),?_,hc.below,?_,?_⟩
   ·simp only [hlen];rfl
   ·refine ((ho.1.1.1.take _).append ?_).append (ho.1.1.1.drop _);exact⟨_,_,rfl,⟨A2,cap2,rfl,ho.1.2⟩,rfl⟩
   ·simp only [hlen];rw [hA3];exact ho.2
 ·refine B0 k1 ?_;have k2:(d.kind==2)=false:=by
   have:d.kind=1:=by simpa using k1
   rw [this];rfl
  refine hc.a 1 rfl rfl ?_;refine hc.c 4 rfl rfl ?_;refine hc.c 4 rfl rfl ?_;refine hc.q (A1y e d.cond d.tag A1 cap1 S w11 (hRe.below hc.below) heb) fun w12 h12w hc=>?_;rcases Bool.eq_false_or_eq_true (I4 e d.cond d.tag) with hh | hh;rotate_left
  ·refine B0 (by show (!I4 e d.cond d.tag)=true;rw [hh];rfl) ?_;rw [show doK s.l s.seq d=(s.l,⟨9,0⟩) by rw [hD,k3,k1,hh];rfl];refine hc.a 5 rfl rfl ?_;refine⟨hc.may 3 rfl 0 _ (nle rfl) rfl,?_⟩;intro w20 h20;have hc:=(hc.set 3 rfl h20).1;refine⟨hc.may 2 rfl 0 _ (nle rfl) rfl,?_⟩;intro w21 h21;have hc:=(hc.set 2 rfl h21).1;refine hc.a 3 rfl rfl ?_;refine hc.a 2 rfl rfl ?_;exact⟨(some ad),cap,css,rfl,hc.below,hc.out.1,hc.out.2⟩
  refine C3X (by show (!I4 e d.cond d.tag)=false;rw [hh];rfl) ?_;have hH:(d.kind==1&&!I4 e d.cond d.tag)=false:=by rw [hh,Bool.not_true,Bool.and_false]
  refine hc.c 4 rfl rfl ?_;refine C3X k2 ?_;have hN:(d.kind==2&&!true)=false:=by rw [Bool.not_true,Bool.and_false]
  have ek:doK s.l s.seq d=(A1s s.l d.key true [⟨e.key,e.vs++[⟨s.seq,d.kind==2,d.body⟩]⟩],⟨0,s.seq⟩):=by rw [hD,k3,hH,hN,zz h12];rfl
  have hadd:A6G e ⟨s.seq,d.kind==2,d.body⟩=(⟨e.key,e.vs++[⟨s.seq,d.kind==2,d.body⟩]⟩,true):=by
   rw [A6G,y7];rintro (h' | h')
   ·have:=hev h'.1;exact absurd h'.2 (by show ¬ s.seq<=(G5 e.vs).ver;omega)
   ·omega
  obtain⟨vs,hvs⟩:∃ vs:List Ver,vs=e.vs++[⟨s.seq,d.kind==2,d.body⟩]:=⟨_,rfl⟩;rw [<-hvs] at hadd ek;clear hvs;rw [ek];clear ek;refine hc.a 1 rfl rfl ?_;refine hc.a 0 rfl rfl ?_;refine⟨(A10 e ⟨s.seq,d.kind==2,d.body⟩ A1 cap1 hel S _ (hRe.below hc.below)).mono fun en w13 hq=>?_⟩;rw [hadd] at hq;obtain⟨A2,cap2,e1,h13,ho⟩:=hq;simp only at e1 ho;have hc:=hc.fresh h13 ho;obtain⟨S1,hs1,hc⟩:=hc.told;refine⟨_,e1,?_⟩;refine⟨hc.may 1 rfl 0 _ (zc 2) rfl,?_⟩;intro w14 h14;have hc:=(hc.set 1 rfl h14).1;refine hc.c 5 rfl rfl ?_;refine⟨(C4J (some ad) s.l.length cap css hE.flat hE.len hn S w14 (hR.below hc.below)).mono fun en w15 hq=>?_⟩;obtain⟨A3,cap3,e3,h15,ho⟩:=hq;have hc:=hc.fresh h15 ho;refine⟨_,e3,?_⟩;refine hc.s 5 rfl fun w16 h16 hc=>?_;refine hc.c 5 rfl rfl ?_;refine hc.a 1 rfl rfl ?_;cases hA3:A3 with
  | none=>
   have hz:s.l.length=0:=(hc.fst.none' hA3).1;omega
  | some a=>
  obtain⟨g,cur,ea,hc,hcl,hct,hnc,hcm⟩:=hc.opened hA3;rw [hA3] at ea;cases ea;refine⟨⟨Int.natCast_nonneg _,Int.ofNat_lt.2 hpl⟩,?_⟩;generalize hae:((⟨g,0,none⟩:Addr).add ((posK s.l d.key:Int).toNat*2))=ae;rw [Addr.add_lit,zm,zh] at hae;subst hae;refine⟨hc.may 0 rfl (posK s.l d.key*2) [.string e.key,.slice A2 vs.length cap2] (by show posK s.l d.key*2+2<=cur.length;omega) rfl,?_⟩;intro w17 h17;have h17:D0 w16 ⟨g,posK s.l d.key*2,none⟩ [.string e.key,.slice A2 vs.length cap2] w17:=h17;have hc:=(hc.set 0 rfl h17).1;have hc:=CtxF.closed hc 2 s.l.length cap3 hnc hcm (by rw [putAt_len,hcl]);rw [A3j (c:=[.string e.key,.slice A2 vs.length cap2]) hE.flat rfl hcl hE.len hnc hct _ hpl] at hc;obtain⟨S2,hs2,hc⟩:=hc.told;refine vD (.Q [0,1,2,3] (.n 4 (.z 5) .stop)) (fun x=>Blk x g2 41 _) (hc.blk 5 rfl) ?_;have hc:=hc.drew;refine⟨_,?_,fun x hx=>B5 hx 0 _ 0 (fun j v hj=>by simpa using hj),?_⟩
  ·rfl
  refine⟨_,fun x hx=>hx.cell 0,?_⟩;refine⟨⟨hc.may 3 rfl 0 _ (nle rfl) rfl,?_⟩,trivial⟩;intro w20 h20;have hc:=(hc.set 3 rfl h20).1;refine⟨hc.blk 5 rfl,?_⟩;refine⟨hc.may 2 rfl 0 _ (nle rfl) rfl,?_⟩;intro w21 h21;have hc:=(hc.set 2 rfl h21).1;refine hc.a 3 rfl rfl ?_;refine hc.a 2 rfl rfl ?_;have ho:=hc.out;have hlen:(A1s s.l d.key true [⟨e.key,vs⟩]).length=s.l.length:=by unfold A1s;rw [y6 rfl,z6,z6,zf,zg];show min (posK s.l d.key) s.l.length+1+_=_;omega
  refine⟨A3,cap3,css.take (posK s.l d.key)++[[.string e.key,.slice A2 vs.length cap2]]++css.drop (posK s.l d.key+1),?_,hc.below,?_,?_⟩
  ·simp only [hlen];rfl
  ·refine ((ho.1.1.1.take _).append ?_).append (ho.1.1.1.drop _);exact⟨_,_,rfl,⟨A2,cap2,rfl,ho.1.2⟩,rfl⟩
  ·simp only [hlen];rw [hA3];exact ho.2
theorem B5H (s:Stt) (d:D) (A B:Option Addr) (cap cap':Nat) (l0 l1 l2 l3 l4:Int) (el:s.lows=[l0,l1,l2,l3,l4]) (css:List (List Value)) (S:Nat->Prop) (w:World) (hE:RepEs S w s.l css) (hR:Row S w A s.l.length cap css.flatten) (hM:Row S w B s.ms.length cap' (s.ms.map F7).flatten)
  (hn:s.l.length<=1000000) (hp:s.l.Pairwise (fun a b=>C6 a.key b.key=true)) (hok:∀ e∈s.l,e.vs.length<=1000000/\(e.vs.length≠0->(G5 e.vs).ver<s.seq)/\(A4y e).1.body.size<=maxLen):
  Calls Tryz.prog 235 #[.agg (stC s A cap B cap' l0 l1 l2 l3 l4).toArray,.agg (dC d).toArray] w (RetK s B cap' l0 l1 l2 l3 l4 S (doK s.l s.seq d) w):=by
 cases hq:E8 s.l d.key with
 | none=>exact (B2m s d A B cap cap' l0 l1 l2 l3 l4 el css _ w (fun b h=>h.2) hE.cutS (Row.cutS hR) (Row.cutS hM) hn hp hok hq).mono fun _ _ h=>h.wide
 | some e=>exact (B5G s d A B cap cap' l0 l1 l2 l3 l4 el css _ w (fun b h=>h.2) hE.cutS (Row.cutS hR) (Row.cutS hM) hn hp hok e hq).mono fun _ _ h=>h.wide
abbrev B8B (l:List Ent):Prop:=l.Pairwise (fun a b=>C6 a.key b.key=true)
abbrev B8C (l:List Mem):Prop:=l.Pairwise (fun a b=>a.req<b.req)
theorem B0O {seq:Int} {p:Option ByteArray} {l:List Ent} (h:A1M seq p l=true):B8B l:=((K3 _ _ _).1 h).2.1
theorem B0P {lows:List Int} {seq:Int} {p:Option Int} {l:List Mem} (h:A1D lows seq p l=true):B8C l:=((R5 _ _ _ _).1 h).2.1
theorem B0Q {l:List Mem} (n:Nat) (m x:Mem):x∈l.take n++m::l.drop n↔x=m\/x∈l:=by
 rw [List.mem_append,List.mem_cons];have:x∈l↔x∈l.take n\/x∈l.drop n:=by rw [<-List.mem_append,List.take_append_drop]
 rw [this];constructor
 ·rintro (h | h | h)
  ·exact .inr (.inl h)
  ·exact .inl h
  ·exact .inr (.inr h)
 ·rintro (h | h | h)
  ·exact .inr (.inl h)
  ·exact .inl h
  ·exact .inr (.inr h)
theorem B0R {d:D} (h:L3 d=true):S6 d.req≠0:=by unfold L3 at h;simp only [z7,Bool.not_eq_true',y4,ne_eq] at h;exact h.1.1.1.2
inductive Done (s:Stt) (d:D):Prop where
 | form (h:T5 s=false\/L3 d=false) (e:doS s d=(s,⟨1,0⟩))
 | top (h:E3<=s.seq) (e:doS s d=(s,⟨5,0⟩))
 | old (hs:T5 s=true) (hd:L3 d=true) (hq:s.seq<E3) (h:d.req<I5 s.lows (S6 d.req)) (e:doS s d=(⟨s.seq+1,s.l,s.ms,s.lows⟩,⟨12,0⟩))
 | told (hs:T5 s=true) (hd:L3 d=true) (hq:s.seq<E3) (h:I5 s.lows (S6 d.req)<=d.req) (m:Mem) (hm:V1 s.ms d.req=some m) (e:doS s d=(⟨s.seq+1,s.l,s.ms,s.lows⟩,m.res))
 | full (hs:T5 s=true) (hd:L3 d=true) (hq:s.seq<E3) (h:I5 s.lows (S6 d.req)<=d.req) (hm:V1 s.ms d.req=none) (hf:100<=s.ms.length) (e:doS s d=(⟨s.seq+1,s.l,s.ms,s.lows⟩,⟨5,0⟩))
 | new (hs:T5 s=true) (hd:L3 d=true) (hq:s.seq<E3) (h:I5 s.lows (S6 d.req)<=d.req) (hm:V1 s.ms d.req=none) (hf:s.ms.length<100) (ms:List Mem) (lows:List Int)
   (hx:∀ m,m∈ms↔(m=⟨d.req,(doK s.l (s.seq+1) d).2⟩\/m∈s.ms)/\¬ (m.req<d.low/\S6 m.req=S6 d.req/\I5 s.lows (S6 d.req)<d.low/\S6 d.low=S6 d.req))
   (hl:lows=if I5 s.lows (S6 d.req)<d.low/\S6 d.low=S6 d.req then s.lows.set (S6 d.req-1).toNat d.low else s.lows)
   (e:doS s d=(⟨s.seq+1,(doK s.l (s.seq+1) d).1,ms,lows⟩,(doK s.l (s.seq+1) d).2))
theorem A7Q (s:Stt) (d:D):Done s d:=by
 cases hs:T5 s with
 | false=>exact .form (.inl hs) (by simp [doS,hs])
 | true=>
 cases hd:L3 d with
 | false=>exact .form (.inr hd) (by simp [doS,hd])
 | true=>
 by_cases hq:E3<=s.seq
 ·exact .top hq (by simp [doS,hs,hd,hq])
 have hq':s.seq<E3:=by omega
 by_cases h:d.req<I5 s.lows (S6 d.req)
 ·exact .old hs hd hq' h (by simp [doS,hs,hd,hq,h])
 have h':I5 s.lows (S6 d.req)<=d.req:=by omega
 cases hm:V1 s.ms d.req with
 | some m=>exact .told hs hd hq' h' m hm (by simp [doS,hs,hd,hq,h,hm])
 | none=>
 by_cases hf:100<=s.ms.length
 ·exact .full hs hd hq' h' hm hf (by simp [doS,hs,hd,hq,h,hm,hf])
 by_cases hc:I5 s.lows (S6 d.req)<d.low/\S6 d.low=S6 d.req
 ·refine .new hs hd hq' h' hm (by omega) (N7 d.low (S6 d.req) (s.ms.take (N5 s.ms d.req)++⟨d.req,(doK s.l (s.seq+1) d).2⟩::s.ms.drop (N5 s.ms d.req))) _ (fun m=>?_) rfl ?_
  ·unfold N7;rw [List.mem_filter,B0Q];refine and_congr Iff.rfl ?_;simp only [Bool.not_eq_true',Bool.and_eq_false_iff,decide_eq_false_iff_not,y4,ne_eq,hc,and_true,not_and];by_cases c:m.req<d.low<;>simp [c]
  ·rw [y6 hc];simp only [doS,hs,hd,hq,h,hm,hf,hc,Bool.not_true,Bool.or_false,Bool.false_eq_true,if_false,and_self,if_true]
 ·refine .new hs hd hq' h' hm (by omega) (s.ms.take (N5 s.ms d.req)++⟨d.req,(doK s.l (s.seq+1) d).2⟩::s.ms.drop (N5 s.ms d.req)) _ (fun m=>?_) rfl ?_
  ·rw [B0Q];constructor
   ·intro h;exact⟨h,fun h=>hc h.2.2⟩
   ·intro h;exact h.1
  ·rw [y7 hc];simp only [doS,hs,hd,hq,h,hm,hf,hc,Bool.not_true,Bool.or_false,Bool.false_eq_true,if_false]
theorem A5C {s:Stt} (d:D) (h:s.lows.length=5):(doS s d).1.lows.length=5:=by
 cases A7Q s d with
 | form h0 e=>rw [e];exact h
 | top h0 e=>rw [e];exact h
 | old hs hd hq h0 e=>rw [e];exact h
 | told hs hd hq h0 m hm e=>rw [e];exact h
 | full hs hd hq h0 hm hf e=>rw [e];exact h
 | new hs hd hq h0 hm hf ms lows hx hl e=>
  rw [e];show lows.length=5;rw [hl];split
  ·rw [List.length_set];exact h
  ·exact h
def B5I (q:Stt × Res) (S:Nat->Prop) (w:World) (en:Ending) (w':World):Prop:=
 ∃ cs,en=.returned (.tuple #[.agg cs.toArray,.agg #[.int .i64 q.2.err,.int .i64 q.2.ver]])/\Below w.heap.size w w'/\RepS (ext S w w') w' q.1 cs
theorem RepS.mk' {S:Nat->Prop} {w:World} {seq:Int} {l:List Ent} {ms:List Mem} {lows:List Int} {A B:Option Addr} {cap cap':Nat} {l0 l1 l2 l3 l4:Int} {css:List (List Value)} (el:lows=[l0,l1,l2,l3,l4]) (hE:RepEs S w l css) (hR:Row S w A l.length cap css.flatten) (hM:Row S w B ms.length cap' (ms.map F7).flatten):
  RepS S w ⟨seq,l,ms,lows⟩ [.int .i64 seq,.slice A l.length cap,.slice B ms.length cap',.int .i64 l0,.int .i64 l1,.int .i64 l2,.int .i64 l3,.int .i64 l4]:=
 ⟨A,cap,css,B,cap',by subst el;rfl,by subst el;rfl,hE,hR,hM⟩
theorem B0S (a:Addr) (cs:List Value):Stab (fun S w=>S a.block/\Go.Vc.cellsAt w a cs 0):=by
 have key:∀ (cs:List Value) (i:Nat) (S S':Nat->Prop) (w w':World),S a.block->Fut S w S' w'->Go.Vc.cellsAt w a cs i->Go.Vc.cellsAt w' a cs i:=by
  intro cs;induction cs with
  | nil=>intros;trivial
  | cons v r ih=>
   intro i S S' w w' hS f h;exact⟨(World.cell?_of_block (f.2 _ (by rw [K8];exact hS))).trans h.1,ih _ S S' w w' hS f h.2⟩
 intro S w S' w' h f;exact⟨f.1 _ h.1,key cs 0 S S' w w' h.1 f h.2⟩
theorem RowM.elemR {S:Nat->Prop} {w:World} {A:Option Addr} {n cap:Nat} {l:List Mem} (hR:Row S w A n cap (l.map F7).flatten) (i:Nat) (hi:i<l.length):
  ∃ ad ab ao asub,A=some ad/\ad.add (i*3)=⟨ab,ao,asub⟩/\S ab/\Go.Vc.cellsAt w ⟨ab,ao,asub⟩ (F7 l[i]) 0/\Go.Vc.cellsAt w ⟨ab,ao+1,none⟩ [.int .i64 l[i].res.err,.int .i64 l[i].res.ver] 0:=by
 obtain⟨ad,e,h⟩:=RowM.elem hR i hi;obtain⟨ad',e',hS,_⟩:=hR.2.2 (fun h=>by have:=(F9 l).len;rw [h,zj,List.length_nil] at this;omega);rw [e] at e';cases e';have hb:=K8 ad (i*3);generalize hae:ad.add (i*3)=ae at h hb;obtain⟨ab,ao,asub⟩:=ae;simp only at hb;subst hb;refine⟨ad,ad.block,ao,asub,e,hae,hS,h,?_⟩;obtain⟨_,h1,h2,_⟩:=h;refine⟨?_,?_,trivial⟩
 ·have:(⟨ad.block,ao+1,none⟩:Addr).add 0=(⟨ad.block,ao,asub⟩:Addr).add (0+1):=rfl;rw [this];exact h1
 ·have:(⟨ad.block,ao+1,none⟩:Addr).add (0+1)=(⟨ad.block,ao,asub⟩:Addr).add (0+1+1):=rfl;rw [this];exact h2
def B2n (l:List Ent) (css:List (List Value)) (A:Option Addr) (cap:Nat) (ms:List Mem) (B:Option Addr) (cap':Nat):Kn:=fun S w=>RepEs S w l css/\Row S w A l.length cap css.flatten/\Row S w B ms.length cap' (ms.map F7).flatten
theorem A8J {l:List Ent} {css:List (List Value)} {A:Option Addr} {cap:Nat} {ms:List Mem} {B:Option Addr} {cap':Nat}:Stab (B2n l css A cap ms B cap'):=fun _ _ _ _ h f=>⟨RepEs.fut h.1 f,h.2.1.fut f,h.2.2.fut f⟩
theorem B8s (l:List Mem) (i:Nat) (m:Mem):((l.map F7).take i).flatten++F7 m++((l.map F7).drop i).flatten=((l.take i++m::l.drop i).map F7).flatten:=by simp
theorem A3k:∀ (l:List Mem) (k:Int),N5 l k<=l.length
 | [],_=>zc _
 | e::r,k=>by
  rw [N5];split
  ·exact Nat.succ_le_succ (A3k r k)
  ·exact zb _
theorem A7R (a b c:Value) (l0 l1 l2 l3 l4 x:Int) (h j:Int) (hr:1<=h/\h<=5) (hj:j=h-1):∃ m0 m1 m2 m3 m4,[l0,l1,l2,l3,l4].set (h-1).toNat x=[m0,m1,m2,m3,m4]/\
  C0 [a,b,c,.int .i64 l0,.int .i64 l1,.int .i64 l2,.int .i64 l3,.int .i64 l4] (3+j.toNat) [.int .i64 x]=[a,b,c,.int .i64 m0,.int .i64 m1,.int .i64 m2,.int .i64 m3,.int .i64 m4]:=by
 subst hj;have:h=1\/h=2\/h=3\/h=4\/h=5:=by omega
 rcases this with rfl | rfl | rfl | rfl | rfl
 ·exact⟨x,l1,l2,l3,l4,rfl,rfl⟩
 ·exact⟨l0,x,l2,l3,l4,rfl,rfl⟩
 ·exact⟨l0,l1,x,l3,l4,rfl,rfl⟩
 ·exact⟨l0,l1,l2,x,l4,rfl,rfl⟩
 ·exact⟨l0,l1,l2,l3,x,rfl,rfl⟩
theorem B0T {s:Stt} (h:T5 s=true):∀ e∈s.l,e.vs.length<=1000000/\(e.vs.length≠0->(G5 e.vs).ver<s.seq+1)/\(A4y e).1.body.size<=maxLen:=by
 intro e he;obtain⟨_,_,hris,_⟩:=C5.1 h;have ho:=((K3 _ _ _).1 hris).1 e he;have hp:=E1.1 ho.1;have hv:=A0j ho;refine⟨by omega,fun h0=>?_,?_⟩
 ·have:=ho.2 _ (A1u (l:=e.vs) (fun h=>h0 (by rw [h];rfl)));omega
 ·rw [A4y,y7 (by omega)];have:=hv _ (A1u (l:=e.vs) (fun h=>by rw [h] at hp;simp at hp));have:=(A0i this).2;simp only [maxLen];omega
theorem B5J (s:Stt) (d:D) (hk:∀ e∈s.l,X6 e.key) (hd:d.Ok) (cs:List Value) (S:Nat->Prop) (w:World) (hlt:∀ b,S b->b<w.heap.size) (hs:RepS S w s cs):Calls Tryz.prog 190 #[.agg cs.toArray,.agg (dC d).toArray] w (B5I (doS s d) S w):=by
 obtain⟨A,cap,css,B,cap',l0,l1,l2,l3,l4,rfl,el,hE,hR,hM⟩:=hs.shape;refine vE Tryz.func190 ?_;intro g2 w1 h1;have hc:=((CtxF.start w S hlt (R:=B2n s.l css A cap s.ms B cap') ⟨hE,hR,hM⟩ A8J).loc h1).1;refine hc.n fun g3 wg3 hg3 hc=>?_;refine hc.n fun g4 wg4 hg4 hc=>?_;refine hc.n fun g5 wg5 hg5 hc=>?_;refine hc.a 3 rfl rfl ?_;refine hc.q (A3h s hk _ S _ (hs.below hc.below)) fun wQ hQ hc=>?_;have same:∀ (w':World) (r:Res),Below w.heap.size w w'->doS s d=(s,r)->B5I (doS s d) S w (.returned (.tuple #[.agg (stC s A cap B cap' l0 l1 l2 l3 l4).toArray,.agg #[.int .i64 r.err,.int .i64 r.ver]])) w':=fun w' r hb e=>by rw [e];exact⟨_,rfl,hb,hs.map (fun h=>h.old hb)⟩
 rcases Bool.eq_false_or_eq_true (T5 s) with hm | hm;rotate_left
 ·refine B0 (by show (!T5 s)=true;rw [hm];rfl) ?_;refine hc.a 3 rfl rfl ?_;refine hc.s 1 rfl fun wS hS hc=>?_;refine hc.s 0 rfl fun wS hS hc=>?_;refine hc.a 1 rfl rfl ?_;refine hc.a 0 rfl rfl ?_;exact same _ ⟨1,0⟩ hc.below (by simp [doS,hm])
 refine C3X (by show (!T5 s)=false;rw [hm];rfl) ?_;refine hc.a 2 rfl rfl ?_;refine hc.q (A3X d hd _) fun wQ hQ hc=>?_;rcases Bool.eq_false_or_eq_true (L3 d) with hmd | hmd;rotate_left
 ·refine B0 (by show (!L3 d)=true;rw [hmd];rfl) ?_;refine hc.a 3 rfl rfl ?_;refine hc.s 1 rfl fun wS hS hc=>?_;refine hc.s 0 rfl fun wS hS hc=>?_;refine hc.a 1 rfl rfl ?_;refine hc.a 0 rfl rfl ?_;exact same _ ⟨1,0⟩ hc.below (by simp [doS,hmd])
 refine C3X (by show (!L3 d)=false;rw [hmd];rfl) ?_;refine hc.c 3 rfl rfl ?_;rcases Int.lt_or_le s.seq E3 with hq | hq;rotate_left
 ·refine dt (show (1099511627776:Int)<=s.seq from hq) ?_;refine hc.a 3 rfl rfl ?_;refine hc.s 1 rfl fun wS hS hc=>?_;refine hc.s 0 rfl fun wS hS hc=>?_;refine hc.a 1 rfl rfl ?_;refine hc.a 0 rfl rfl ?_;exact same _ ⟨5,0⟩ hc.below (by simp [doS,hm,hmd,hq])
 have hq:s.seq<1099511627776:=hq;refine df (show ¬ (1099511627776:Int)<=s.seq by omega) ?_;clear same;obtain⟨⟨hq0,_⟩,⟨hl40,hm100⟩,hris,_,hmem⟩:=C5.1 hm;have hhr:=R6 d.req;have hh0:=B0R hmd;have hr15:1<=S6 d.req/\S6 d.req<=5:=by omega
 refine hc.c 3 rfl rfl ?_;have hw1:IntKind.i64.wrap (s.seq+1)=s.seq+1:=E0 _ _ (by omega) (by omega);refine⟨hc.may 3 rfl _ _ (nle rfl) rfl,?_⟩;intro w5 h5;rw [hw1] at h5;have hc:=(hc.set 3 rfl h5).1;have hc:CtxF S w S w5 [(g5,36,[.int .i64 0,.int .i64 0]),(g4,41,(lay.ty 41).zero),(g3,45,dC d),(g2,41,[.int .i64 (s.seq+1),.slice A s.l.length cap,.slice B s.ms.length cap',.int .i64 l0,.int .i64 l1,.int .i64 l2,.int .i64 l3,.int .i64 l4])] [] (B2n s.l css A cap s.ms B cap'):=hc;refine hc.c 2 rfl rfl ?_;refine hc.q (K0 d.req _) fun wQ hQ hc=>?_;have hw2:IntKind.i64.wrap (S6 d.req-1)=S6 d.req-1:=by rw [IntWalk.i64_in _ ⟨by omega,by omega⟩]
 refine hc.n fun g6 wg6 hg6 hc=>?_;refine⟨hc.may 0 rfl _ _ (zc 1) rfl,?_⟩;intro w6 h6;rw [hw2] at h6;have hc:=(hc.set 0 rfl h6).1;have hc:CtxF S w S w6 [(g6,3,[.int .i64 (S6 d.req-1)]),(g5,36,[.int .i64 0,.int .i64 0]),(g4,41,(lay.ty 41).zero),(g3,45,dC d),(g2,41,[.int .i64 (s.seq+1),.slice A s.l.length cap,.slice B s.ms.length cap',.int .i64 l0,.int .i64 l1,.int .i64 l2,.int .i64 l3,.int .i64 l4])] [] (B2n s.l css A cap s.ms B cap'):=hc;refine hc.a 4 rfl rfl ?_;refine hc.c 3 rfl rfl ?_;have hs1:RepS S w ⟨s.seq+1,s.l,s.ms,s.lows⟩ [.int .i64 (s.seq+1),.slice A s.l.length cap,.slice B s.ms.length cap',.int .i64 l0,.int .i64 l1,.int .i64 l2,.int .i64 l3,.int .i64 l4]:=RepS.mk' el hE hR hM;refine hc.q (B2k ⟨s.seq+1,s.l,s.ms,s.lows⟩ d.req (B0P hmem) (by show s.ms.length<=_;omega) _ S _ (hs1.below hc.below)) fun wQ hQ hc=>?_;have same:∀ (w':World) (r:Res),Below w.heap.size w w'->doS s d=(⟨s.seq+1,s.l,s.ms,s.lows⟩,r)->B5I (doS s d) S w (.returned (.tuple #[.agg #[.int .i64 (s.seq+1),.slice A s.l.length cap,.slice B s.ms.length cap',.int .i64 l0,.int .i64 l1,.int .i64 l2,.int .i64 l3,.int .i64 l4],.agg #[.int .i64 r.err,.int .i64 r.ver]])) w':=fun w' r hb e=>by rw [e];exact⟨_,rfl,hb,hs1.map (fun h=>h.old hb)⟩
 have hnq:¬ E3<=s.seq:=by show ¬ 1099511627776<=s.seq;omega
 have hlc:=A0K (hc.blk 4 rfl) (S6 d.req) (S6 d.req-1) hr15 rfl;rw [<-el] at hlc;refine vD (.Q [0,1,2,3,4,5,6,7] .fin) (Keeps (fun b=>b<wQ.heap.size) wQ) (Keeps.start _ _) ?_;refine⟨_,fun x hx=>hx.look (hc.cell 3 rfl _ rfl),?_⟩;refine⟨_,fun x hx=>hx.look (hc.cell 0 rfl _ rfl),?_⟩;refine⟨⟨by omega,by omega⟩,?_⟩;generalize hae:((⟨g2,0+3,none⟩:Addr).add ((S6 d.req-1).toNat*1))=ae at hlc ⊢;obtain⟨ab,ao,asub⟩:=ae;refine⟨_,fun x hx=>hx.look hlc,?_⟩;have hc:=hc.drew;rcases Int.lt_or_le d.req (I5 s.lows (S6 d.req)) with ho | ho
 ·refine dt ho ?_;refine hc.a 4 rfl rfl ?_;refine hc.s 2 rfl fun wS hS hc=>?_;refine hc.s 1 rfl fun wS hS hc=>?_;refine hc.a 2 rfl rfl ?_;refine hc.a 1 rfl rfl ?_;exact same _ ⟨12,0⟩ hc.below (by simp [doS,hm,hmd,hnq,ho])
 refine df (show ¬ d.req<I5 s.lows (S6 d.req) by omega) ?_;have hno:¬ d.req<I5 s.lows (S6 d.req):=by omega
 cases hmm:V1 s.ms d.req with
 | some m=>
  have hmi:s.ms[N5 s.ms d.req]?=some m:=by
   unfold V1 at hmm;cases e1:s.ms[N5 s.ms d.req]? with
   | none=>rw [e1] at hmm;cases hmm
   | some x=>
    rw [e1] at hmm;simp only at hmm;split at hmm
    ·exact hmm
    ·cases hmm
  obtain⟨hlt2,hge⟩:=List.getElem?_eq_some_iff.1 hmi;obtain⟨ad,ab,ao,asub,rfl,hae,hSb,_,hcell⟩:=RowM.elemR hM (N5 s.ms d.req) hlt2;rw [hge] at hcell;have hc:=hc.know (hc.old (B0S ⟨ab,ao+1,none⟩ [.int .i64 m.res.err,.int .i64 m.res.ver]) ⟨hSb,hcell⟩ hlt) (B0S _ _);refine vD (.Q [0,1,2,3,4,5,6] (.n 7 (.z 8) .stop)) (fun x=>Blk x g2 41 _/\Go.Vc.cellsAt x ⟨ab,ao+1,none⟩ [.int .i64 m.res.err,.int .i64 m.res.ver] 0) ⟨hc.blk 4 rfl,hc.row.2.2⟩ ?_;refine⟨_,?_,fun x hx=>B5 hx.1 0 _ 0 (fun j v hj=>by simpa using hj),?_⟩
  ·rfl
  refine⟨_,fun x hx=>hx.1.cell 2,?_⟩;refine⟨⟨Int.natCast_nonneg _,Int.ofNat_lt.2 hlt2⟩,?_⟩;rw [<-zh (N5 s.ms d.req)] at hae;generalize ad.add ((N5 s.ms d.req:Int).toNat*3)=ae at hae ⊢;subst hae;refine⟨_,?_,fun x hx=>hx.2,?_⟩
  ·rfl
  have hc:=hc.drew;refine⟨hc.s 2 rfl fun wS hS hc=>?_,trivial⟩;refine⟨⟨hc.blk 4 rfl,hc.row.2.2⟩,?_⟩;refine hc.s 1 rfl fun wS hS hc=>?_;refine hc.a 2 rfl rfl ?_;refine hc.a 1 rfl rfl ?_;exact same _ m.res hc.below (by simp [doS,hm,hmd,hnq,hno,hmm])
 | none=>
 refine hc.c 4 rfl rfl ?_;rcases zl s.ms.length 100 with hf | hf;rotate_left
 ·refine dt (show (100:Int)<=(s.ms.length:Int) by omega) ?_;refine hc.a 4 rfl rfl ?_;refine hc.s 2 rfl fun wS hS hc=>?_;refine hc.s 1 rfl fun wS hS hc=>?_;refine hc.a 2 rfl rfl ?_;refine hc.a 1 rfl rfl ?_;exact same _ ⟨5,0⟩ hc.below (by simp [doS,hm,hmd,hnq,ho,hno,hmm,hf])
 refine df (show ¬ (100:Int)<=(s.ms.length:Int) by omega) ?_;have hnf:¬ 100<=s.ms.length:=by omega
 refine hc.a 4 rfl rfl ?_;refine hc.a 3 rfl rfl ?_;refine⟨(B5H ⟨s.seq+1,s.l,s.ms,s.lows⟩ d A B cap cap' l0 l1 l2 l3 l4 el css S _ (hE.below hc.below) (hR.below hc.below) (hM.below hc.below) (by show s.l.length<=_;omega) (B0O hris) (B0T hm)).mono fun en wq hq=>?_⟩;obtain⟨A5,c5,css5,e5,h5,hE5,hR5⟩:=hq;have hdo:doS s d=(if I5 s.lows (S6 d.req)<d.low/\S6 d.low=S6 d.req then
   (⟨s.seq+1,(doK s.l (s.seq+1) d).1,N7 d.low (S6 d.req) (s.ms.take (N5 s.ms d.req)++⟨d.req,(doK s.l (s.seq+1) d).2⟩::s.ms.drop (N5 s.ms d.req)),s.lows.set (S6 d.req-1).toNat d.low⟩,(doK s.l (s.seq+1) d).2)
   else (⟨s.seq+1,(doK s.l (s.seq+1) d).1,s.ms.take (N5 s.ms d.req)++⟨d.req,(doK s.l (s.seq+1) d).2⟩::s.ms.drop (N5 s.ms d.req),s.lows⟩,(doK s.l (s.seq+1) d).2)):=by
  simp only [doS,hm,hmd,hnq,hno,hmm,hnf,Bool.not_true,Bool.or_false,Bool.false_eq_true,if_false]
 rw [hdo];clear hdo;have hc:=(hc.call h5).1.know (X:=fun S w=>RepEs S w (doK s.l (s.seq+1) d).1 css5/\Row S w A5 (doK s.l (s.seq+1) d).1.length c5 css5.flatten) ⟨hE5,hR5⟩ (fun _ _ _ _ h f=>⟨RepEs.fut h.1 f,h.2.fut f⟩);generalize ext S _ wq=S5 at hc;clear hE5 hR5;generalize doK s.l (s.seq+1) d=q at*;obtain⟨ql,qr⟩:=q;refine⟨_,e5,?_⟩;refine hc.n fun g9 wg9 hg9 hc=>?_;refine hc.s 5 rfl fun wS hS hc=>?_;refine hc.s 0 rfl fun wS hS hc=>?_;obtain⟨ms,hms⟩:∃ ms,ms=s.ms.take (N5 s.ms d.req)++⟨d.req,qr⟩::s.ms.drop (N5 s.ms d.req):=⟨_,rfl⟩;have hml:ms.length=s.ms.length+1:=by have:=A3k s.ms d.req;rw [hms,z6,zi,zf,zg];omega
 refine vD (.Q [0,1,3,4,5,6,7] (.n 2 (.n 8 (.n 9 (.q 10 (.z 11)) .stop) .stop) (.n 8 (.n 2 (.n 9 (.q 10 (.z 11)) .stop) .stop) .stop))) (fun x=>Blk x g2 41 _/\Blk x g3 45 (dC d)/\Blk x g9 36 _) ⟨hc.blk 5 rfl,hc.blk 4 rfl,hc.blk 0 rfl⟩ ?_;refine⟨_,fun x hx=>hx.1.cell 2,?_⟩;refine⟨_,fun x hx=>hx.2.1.cell 6,?_⟩;refine⟨_,?_,fun x hx=>B5 hx.2.2 0 _ 0 (fun j v hj=>by simpa using hj),?_⟩
 ·rfl
 have hc:=hc.drew;have hcel:(s.ms.map F7).length=s.ms.length:=zj _;refine⟨?_,?_,trivial⟩
 ·skip
  refine⟨(Q1 B s.ms.length cap' (s.ms.map F7) (F9 _) hcel (by omega) S _ (hM.below hc.below)).mono fun en wq hq=>?_⟩;obtain⟨A7,cap7,e7,h7,ho⟩:=hq;have hc:=hc.fresh h7 ho;refine⟨_,e7,⟨hc.blk 5 rfl,hc.blk 4 rfl,hc.blk 0 rfl⟩,?_⟩;refine⟨hc.n fun gb wgb hgb hc=>?_,trivial⟩;refine⟨⟨hc.blk 6 rfl,hc.blk 5 rfl,hc.blk 1 rfl⟩,?_⟩;refine⟨?_,trivial⟩;obtain⟨hcx,hox⟩:=hc.others;have hd:=A11 hcx (s.ms.map F7) (F9 _) (by rw [hcel];omega) (A:=A7) (cap:=cap7) (by rw [hcel];exact hox) (N5 s.ms d.req) (by rw [hcel];exact A3k _ _) 0 gb (F7 ⟨d.req,qr⟩) rfl rfl rfl;rw [hcel] at hd;refine⟨hd.mono fun en w18 hq=>?_⟩;obtain⟨A8,cap8,e8,hcx,hfx,hox⟩:=hq;rw [B8s,<-hms,<-hml] at hox;rw [<-hml] at e8;have hc:=(hc.back (o':=⟨101,3,A8,ms.length,cap8,(ms.map F7).flatten⟩) hcx hfx hox (fun x hx=>⟨x,hx,rfl⟩)).drop;refine⟨_,e8,⟨hc.blk 5 rfl,hc.blk 4 rfl,hc.blk 0 rfl⟩,?_⟩;refine hc.s 5 rfl fun wS hS hc=>?_;have hc:CtxF S w _ wS [(g9,36,[.int .i64 qr.err,.int .i64 qr.ver]),(g6,3,[.int .i64 (S6 d.req-1)]),(g5,36,[.int .i64 0,.int .i64 0]),(g4,41,(lay.ty 41).zero),(g3,45,dC d),(g2,41,[.int .i64 (s.seq+1),.slice A5 ql.length c5,.slice A8 ms.length cap8,.int .i64 l0,.int .i64 l1,.int .i64 l2,.int .i64 l3,.int .i64 l4])] [⟨101,3,A8,ms.length,cap8,(ms.map F7).flatten⟩] _:=hc;refine hc.c 4 rfl rfl ?_;refine hc.n fun g10 wg10 hg10 hc=>?_;refine hc.s 0 rfl fun wS hS hc=>?_;have hlc:=A0K (hc.blk 6 rfl) (S6 d.req) (S6 d.req-1) hr15 rfl;rw [<-el] at hlc;generalize hlo:I5 s.lows (S6 d.req)=lo at hlc;refine vD (.Q [0,1,2,3,4,5,6,7,9,10] (.n 8 (.Q [11,12] .fin) .stop)) (Keeps (fun b=>b<wS.heap.size) wS) (Keeps.start _ _) ?_;refine⟨_,fun x hx=>hx.look (hc.cell 0 rfl _ rfl),?_⟩;refine⟨_,fun x hx=>hx.look (hc.cell 2 rfl _ rfl),?_⟩;refine⟨⟨by omega,by omega⟩,?_⟩;generalize hae:((⟨g2,0+3,none⟩:Addr).add ((S6 d.req-1).toNat*1))=ae at hlc ⊢;have hae:(⟨g2,3+(S6 d.req-1).toNat,none⟩:Addr)=ae:=by rw [<-hae,Addr.add_lit,Nat.mul_one,zm]
  subst hae;refine⟨_,fun x hx=>hx.look hlc,?_⟩;have hk1:=Keeps.start (fun b=>b<wS.heap.size) wS;have hltS:∀ b,b<wS.heap.size->b<wS.heap.size:=fun _ h=>h;have hwh:IntKind.i64.wrap (S6 d.req-1+1)=S6 d.req:=by rw [IntWalk.i64_in _ ⟨by omega,by omega⟩];omega
  rcases Int.lt_or_le lo d.low with hlw | hlw
  ·refine dt hlw ?_;refine⟨_,fun x hx=>hx.look (hc.cell 0 rfl _ rfl),?_⟩;refine⟨_,fun x hx=>hx.look (hc.cell 2 rfl _ rfl),?_⟩;have hc:=hc.drew;refine⟨hc.q (K0 d.low _) fun w20 h20 hc=>?_,trivial⟩;refine⟨hk1.below hltS h20,?_⟩;by_cases hhl:S6 d.low=S6 d.req
   ·refine B0 (by show (S6 d.low==IntKind.i64.wrap (S6 d.req-1+1))=true;rw [hwh,hhl];simp) ?_;rw [y6 ⟨hlw,hhl⟩];refine hc.c 2 rfl rfl ?_;refine hc.c 0 rfl rfl ?_;refine⟨⟨by omega,by omega⟩,?_⟩;generalize hae:((⟨g2,0+3,none⟩:Addr).add ((S6 d.req-1).toNat*1))=ae;have hae:(⟨g2,3+(S6 d.req-1).toNat,none⟩:Addr)=ae:=by rw [<-hae,Addr.add_lit,Nat.mul_one,zm]
    subst hae;refine⟨hc.may 6 rfl (3+(S6 d.req-1).toNat) [.int .i64 d.low] (by show 3+(S6 d.req-1).toNat+1<=8;omega) rfl,?_⟩;intro w21 h21;have h21:D0 w20 ⟨g2,3+(S6 d.req-1).toNat,none⟩ [.int .i64 d.low] w21:=h21;have hc:=(hc.set 6 rfl h21).1;obtain⟨m0,m1,m2,m3,m4,em,ep⟩:=A7R (.int .i64 (s.seq+1)) (.slice A5 ql.length c5) (.slice A8 ms.length cap8) l0 l1 l2 l3 l4 d.low (S6 d.req) (S6 d.req-1) hr15 rfl;have hc:CtxF S w _ w21 [(g10,2,[.int .i64 d.low]),(g9,36,[.int .i64 qr.err,.int .i64 qr.ver]),(g6,3,[.int .i64 (S6 d.req-1)]),(g5,36,[.int .i64 0,.int .i64 0]),(g4,41,(lay.ty 41).zero),(g3,45,dC d),(g2,41,C0 [.int .i64 (s.seq+1),.slice A5 ql.length c5,.slice A8 ms.length cap8,.int .i64 l0,.int .i64 l1,.int .i64 l2,.int .i64 l3,.int .i64 l4] (3+(S6 d.req-1).toNat) [.int .i64 d.low])] [⟨101,3,A8,ms.length,cap8,(ms.map F7).flatten⟩] _:=hc;rw [ep] at hc;rw [el,em];refine hc.c 6 rfl rfl ?_;obtain⟨hcx,hox⟩:=hc.others;have hd:=V3 hcx ms (by omega) hox d.low (S6 d.req-1) (by omega) (by omega) 0 2 g10 g6 2 3 rfl rfl;rw [show S6 d.req-1+1=S6 d.req by omega] at hd;refine⟨hd.mono fun en w22 hq=>?_⟩;obtain⟨A9,e9,hcx,hfx,hox⟩:=hq;have hc:=hc.back (o':=⟨101,3,A9,(N7 d.low (S6 d.req) ms).length,cap8,((N7 d.low (S6 d.req) ms).map F7).flatten⟩) hcx hfx hox (fun x hx=>⟨x,hx,rfl⟩);refine⟨_,e9,?_⟩;refine hc.s 6 rfl fun wS hS hc=>?_;obtain⟨S9,_,hc⟩:=hc.told;refine vD (.Q [0,1] (.n 2 (.z 3) .stop)) (fun x=>Blk x g2 41 _/\Blk x g9 36 _) ⟨hc.blk 6 rfl,hc.blk 1 rfl⟩ ?_;refine⟨_,?_,fun x hx=>B5 hx.1 0 _ 0 (fun j v hj=>by simpa using hj),?_⟩
    ·rfl
    refine⟨_,?_,fun x hx=>B5 hx.2 0 _ 0 (fun j v hj=>by simpa using hj),?_⟩
    ·rfl
    have hc:=hc.drew;refine⟨hc.s 4 rfl fun wS hS hc=>?_,trivial⟩;refine⟨⟨hc.blk 6 rfl,hc.blk 1 rfl⟩,?_⟩;refine hc.s 3 rfl fun wS hS hc=>?_;refine hc.a 4 rfl rfl ?_;refine hc.a 3 rfl rfl ?_;have ho:=hc.out;subst hms;exact⟨_,rfl,hc.below,RepS.mk' rfl ho.1.2.1 ho.1.2.2 ho.2⟩
   ·refine C3X (by show (S6 d.low==IntKind.i64.wrap (S6 d.req-1+1))=false;rw [hwh];simpa using hhl) ?_;rw [y7 (fun h=>hhl h.2)];obtain⟨S9,_,hc⟩:=hc.told;refine vD (.Q [0,1] (.n 2 (.z 3) .stop)) (fun x=>Blk x g2 41 _/\Blk x g9 36 _) ⟨hc.blk 6 rfl,hc.blk 1 rfl⟩ ?_;refine⟨_,?_,fun x hx=>B5 hx.1 0 _ 0 (fun j v hj=>by simpa using hj),?_⟩
    ·rfl
    refine⟨_,?_,fun x hx=>B5 hx.2 0 _ 0 (fun j v hj=>by simpa using hj),?_⟩
    ·rfl
    have hc:=hc.drew;refine⟨hc.s 4 rfl fun wS hS hc=>?_,trivial⟩;refine⟨⟨hc.blk 6 rfl,hc.blk 1 rfl⟩,?_⟩;refine hc.s 3 rfl fun wS hS hc=>?_;refine hc.a 4 rfl rfl ?_;refine hc.a 3 rfl rfl ?_;have ho:=hc.out;subst hms;exact⟨_,rfl,hc.below,RepS.mk' el ho.1.2.1 ho.1.2.2 ho.2⟩
  ·refine df (show ¬ lo<d.low by omega) ?_;refine⟨?_,trivial⟩;have hc:=hc.drew;rw [y7 (fun h=>absurd h.1 (by omega))];obtain⟨S9,_,hc⟩:=hc.told;refine vD (.Q [0,1] (.n 2 (.z 3) .stop)) (fun x=>Blk x g2 41 _/\Blk x g9 36 _) ⟨hc.blk 6 rfl,hc.blk 1 rfl⟩ ?_;refine⟨_,?_,fun x hx=>B5 hx.1 0 _ 0 (fun j v hj=>by simpa using hj),?_⟩
   ·rfl
   refine⟨_,?_,fun x hx=>B5 hx.2 0 _ 0 (fun j v hj=>by simpa using hj),?_⟩
   ·rfl
   have hc:=hc.drew;refine⟨hc.s 4 rfl fun wS hS hc=>?_,trivial⟩;refine⟨⟨hc.blk 6 rfl,hc.blk 1 rfl⟩,?_⟩;refine hc.s 3 rfl fun wS hS hc=>?_;refine hc.a 4 rfl rfl ?_;refine hc.a 3 rfl rfl ?_;have ho:=hc.out;subst hms;exact⟨_,rfl,hc.below,RepS.mk' el ho.1.2.1 ho.1.2.2 ho.2⟩
 ·skip
  refine hc.n fun gb wgb hgb hc=>?_;refine⟨⟨hc.blk 6 rfl,hc.blk 5 rfl,hc.blk 1 rfl⟩,?_⟩;refine⟨⟨(Q1 B s.ms.length cap' (s.ms.map F7) (F9 _) hcel (by omega) S _ (hM.below hc.below)).mono fun en wq hq=>?_⟩,trivial⟩;obtain⟨A7,cap7,e7,h7,ho⟩:=hq;have hc:=hc.fresh h7 ho;refine⟨_,e7,⟨hc.blk 6 rfl,hc.blk 5 rfl,hc.blk 1 rfl⟩,?_⟩;refine⟨?_,trivial⟩;obtain⟨hcx,hox⟩:=hc.others;have hd:=A11 hcx (s.ms.map F7) (F9 _) (by rw [hcel];omega) (A:=A7) (cap:=cap7) (by rw [hcel];exact hox) (N5 s.ms d.req) (by rw [hcel];exact A3k _ _) 0 gb (F7 ⟨d.req,qr⟩) rfl rfl rfl;rw [hcel] at hd;refine⟨hd.mono fun en w18 hq=>?_⟩;obtain⟨A8,cap8,e8,hcx,hfx,hox⟩:=hq;rw [B8s,<-hms,<-hml] at hox;rw [<-hml] at e8;have hc:=(hc.back (o':=⟨101,3,A8,ms.length,cap8,(ms.map F7).flatten⟩) hcx hfx hox (fun x hx=>⟨x,hx,rfl⟩)).drop;refine⟨_,e8,⟨hc.blk 5 rfl,hc.blk 4 rfl,hc.blk 0 rfl⟩,?_⟩;refine hc.s 5 rfl fun wS hS hc=>?_;have hc:CtxF S w _ wS [(g9,36,[.int .i64 qr.err,.int .i64 qr.ver]),(g6,3,[.int .i64 (S6 d.req-1)]),(g5,36,[.int .i64 0,.int .i64 0]),(g4,41,(lay.ty 41).zero),(g3,45,dC d),(g2,41,[.int .i64 (s.seq+1),.slice A5 ql.length c5,.slice A8 ms.length cap8,.int .i64 l0,.int .i64 l1,.int .i64 l2,.int .i64 l3,.int .i64 l4])] [⟨101,3,A8,ms.length,cap8,(ms.map F7).flatten⟩] _:=hc;refine hc.c 4 rfl rfl ?_;refine hc.n fun g10 wg10 hg10 hc=>?_;refine hc.s 0 rfl fun wS hS hc=>?_;have hlc:=A0K (hc.blk 6 rfl) (S6 d.req) (S6 d.req-1) hr15 rfl;rw [<-el] at hlc;generalize hlo:I5 s.lows (S6 d.req)=lo at hlc;refine vD (.Q [0,1,2,3,4,5,6,7,9,10] (.n 8 (.Q [11,12] .fin) .stop)) (Keeps (fun b=>b<wS.heap.size) wS) (Keeps.start _ _) ?_;refine⟨_,fun x hx=>hx.look (hc.cell 0 rfl _ rfl),?_⟩;refine⟨_,fun x hx=>hx.look (hc.cell 2 rfl _ rfl),?_⟩;refine⟨⟨by omega,by omega⟩,?_⟩;generalize hae:((⟨g2,0+3,none⟩:Addr).add ((S6 d.req-1).toNat*1))=ae at hlc ⊢;have hae:(⟨g2,3+(S6 d.req-1).toNat,none⟩:Addr)=ae:=by rw [<-hae,Addr.add_lit,Nat.mul_one,zm]
  subst hae;refine⟨_,fun x hx=>hx.look hlc,?_⟩;have hk1:=Keeps.start (fun b=>b<wS.heap.size) wS;have hltS:∀ b,b<wS.heap.size->b<wS.heap.size:=fun _ h=>h;have hwh:IntKind.i64.wrap (S6 d.req-1+1)=S6 d.req:=by rw [IntWalk.i64_in _ ⟨by omega,by omega⟩];omega
  rcases Int.lt_or_le lo d.low with hlw | hlw
  ·refine dt hlw ?_;refine⟨_,fun x hx=>hx.look (hc.cell 0 rfl _ rfl),?_⟩;refine⟨_,fun x hx=>hx.look (hc.cell 2 rfl _ rfl),?_⟩;have hc:=hc.drew;refine⟨hc.q (K0 d.low _) fun w20 h20 hc=>?_,trivial⟩;refine⟨hk1.below hltS h20,?_⟩;by_cases hhl:S6 d.low=S6 d.req
   ·refine B0 (by show (S6 d.low==IntKind.i64.wrap (S6 d.req-1+1))=true;rw [hwh,hhl];simp) ?_;rw [y6 ⟨hlw,hhl⟩];refine hc.c 2 rfl rfl ?_;refine hc.c 0 rfl rfl ?_;refine⟨⟨by omega,by omega⟩,?_⟩;generalize hae:((⟨g2,0+3,none⟩:Addr).add ((S6 d.req-1).toNat*1))=ae;have hae:(⟨g2,3+(S6 d.req-1).toNat,none⟩:Addr)=ae:=by rw [<-hae,Addr.add_lit,Nat.mul_one,zm]
    subst hae;refine⟨hc.may 6 rfl (3+(S6 d.req-1).toNat) [.int .i64 d.low] (by show 3+(S6 d.req-1).toNat+1<=8;omega) rfl,?_⟩;intro w21 h21;have h21:D0 w20 ⟨g2,3+(S6 d.req-1).toNat,none⟩ [.int .i64 d.low] w21:=h21;have hc:=(hc.set 6 rfl h21).1;obtain⟨m0,m1,m2,m3,m4,em,ep⟩:=A7R (.int .i64 (s.seq+1)) (.slice A5 ql.length c5) (.slice A8 ms.length cap8) l0 l1 l2 l3 l4 d.low (S6 d.req) (S6 d.req-1) hr15 rfl;have hc:CtxF S w _ w21 [(g10,2,[.int .i64 d.low]),(g9,36,[.int .i64 qr.err,.int .i64 qr.ver]),(g6,3,[.int .i64 (S6 d.req-1)]),(g5,36,[.int .i64 0,.int .i64 0]),(g4,41,(lay.ty 41).zero),(g3,45,dC d),(g2,41,C0 [.int .i64 (s.seq+1),.slice A5 ql.length c5,.slice A8 ms.length cap8,.int .i64 l0,.int .i64 l1,.int .i64 l2,.int .i64 l3,.int .i64 l4] (3+(S6 d.req-1).toNat) [.int .i64 d.low])] [⟨101,3,A8,ms.length,cap8,(ms.map F7).flatten⟩] _:=hc;rw [ep] at hc;rw [el,em];refine hc.c 6 rfl rfl ?_;obtain⟨hcx,hox⟩:=hc.others;have hd:=V3 hcx ms (by omega) hox d.low (S6 d.req-1) (by omega) (by omega) 0 2 g10 g6 2 3 rfl rfl;rw [show S6 d.req-1+1=S6 d.req by omega] at hd;refine⟨hd.mono fun en w22 hq=>?_⟩;obtain⟨A9,e9,hcx,hfx,hox⟩:=hq;have hc:=hc.back (o':=⟨101,3,A9,(N7 d.low (S6 d.req) ms).length,cap8,((N7 d.low (S6 d.req) ms).map F7).flatten⟩) hcx hfx hox (fun x hx=>⟨x,hx,rfl⟩);refine⟨_,e9,?_⟩;refine hc.s 6 rfl fun wS hS hc=>?_;obtain⟨S9,_,hc⟩:=hc.told;refine vD (.Q [0,1] (.n 2 (.z 3) .stop)) (fun x=>Blk x g2 41 _/\Blk x g9 36 _) ⟨hc.blk 6 rfl,hc.blk 1 rfl⟩ ?_;refine⟨_,?_,fun x hx=>B5 hx.1 0 _ 0 (fun j v hj=>by simpa using hj),?_⟩
    ·rfl
    refine⟨_,?_,fun x hx=>B5 hx.2 0 _ 0 (fun j v hj=>by simpa using hj),?_⟩
    ·rfl
    have hc:=hc.drew;refine⟨hc.s 4 rfl fun wS hS hc=>?_,trivial⟩;refine⟨⟨hc.blk 6 rfl,hc.blk 1 rfl⟩,?_⟩;refine hc.s 3 rfl fun wS hS hc=>?_;refine hc.a 4 rfl rfl ?_;refine hc.a 3 rfl rfl ?_;have ho:=hc.out;subst hms;exact⟨_,rfl,hc.below,RepS.mk' rfl ho.1.2.1 ho.1.2.2 ho.2⟩
   ·refine C3X (by show (S6 d.low==IntKind.i64.wrap (S6 d.req-1+1))=false;rw [hwh];simpa using hhl) ?_;rw [y7 (fun h=>hhl h.2)];obtain⟨S9,_,hc⟩:=hc.told;refine vD (.Q [0,1] (.n 2 (.z 3) .stop)) (fun x=>Blk x g2 41 _/\Blk x g9 36 _) ⟨hc.blk 6 rfl,hc.blk 1 rfl⟩ ?_;refine⟨_,?_,fun x hx=>B5 hx.1 0 _ 0 (fun j v hj=>by simpa using hj),?_⟩
    ·rfl
    refine⟨_,?_,fun x hx=>B5 hx.2 0 _ 0 (fun j v hj=>by simpa using hj),?_⟩
    ·rfl
    have hc:=hc.drew;refine⟨hc.s 4 rfl fun wS hS hc=>?_,trivial⟩;refine⟨⟨hc.blk 6 rfl,hc.blk 1 rfl⟩,?_⟩;refine hc.s 3 rfl fun wS hS hc=>?_;refine hc.a 4 rfl rfl ?_;refine hc.a 3 rfl rfl ?_;have ho:=hc.out;subst hms;exact⟨_,rfl,hc.below,RepS.mk' el ho.1.2.1 ho.1.2.2 ho.2⟩
  ·refine df (show ¬ lo<d.low by omega) ?_;refine⟨?_,trivial⟩;have hc:=hc.drew;rw [y7 (fun h=>absurd h.1 (by omega))];obtain⟨S9,_,hc⟩:=hc.told;refine vD (.Q [0,1] (.n 2 (.z 3) .stop)) (fun x=>Blk x g2 41 _/\Blk x g9 36 _) ⟨hc.blk 6 rfl,hc.blk 1 rfl⟩ ?_;refine⟨_,?_,fun x hx=>B5 hx.1 0 _ 0 (fun j v hj=>by simpa using hj),?_⟩
   ·rfl
   refine⟨_,?_,fun x hx=>B5 hx.2 0 _ 0 (fun j v hj=>by simpa using hj),?_⟩
   ·rfl
   have hc:=hc.drew;refine⟨hc.s 4 rfl fun wS hS hc=>?_,trivial⟩;refine⟨⟨hc.blk 6 rfl,hc.blk 1 rfl⟩,?_⟩;refine hc.s 3 rfl fun wS hS hc=>?_;refine hc.a 4 rfl rfl ?_;refine hc.a 3 rfl rfl ?_;have ho:=hc.out;subst hms;exact⟨_,rfl,hc.below,RepS.mk' el ho.1.2.1 ho.1.2.2 ho.2⟩
theorem C0S:∀ {l:List Mem} {k:Int} {i:Nat},B8r l k=some i->∃ h:i<l.length,l[i].req=k
 | [],k,i,h=>by cases h
 | m::r,k,i,h=>by
  rw [B8r] at h;split at h
  ·rename_i hk;cases h;exact⟨by simp,by simpa using hk⟩
  ·cases e:B8r r k with
   | none=>rw [e] at h;cases h
   | some j=>
    rw [e] at h;cases h;obtain⟨h1,h2⟩:=C0S e;exact⟨by simpa using h1,by simpa using h2⟩
theorem C1G (n:Int):∀ l:List Mem,A7P (fun m=>m.req==n) l=B8r l n
 | []=>rfl
 | m::r=>by rw [A7P,B8r,C1G n r]
theorem C0o (s:Stt) (n:Int) (cs:List Value) (S:Nat->Prop) (w:World) (hs:RepS S w s cs):Calls Tryz.prog 162 #[.agg cs.toArray,.int .i64 n] w (C8 (.tuple #[.agg #[.int .i64 (B6t s n).1.err,.int .i64 (B6t s n).1.ver],.bool (B6t s n).2]) w):=by
 obtain⟨A,cap,css,B,cap',l0,l1,l2,l3,l4,rfl,el,hE,hR,hM⟩:=hs.shape;refine vE Tryz.func162 ?_;have hc:=CtxF.start w no (fun _ h=>h.elim) (R:=fun _ _=>True) trivial Stab.true;refine hc.n fun g2 wg2 hg2 hc=>?_;refine hc.n fun g3 wg3 hg3 hc=>?_;refine hc.n fun g4 wg4 hg4 hc=>?_;refine hc.c 2 rfl rfl ?_;have hf:=B9q (fun m=>m.req==n) ⟨g3,0,none⟩ s.ms B cap' S _ (hM.below hc.below) (fun m w' h=>C0n m ⟨g3,0,none⟩ n w' (cell_later h (hc.cell 1 rfl 0 rfl)));rw [C1G] at hf;unfold B6t;cases hi:B8r s.ms n with
 | none=>
  rw [hi,show B5A none = -1 from rfl] at hf;refine hc.q (hf) fun wQ hQ hc=>?_;refine hc.s 0 rfl fun wS hS hc=>?_;refine hc.a 0 rfl rfl ?_;exact⟨rfl,hc.below⟩
 | some i=>
  rw [hi,show B5A (some i)=(i:Int) from rfl] at hf;refine hc.q (hf) fun wQ hQ hc=>?_;obtain⟨hlt,_⟩:=C0S hi;have hg:((some i).bind fun i=>s.ms[i]?)=some s.ms[i]:=List.getElem?_eq_getElem hlt;rw [hg];obtain⟨ad,ab,ao,asub,rfl,hae,hSb,_,hcell⟩:=RowM.elemR hM i hlt;refine hc.c 2 rfl rfl ?_;refine⟨⟨Int.natCast_nonneg _,Int.ofNat_lt.2 hlt⟩,?_⟩;rw [<-zh i] at hae;generalize ad.add ((i:Int).toNat*3)=ae at hae ⊢;subst hae;refine⟨_,?_,cellsAt_later hc.below _ _ hcell,?_⟩
  ·rfl
  refine hc.s 0 rfl fun wS hS hc=>?_;refine hc.a 0 rfl rfl ?_;exact⟨rfl,hc.below⟩
theorem T6 (v:V) (cs:List Value):Stab (fun S w=>RepC S w v cs):=fun _ _ _ _ h f=>h.fut f
def Y3 (v:V) (A:Option Addr) (cap:Nat):List Value:=[.int .i64 (vK v),.int .i64 (vN v),.string (vS v),.slice A (vL v).length cap]
theorem RepC.cells {S:Nat->Prop} {w:World} {v:V} {cs:List Value} (h:RepC S w v cs):∃ A cap,cs=Y3 v A cap:=by obtain⟨k,n,s,l⟩:=v;rw [RepC] at h;obtain⟨A,cap,xs,e,_,_⟩:=h;exact⟨A,cap,e⟩
def Sm (f N:Nat) (v:V):Prop:=v=V0\/(cnt f v<=6000/\(J1 v).length<=N)
def B8D:List Value:=[.int .i64 0,.slice none 0 0,.slice none 0 0,.int .i64 0,.int .i64 0,.int .i64 0,.int .i64 0,.int .i64 0]
theorem A28 (S:Nat->Prop) (w:World):Row S w none 0 0 []:=⟨zc _,zb _,fun h=>absurd rfl h⟩
theorem rep0 (S:Nat->Prop) (w:World):RepS S w A4z B8D:=⟨none,0,[],none,0,rfl,rfl,rfl,A28 S w,A28 S w⟩
theorem A7S (s:Stt) (cs:List Value):Stab (fun S w=>RepS S w s cs):=fun _ _ _ _ h f=>h.map (fun h=>h.fut f)
def cut (s:ByteArray) (n:Nat):ByteArray:=s.extract 0 (min s.size n)
theorem B9X (s:ByteArray) (n:Nat) (w:World) (hs:s.size<=9223372036854775807):Calls Tryz.prog 49 #[.string s,.int .i64 n] w (C8 (.string (cut s n)) w):=by have:=C1K s n w (Int.natCast_nonneg _) hs;rw [zh] at this;exact this
theorem B91 (s:ByteArray) (n:Nat):(cut s n).size<=n:=by unfold cut;rw [ByteArray.size_extract];omega
def B92 (d:D):D:=⟨d.kind,cut d.key 42,cut d.body 302,d.ver,d.cond,cut d.tag 10,d.req,d.low⟩
theorem C0H {d:D} (h:d.Ok):(B92 d).Ok:=
 ⟨h.kind,zo (B91 _ _) (by decide),zo (B91 _ _) (by decide),h.ver,h.cond,zo (B91 _ _) (by decide),h.req,h.low⟩
theorem B97 (d:D) (h:d.Ok) (w:World):Calls Tryz.prog 18 #[.agg (dC d).toArray] w (C8 (.agg (dC (B92 d)).toArray) w):=by
 refine vE Tryz.func18 ?_;have hc:=CtxF.start w no (fun _ h=>h.elim) (R:=fun _ _=>True) trivial Stab.true;refine hc.n fun g1 wg1 hg1 hc=>?_;refine hc.n fun g2 wg2 hg2 hc=>?_;refine vD (.Q [0,3,6] (.n 1 (.n 2 (.n 4 (.n 5 (.n 7 (.q 9 (.n 8 (.n 10 (.q 11 (.n 12 (.q 13 (.z 14)) .stop)) .stop) .stop)) .stop) (.n 7 (.q 9 (.n 5 (.n 8 (.n 10 (.q 11 (.n 12 (.q 13 (.z 14)) .stop)) .stop) .stop) .stop)) .stop)) (.n 7 (.n 4 (.q 9 (.n 5 (.n 8 (.n 10 (.q 11 (.n 12 (.q 13 (.z 14)) .stop)) .stop) .stop) .stop)) .stop) .stop)) (.n 4 (.n 2 (.n 5 (.n 7 (.q 9 (.n 8 (.n 10 (.q 11 (.n 12 (.q 13 (.z 14)) .stop)) .stop) .stop)) .stop) (.n 7 (.q 9 (.n 5 (.n 8 (.n 10 (.q 11 (.n 12 (.q 13 (.z 14)) .stop)) .stop) .stop) .stop)) .stop)) (.n 7 (.n 2 (.q 9 (.n 5 (.n 8 (.n 10 (.q 11 (.n 12 (.q 13 (.z 14)) .stop)) .stop) .stop) .stop)) .stop) .stop)) (.n 7 (.n 2 (.n 4 (.q 9 (.n 5 (.n 8 (.n 10 (.q 11 (.n 12 (.q 13 (.z 14)) .stop)) .stop) .stop) .stop)) .stop) (.n 4 (.n 2 (.q 9 (.n 5 (.n 8 (.n 10 (.q 11 (.n 12 (.q 13 (.z 14)) .stop)) .stop) .stop) .stop)) .stop) .stop)) .stop))) (.n 4 (.n 1 (.n 2 (.n 5 (.n 7 (.q 9 (.n 8 (.n 10 (.q 11 (.n 12 (.q 13 (.z 14)) .stop)) .stop) .stop)) .stop) (.n 7 (.q 9 (.n 5 (.n 8 (.n 10 (.q 11 (.n 12 (.q 13 (.z 14)) .stop)) .stop) .stop) .stop)) .stop)) (.n 7 (.n 2 (.q 9 (.n 5 (.n 8 (.n 10 (.q 11 (.n 12 (.q 13 (.z 14)) .stop)) .stop) .stop) .stop)) .stop) .stop)) (.n 7 (.n 1 (.n 2 (.q 9 (.n 5 (.n 8 (.n 10 (.q 11 (.n 12 (.q 13 (.z 14)) .stop)) .stop) .stop) .stop)) .stop) .stop) .stop)) (.n 7 (.n 1 (.n 2 (.n 4 (.q 9 (.n 5 (.n 8 (.n 10 (.q 11 (.n 12 (.q 13 (.z 14)) .stop)) .stop) .stop) .stop)) .stop) (.n 4 (.n 2 (.q 9 (.n 5 (.n 8 (.n 10 (.q 11 (.n 12 (.q 13 (.z 14)) .stop)) .stop) .stop) .stop)) .stop) .stop)) (.n 4 (.n 1 (.n 2 (.q 9 (.n 5 (.n 8 (.n 10 (.q 11 (.n 12 (.q 13 (.z 14)) .stop)) .stop) .stop) .stop)) .stop) .stop) .stop)) .stop)))) (fun _=>True) trivial ?_;have hc:=hc.drew;refine⟨?_,?_⟩
 ·skip
  refine⟨_,hc.cell 1 rfl _ rfl,trivial,?_⟩;refine⟨?_,?_⟩
  ·skip
   refine hc.q' (B9X d.key 42 _ h.key) fun wQ hQ hc=>?_;refine⟨?_,?_⟩
   ·skip
    refine⟨_,hc.cell 1 rfl _ rfl,trivial,?_⟩;refine⟨?_,?_⟩
    ·skip
     refine hc.q' (B9X d.body 302 _ h.body) fun wQ hQ hc=>?_;refine⟨⟨_,hc.cell 1 rfl _ rfl,trivial,?_⟩,trivial⟩;refine⟨hc.q' (B9X d.tag 10 _ h.tag) fun wQ hQ hc=>?_,trivial⟩;refine⟨hc.s' 1 rfl fun wS hS hc=>?_,trivial⟩;refine⟨hc.s' 1 rfl fun wS hS hc=>?_,trivial⟩;refine hc.s 1 rfl fun wS hS hc=>?_;refine hc.a 1 rfl rfl ?_;refine hc.s 0 rfl fun wS hS hc=>?_;refine hc.a 0 rfl rfl ?_;exact⟨rfl,hc.below⟩
    refine⟨⟨_,hc.cell 1 rfl _ rfl,trivial,?_⟩,trivial⟩;refine⟨hc.q' (B9X d.body 302 _ h.body) fun wQ hQ hc=>?_,trivial⟩;refine⟨hc.q' (B9X d.tag 10 _ h.tag) fun wQ hQ hc=>?_,trivial⟩;refine⟨hc.s' 1 rfl fun wS hS hc=>?_,trivial⟩;refine⟨hc.s' 1 rfl fun wS hS hc=>?_,trivial⟩;refine hc.s 1 rfl fun wS hS hc=>?_;refine hc.a 1 rfl rfl ?_;refine hc.s 0 rfl fun wS hS hc=>?_;refine hc.a 0 rfl rfl ?_;exact⟨rfl,hc.below⟩
   refine⟨⟨_,hc.cell 1 rfl _ rfl,trivial,?_⟩,trivial⟩;refine⟨⟨_,hc.cell 1 rfl _ rfl,trivial,?_⟩,trivial⟩;refine⟨hc.q' (B9X d.body 302 _ h.body) fun wQ hQ hc=>?_,trivial⟩;refine⟨hc.q' (B9X d.tag 10 _ h.tag) fun wQ hQ hc=>?_,trivial⟩;refine⟨hc.s' 1 rfl fun wS hS hc=>?_,trivial⟩;refine⟨hc.s' 1 rfl fun wS hS hc=>?_,trivial⟩;refine hc.s 1 rfl fun wS hS hc=>?_;refine hc.a 1 rfl rfl ?_;refine hc.s 0 rfl fun wS hS hc=>?_;refine hc.a 0 rfl rfl ?_;exact⟨rfl,hc.below⟩
  refine⟨?_,?_⟩
  ·skip
   refine⟨_,hc.cell 1 rfl _ rfl,trivial,?_⟩;refine⟨?_,?_⟩
   ·skip
    refine hc.q' (B9X d.key 42 _ h.key) fun wQ hQ hc=>?_;refine⟨?_,?_⟩
    ·skip
     refine hc.q' (B9X d.body 302 _ h.body) fun wQ hQ hc=>?_;refine⟨⟨_,hc.cell 1 rfl _ rfl,trivial,?_⟩,trivial⟩;refine⟨hc.q' (B9X d.tag 10 _ h.tag) fun wQ hQ hc=>?_,trivial⟩;refine⟨hc.s' 1 rfl fun wS hS hc=>?_,trivial⟩;refine⟨hc.s' 1 rfl fun wS hS hc=>?_,trivial⟩;refine hc.s 1 rfl fun wS hS hc=>?_;refine hc.a 1 rfl rfl ?_;refine hc.s 0 rfl fun wS hS hc=>?_;refine hc.a 0 rfl rfl ?_;exact⟨rfl,hc.below⟩
    refine⟨⟨_,hc.cell 1 rfl _ rfl,trivial,?_⟩,trivial⟩;refine⟨hc.q' (B9X d.body 302 _ h.body) fun wQ hQ hc=>?_,trivial⟩;refine⟨hc.q' (B9X d.tag 10 _ h.tag) fun wQ hQ hc=>?_,trivial⟩;refine⟨hc.s' 1 rfl fun wS hS hc=>?_,trivial⟩;refine⟨hc.s' 1 rfl fun wS hS hc=>?_,trivial⟩;refine hc.s 1 rfl fun wS hS hc=>?_;refine hc.a 1 rfl rfl ?_;refine hc.s 0 rfl fun wS hS hc=>?_;refine hc.a 0 rfl rfl ?_;exact⟨rfl,hc.below⟩
   refine⟨⟨_,hc.cell 1 rfl _ rfl,trivial,?_⟩,trivial⟩;refine⟨hc.q' (B9X d.key 42 _ h.key) fun wQ hQ hc=>?_,trivial⟩;refine⟨hc.q' (B9X d.body 302 _ h.body) fun wQ hQ hc=>?_,trivial⟩;refine⟨hc.q' (B9X d.tag 10 _ h.tag) fun wQ hQ hc=>?_,trivial⟩;refine⟨hc.s' 1 rfl fun wS hS hc=>?_,trivial⟩;refine⟨hc.s' 1 rfl fun wS hS hc=>?_,trivial⟩;refine hc.s 1 rfl fun wS hS hc=>?_;refine hc.a 1 rfl rfl ?_;refine hc.s 0 rfl fun wS hS hc=>?_;refine hc.a 0 rfl rfl ?_;exact⟨rfl,hc.below⟩
  refine⟨⟨_,hc.cell 1 rfl _ rfl,trivial,?_⟩,trivial⟩;refine⟨?_,?_⟩
  ·skip
   refine hc.q' (B9X d.key 42 _ h.key) fun wQ hQ hc=>?_;refine⟨⟨_,hc.cell 1 rfl _ rfl,trivial,?_⟩,trivial⟩;refine⟨hc.q' (B9X d.body 302 _ h.body) fun wQ hQ hc=>?_,trivial⟩;refine⟨hc.q' (B9X d.tag 10 _ h.tag) fun wQ hQ hc=>?_,trivial⟩;refine⟨hc.s' 1 rfl fun wS hS hc=>?_,trivial⟩;refine⟨hc.s' 1 rfl fun wS hS hc=>?_,trivial⟩;refine hc.s 1 rfl fun wS hS hc=>?_;refine hc.a 1 rfl rfl ?_;refine hc.s 0 rfl fun wS hS hc=>?_;refine hc.a 0 rfl rfl ?_;exact⟨rfl,hc.below⟩
  refine⟨⟨_,hc.cell 1 rfl _ rfl,trivial,?_⟩,trivial⟩;refine⟨hc.q' (B9X d.key 42 _ h.key) fun wQ hQ hc=>?_,trivial⟩;refine⟨hc.q' (B9X d.body 302 _ h.body) fun wQ hQ hc=>?_,trivial⟩;refine⟨hc.q' (B9X d.tag 10 _ h.tag) fun wQ hQ hc=>?_,trivial⟩;refine⟨hc.s' 1 rfl fun wS hS hc=>?_,trivial⟩;refine⟨hc.s' 1 rfl fun wS hS hc=>?_,trivial⟩;refine hc.s 1 rfl fun wS hS hc=>?_;refine hc.a 1 rfl rfl ?_;refine hc.s 0 rfl fun wS hS hc=>?_;refine hc.a 0 rfl rfl ?_;exact⟨rfl,hc.below⟩
 refine⟨?_,?_⟩
 ·skip
  refine⟨_,hc.cell 1 rfl _ rfl,trivial,?_⟩;refine⟨?_,?_⟩
  ·skip
   refine⟨_,hc.cell 1 rfl _ rfl,trivial,?_⟩;refine⟨?_,?_⟩
   ·skip
    refine hc.q' (B9X d.key 42 _ h.key) fun wQ hQ hc=>?_;refine⟨?_,?_⟩
    ·skip
     refine hc.q' (B9X d.body 302 _ h.body) fun wQ hQ hc=>?_;refine⟨⟨_,hc.cell 1 rfl _ rfl,trivial,?_⟩,trivial⟩;refine⟨hc.q' (B9X d.tag 10 _ h.tag) fun wQ hQ hc=>?_,trivial⟩;refine⟨hc.s' 1 rfl fun wS hS hc=>?_,trivial⟩;refine⟨hc.s' 1 rfl fun wS hS hc=>?_,trivial⟩;refine hc.s 1 rfl fun wS hS hc=>?_;refine hc.a 1 rfl rfl ?_;refine hc.s 0 rfl fun wS hS hc=>?_;refine hc.a 0 rfl rfl ?_;exact⟨rfl,hc.below⟩
    refine⟨⟨_,hc.cell 1 rfl _ rfl,trivial,?_⟩,trivial⟩;refine⟨hc.q' (B9X d.body 302 _ h.body) fun wQ hQ hc=>?_,trivial⟩;refine⟨hc.q' (B9X d.tag 10 _ h.tag) fun wQ hQ hc=>?_,trivial⟩;refine⟨hc.s' 1 rfl fun wS hS hc=>?_,trivial⟩;refine⟨hc.s' 1 rfl fun wS hS hc=>?_,trivial⟩;refine hc.s 1 rfl fun wS hS hc=>?_;refine hc.a 1 rfl rfl ?_;refine hc.s 0 rfl fun wS hS hc=>?_;refine hc.a 0 rfl rfl ?_;exact⟨rfl,hc.below⟩
   refine⟨⟨_,hc.cell 1 rfl _ rfl,trivial,?_⟩,trivial⟩;refine⟨hc.q' (B9X d.key 42 _ h.key) fun wQ hQ hc=>?_,trivial⟩;refine⟨hc.q' (B9X d.body 302 _ h.body) fun wQ hQ hc=>?_,trivial⟩;refine⟨hc.q' (B9X d.tag 10 _ h.tag) fun wQ hQ hc=>?_,trivial⟩;refine⟨hc.s' 1 rfl fun wS hS hc=>?_,trivial⟩;refine⟨hc.s' 1 rfl fun wS hS hc=>?_,trivial⟩;refine hc.s 1 rfl fun wS hS hc=>?_;refine hc.a 1 rfl rfl ?_;refine hc.s 0 rfl fun wS hS hc=>?_;refine hc.a 0 rfl rfl ?_;exact⟨rfl,hc.below⟩
  refine⟨⟨_,hc.cell 1 rfl _ rfl,trivial,?_⟩,trivial⟩;refine⟨⟨_,hc.cell 1 rfl _ rfl,trivial,?_⟩,trivial⟩;refine⟨hc.q' (B9X d.key 42 _ h.key) fun wQ hQ hc=>?_,trivial⟩;refine⟨hc.q' (B9X d.body 302 _ h.body) fun wQ hQ hc=>?_,trivial⟩;refine⟨hc.q' (B9X d.tag 10 _ h.tag) fun wQ hQ hc=>?_,trivial⟩;refine⟨hc.s' 1 rfl fun wS hS hc=>?_,trivial⟩;refine⟨hc.s' 1 rfl fun wS hS hc=>?_,trivial⟩;refine hc.s 1 rfl fun wS hS hc=>?_;refine hc.a 1 rfl rfl ?_;refine hc.s 0 rfl fun wS hS hc=>?_;refine hc.a 0 rfl rfl ?_;exact⟨rfl,hc.below⟩
 refine⟨⟨_,hc.cell 1 rfl _ rfl,trivial,?_⟩,trivial⟩;refine⟨?_,?_⟩
 ·skip
  refine⟨_,hc.cell 1 rfl _ rfl,trivial,?_⟩;refine⟨?_,?_⟩
  ·skip
   refine hc.q' (B9X d.key 42 _ h.key) fun wQ hQ hc=>?_;refine⟨⟨_,hc.cell 1 rfl _ rfl,trivial,?_⟩,trivial⟩;refine⟨hc.q' (B9X d.body 302 _ h.body) fun wQ hQ hc=>?_,trivial⟩;refine⟨hc.q' (B9X d.tag 10 _ h.tag) fun wQ hQ hc=>?_,trivial⟩;refine⟨hc.s' 1 rfl fun wS hS hc=>?_,trivial⟩;refine⟨hc.s' 1 rfl fun wS hS hc=>?_,trivial⟩;refine hc.s 1 rfl fun wS hS hc=>?_;refine hc.a 1 rfl rfl ?_;refine hc.s 0 rfl fun wS hS hc=>?_;refine hc.a 0 rfl rfl ?_;exact⟨rfl,hc.below⟩
  refine⟨⟨_,hc.cell 1 rfl _ rfl,trivial,?_⟩,trivial⟩;refine⟨hc.q' (B9X d.key 42 _ h.key) fun wQ hQ hc=>?_,trivial⟩;refine⟨hc.q' (B9X d.body 302 _ h.body) fun wQ hQ hc=>?_,trivial⟩;refine⟨hc.q' (B9X d.tag 10 _ h.tag) fun wQ hQ hc=>?_,trivial⟩;refine⟨hc.s' 1 rfl fun wS hS hc=>?_,trivial⟩;refine⟨hc.s' 1 rfl fun wS hS hc=>?_,trivial⟩;refine hc.s 1 rfl fun wS hS hc=>?_;refine hc.a 1 rfl rfl ?_;refine hc.s 0 rfl fun wS hS hc=>?_;refine hc.a 0 rfl rfl ?_;exact⟨rfl,hc.below⟩
 refine⟨⟨_,hc.cell 1 rfl _ rfl,trivial,?_⟩,trivial⟩;refine⟨⟨_,hc.cell 1 rfl _ rfl,trivial,?_⟩,trivial⟩;refine⟨hc.q' (B9X d.key 42 _ h.key) fun wQ hQ hc=>?_,trivial⟩;refine⟨hc.q' (B9X d.body 302 _ h.body) fun wQ hQ hc=>?_,trivial⟩;refine⟨hc.q' (B9X d.tag 10 _ h.tag) fun wQ hQ hc=>?_,trivial⟩;refine⟨hc.s' 1 rfl fun wS hS hc=>?_,trivial⟩;refine⟨hc.s' 1 rfl fun wS hS hc=>?_,trivial⟩;refine hc.s 1 rfl fun wS hS hc=>?_;refine hc.a 1 rfl rfl ?_;refine hc.s 0 rfl fun wS hS hc=>?_;refine hc.a 0 rfl rfl ?_;exact⟨rfl,hc.below⟩
def B89 (v:Ver):Ver:=⟨v.ver,v.gone,cut v.body 302⟩
def B9A (e:Ent):Ent:=⟨cut e.key 42,(e.vs.take 14).map B89⟩
def cutS (s:Stt):Stt:=⟨s.seq,(s.l.take 42).map B9A,s.ms.take 103,s.lows⟩
def B6w (s:Stt) (S:Nat->Prop) (w:World) (en:Ending) (w':World):Prop:=∃ cs,en=.returned (.agg cs.toArray)/\Below w.heap.size w w'/\RepS (ext S w w') w' s cs
theorem B5K {s:Stt} (h5:s.lows.length=5) (h:T5 s=true):s.Ok:=by
 obtain⟨⟨a1,a2⟩,⟨a3,a4⟩,a5,a6,a7⟩:=C5.1 h;have hm:E3=1099511627776:=rfl;refine⟨by unfold B3;omega,fun e he=>?_,fun m hm'=>?_,fun x hx=>?_⟩
 ·have ho:=((K3 _ _ _).1 a5).1 e he;have hp:=E1.1 ho.1;have:=A1N hp.2.1;refine⟨by unfold X6;omega,fun v hv=>?_⟩;obtain⟨n1,n2⟩:=A0i (A0j ho v hv);exact⟨n1,by unfold X6;omega⟩
 ·obtain⟨n1,n2,n3⟩:=A7H a2 (((R5 _ _ _ _).1 a7).1 m hm');exact⟨n1,n2,n3⟩
 ·obtain⟨j,hj,hx⟩:=List.getElem_of_mem hx;rcases (A0J _ _).1 a6 j x (by rw [<-hx];exact List.getElem?_eq_getElem hj) with h0 | h0
  ·unfold B3;omega
  ·have:=A3e (n:=x) (by omega);unfold B3;omega
theorem B8E (t:List UInt8) (w:World) (ht:t.length<=1073741824) (hw:Env w):Calls Tryz.prog 180 #[.string ⟨t.toArray⟩] w (fun en w'=>∃ A cap,en=.returned (.tuple #[.agg (Y3 (A0F t).1 A cap).toArray,.int .i64 ((A0F t).2.1:Nat),.int .i64 (A0F t).2.2])/\Below w.heap.size w w'/\RepC (ext no w w') w' (A0F t).1 (Y3 (A0F t).1 A cap)):=
 (B4z t w ht hw).mono fun e w' h=>by obtain⟨cs,e1,hb,hr⟩:=h;obtain⟨A',cap',e2⟩:=hr.cells;subst e2;exact⟨A',cap',e1,hb,hr⟩
def sB:Stt:=⟨1,[⟨⟨#[107]⟩,[⟨1,false,⟨#[118]⟩⟩]⟩],[⟨4294967297,⟨0,1⟩⟩],[0,0,0,0,0]⟩
end Go.Proofs.YtefdfaeieekioaaGreatDoor
namespace Go.Proofs.YtefdfaeieekioaaGreatDoor
open Go.Vc Go.RowKit Go.Fl Go.ChangeShapes Go.WideShapes Go.ChangeAt
abbrev B0U:List (String × DataW Unit):=[("math/bits.deBruijn32tab",Rows.laid_math_bits_deBruijn32tab),("math/bits.deBruijn64tab",Rows.laid_math_bits_deBruijn64tab),("internal/strconv.uint64pow10",Rows.laid_internal_strconv_uint64pow10),("strconv.ErrRange",Rows.laid_strconv_ErrRange),("strconv.ErrSyntax",Rows.laid_strconv_ErrSyntax)]
theorem B9B:ownKnob Tryz.prog.godebug=none:=by kernel_rfl
theorem B9C:∃ g,Tryz.prog.globalNamed "internal/strconv.uint64pow10"=some g/\(Tryz.prog.globals[g]?).map (·.type)=some 330:=⟨2,by kernel_rfl,by kernel_rfl⟩
theorem gES:∃ g,Tryz.prog.globalNamed "strconv.ErrSyntax"=some g/\(Tryz.prog.globals[g]?).map (·.type)=some 245:=⟨5,by kernel_rfl,by kernel_rfl⟩
theorem gER:∃ g,Tryz.prog.globalNamed "strconv.ErrRange"=some g/\(Tryz.prog.globals[g]?).map (·.type)=some 245:=⟨6,by kernel_rfl,by kernel_rfl⟩
theorem B9D:Tryz.prog.cellsOf 330=20:=by kernel_rfl
theorem B9E:Tryz.prog.cellsOf 295=1:=by kernel_rfl
theorem cES:Tryz.prog.cellsOf 360=1:=by kernel_rfl
theorem B8t:Tryz.prog.cellsOf 9=1:=by kernel_rfl
theorem B6x : "*" ++ "errors.errorString" = "*errors.errorString":=by decide
theorem B6y (u:TypeId) (h:Tryz.prog.typeName? 3 u=some "*errors.errorString"):u=358:=
 typeName_ptr_named (nm := "errors.errorString") (by rw [B6x];kernel_rfl) (by kernel_rfl) (by decide) u (by rw [B6x];exact h)
theorem B2o {W:World} (h:laidMetH Tryz.prog B0U W):Env W:=by rw [MakeChecks.laidMetH_plain _ _ _ (by kernel_rfl)] at h;obtain⟨g1,a1,a2⟩:=B9C;obtain⟨g2,b1,b2⟩:=gER;obtain⟨g3,c1,c2⟩:=gES;have ht:=Lib.tabIs_of_head (k:=.u64) (zs:=Lib.pow10Tab) a1 a2 Tryz.underlying330 Tryz.underlying295 B9E B9D h.tail.tail;obtain⟨x0,s0,hv0,-,-,-⟩:=laid_sentinel h.tail.tail.tail b1 b2 Tryz.underlying245 B6y Tryz.underlying358 Tryz.underlying360 rfl rfl Tryz.underlying9 cES B8t;obtain⟨x1,s1,hv1,-,-,-⟩:=laid_sentinel h.tail.tail.tail.tail c1 c2 Tryz.underlying245 B6y Tryz.underlying358 Tryz.underlying360 rfl rfl Tryz.underlying9 cES B8t;exact⟨ht,⟨_,_,hv1⟩,⟨_,_,hv0⟩⟩
theorem B2p (os:Os) (args:Array Value):laidMetH Tryz.prog B0U ((World.laidAll Tryz.prog os B0U).forCall (fun _ _=>0) ⟨#[],args,[]⟩).memory:=by rw [MakeChecks.laidMetH_plain _ _ _ (by kernel_rfl)];exact laidMet_laidAll args (by kernel_rfl) (by kernel_rfl)
theorem B9F {a b:Bool} (h:a=true) (k:b=true):(a&&b)=true:=by rw [h,k];rfl
theorem B8u:laidOutB Tryz.prog=true:=by kernel_rfl
theorem B0V {H:Type} {enc:TypeId × Value->H} {P:Program} (hP:laidOutB P=true) {W W':World} {sp:Nat->Bool} (hb:Below W.heap.size W W') (ts:List TypeId):∀ {vs:List Value} {ds:List (DataW H)} {ps:List MemPlace},
  ts.all (fun t=>P.readableRec t&&decide (t<P.types.size))=true->DataW.TrodAll enc P W 0 (fun _=>true) true ts vs ds ps->(∀ x∈ps,x.block<W.heap.size)->(∀ x∈ps,sp x.block=true)->
  DataW.TrodAll enc P W' 0 sp true ts vs ds ps:=by
 induction ts with
 | nil=>
  intro _ _ _ _ h _ _;obtain⟨rfl,rfl,rfl⟩:=trodAll_nil h;exact trodAll_mk0
 | cons t ts ih=>
  intro _ _ _ hr h hl hs;obtain⟨v,vs1,d,ds1,a,b,rfl,rfl,rfl,h1,h2⟩:=trodAll_cons h;rw [List.all_cons,z7,z7,y0] at hr;exact trodAll_cons_mk (WideElems.Trod_stays hP hr.1.1 hr.1.2 h1 (fun x hx=>hb.same (hl x (List.mem_append_left _ hx))) (fun x hx=>hs x (List.mem_append_left _ hx)))
   (ih hr.2 h2 (fun x hx=>hl x (List.mem_append_right _ hx)) (fun x hx=>hs x (List.mem_append_right _ hx)))
theorem B0W {H:Type} {enc:TypeId × Value->H} {f:Func} {s:ChangeSpec} {W W':World} {args:Array Value} {ds gs:List (DataW H)} {before:List MemPlace} (hv:s.vars=[]) (hr:f.resultTypes=#[4])
  (hrd:f.params.toList.all (fun t=>Tryz.prog.readableRec t&&decide (t<Tryz.prog.types.size))=true) (hfn:gs=[]->s.fn H (ds++gs)={ results:=[.lit (.bool true)],args:=ds })
  (hW:DataW.Whole enc Tryz.prog f.params.toList s.vars false W args.toList ds gs before) (hb:Below W.heap.size W W'):
  s.post enc Tryz.prog f false true false false W args (.bool true) W':=by
 have hlt:=fun x (hx:x∈before)=>hW.lt x hx;have hW':=hW;obtain⟨p,q,hA,hV,rfl,hfz,hnd⟩:=hW;rw [hv] at hV;obtain⟨rfl,rfl⟩:=trodVars_none hV;have hfn:=hfn rfl;refine⟨ds,[],p++[],[],p,[],hW',?_,?_,?_,hb.frame _,fun h=>by cases h⟩
 ·rw [hfn,hr];exact trodAll_mk1 (shut_bool Tryz.underlying4 true)
 ·rw [hfn];exact B0V B8u hb _ hrd hA (fun x hx=>hlt x (List.mem_append_left _ hx)) (fun x hx=>by simpa using hlt x (List.mem_append_left _ hx))
 ·rw [hfn,hv];rfl
end Go.Proofs.YtefdfaeieekioaaGreatDoor
namespace Go.Proofs.YtefdfaeieekioaaGreatDoor
theorem B0X:mapsRowed Tryz.prog=true:=by kernel_rfl
theorem B0Y:Tryz.prog.stopsHeard=true:=by kernel_rfl
theorem B0Z:Tryz.prog.mayEnter=true:=by kernel_rfl
theorem B2q:(Rows.linkNoneRow.plainKeys==Tryz.prog.plainKeys)=true:=by kernel_rfl
theorem A8K:(Rows.linkNoneRow.lifted==Tryz.prog.liftsFinal)=true:=by kernel_rfl
theorem B2r:(Tryz.prog.make==some Rows.linkNoneRow.make)=true:=by kernel_rfl
theorem B0a (c:OpenClaim) (h:c.plainKeys=Rows.linkNoneRow.plainKeys):(c.plainKeys==Tryz.prog.plainKeys)=true:=h▸B2q
theorem A6O (c:OpenClaim) (h:c.lifted=Rows.linkNoneRow.lifted):(c.lifted==Tryz.prog.liftsFinal)=true:=h▸A8K
theorem B0b (c:OpenClaim) (h:c.make=Rows.linkNoneRow.make):(Tryz.prog.make==some c.make)=true:=h▸B2r
end Go.Proofs.YtefdfaeieekioaaGreatDoor
