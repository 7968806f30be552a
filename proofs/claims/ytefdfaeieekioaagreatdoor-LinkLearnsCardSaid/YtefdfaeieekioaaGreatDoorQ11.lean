import Derived.Test.YtefdfaeieekioaaGreatDoorQ10
set_option maxRecDepth 100000
set_option maxHeartbeats 40000000
set_option linter.unusedVariables false
set_option linter.unusedSimpArgs false
namespace Go.Proofs.YtefdfaeieekioaaGreatDoor
open Go.Vc Go.RowKit Go.Fl Go.ChangeShapes Go.WideShapes Go.ChangeAt
def dA:D:=⟨2,⟨#[107]⟩,⟨#[]⟩,0,0,⟨#[]⟩,4294967297,0⟩
def wA:Wd:=⟨4,1,2,3,4,0,0,⟨0,0⟩,Ros0,[dA],Stt0⟩
def xA (g:Nat):WX:=⟨none,0,some ⟨g,0,none⟩,1,SX0⟩
def WsR:List Wd->List (List Value)->(Nat->Prop)->World->Prop
 | [],css,S,w=>css=[]
 | v::r,css,S,w=>∃ x t,css=wdC v x::t/\WdR v x S w/\WsR r t S w
theorem WsR.stab:∀ (l:List Wd) (c:List (List Value)),Stab (WsR l c)
 | [],c=>fun _ _ _ _ h _=>h
 | v::r,c=>fun S w d w' h f=>by obtain⟨x,t,e,a,b⟩:=h;exact⟨x,t,e,WdR.stab v x _ _ _ _ a f,WsR.stab r t _ _ _ _ b f⟩
theorem WsR.len {S:Nat->Prop} {w:World}:∀ {l:List Wd} {c:List (List Value)},WsR l c S w->c.length=l.length
 | [],c,h=>by rw [show c=[] from h];rfl
 | v::r,c,⟨x,t,e,h1,h2⟩=>by rw [e,zj,zj,h2.len]
theorem B5w (v:Wd) (x:WX):(wdC v x).length=21/\F4 (wdC v x)=true:=⟨rfl,rfl⟩
theorem WsR.flat {S:Nat->Prop} {w:World}:∀ {l:List Wd} {s:List (List Value)},WsR l s S w->Flat 21 s
 | [],s,h=>by rw [show s=[] from h];intro c a;cases a
 | v::r,s,⟨x,t,e,h1,h2⟩=>by
  rw [e];intro c a;cases a with
  | head=>exact B5w _ _
  | tail _ a=>exact h2.flat c a
theorem WsR.get {S:Nat->Prop} {w:World}:∀ {l:List Wd} {c:List (List Value)},WsR l c S w->∀ (i:Nat) (h:i<l.length),∃ x,c[i]?=some (wdC l[i] x)/\WdR l[i] x S w
 | v::r,c,⟨x,t,e,h1,h2⟩,0,h=>⟨x,by rw [e];rfl,h1⟩
 | v::r,c,⟨x,t,e,h1,h2⟩,i+1,h=>by obtain⟨d,a,b⟩:=h2.get i (Nat.lt_of_succ_lt_succ h);exact⟨d,by rw [e];exact a,b⟩
theorem WsR.snoc {S:Nat->Prop} {w:World} {v:Wd} {x:WX}:∀ {l:List Wd} {c:List (List Value)},WsR l c S w->WdR v x S w->WsR (l++[v]) (c++[wdC v x]) S w
 | [],c,h,hk=>by rw [show c=[] from h];exact⟨x,[],rfl,hk,rfl⟩
 | v'::r,c,⟨x',t,e,h1,h2⟩,hk=>by rw [e];exact⟨x',_,rfl,h1,WsR.snoc h2 hk⟩
theorem WsR.append {S:Nat->Prop} {w:World}:∀ {l m:List Wd} {a b:List (List Value)},WsR l a S w->WsR m b S w->WsR (l++m) (a++b) S w
 | [],m,a,b,h,k=>by rw [show a=[] from h];exact k
 | v::r,m,a,b,⟨x,t,e,h1,h2⟩,k=>by rw [e];exact⟨x,_,rfl,h1,WsR.append h2 k⟩
theorem _root_.Go.Vc.CtxF.castOs {a S:Nat->Prop} {b w:World} {l:List LB} {o os':List OR} {R:Kn} (c:CtxF a b S w l o R) (h:o=os'):CtxF a b S w l os' R:=h▸c
theorem J3 {b S:Nat->Prop} {d w:World} {l:List LB} {o:List OR} {R:Kn} {e s n c:Nat} {A:Option Addr} {xs:List Value} (h:CtxF b d S w l (⟨e,s,A,n,c,xs⟩::o) R):∃ a,Row a w A n c xs:=⟨_,(h.fst.told h.ctx).2.2 h.fst.fit.1 h.fst.fit.2⟩
end Go.Proofs.YtefdfaeieekioaaGreatDoor
section
namespace Go.Vc
open Go Go.RowKit
open Go.Proofs.YtefdfaeieekioaaGreatDoor
def Fresh (w:World) (Sx:Nat->Prop) (X:Kn):Kn:=fun S w'=>∃ Sl:Nat->Prop,(∀ y,Sl y->S y/\(Sx y\/w.heap.size<=y))/\X Sl w'
theorem Fresh.stab {w:World} {x:Nat->Prop} {X:Kn} (d:Stab X):Stab (Fresh w x X):=fun S g e i a f=>by obtain⟨l,b,c⟩:=a;exact⟨l,fun y h=>⟨f.1 y (b y h).1,(b y h).2⟩,d _ _ _ _ c ⟨fun _ a=>a,fun y h=>f.2 y (b y h).1⟩⟩
theorem Fresh.mono {w:World} {x S:Nat->Prop} {w':World} {X Y:Kn} (h:Fresh w x X S w') (k:∀ S,X S w'->Y S w'):Fresh w x Y S w':=by obtain⟨l,a,b⟩:=h;exact⟨l,a,k _ b⟩
theorem Fresh.plain {w:World} {x S:Nat->Prop} {w':World} {X:Kn} (c:Stab X) (h:Fresh w x X S w'):X S w':=by obtain⟨l,a,b⟩:=h;exact c _ _ _ _ b ⟨fun d y=>(a d y).1,fun _ _=>rfl⟩
theorem Fresh.none {w:World} {x S:Nat->Prop} {w':World} {X:Kn} (h:X no w'):Fresh w x X S w':=⟨no,fun y h=>h.elim,h⟩
theorem Fresh.both {w:World} {x S:Nat->Prop} {w':World} {X Y Z:Kn} (d:Stab X) (e:Stab Y) (h:Fresh w x X S w') (k:Fresh w x Y S w') (c:∀ S,X S w'->Y S w'->Z S w'):Fresh w x Z S w':=by obtain⟨l,a,b⟩:=h;obtain⟨Sm,g,i⟩:=k;exact⟨fun y=>l y\/Sm y,fun y f=>f.elim (a y) (g y),c _ (d _ _ _ _ b ⟨fun _ h=>.inl h,fun _ _=>rfl⟩) (e _ _ _ _ i ⟨fun _ h=>.inr h,fun _ _=>rfl⟩)⟩
abbrev orW (ws:List Wd) (A:Option Addr) (c:Nat) (css:List (List Value)):OR:=⟨43,21,A,ws.length,c,css.flatten⟩
def RetWL (Sx:Nat->Prop) (w:World) (O:Kn) (ws:List Wd) (en:Ending) (w':World):Prop:=∃ (A:Option Addr) (c:Nat) (css:List (List Value)) (N Sn:Nat->Prop),en=.returned (.slice A ws.length c)/\Turn Sx w w'/\(∀ x,Sn x->(Sx x\/w.heap.size<=x)/\x<w'.heap.size)/\O Sn w'/\w'.ownsRow 0 43 21 (.slice A ws.length c) ws.length css.flatten/\WsR ws css N w'/\
 (∀ y,N y->(Sx y\/w.heap.size<=y)/\y<w'.heap.size/\¬ Sn y)/\(∀ a,A=some a->(Sx a.block\/w.heap.size<=a.block)/\¬ Sn a.block/\¬ N a.block)
theorem RetWL.nil {S:Nat->Prop} {w w':World} {O:Kn} {v:Value} {e:Ending} (h:RetOb S w v O e w') (b:v=.slice none 0 0):RetWL S w O [] e w':=by obtain⟨c,d,n,f,g⟩:=h;subst b;exact⟨none,0,[],no,n,c,d,f,g,World.ownsRow_nil ..,rfl,fun y h=>h.elim,fun a h=>by cases h⟩
theorem R8 {l d e s n c:Nat} {A:Option Addr} {xs:List Value} {w:World} (f:w.ownsRow l e s (.slice A n c) n xs) (k:∀ a,A=some a->d<=a.block):w.ownsRow d e s (.slice A n c) n xs:=by
 obtain⟨i,h⟩:=f;refine⟨i,?_⟩;obtain h|⟨g,p,u,b,m,j⟩:=h
 ·exact .inl h
 ·refine .inr ⟨g,p,u,b,?_,j⟩;cases b;exact k _ rfl
section
variable {w0 w w':World} {S Sx:Nat->Prop} {l:List LB} {os:List OR} {R O O':Kn} {n0:Nat}
theorem CtxF.turnW (d:CtxF no w0 S w l os (Sep w0.heap.size R O)) (u:Stab R) {m c Sn N:Nat->Prop} (i:∀ x,m x->S x/\¬ c x) (o:∀ x,c x->S x/\w0.heap.size<=x) (E:R m w) (T:Turn c w w')
  (t:∀ x,Sn x->(c x\/w.heap.size<=x)/\x<w'.heap.size) (F:O' Sn w') (J:Stab O') {s:List Wd} {A:Option Addr} {q:Nat} {f:List (List Value)} (I:w'.ownsRow 0 43 21 (.slice A s.length q) s.length f.flatten) (W:WsR s f N w')
  (r:∀ y,N y->(c y\/w.heap.size<=y)/\y<w'.heap.size/\¬ Sn y) (p:∀ a,A=some a->(c a.block\/w.heap.size<=a.block)/\¬ Sn a.block/\¬ N a.block):
  CtxF no w0 (fun x=>(S x/\¬ c x)\/(Sn x\/N x)) w' l (orW s A q f::os) (Sep w0.heap.size (fun S w=>R S w/\WsR s f S w) O'):=by
 have K:=d.ctx.below.size;have z:∀ x,(c x\/w.heap.size<=x)->w0.heap.size<=x:=fun x b=>b.elim (fun b=>(o x b).2) (fun b=>zq K b);have G:∀ x,m x->¬ (c x\/w.heap.size<=x):=fun x h b=>b.elim (i x h).2 (fun b=>by have:=d.ctx.lt x (i x h).1;omega);have b:=d.turn o T (Sn:=fun x=>Sn x\/N x) (fun x h=>h.elim (t x) fun b=>⟨(r x b).1,(r x b).2.1⟩) (Y:=Sep w0.heap.size (fun S w=>R S w/\WsR s f S w) O')
  ⟨fun x=>m x\/N x,Sn,fun x h=>?_,fun x h=>⟨.inr (.inl h),z x (t x h).1⟩,⟨u _ _ _ _ E ⟨fun _ b=>.inl b,fun x h=>T.block x (d.ctx.lt x (i x h).1) (i x h).2⟩,WsR.stab _ _ _ _ _ _ W ⟨fun _ b=>.inr b,fun _ _=>rfl⟩⟩,F⟩ (Sep.stab (u.and (WsR.stab _ _)) J)
 ·refine b.hold (e:=43) (sz:=21) (n:=s.length) (cap:=q) (A:=A) (xs:=f.flatten) ⟨R8 I fun a j=>z _ (p a j).1,fun a j=>⟨?_,fun x h e=>?_⟩⟩ (fun C B a D j v e=>?_)
  ·obtain⟨L,M,P⟩:=p a j;rintro (e | e | e)
   ·exact L.elim e.2 (fun b=>by have:=d.ctx.lt _ e.1;omega)
   ·exact M e
   ·exact P e
  ·obtain⟨V,H⟩:=List.getElem?_of_mem h;obtain⟨g,Q,U⟩:=x;have e:g=a.block:=e;obtain k|k:=(p a j).1
   ·exact (d.ctx.locs.notS H).1 (e▸(o _ k).1)
   ·have:=d.ctx.locs.lt _ h;have:g<w.heap.size:=this;omega
  ·obtain k|k:=(p a j).1
   ·exact ((d.own.mem C B).out D v).1 (e▸(o _ k).1)
   ·have:=((d.own.mem C B).lt v).2;omega
 ·obtain h|h:=h
  ·exact⟨.inl ⟨(i x h).1,(i x h).2⟩,fun b=>G x h (t x b).1⟩
  ·exact⟨.inr (.inr h),(r x h).2.2⟩
theorem CtxF.thingNew (f:CtxF no (bare w) S w' l os (Sep 0 (fun S w'=>Keep w Sx S w'/\R S w') O)) {a b:Nat->Prop} (c:∀ x,a x->S x/\¬ b x) (d:Keep w Sx a w'):∀ x,b x->Sx x\/w.heap.size<=x:=fun x e=>by
 obtain h|h:=zm x w.heap.size
 ·obtain s|s:=Classical.em (Sx x)
  ·exact .inl s
  ·exact absurd e (c x (d x h s).1).2
 ·exact .inr h
theorem CtxF.endW {s:List Wd} {A:Option Addr} {c:Nat} {d:List (List Value)} (h:CtxF no (bare w) S w' l (orW s A c d::os) (Sep 0 (fun S w'=>Keep w Sx S w'/\Fresh w Sx (WsR s d) S w') O)):RetWL Sx w O s (.returned (.slice A s.length c)) w':=by
 obtain⟨v,p,b,n,⟨f,q,k,u⟩,r⟩:=h.row;have t:=h.thingNew b f;refine⟨A,c,d,q,p,rfl,h.leave f,fun x o=>⟨t x o,h.ctx.lt x (n x o).1⟩,r,h.fst.row,u,fun y m=>⟨(k y m).2,h.ctx.lt y (b y (k y m).1).1,(b y (k y m).1).2⟩,fun a g=>⟨?_,fun e=>(h.fst.out a g).1 (n _ e).1,fun e=>(h.fst.out a g).1 (b _ (k _ e).1).1⟩⟩;obtain i|i:=zm a.block w.heap.size
 ·obtain j|j:=Classical.em (Sx a.block)
  ·exact .inl j
  ·exact absurd (b _ (f _ i j).1).1 (h.fst.out a g).1
 ·exact .inr i
theorem CtxF.isNew (f:CtxF no (bare w0) S w l os (Sep 0 (fun S w'=>Keep w0 Sx S w'/\R S w') O)) {b c:Nat->Prop} (d:∀ x,b x->S x/\¬ c x) (e:Keep w0 Sx b w):∀ x,(c x\/w.heap.size<=x)->Sx x\/w0.heap.size<=x:=fun x h=>by
 obtain a|a:=zm x w0.heap.size
 ·obtain s|s:=Classical.em (Sx x)
  ·exact .inl s
  ·have k:=d x (e x a s).1;obtain h|h:=h
   ·exact absurd h k.2
   ·have:=f.ctx.lt x k.1;omega
 ·exact .inr a
theorem CtxF.turnB (e:CtxF no (bare w0) S w l os (Sep 0 (fun S w=>Keep w0 Sx S w/\R S w) O)) (m:Stab R) {f d n N:Nat->Prop} (b:∀ x,f x->S x/\¬ d x) (v:∀ x,d x->S x/\0<=x) (i:Keep w0 Sx f w/\R f w) (T:Turn d w w')
  (q:∀ x,n x->(d x\/w.heap.size<=x)/\x<w'.heap.size) (p:O' n w') (r:Stab O') {s:List Wd} {A:Option Addr} {o:Nat} {g:List (List Value)} (C:w'.ownsRow 0 43 21 (.slice A s.length o) s.length g.flatten) (W:WsR s g N w')
  (j:∀ y,N y->(d y\/w.heap.size<=y)/\y<w'.heap.size/\¬ n y) (z:∀ a,A=some a->(d a.block\/w.heap.size<=a.block)/\¬ n a.block/\¬ N a.block):
  ∃ u,CtxF no (bare w0) u w' l (orW s A o g::os) (Sep 0 (fun S w=>Keep w0 Sx S w/\(R S w/\Fresh w0 Sx (WsR s g) S w)) O'):=by
 have B:=e.isNew b i.1;have K:Stab (fun S w=>Keep w0 Sx S w/\R S w):=yq.and m;have c:=e.turnW K b v i T q p r C W j z;refine⟨_,c.now (fun _=>⟨fun x=>f x\/N x,n,fun x h=>?_,fun x h=>⟨.inr (.inl h),zb _⟩,⟨?_,?_,N,fun y t=>⟨.inr t,B y (j y t).1⟩,W⟩,p⟩) (Sep.stab (yq.and (m.and (Fresh.stab (WsR.stab _ _)))) r)⟩
 ·obtain h|h:=h
  ·refine⟨.inl ⟨(b x h).1,(b x h).2⟩,fun c=>?_⟩;obtain k|k:=(q x c).1
   ·exact (b x h).2 k
   ·have:=e.ctx.lt x (b x h).1;omega
  ·exact⟨.inr (.inr h),(j x h).2.2⟩
 ·exact Keep.stab _ _ _ _ _ _ i.1 ⟨fun _ c=>.inl c,fun x h=>T.block x (e.ctx.lt x (b x h).1) (b x h).2⟩
 ·exact m _ _ _ _ i.2 ⟨fun _ c=>.inl c,fun x h=>T.block x (e.ctx.lt x (b x h).1) (b x h).2⟩
theorem CtxF.tailW (h:CtxF no (bare w0) S w l os (Sep 0 (fun S w=>Keep w0 Sx S w/\R S w) O)) {e f:Nat->Prop} (d:∀ x,e x->S x/\¬ f x) (i:Keep w0 Sx e w) {s:List Wd} {g:Ending} (v:RetWL f w O' s g w'):RetWL Sx w0 O' s g w':=by have n:=h.isNew d i;obtain⟨p,c,t,q,r,u,T,j,z,B,W,N,A⟩:=v;refine⟨p,c,t,q,r,u,⟨T.os.trans h.below.os,T.tape.trans h.below.tape,T.output.trans h.below.output,fun x b C=>?_⟩,fun x b=>⟨n x (j x b).1,(j x b).2⟩,z,B,W,fun y m=>⟨n y (N y m).1,(N y m).2⟩,fun a k=>⟨n _ (A a k).1,(A a k).2⟩⟩;obtain⟨o,D⟩:=i x b C;exact (T.block x (h.ctx.lt x (d x o).1) (d x o).2).trans D
theorem CtxF.tailW0 (g:CtxF no (bare w0) S w l os (Sep 0 (Keep w0 Sx) O)) (f:Stab O) {a b:Nat->Prop} (c:∀ x,a x->S x/\¬ b x) (d:Keep w0 Sx a w) {s:List Wd} {e:Ending} (h:RetWL b w O' s e w'):RetWL Sx w0 O' s e w':=
 (g.now (X:=Sep 0 (fun S w'=>Keep w0 Sx S w'/\True) O) (fun h=>h.mono (fun _ h=>⟨h,t6⟩) fun _ h=>h) (Sep.stab (yq.and Stab.true) f)).tailW c d h
theorem RetWL.quiet {ws:List Wd} {A:Option Addr} {c:Nat} {css:List (List Value)} {S N:Nat->Prop} {O:Kn} {n:Ending} (j:n=.returned (.slice A ws.length c)) (g:Below w.heap.size w w') (h:w'.ownsRow w.heap.size 43 21 (.slice A ws.length c) ws.length css.flatten) (W:WsR ws css N w')
  (e:∀ y,N y->w.heap.size<=y/\y<w'.heap.size) (k:∀ a,A=some a->¬ N a.block) (m:O S w') (l:∀ x,S x->x<w.heap.size):RetWL S w O ws n w':=by
 refine⟨A,c,css,N,S,j,Turn.below g,fun x i=>⟨.inl i,Nat.lt_of_lt_of_le (l x i) g.size⟩,m,R8 h fun a b=>zb _,W,fun y f=>⟨.inr (e y f).1,(e y f).2,fun d=>?_⟩,fun a b=>⟨.inr ?_,fun d=>?_,k a b⟩⟩
 ·have:=l y d;have:=(e y f).1;omega
 ·rw [b] at h;exact (h.lt a.block rfl).1
 ·rw [b] at h;have:=(h.lt a.block rfl).1;have:=l _ d;omega
theorem CtxF.toldB {o:OR} (j:CtxF no (bare w0) S w l (o::os) (Sep 0 (fun S w=>Keep w0 Sx S w/\R S w) O)) (n:Stab R) (z:Stab O):∃ p,CtxF no (bare w0) p w l os (Sep 0 (fun S w=>Keep w0 Sx S w/\(R S w/\Fresh w0 Sx (fun S w=>Row S w o.A o.n o.cap o.xs) S w)) O):=by
 obtain⟨q,r,d,f,g,v⟩:=j.row;have u:=j.fst.out;obtain⟨c,s,D⟩:=j.told;refine⟨c,D.now (fun F=>?_) (Sep.stab (yq.and (n.and (Fresh.stab fun _ _ _ _ b t=>b.fut t))) z)⟩;obtain⟨_,A,B,C⟩:=F;refine⟨fun x=>q x\/(c x/\∃ a,o.A=some a/\a.block=x),r,fun x h=>?_,fun x h=>⟨s x (f x h).1,(f x h).2⟩,⟨Keep.stab _ _ _ _ _ _ g.1 ⟨fun _ b=>.inl b,fun _ _=>rfl⟩,n _ _ _ _ g.2 ⟨fun _ b=>.inl b,fun _ _=>rfl⟩,fun x=>c x/\∃ a,o.A=some a/\a.block=x,fun H y=>⟨.inr y,?_⟩,A,B,fun h=>?_⟩,v⟩
 ·obtain h|⟨h,a,i,e⟩:=h
  ·exact⟨s x (d x h).1,(d x h).2⟩
  ·exact⟨h,fun b=>(u a i).1 (e▸(f x b).1)⟩
 ·obtain⟨_,a,i,rfl⟩:=y;obtain k|k:=zm a.block w0.heap.size
  ·obtain s|s:=Classical.em (Sx a.block)
   ·exact .inl s
   ·exact absurd (d _ (g.1 _ k s).1).1 (u a i).1
  ·exact .inr k
 ·obtain⟨m,e,G,E⟩:=C h;exact⟨m,e,⟨G,m,e,rfl⟩,E⟩
end
end Go.Vc
end
section
namespace Go.Proofs.YtefdfaeieekioaaGreatDoor
open Go.Vc Go.RowKit Go.Fl Go.ChangeShapes Go.WideShapes Go.ChangeAt
def liC (L:Lk) (gs:Nat) (A:Option Addr) (cA:Nat) (D:Option Addr) (cD:Nat):List Value:=[.int .i64 L.id,.pointer (some ⟨gs,0,none⟩),.int .i64 L.r.ep,.slice A L.r.l.length cA,.int .i64 L.r.new,.int .i64 L.til,.slice D L.done.length cD]
def LiR (L:Lk) (A:Option Addr) (cA:Nat) (D:Option Addr) (cD:Nat) (css:List (List Value)):Kn:=Vc.Sep 0 (fun S w=>RosR L.r A cA S w/\WsR L.done css S w) (OwnK 43 21 D L.done.length cD css.flatten)
theorem LiR.stab (L:Lk) (A:Option Addr) (c:Nat) (D:Option Addr) (a:Nat) (s:List (List Value)):Stab (LiR L A c D a s):=Vc.Sep.stab ((RosR.stab _ _ _).and (WsR.stab _ _)) (OwnK.stab _ _ _ _ _ _)
theorem xb {L:Lk} {A:Option Addr} {c:Nat} {D:Option Addr} {a:Nat} {s:List (List Value)}:Stab (LiR L A c D a s):=LiR.stab _ _ _ _ _ _
structure Lg where
 gl:Nat
 gs:Nat
 gj:Nat
 gc:Nat
 b:Nat
def LinkK (g:Lg) (L:Lk):Kn:=fun S w=>∃ A cA D cD css,ObjK g.gl 85 (liC L g.gs A cA D cD) (LiR L A cA D cD css) (ShelfK g.gs g.gj g.gc g.b L.H) S w
theorem LinkK.stab (g:Lg) (L:Lk):Stab (LinkK g L):=fun S w b w' h f=>by obtain⟨A,c,D,a,s,h⟩:=h;exact⟨A,c,D,a,s,ObjK.stab xb yw _ _ _ _ h f⟩
theorem xa {g:Lg} {L:Lk}:Stab (LinkK g L):=LinkK.stab _ _
theorem LinkK.shelf {g:Lg} {L:Lk} {S:Nat->Prop} {w:World} (h:LinkK g L S w):ShelfK g.gs g.gj g.gc g.b L.H S w:=by obtain⟨A,c,D,a,s,h⟩:=h;exact h.right yw
theorem LinkK.cells {g:Lg} {L:Lk} {S:Nat->Prop} {w:World} (h:LinkK g L S w):∃ A c D a,Blk w g.gl 85 (liC L g.gs A c D a)/\RosR L.r A c S w:=by obtain⟨A,c,D,a,s,h⟩:=h;exact⟨A,c,D,a,h.2.1,((h.left xb).left ((RosR.stab _ _ _).and (WsR.stab _ _))).1⟩
theorem LinkK.later {g:Lg} {L:Lk} {S:Nat->Prop} {w w':World} (h:LinkK g L S w) (l:∀ x,S x->x<w.heap.size) (a:Below w.heap.size w w'):LinkK g L S w':=
 LinkK.stab g L S w S w' h ⟨fun _ h=>h,fun b s=>a.block b (l b s)⟩
theorem ShelfK.later {s j g b:Nat} {H:Sh} {S:Nat->Prop} {w w':World} (h:ShelfK s j g b H S w) (l:∀ x,S x->x<w.heap.size) (a:Below w.heap.size w w'):ShelfK s j g b H S w':=
 ShelfK.stab s j g b H S w S w' h ⟨fun _ h=>h,fun b c=>a.block b (l b c)⟩
theorem _root_.Go.Vc.CtxF.openL {b w:World} {S:Nat->Prop} {l:List LB} {o:List OR} {K:Kn} {g:Lg} {L:Lk} {n:Nat} (h:CtxF no b S w l o (Vc.Sep n K (LinkK g L))) (m:Stab K):
  ∃ A c D a s,CtxF no b S w l o (Vc.Sep n (Vc.Sep 0 K (HdK g.gl 85 (liC L g.gs A c D a) (LiR L A c D a s))) (ShelfK g.gs g.gj g.gc g.b L.H)):=by
 obtain⟨d,e,f,i,j,A,c,D,a,s,k⟩:=h.row;exact⟨A,c,D,a,s,h.now (fun _=>Vc.Sep.inner ⟨d,e,f,i,j,ObjK.sep xb k⟩) (Vc.Sep.stab (Vc.Sep.stab m (HdK.stab xb)) yw)⟩
theorem _root_.Go.Vc.CtxF.shutL {b w:World} {S:Nat->Prop} {l:List LB} {o:List OR} {K:Kn} {g:Lg} {L:Lk} {A D:Option Addr} {c a:Nat} {s:List (List Value)} {H:Sh} (d:CtxF no b S w l o (Vc.Sep 0 (Vc.Sep 0 K (HdK g.gl 85 (liC L g.gs A c D a) (LiR L A c D a s))) (ShelfK g.gs g.gj g.gc g.b H))) (e:Stab K):
  CtxF no b S w l o (Vc.Sep 0 K (LinkK g { L with H:=H })):=
 d.now (fun h=>(Vc.Sep.outer h).mono (fun _ h=>h) fun _ h=>⟨A,c,D,a,s,Vc.Sep.obj h⟩) (Vc.Sep.stab e xa)
section
variable {g:Lg} {L:Lk} {S:Nat->Prop} {w:World}
theorem B0n (g:Nat) (o y:Operand) (w:World):(do eqGuard BinOp.eql 25 o y (.pointer (some ⟨g,0,none⟩)) (.pointer none);Go.binOp BinOp.eql 25 (.pointer (some ⟨g,0,none⟩)) (.pointer none):Sem Value).run Tryz.prog w=.ok (.bool false) w:=by kernel_rfl
theorem C1K (g:Nat) (o y:Operand) (w:World):(do eqGuard BinOp.neq 25 o y (.pointer (some ⟨g,0,none⟩)) (.pointer none);Go.binOp BinOp.neq 25 (.pointer (some ⟨g,0,none⟩)) (.pointer none):Sem Value).run Tryz.prog w=.ok (.bool true) w:=by kernel_rfl
end
end Go.Proofs.YtefdfaeieekioaaGreatDoor
end
section
namespace Go.Proofs.YtefdfaeieekioaaGreatDoor
open Go.Vc Go.RowKit Go.Fl Go.ChangeShapes Go.WideShapes Go.ChangeAt
section
variable {g:Lg} {L:Lk} {S:Nat->Prop} {w:World}
theorem A11 (g:Lg) (L:Lk) (S:Nat->Prop) (w:World) (K:LinkK g L S w) (l:∀ x,S x->x<w.heap.size):Calls Tryz.prog 57 #[.pointer (some ⟨g.gl,0,none⟩)] w (D4 (.bool (L7 L)) w):=by
 obtain⟨b,d,D,e,B,f⟩:=K.cells;obtain⟨z,h⟩:∃ z,z=L7 L:=⟨_,rfl⟩;rw [<-h];unfold L7 at h;refine vE Tryz.func57 ?_;have c:=CtxF.start w no (fun _ a=>a.elim) (R:=fun _ _=>True) trivial Stab.true;have r:=c;refine vD (.Q [0,1,2,3,4,5,6,7,8,9,10,11,12,13,14,16,17,18,19,20] (.n 15 (.Q [21,22,23] .fin) .stop)) (Old _) (Old.start _) ?_;have k:=c.old0;have c:=c.drew;refine⟨_,fun z h=>Keeps.look h (B.cell 4),_,fun z h=>Keeps.look h (B.cell 0),?_⟩;obtain a|a:=yj (L.r.new==L.id)
 ·refine B4 (by show (!(L.r.new==L.id))=false;rw [a];rfl) ?_;refine⟨_,fun z h=>Keeps.look h (B.cell 1),_,fun z h=>Keeps.look h (B.cell 2),c.q (B0h g.gs g.gj g.gc g.b L.H S _ (K.shelf.later l c.below)) fun wA A c=>?_,t6⟩;have k:=Keeps.below k (fun _ a=>a) A;refine⟨k,C1 ?_,c.below⟩;rw [h,a];rfl
 ·refine B5 (by show (!(L.r.new==L.id))=true;rw [a];rfl) ?_;refine⟨?_,t6⟩;refine⟨C1 ?_,c.below⟩;rw [h,a];rfl
theorem A5j (g:Lg) (L:Lk) (S:Nat->Prop) (w:World) (K:LinkK g L S w):Calls Tryz.prog 59 #[.pointer (some ⟨g.gl,0,none⟩)] w (D4 (.bool (Z0 L)) w):=by obtain⟨A,c,D,f,B,d⟩:=K.cells;refine vE Tryz.func59 ?_;have h:=CtxF.start w no (fun _ a=>a.elim) (R:=fun _ _=>True) trivial Stab.true;have r:=h;refine vD (.Q [0,1,2,3,5,6,7,8] (.n 4 (.Q [9,10] .fin) .stop)) (Old _) (Old.start _) ?_;have k:=h.old0;have h:=h.drew;refine⟨M1 L.r A c,rfl,fun e z=>Old.looks z (Blk.part B 2 (M1 L.r A c) rfl),_,fun e z=>Keeps.look z (B.cell 0),h.q (A65 (RosR.below d h.below)) fun wA b h=>?_,t6⟩;have k:=Keeps.below k (fun _ a=>a) b;exact⟨k,rfl,h.below⟩
theorem J4 (g:Lg) (L:Lk) (now:Int) (S:Nat->Prop) (w:World) (K:LinkK g L S w) (l:∀ x,S x->x<w.heap.size):Calls Tryz.prog 29 #[.pointer (some ⟨g.gl,0,none⟩),.int .i64 now] w (D4 (.bool (E5 L now)) w):=by
 obtain⟨e,f,D,v,B,t⟩:=K.cells;obtain⟨z,h⟩:∃ z,z=E5 L now:=⟨_,rfl⟩;rw [<-h];unfold E5 at h;refine vE Tryz.func29 ?_;have c:=CtxF.start w no (fun _ a=>a.elim) (R:=fun _ _=>True) trivial Stab.true;have y:=c;refine vD (.Q [0,1,2,3,4,5,6,7,8,9,10] (.n 11 (.Q [12,13,14] (.n 15 (.Q [16,17,18,19,20,21,22,23,24,25,26,27,28,29] (.n 30 (.Q [31,32,33,34,35,36,37,39,40,41,42,43] (.n 38 (.Q [44,45,46] .fin) .stop)) .stop)) .stop)) .stop)) (Old _) (Old.start _) ?_;have k:=c.old0;have c:=c.drew;refine⟨.bool true,fun w=>C1K g.gl _ _ w,M1 L.r e f,rfl,fun z h=>Old.looks h (Blk.part B 2 (M1 L.r e f) rfl),_,fun z h=>Keeps.look h (B.cell 0),?_⟩;have i:=A5a L.id (RosR.below t c.below);obtain⟨n,q⟩:∃ b,b=decide (L.id∈L.r.l):=⟨_,rfl⟩;rw [<-q] at i h;refine⟨c.q (i) fun wA A c=>?_,t6⟩;have k:=Keeps.below k (fun _ a=>a) A;refine⟨k,?_⟩;cases n with
 | false=>
  refine⟨?_,t6⟩;refine⟨?_,t6⟩;refine⟨?_,t6⟩;exact⟨C1 (by rw [h];rfl),c.below⟩
 | true=>
 rw [Bool.true_and] at h;have j:=A11 g L S _ (K.later l c.below) (fun x u=>Nat.lt_of_lt_of_le (l x u) c.below.size);obtain⟨o,r⟩:∃ b,b=L7 L:=⟨_,rfl⟩;rw [<-r] at j h;refine⟨c.q (j) fun wA A c=>?_,t6⟩;have k:=Keeps.below k (fun _ a=>a) A;refine⟨k,?_⟩;cases o with
 | false=>
  refine⟨?_,t6⟩;refine⟨?_,t6⟩;exact⟨C1 (by rw [h];rfl),c.below⟩
 | true=>
 rw [Bool.true_and] at h;refine⟨_,fun z h=>Keeps.look h (B.cell 5),?_⟩;by_cases d:now<=L.til;rotate_left
 ·refine df d ?_;refine⟨?_,t6⟩;refine⟨?_,t6⟩;exact⟨C1 (by rw [h,y8 d];rfl),c.below⟩
 refine dt d ?_;rw [zz d,Bool.true_and] at h;refine⟨_,fun z h=>Keeps.look h (B.cell 1),?_⟩;have m:=A9h g.gs g.gj g.gc g.b L.H S _ (K.shelf.later l c.below);obtain⟨p,s⟩:∃ b,b=L.H.down:=⟨_,rfl⟩;rw [<-s] at m h;refine⟨c.q (m) fun wA A c=>?_,t6⟩;have k:=Keeps.below k (fun _ a=>a) A;refine⟨k,?_⟩;cases p with
 | true=>
  refine⟨?_,t6⟩;exact⟨C1 (by rw [h];rfl),c.below⟩
 | false=>
 rw [Bool.not_false,Bool.true_and] at h;refine⟨_,fun z h=>Keeps.look h (B.cell 1),_,fun z h=>Keeps.look h (B.cell 2),c.q (A3b g.gs g.gj g.gc g.b L.H S _ (K.shelf.later l c.below)) fun wA A c=>?_,t6⟩;have k:=Keeps.below k (fun _ a=>a) A;exact⟨k,C1 (by rw [h]),c.below⟩
theorem O6 (g:Lg) (L:Lk) (S:Nat->Prop) (w:World) (K:LinkK g L S w):Calls Tryz.prog 21 #[.pointer (some ⟨g.gl,0,none⟩)] w (D4 (.pointer (some ⟨g.gs,0,none⟩)) w):=by obtain⟨A,c,D,a,h,R⟩:=K.cells;refine vE Tryz.func21 ?_;exact⟨.bool false,fun w=>B0n g.gl _ _ w,_,h.cell 1,rfl,Below.refl _ _⟩
end
end Go.Proofs.YtefdfaeieekioaaGreatDoor
end
namespace Go.Proofs.YtefdfaeieekioaaGreatDoor
open Go.Vc Go.RowKit Go.Fl Go.ChangeShapes Go.WideShapes Go.ChangeAt
theorem J5:(Tryz.prog.info? 43).map (fun i=>(i.zero,i.size,i.bytes))=some (some (.agg (wdC Wd0 WX0).toArray),21,232):=by kernel_rfl
def LkR (L:Lk) (A:Option Addr) (cA:Nat) (css:List (List Value)):Kn:=fun S w=>RosR L.r A cA S w/\WsR L.done css S w
theorem LkR.stab (L:Lk) (A:Option Addr) (c:Nat) (s:List (List Value)):Stab (LkR L A c s):=(RosR.stab _ _ _).and (WsR.stab _ _)
theorem LinkK.enter {g:Lg} {L:Lk} {x:Nat->Prop} {w:World} (h:LinkK g L x w) (l:∀ d,x d->d<w.heap.size):∃ A c D a s S,CtxF no (bare w) S w [(g.gl,85,liC L g.gs A c D a)] [orW L.done D a s] (Vc.Sep 0 (Vc.Sep 0 (Keep w x) (LkR L A c s)) (ShelfK g.gs g.gj g.gc g.b L.H)):=by obtain⟨A,c,D,a,s,h⟩:=h;have b:=ObjK.enter h l xb yw;obtain⟨e,b⟩:=CtxF.pull (X:=LkR L A c s) b yq (LkR.stab _ _ _ _) yw;exact⟨A,c,D,a,s,e,b⟩
theorem LinkK.leave {g:Lg} {L:Lk} {A D:Option Addr} {c a:Nat} {s:List (List Value)} {b S:Nat->Prop} {w w':World} (h:CtxF no (bare w) b w' [(g.gl,85,liC L g.gs A c D a)] [orW L.done D a s] (Vc.Sep 0 (Vc.Sep 0 (Keep w S) (LkR L A c s)) (ShelfK g.gs g.gj g.gc g.b L.H))) (v:Value):RetOb S w v (LinkK g L) (.returned v) w':=by obtain⟨j,h⟩:=CtxF.push h yq (LkR.stab _ _ _ _) yw;obtain⟨d,e,n,f,i⟩:=ObjK.leave h v;exact⟨d,e,n,f,A,c,D,a,s,i⟩
def I1 (L:Lk) (v:Wd):Lk:={ L with done:=L.done++[v] }
theorem B5x (g:Lg) (L:Lk) (G:L.done.length<=1000000) (v:Wd) (t:Thin v) (x:WX) (z d:Nat->Prop) (w:World) (R:WdR v x z w) (C:∀ x,d x->x<w.heap.size) (K:LinkK g L d w):
  Calls Tryz.prog 96 #[.pointer (some ⟨g.gl,0,none⟩),.agg (wdC v x).toArray] w (RetOb d w (.tuple #[]) (LinkK g (A3d L v))):=by
 obtain⟨b,f,D,E,s,S,h⟩:=K.enter C;obtain⟨l,i⟩:∃ l,l=A3d L v:=⟨_,rfl⟩;rw [<-i];unfold A3d at i;refine vE Tryz.func96 ?_;refine h.n fun F I H h=>?_;have r:=h;refine vD (.Q [0,1,3,4,5,6] (.n 2 (.q 7 .fin) .stop)) (Old _) (Old.start _) ?_;have k:=h.old0;have h:=h.drew;refine⟨_,fun x j=>Keeps.cell j (r.blk 0 rfl) (r.blk 0 rfl).lt rfl,_,fun x j=>Keeps.cell j (r.blk 1 rfl) (r.blk 1 rfl).lt rfl,h.q (O8 v.req _) fun wA B h=>?_,t6⟩;have k:=Keeps.below k (fun _ a=>a) B;refine⟨k,?_⟩;obtain a|a:=yj (B7 v.req==L.id);rotate_left
 ·refine B4 a ?_;rw [yo (by rw [ya] at a;exact a)] at i;subst i;exact LinkK.leave h.drop _
 refine B5 a ?_;rw [yn (by rw [beq_iff_eq] at a;exact a)] at i;subst i;clear k r;refine vD (.Q [0,1,2,3] (.n 4 (.n 5 (.n 6 (.n 7 (.Q [8,9] (.n 10 .fin .stop)) .stop) .stop) .stop) (.n 5 (.n 4 (.n 6 (.n 7 (.Q [8,9] (.n 10 .fin .stop)) .stop) .stop) (.n 6 (.n 4 (.n 7 (.Q [8,9] (.n 10 .fin .stop)) .stop) .stop) .stop)) .stop))) (fun _=>True) trivial ?_;have h:=h.drew;refine⟨?_,?_⟩
 ·skip
  refine⟨_,h.cell 1 rfl _ rfl,t6,⟨wdC v x,rfl,h.cells 0 rfl,t6,?_⟩,t6⟩;refine⟨h.n' fun n y p h=>?_,t6⟩;refine⟨F0 Tryz.underlying32 J5 rfl (by decide) h (ys:=wdC v x) (m:=1) rfl (h.cells 0 rfl) rfl (by omega) (by decide) rfl rfl ?_,t6⟩;intro A c q h;refine⟨t6,h.s' 2 rfl fun u o h=>?_,t6⟩;have e:(L.done++[v]).length=L.done.length+1:=by rw [z6];rfl
  have h:=h.drop.drop;have h:=G4 h (l':=[(g.gl,85,liC (I1 L v) g.gs b f A c)]) (by unfold liC;rw [show (I1 L v).done.length=L.done.length+1 from e];kernel_rfl);have h:=h.castOs (os':=[orW (I1 L v).done A c (s++[wdC v x])]) (by unfold orW;rw [show (I1 L v).done.length=L.done.length+1 from e,zt,List.flatten_singleton]);have h:=h.now (X:=Vc.Sep 0 (Vc.Sep 0 (Keep w d) (LkR (I1 L v) b f (s++[wdC v x]))) (ShelfK g.gs g.gj g.gc g.b L.H)) (fun a=>a.mono (fun _ a=>a.mono (fun _ a=>a) fun _ a=>⟨a.1,a.2.snoc (A0i t _ _ R)⟩) fun _ a=>a) (Vc.Sep.stab (Vc.Sep.stab yq (LkR.stab _ _ _ _)) yw);exact LinkK.leave (L:=I1 L v) h _
 refine⟨⟨wdC v x,rfl,h.cells 0 rfl,t6,?_⟩,t6⟩;refine⟨?_,?_⟩
 ·skip
  refine⟨_,h.cell 1 rfl _ rfl,t6,h.n' fun n y p h=>?_,t6⟩;refine⟨F0 Tryz.underlying32 J5 rfl (by decide) h (ys:=wdC v x) (m:=1) rfl (h.cells 0 rfl) rfl (by omega) (by decide) rfl rfl ?_,t6⟩;intro A c q h;refine⟨t6,h.s' 2 rfl fun u o h=>?_,t6⟩;have e:(L.done++[v]).length=L.done.length+1:=by rw [z6];rfl
  have h:=h.drop.drop;have h:=G4 h (l':=[(g.gl,85,liC (I1 L v) g.gs b f A c)]) (by unfold liC;rw [show (I1 L v).done.length=L.done.length+1 from e];kernel_rfl);have h:=h.castOs (os':=[orW (I1 L v).done A c (s++[wdC v x])]) (by unfold orW;rw [show (I1 L v).done.length=L.done.length+1 from e,zt,List.flatten_singleton]);have h:=h.now (X:=Vc.Sep 0 (Vc.Sep 0 (Keep w d) (LkR (I1 L v) b f (s++[wdC v x]))) (ShelfK g.gs g.gj g.gc g.b L.H)) (fun a=>a.mono (fun _ a=>a.mono (fun _ a=>a) fun _ a=>⟨a.1,a.2.snoc (A0i t _ _ R)⟩) fun _ a=>a) (Vc.Sep.stab (Vc.Sep.stab yq (LkR.stab _ _ _ _)) yw);exact LinkK.leave (L:=I1 L v) h _
 refine⟨h.n' fun n y p h=>?_,t6⟩;refine⟨⟨_,h.cell 2 rfl _ rfl,t6,?_⟩,t6⟩;refine⟨F0 Tryz.underlying32 J5 rfl (by decide) h (ys:=wdC v x) (m:=1) rfl (h.cells 0 rfl) rfl (by omega) (by decide) rfl rfl ?_,t6⟩;intro A c q h;refine⟨t6,h.s' 2 rfl fun u o h=>?_,t6⟩;have e:(L.done++[v]).length=L.done.length+1:=by rw [z6];rfl
 have h:=h.drop.drop;have h:=G4 h (l':=[(g.gl,85,liC (I1 L v) g.gs b f A c)]) (by unfold liC;rw [show (I1 L v).done.length=L.done.length+1 from e];kernel_rfl);have h:=h.castOs (os':=[orW (I1 L v).done A c (s++[wdC v x])]) (by unfold orW;rw [show (I1 L v).done.length=L.done.length+1 from e,zt,List.flatten_singleton]);have h:=h.now (X:=Vc.Sep 0 (Vc.Sep 0 (Keep w d) (LkR (I1 L v) b f (s++[wdC v x]))) (ShelfK g.gs g.gj g.gc g.b L.H)) (fun a=>a.mono (fun _ a=>a.mono (fun _ a=>a) fun _ a=>⟨a.1,a.2.snoc (A0i t _ _ R)⟩) fun _ a=>a) (Vc.Sep.stab (Vc.Sep.stab yq (LkR.stab _ _ _ _)) yw);exact LinkK.leave (L:=I1 L v) h _
def LkO (g:Lg) (L:Lk) (A:Option Addr) (cA:Nat) (D:Option Addr) (cD:Nat) (css:List (List Value)):Kn:=ObjK g.gl 85 (liC L g.gs A cA D cD) (LiR L A cA D cD css) (ShelfK g.gs g.gj g.gc g.b L.H)
theorem LkO.stab (g:Lg) (L:Lk) (A:Option Addr) (c:Nat) (D:Option Addr) (a:Nat) (s:List (List Value)):Stab (LkO g L A c D a s):=ObjK.stab xb yw
theorem x8 {g:Lg} {L:Lk} {A:Option Addr} {c:Nat} {D:Option Addr} {a:Nat} {s:List (List Value)}:Stab (LkO g L A c D a s):=LkO.stab _ _ _ _ _ _ _
theorem LkO.link {g:Lg} {L:Lk} {A:Option Addr} {c:Nat} {D:Option Addr} {a:Nat} {s:List (List Value)} {S:Nat->Prop} {w:World} (h:LkO g L A c D a s S w):LinkK g L S w:=⟨A,c,D,a,s,h⟩
theorem LkO.ros {g:Lg} {L:Lk} {A:Option Addr} {c:Nat} {D:Option Addr} {a:Nat} {s:List (List Value)} {S:Nat->Prop} {w:World} (h:LkO g L A c D a s S w):RosR L.r A c S w:=((ObjK.left xb h).left ((RosR.stab _ _ _).and (WsR.stab _ _))).1
theorem LinkK.seen {g:Lg} {L:Lk} {S:Nat->Prop} {w:World} (h:LinkK g L S w):∃ A c D a s,LkO g L A c D a s S w:=h
theorem K6 (g:Lg) (L:Lk) (v:Wd) (x:WX) (t:v.to≠L.id) (n:Int) (S:Nat->Prop) (w:World) (l:∀ x,S x->x<w.heap.size) (K:LinkK g L S w):
  Calls Tryz.prog 51 #[.pointer (some ⟨g.gl,0,none⟩),.agg (wdC v x).toArray,.int .i64 n] w (B5G 43 21 1 (wdC (N7 L v) x) w):=by
 obtain⟨A,c,D,b,s,B⟩:=K.seen;refine vE Tryz.func51 ?_;have h:=CtxF.start w S l (R:=LkO g L A c D b s) B x8;refine h.n fun d p m h=>?_;refine vD (.Q [0,1,2,3,4,5,6,7,8,9] (.n 10 (.q 11 (.z 12)) .stop)) (fun a=>Blk a g.gl 85 (liC L g.gs A c D b)) (h.row.2.1) ?_;have h:=h.drew;refine⟨.int .i64 L.id,fun a z=>(Blk.cell z 0).trans rfl,.int .i64 L.r.ep,fun a z=>(Blk.cell z 2).trans rfl,h.s 0 rfl fun k f h=>?_,t6⟩;refine⟨(h.row.2.1),?_⟩;refine h.s 0 rfl fun k f h=>?_;have h:=G4 h (l':=[(d,43,wdC (N7 L v) x)]) (by kernel_rfl);have B:=h.row.2.1;have r:=h;refine vD (.Q [0,1,2,3,4,5,6] .fin) (Old _) (Old.start _) ?_;have o:=h.old0;have h:=h.drew;refine⟨_,fun x j=>Keeps.cell j (r.blk 0 rfl) (r.blk 0 rfl).lt rfl,_,fun a z=>Keeps.look z (B.cell 0),?_⟩;refine B4 (by show (v.to==L.id)=false;rw [ya];exact t) ?_;refine⟨wdC (N7 L v) x,rfl,h.cells 0 rfl,?_⟩;intro e q i;have h:=h.made i 21 1 rfl (by decide);exact⟨some ⟨e,0,none⟩,1,rfl,h.below,h.fst.row⟩
theorem B0o (g:Lg) (L:Lk) (j:L.done.length<=1000000) (v:Wd) (t:Thin v) (i:v.kind=7) (x:WX) (c S:Nat->Prop) (o:Int) (w:World) (R:WdR v x c w) (l:∀ x,S x->x<w.heap.size) (K:LinkK g L S w):
  Calls Tryz.prog 48 #[.pointer (some ⟨g.gl,0,none⟩),.agg (wdC v x).toArray,.int .i64 o] w (RetWL S w (LinkK g (A3d L v)) []):=by
 have h:=CtxF.enterO l K (LinkK.stab g L);refine vE Tryz.func48 ?_;refine h.n fun s y u h=>?_;refine h.c 0 rfl rfl ?_;refine B5 (by show (v.kind==7)=true;rw [i];rfl) ?_;refine⟨wdC v x,rfl,h.cells 0 rfl,?_⟩;obtain⟨m,b,d,a,f,O⟩:=h.row;refine⟨(B5x g L j v t x (fun _=>True) b _ (A0i t _ _ R) (fun x k=>h.ctx.lt x (a x k).1) O).mono fun r z q=>?_⟩;obtain⟨e,T,p,n,O⟩:=q;have h:=h.turnO yq d a f T n O xa;refine⟨_,e,?_⟩;exact RetWL.nil (h.endO _) rfl
theorem A5k {v:Wd} (h:Thin v) (L:Lk):Thin (N7 L v):=⟨h.ros,h.deeds,h.st⟩
theorem B3j (g:Lg) (L:Lk) (J:L.done.length<=1000000) (v:Wd) (m:Thin v) (H:v.kind=7) (x:WX) (u f:Nat->Prop) (o:Int) (w:World) (R:WdR v x u w) (l:∀ x,f x->x<w.heap.size) (K:LinkK g L f w):
  Calls Tryz.prog 51 #[.pointer (some ⟨g.gl,0,none⟩),.agg (wdC v x).toArray,.int .i64 o] w (RetWL f w (LinkK g (A7C L v).1) (A7C L v).2):=by
 by_cases t:v.to=L.id;rotate_left
 ·have k:A7C L v=(L,[N7 L v]):=yo t;rw [k];refine (K6 g L v x t o f w l K).mono fun y w' b=>?_;obtain⟨A,c,i,p,M⟩:=b;exact RetWL.quiet (ws:=[N7 L v]) (css:=[wdC (N7 L v) x]) (N:=no) i p (by rw [List.flatten_singleton];exact M) ⟨x,[],rfl,A0i (A5k m L) no w' R,rfl⟩ (fun a2 b=>b.elim) (fun a ha b=>b) (K.later l p) l
 have k:A7C L v=(A3d L (N7 L v),[]):=yn t;rw [k];obtain⟨A,d,D,e,css,B⟩:=K.seen;have h:=CtxF.enterO l B (LkO.stab g L A d D e css);refine vE Tryz.func51 ?_;refine h.n fun C a1 a0 h=>?_;refine vD (.Q [0,1,2,3,4,5,6,7,8,9] (.n 10 (.q 11 (.z 12)) .stop)) (fun j=>Blk j g.gl 85 (liC L g.gs A d D e)) ((h.row.right (LkO.stab g L A d D e css)).2.1) ?_;have h:=h.drew;refine⟨.int .i64 L.id,fun j z=>(Blk.cell z 0).trans rfl,.int .i64 L.r.ep,fun j z=>(Blk.cell z 2).trans rfl,h.s 0 rfl fun Q I h=>?_,t6⟩;refine⟨((h.row.right (LkO.stab g L A d D e css)).2.1),?_⟩;refine h.s 0 rfl fun Q I h=>?_;have h:=G4 h (l':=[(C,43,wdC (N7 L v) x)]) (by kernel_rfl);have B:=(h.row.right (LkO.stab g L A d D e css)).2.1;have r:=h;refine vD (.Q [0,1,2,3,4,5,6] .fin) (Old _) (Old.start _) ?_;have hk:=h.old0;have h:=h.drew;refine⟨_,fun x n=>Keeps.cell n (r.blk 0 rfl) (r.blk 0 rfl).lt rfl,_,fun j z=>Keeps.look z (B.cell 0),?_⟩;refine B5 (by show (v.to==L.id)=true;rw [beq_iff_eq];exact t) ?_;refine⟨wdC (N7 L v) x,rfl,h.cells 0 rfl,?_⟩;obtain⟨V,s,E,F,G,O⟩:=h.row;refine⟨(B0o g L J (N7 L v) (A5k m L) H x (fun _=>True) s o _ (A0i (A5k m L) _ _ R) (fun x n=>h.ctx.lt x (F x n).1) O.link).mono fun y wq q=>?_⟩;have P:=q;obtain⟨T,Y,Z,U,W,i,_⟩:=P;refine⟨_,i,?_⟩;have h:=h.now (X:=Vc.Sep 0 (fun S w'=>Keep w f S w'/\True) (LkO g L A d D e css)) (fun b=>b.mono (fun _ b=>⟨b,t6⟩) fun _ b=>b) (Vc.Sep.stab (yq.and Stab.true) x8);rw [i] at q;exact h.tailW E G q
theorem A3j (g:Lg) (L:Lk) (y:L.done.length<=1000000) (r:Int) (b:Res) (c:Nat->Prop) (n:Int) (w:World) (l:∀ x,c x->x<w.heap.size) (K:LinkK g L c w):
  Calls Tryz.prog 160 #[.pointer (some ⟨g.gl,0,none⟩),.int .i64 r,.agg #[.int .i64 b.err,.int .i64 b.ver],.int .i64 n] w (RetWL c w (LinkK g (toldL L r b).1) (toldL L r b).2):=by
 have C:wdC (B3g r b) WX0=[.int .i64 7,.int .i64 0,.int .i64 (B7 r),.int .i64 0,.int .i64 0,.int .i64 r,.int .i64 0,.int .i64 b.err,.int .i64 b.ver,.int .i64 0,.slice none 0 0,.int .i64 0,.slice none 0 0,.int .i64 0,.slice none 0 0,.slice none 0 0,.int .i64 0,.int .i64 0,.int .i64 0,.int .i64 0,.int .i64 0]:=by kernel_rfl
 have s:=fun c w l K=>B3j g L y (B3g r b) ⟨rfl,rfl,rfl⟩ rfl WX0 no c n w ⟨⟨A39 _ _,A39 _ _⟩,T3 _ _⟩ l K;rw [C] at s;have h:=CtxF.enterO l K (LinkK.stab g L);refine vE Tryz.func160 ?_;refine h.n fun D F E h=>?_;refine vD (.Q [0,1,3,6] (.n 2 (.n 4 (.q 5 (.n 7 (.q 8 .fin) .stop)) .stop) (.n 4 (.n 2 (.q 5 (.n 7 (.q 8 .fin) .stop)) .stop) .stop))) (fun _=>True) trivial ?_;have h:=h.drew;refine⟨?_,?_⟩
 ·skip
  refine h.q' (O8 r _) fun z Q h=>?_;refine⟨h.a' 0 rfl rfl ?_,t6⟩;refine⟨?_,t6⟩;obtain⟨o,d,f,i,j,O⟩:=h.row;refine⟨(s d _ (fun x m=>h.ctx.lt x (i x m).1) O).mono fun v B q=>?_⟩;have k:=q;obtain⟨A,t,u,N,p,e,_⟩:=k;refine⟨_,e,t6,?_⟩;have h:=h.now (X:=Vc.Sep 0 (fun S w'=>Keep w c S w'/\True) (LinkK g L)) (fun a=>a.mono (fun _ a=>⟨a,t6⟩) fun _ a=>a) (Vc.Sep.stab (yq.and Stab.true) xa);rw [e] at q;exact h.tailW f j q
 refine⟨h.a' 0 rfl rfl ?_,t6⟩;refine⟨h.q' (O8 r _) fun z Q h=>?_,t6⟩;refine⟨?_,t6⟩;obtain⟨o,d,f,i,j,O⟩:=h.row;refine⟨(s d _ (fun x m=>h.ctx.lt x (i x m).1) O).mono fun v B q=>?_⟩;have k:=q;obtain⟨A,t,u,N,p,e,_⟩:=k;refine⟨_,e,t6,?_⟩;have h:=h.now (X:=Vc.Sep 0 (fun S w'=>Keep w c S w'/\True) (LinkK g L)) (fun a=>a.mono (fun _ a=>⟨a,t6⟩) fun _ a=>a) (Vc.Sep.stab (yq.and Stab.true) xa);rw [e] at q;exact h.tailW f j q
theorem A04 (q:Int) (r:Res):∀ (l:List (Int × Res)) (L:Lk),C7 L (l++[(q,r)])=((toldL (C7 L l).1 q r).1,(C7 L l).2++(toldL (C7 L l).1 q r).2)
 | [],L=>by
  show ((toldL L q r).1,(toldL L q r).2++[])=((toldL L q r).1,[]++(toldL L q r).2);rw [zx,List.nil_append]
 | (a,b)::t,L=>by show ((C7 (toldL L a b).1 (t++[(q,r)])).1,(toldL L a b).2++(C7 (toldL L a b).1 (t++[(q,r)])).2)=_;rw [A04 q r t];show _=(_,((toldL L a b).2++(C7 (toldL L a b).1 t).2)++_);rw [zw];rfl
theorem B5y (L:Lk) (q:Int) (r:Res):(toldL L q r).1.done.length<=L.done.length+1:=by
 unfold toldL A7C;split
 ·exact B5v _ _
 ·exact Nat.le_succ _
theorem A7D:∀ (l:List (Int × Res)) (L:Lk),(C7 L l).1.done.length<=L.done.length+l.length
 | [],L=>zc _
 | (a,b)::t,L=>by have h:=B5y L a b;have c:=A7D t (toldL L a b).1;rw [zj];show (C7 (toldL L a b).1 t).1.done.length<=_;omega
theorem A5l (L:Lk) (q:Int) (r:Res):(toldL L q r).2.length<=1:=by
 unfold toldL A7C;split
 ·exact zb _
 ·exact zc _
theorem A3k:∀ (l:List (Int × Res)) (L:Lk),(C7 L l).2.length<=l.length
 | [],L=>zc _
 | (a,b)::t,L=>by have h:=A5l L a b;have c:=A3k t (toldL L a b).1;show ((toldL L a b).2++(C7 (toldL L a b).1 t).2).length<=_;rw [z6,zj];omega
theorem LkO.open {g:Lg} {L:Lk} {A:Option Addr} {c:Nat} {D:Option Addr} {a:Nat} {s:List (List Value)} {K:Kn} {n:Nat} {S:Nat->Prop} {w:World} (h:Vc.Sep n K (LkO g L A c D a s) S w):Vc.Sep n (Vc.Sep 0 K (HdK g.gl 85 (liC L g.gs A c D a) (LiR L A c D a s))) (ShelfK g.gs g.gj g.gc g.b L.H) S w:=by obtain⟨b,d,e,f,i,j⟩:=h;exact Vc.Sep.inner ⟨b,d,e,f,i,ObjK.sep xb j⟩
theorem A8T (g:Lg) (d:Lk) (hL:d.H.Ok) (hd:d.done.length<=900000) (a0:Int) (x:Nat->Prop) (w:World) (c9:∀ o,x o->o<w.heap.size) (he:EnvFree x w) (hK:LinkK g d x w):
  Calls Tryz.prog 95 #[.pointer (some ⟨g.gl,0,none⟩),.int .i64 a0] w (RetWL x w (LinkK g (H6 d).1) (H6 d).2):=by
 have a2:=hL.k;have d2:B9 d.H.k.seq:=by have C:=a2.seq;have q:=a2.len;have E:=(D5.1 a2.may).1;have hm:G5=1099511627776:=rfl;unfold Known.seq B9;omega
 obtain⟨m,a6⟩:∃ c,c=F9 d.H d.H.k.seq:=⟨_,rfl⟩;obtain⟨L,a1⟩:∃ L:Lk,L={ d with H:=m.1 }:=⟨_,rfl⟩;obtain⟨z,F⟩:∃ z,z=(d.H.k.pend.map fun e=>e.req).zip m.2.1:=⟨_,rfl⟩;obtain⟨A,f,D,j,l,hB⟩:=hK.seen;have c4:∀ S w,LkO g { d with H:=m.1 } A f D j l S w->LkO g L A f D j l S w:=by rw [a1];exact fun S w b=>b
 have c2:∀ w,Blk w g.gl 85 (liC L g.gs A f D j)->Blk w g.gl 85 (liC d g.gs A f D j):=by rw [a1];exact fun w b=>b
 have d7:m.2.1.length<=d.H.k.pend.length:=by
  rw [a6];unfold F9
  repeat' split
  all_goals first | exact zb _ | (rw [(A4m _ _).1];exact Nat.min_le_right _ _)
 have d9:z.length=m.2.1.length:=by rw [F,List.length_zip,zl];omega
 have d4:L.done.length=d.done.length:=by rw [a1]
 have d1:H6 d=C7 L z:=by rw [a1,F,a6];rfl
 rw [d1];have d8:=a2.len;have h:=CtxF.enterO c9 hB (LkO.stab g d A f D j l);refine A0S lay_ok Tryz.func95 rfl (by kernel_rfl) (by kernel_rfl) ?_;refine SemC.cut lay_ok (fun (y:Option Addr × Nat × Option Addr × Nat)=>[(0,.pointer (some ⟨g.gl,0,none⟩)),(1,.int .i64 a0),(5,.slice y.1 d.H.k.pend.length y.2.1),(6,.slice y.2.2.1 m.2.1.length y.2.2.2)]) (fun y w'=>∃ S,CtxF no (bare w) S w' [] [⟨45,8,y.1,d.H.k.pend.length,y.2.1,(d.H.k.pend.map dC).flatten⟩] (Vc.Sep 0 (fun S w'=>Keep w x S w'/\Row S w' y.2.2.1 m.2.1.length y.2.2.2 (m.2.1.map Z7).flatten) (LinkK g L))) 2 (by kernel_rfl) ?_ ?_
 ·skip
  refine⟨_,(h.row.right (LkO.stab g d A f D j l)).2.1.cell 1,?_⟩;refine⟨(A0h g.gs g.gj g.gc g.b d.H hL _ _ (h.row.right (LkO.stab g d A f D j l)).link.shelf).mono fun en wq t=>?_⟩;obtain⟨J,G,B,hb,ho⟩:=t;have h:=h.fresh hb ho;refine⟨_,B,?_⟩;refine vD (.Q [0,1,2,3,4,5,6,7] (.n 8 (.n 9 (.Q [10,11,12,13,14] .fin) .stop) .stop)) (fun z=>Blk z g.gl 85 (liC d g.gs A f D j)) ((h.row.right (LkO.stab g d A f D j l)).2.1) ?_;have h:=h.drew;refine⟨.pointer (some ⟨g.gs,0,none⟩),fun z F=>(Blk.cell F 1).trans rfl,.pointer (some ⟨g.gs,0,none⟩),fun z F=>(Blk.cell F 1).trans rfl,h.q (A0U g.gs g.gj g.gc g.b d.H hL _ _ (h.row.right (LkO.stab g d A f D j l)).link.shelf) fun wQ hQ h=>?_,t6⟩;refine⟨((h.row.right (LkO.stab g d A f D j l)).2.1),?_,t6⟩;have h:=h.now (X:=Vc.Sep 0 (Vc.Sep 0 (Keep w x) (HdK g.gl 85 (liC d g.gs A f D j) (LiR d A f D j l))) (ShelfK g.gs g.gj g.gc g.b d.H)) (fun b=>LkO.open b) (Vc.Sep.stab (Vc.Sep.stab yq (HdK.stab xb)) yw);obtain⟨S1,M,C,q,E,O⟩:=h.row;have c6:=A3i h C (E.left (Keep.stab w x)) he;refine⟨(A3c g.gs g.gj g.gc g.b d.H hL d.H.k.seq d2 M _ (fun o hx=>h.ctx.lt o (q o hx).1) c6 O).mono fun en wq t=>?_⟩;rw [<-a6] at t;obtain⟨p,k,B,U,Sn,Sl,T,O,a4,hX⟩:=t;have h:=h.turnO (O':=Vc.Sep 0 (fun S w=>Row S w p m.2.1.length k (m.2.1.map Z7).flatten) (ShelfK g.gs g.gj g.gc g.b m.1)) (Vc.Sep.stab yq (HdK.stab xb)) C q E U (Sn:=fun y=>Sn y\/Sl y) (fun y I=>I.elim (T y) fun b=>⟨.inr (a4 y b).1,(a4 y b).2.1⟩) ⟨Sl,Sn,fun y I=>⟨.inr I,(a4 y I).2.2⟩,fun y I=>⟨.inl I,zb _⟩,hX,O⟩ (Vc.Sep.stab row_stab yw);have h:=h.now (X:=Vc.Sep 0 (fun S w'=>Keep w x S w'/\Row S w' p m.2.1.length k (m.2.1.map Z7).flatten) (LkO g L A f D j l)) (fun b=>Vc.Sep.assoc yq row_stab ((Vc.Sep.outer b).mono (fun _ b=>b) fun _ b=>(Vc.Sep.swapIn b).mono (fun _ b=>b) fun _ b=>c4 _ _ (Vc.Sep.obj b))) (Vc.Sep.stab (yq.and row_stab) x8);exact⟨_,B,c2 _ (h.row.right (LkO.stab g L A f D j l)).2.1,(J,G,p,k),⟨rfl,rfl,rfl,rfl,t6⟩,_,h.now (fun b=>b.mono (fun _ b=>b) fun _ b=>LkO.link b) (Vc.Sep.stab (yq.and row_stab) xa)⟩
 clear h;rintro⟨J,G,p,k⟩ d3 w1 ⟨S,h⟩;refine SemC.vc lay_ok ?_;have h:=h.nil 43 21;have h:=h.now (X:=Vc.Sep 0 (fun S w'=>Keep w x S w'/\(Row S w' p m.2.1.length k (m.2.1.map Z7).flatten/\Fresh w x (WsR [] []) S w')) (LinkK g L)) (fun b=>b.mono (fun _ b=>⟨b.1,b.2,Fresh.none rfl⟩) fun _ b=>b) (Vc.Sep.stab (yq.and (row_stab.and (Fresh.stab (WsR.stab _ _)))) xa);have d5:C7 L (z.take 0)=(L,[]):=by rw [List.take_zero];rfl
 refine⟨Nat × Option Addr × Nat,fun (i,K,Q)=>[(0,.pointer (some ⟨g.gl,0,none⟩)),(1,.int .i64 a0),(5,.slice J d.H.k.pend.length G),(8,.slice K (C7 L (z.take i)).2.length Q),(29,.slice p m.2.1.length k),(30,.int .i64 (m.2.1.length:Int)),(31,.int .i64 (i:Int))],
  fun (i,K,Q) w'=>i<=m.2.1.length/\∃ s S,CtxF no (bare w) S w' [] [orW (C7 L (z.take i)).2 K Q s,⟨45,8,J,d.H.k.pend.length,G,(d.H.k.pend.map dC).flatten⟩] (Vc.Sep 0 (fun S w'=>Keep w x S w'/\(Row S w' p m.2.1.length k (m.2.1.map Z7).flatten/\Fresh w x (WsR (C7 L (z.take i)).2 s) S w')) (LinkK g (C7 L (z.take i)).1)),
  fun (i,_) _=>m.2.1.length-i,(0,none,0),⟨rfl,rfl,rfl,rfl,rfl,rfl,rfl,t6⟩,⟨zb _,[],_,h⟩,?_⟩
 clear h;rintro⟨i,K,Q⟩ w1 d3 ⟨hi,s,S,h⟩;have hf:=A7D (z.take i) L;rw [zg] at hf;by_cases a7:i<m.2.1.length;rotate_left
 ·refine df (by omega) ?_;have ez:z.take i=z:=ym (by omega);have b5:=(h.now (X:=Vc.Sep 0 (fun S w'=>Keep w x S w'/\Fresh w x (WsR (C7 L (z.take i)).2 s) S w') (LinkK g (C7 L (z.take i)).1)) (fun b=>b.mono (fun _ b=>⟨b.1,b.2.2⟩) fun _ b=>b) (Vc.Sep.stab (yq.and (Fresh.stab (WsR.stab _ _))) xa)).endW;have c7:RetWL x w (LinkK g (C7 L z).1) (C7 L z).2 (.returned (.slice K (C7 L (z.take i)).2.length Q)) w1:=by rw [ez] at b5 ⊢;exact b5
  exact c7
 refine dt (by omega) ?_;have sR:Stab (fun S w'=>Keep w x S w'/\(Row S w' p m.2.1.length k (m.2.1.map Z7).flatten/\Fresh w x (WsR (C7 L (z.take i)).2 s) S w')):=yq.and (row_stab.and (Fresh.stab (WsR.stab _ _)));have b7:Stab (fun S w'=>Row S w' p m.2.1.length k (m.2.1.map Z7).flatten/\Fresh w x (WsR (C7 L (z.take i)).2 s) S w'):=row_stab.and (Fresh.stab (WsR.stab _ _));obtain⟨b1,c1,b2⟩:=RowR8.elem (h.row.left sR).2.1 i a7;subst c1;obtain⟨r,hr⟩:∃ r,r=m.2.1[i]:=⟨_,rfl⟩;have c8:i<d.H.k.pend.length:=by omega
 obtain⟨e,b4⟩:∃ e,e=d.H.k.pend[i]:=⟨_,rfl⟩;rw [<-hr] at b2;have b6:z.take (i+1)=z.take i++[(e.req,r)]:=by
  rw [List.take_add_one,yc (by omega)];have:z[i]'(by omega)=(e.req,r):=by simp only [F,List.getElem_zip,List.getElem_map,hr,b4]
  rw [this];rfl
 refine⟨⟨by omega,by omega⟩,Z7 r,rfl,by rw [zi];exact b2,?_⟩;refine h.n fun b9 e0 d6 h=>?_;refine h.s 0 rfl fun wS hS h=>?_;have h:CtxF no (bare w) _ _ [(b9,36,Z7 r)] _ _:=h;obtain⟨b8,c0,c5⟩:∃ a,J=some a/\Go.Vc.cellsAt wS (a.add (i*8)) (dC e) 0:=by obtain⟨S9,Z⟩:=J3 h.rest;obtain⟨a,a3,b⟩:=RowD8.elem Z i c8;exact⟨a,a3,b4▸b⟩
 subst c0;obtain⟨P,rfl⟩:∃ N,b8=⟨N,0,none⟩:=⟨_,h.rest.fst.za _ rfl⟩;have b3:wS.cell? ⟨P,i*8+6,none⟩=some (.int .i64 e.req):=by
  have b:=cells_of (dC e) 0 c5 6 (.int .i64 e.req) rfl;rw [yi,yi] at b;have a3:0+i*8+(0+6)=i*8+6:=by omega
  rw [a3] at b;exact b
 refine vD (.Q [0,1,2,3,4,5,8] (.n 6 (.n 7 (.n 9 (.n 10 (.q 11 .fin) .stop) .stop) .stop) (.n 7 (.n 6 (.n 9 (.n 10 (.q 11 .fin) .stop) .stop) .stop) .stop))) (fun _=>True) trivial ?_;have h:=h.drew;refine⟨⟨by omega,by omega⟩,?_⟩;generalize a5:((⟨P,0,none⟩:Addr).add ((i:Int).toNat*8))=ae;have a5:(⟨P,i*8,none⟩:Addr)=ae:=by rw [<-a5,yi,zn,zi]
 subst a5;refine⟨?_,?_⟩
 ·skip
  refine⟨.int .i64 e.req,b3,t6,⟨Z7 r,rfl,h.cells 0 rfl,t6,?_⟩,t6⟩;refine⟨?_,t6⟩;obtain⟨S1,M,C,q,E,O⟩:=h.row;refine⟨(A3j g _ (by omega) e.req r M a0 _ (fun o hx=>h.ctx.lt o (q o hx).1) O).mono fun en wq t=>?_⟩;obtain⟨A3,c3,css3,N3,Sn,B,U,T,O,b0,W,hN,hA⟩:=t;obtain⟨S',h⟩:=h.turnB b7 C q E U T O xa b0 W hN hA;refine⟨_,B,t6,?_,t6⟩;obtain⟨S8,Z⟩:=J3 h;have V:Flat 21 css3:=W.flat;have a8:css3.length=(toldL (C7 L (z.take i)).1 e.req r).2.length:=W.len;have d0:=A5l (C7 L (z.take i)).1 e.req r;have a9:=A3k (z.take i) L;rw [zg] at a9;refine Y6 Tryz.underlying32 J5 rfl (by decide) h.swap Z (by rw [V.len,a8]) V.ones (by omega) (by decide) rfl rfl ?_;intro u v w4 h;have h:=h.swap.rest;refine⟨t6,?_⟩;have R:C7 L (z.take (i+1))=((toldL (C7 L (z.take i)).1 e.req r).1,(C7 L (z.take i)).2++(toldL (C7 L (z.take i)).1 e.req r).2):=by rw [b6,A04]
  have Y:(C7 L (z.take (i+1))).2.length=(C7 L (z.take i)).2.length+(toldL (C7 L (z.take i)).1 e.req r).2.length:=by rw [R];exact z6
  have h:=h.drop.castOs (os':=[orW (C7 L (z.take (i+1))).2 u v (s++css3),⟨45,8,some ⟨P,0,none⟩,d.H.k.pend.length,G,(d.H.k.pend.map dC).flatten⟩]) (by unfold orW;rw [Y,zt]);have h:=h.now (X:=Vc.Sep 0 (fun S w'=>Keep w x S w'/\(Row S w' (some b1) m.2.1.length k (m.2.1.map Z7).flatten/\Fresh w x (WsR (C7 L (z.take (i+1))).2 (s++css3)) S w')) (LinkK g (C7 L (z.take (i+1))).1)) (fun b=>by rw [R];exact b.mono (fun _ b=>⟨b.1,b.2.1.1,Fresh.both (WsR.stab _ _) (WsR.stab _ _) b.2.1.2 b.2.2 fun _ a N=>WsR.append a N⟩) fun _ b=>b) (Vc.Sep.stab (yq.and (row_stab.and (Fresh.stab (WsR.stab _ _)))) xa);exact⟨(i+1,u,v),⟨rfl,rfl,rfl,yb (fun n=>Value.slice u n v) Y.symm,rfl,rfl,yb _ (C4 (by omega)),t6⟩,⟨a7,s++css3,_,h⟩,by show m.2.1.length-(i+1)<m.2.1.length-i;omega⟩
 refine⟨⟨Z7 r,rfl,h.cells 0 rfl,t6,?_⟩,t6⟩;refine⟨⟨.int .i64 e.req,b3,t6,?_⟩,t6⟩;refine⟨?_,t6⟩;obtain⟨S1,M,C,q,E,O⟩:=h.row;refine⟨(A3j g _ (by omega) e.req r M a0 _ (fun o hx=>h.ctx.lt o (q o hx).1) O).mono fun en wq t=>?_⟩;obtain⟨A3,c3,css3,N3,Sn,B,U,T,O,b0,W,hN,hA⟩:=t;obtain⟨S',h⟩:=h.turnB b7 C q E U T O xa b0 W hN hA;refine⟨_,B,t6,?_,t6⟩;obtain⟨S8,Z⟩:=J3 h;have V:Flat 21 css3:=W.flat;have a8:css3.length=(toldL (C7 L (z.take i)).1 e.req r).2.length:=W.len;have d0:=A5l (C7 L (z.take i)).1 e.req r;have a9:=A3k (z.take i) L;rw [zg] at a9;refine Y6 Tryz.underlying32 J5 rfl (by decide) h.swap Z (by rw [V.len,a8]) V.ones (by omega) (by decide) rfl rfl ?_;intro u v w4 h;have h:=h.swap.rest;refine⟨t6,?_⟩;have R:C7 L (z.take (i+1))=((toldL (C7 L (z.take i)).1 e.req r).1,(C7 L (z.take i)).2++(toldL (C7 L (z.take i)).1 e.req r).2):=by rw [b6,A04]
 have Y:(C7 L (z.take (i+1))).2.length=(C7 L (z.take i)).2.length+(toldL (C7 L (z.take i)).1 e.req r).2.length:=by rw [R];exact z6
 have h:=h.drop.castOs (os':=[orW (C7 L (z.take (i+1))).2 u v (s++css3),⟨45,8,some ⟨P,0,none⟩,d.H.k.pend.length,G,(d.H.k.pend.map dC).flatten⟩]) (by unfold orW;rw [Y,zt]);have h:=h.now (X:=Vc.Sep 0 (fun S w'=>Keep w x S w'/\(Row S w' (some b1) m.2.1.length k (m.2.1.map Z7).flatten/\Fresh w x (WsR (C7 L (z.take (i+1))).2 (s++css3)) S w')) (LinkK g (C7 L (z.take (i+1))).1)) (fun b=>by rw [R];exact b.mono (fun _ b=>⟨b.1,b.2.1.1,Fresh.both (WsR.stab _ _) (WsR.stab _ _) b.2.1.2 b.2.2 fun _ a N=>WsR.append a N⟩) fun _ b=>b) (Vc.Sep.stab (yq.and (row_stab.and (Fresh.stab (WsR.stab _ _)))) xa);exact⟨(i+1,u,v),⟨rfl,rfl,rfl,yb (fun n=>Value.slice u n v) Y.symm,rfl,rfl,yb _ (C4 (by omega)),t6⟩,⟨a7,s++css3,_,h⟩,by show m.2.1.length-(i+1)<m.2.1.length-i;omega⟩
def toW (v:Wd) (n:Int):Wd:={ v with to:=n }
def RetAh (L:Lk) (v:Wd) (x:WX) (w:World) (en:Ending) (w':World):Prop:=∃ A c css,en=.returned (.slice A (D9 L v).length c)/\Below w.heap.size w w'/\w'.ownsRow w.heap.size 43 21 (.slice A (D9 L v).length c) (D9 L v).length css.flatten/\((D9 L v=[]/\css=[])\/(D9 L v=[N7 L (toW v (A0V L))]/\css=[wdC (N7 L (toW v (A0V L))) x]))
theorem A3l (g:Lg) (L:Lk) (q:L.Ok) (v:Wd) (x:WX) (S:Nat->Prop) (w:World) (C:∀ x,S x->x<w.heap.size) (K:LinkK g L S w):
  Calls Tryz.prog 58 #[.pointer (some ⟨g.gl,0,none⟩),.agg (wdC v x).toArray] w (RetAh L v x w):=by
 obtain⟨A,c,D,i,l,B⟩:=K.seen;obtain⟨f,b⟩:∃ f,f=A0V L:=⟨_,rfl⟩;have r:=fun w (p:RosR L.r A c S w)=>A4g L.id p;rw [show A2J L.r.l L.id=f from b.symm] at r;refine vE Tryz.func58 ?_;have h:=CtxF.start w S C (R:=LkO g L A c D i l) B x8;refine h.n fun n N I h=>?_;refine vD (.Q [0,1,2,3,4,5,6,7] (.n 8 (.q 9 (.z 10)) .stop)) (fun d=>Blk d g.gl 85 (liC L g.gs A c D i)) (h.row.2.1) ?_;have h:=h.drew;refine⟨M1 L.r A c,rfl,fun d z=>Blk.part z 2 (M1 L.r A c) rfl,.int .i64 L.id,fun d z=>(Blk.cell z 0).trans rfl,h.q (r _ h.row.ros) fun J Q h=>?_,t6⟩;refine⟨(h.row.2.1),?_⟩;refine h.s 0 rfl fun M H h=>?_;have h:=G4 h (l':=[(n,43,wdC (toW v f) x)]) (by kernel_rfl);refine h.c 0 rfl rfl ?_;by_cases h0:f=0
 ·refine B5 (by show (f==0)=true;rw [h0];rfl) ?_;have e:D9 L v=[]:=by unfold D9;rw [yn (by rw [<-b];exact h0)]
  unfold RetAh;rw [e];exact⟨none,0,[],rfl,h.below,World.ownsRow_nil ..,.inl ⟨rfl,rfl⟩⟩
 refine B4 (by show (f==0)=false;rw [ya];exact h0) ?_;refine⟨wdC (toW v f) x,rfl,h.cells 0 rfl,?_⟩;have E:(toW v f).to≠L.id:=by rw [show (toW v f).to=f from rfl,b];exact q.front
 refine⟨(K6 g L (toW v f) x E 0 _ _ h.ctx.lt h.row.link).mono fun G O F=>?_⟩;obtain⟨j,k,m,u,o⟩:=F;have o:=o;have s:=h.below.size;have y:=h.below.trans (u.mono s);refine⟨_,m,?_⟩;have e:D9 L v=[N7 L (toW v f)]:=by unfold D9;rw [yo (by rw [<-b];exact h0),<-b];rfl
 unfold RetAh;rw [e,<-b];exact⟨j,k,[wdC (N7 L (toW v f)) x],rfl,y,by rw [List.flatten_singleton];exact R8 o fun a t=>zq s (by rw [t] at o;exact (o.lt a.block rfl).1),.inr ⟨rfl,rfl⟩⟩
def RetWq (ws:List Wd) (w:World) (en:Ending) (w':World):Prop:=∃ (A:Option Addr) (c:Nat) (css:List (List Value)) (N:Nat->Prop),en=.returned (.slice A ws.length c)/\Below w.heap.size w w'/\w'.ownsRow w.heap.size 43 21 (.slice A ws.length c) ws.length css.flatten/\WsR ws css N w'/\(∀ y,N y->w.heap.size<=y/\y<w'.heap.size)/\(∀ a,A=some a->¬ N a.block)
theorem RetWq.turn {s:List Wd} {w w':World} {e:Ending} {g:Lg} {L:Lk} {S:Nat->Prop} (b:RetWq s w e w') (K:LinkK g L S w) (l:∀ x,S x->x<w.heap.size):RetWL S w (LinkK g L) s e w':=by obtain⟨d,c,i,f,a,h,o,W,N,A⟩:=b;exact RetWL.quiet a h o W N A (K.later l h) l
theorem RetAh.quiet {L:Lk} {v:Wd} {x:WX} {w w':World} {e:Ending} (h:RetAh L v x w e w') (t:Thin v) (R:∀ S w,WdR v x S w):RetWq (D9 L v) w e w':=by
 obtain⟨A,c,s,f,g,o,i⟩:=h;refine⟨A,c,s,no,f,g,o,?_,fun y h=>h.elim,fun a j h=>h⟩;obtain⟨b,d⟩|⟨b,d⟩:=i
 ·rw [b,d];rfl
 ·rw [b,d];exact⟨x,[],rfl,R _ _,rfl⟩
theorem _root_.Go.Vc.CtxF.toldN {f S:Nat->Prop} {e w:World} {l:List LB} {o:OR} {s:List OR} {R:Kn} (d:CtxF f e S w l (o::s) R):∃ b,CtxF f e b w l s (fun S w=>R S w/\Fresh e no (fun S w=>Row S w o.A o.n o.cap o.xs) S w):=by
 obtain⟨b,q,k⟩:=d.told;have t:=fun a (c:o.A=some a)=>d.fst.lt c;refine⟨b,k.now (fun h=>⟨h.1,fun x=>b x/\∃ a,o.A=some a/\a.block=x,fun r y=>⟨y.1,.inr ?_⟩,h.2.1,h.2.2.1,fun p=>?_⟩) (d.stab.and (Fresh.stab fun _ _ _ _ h j=>h.fut j))⟩
 ·obtain⟨_,a,c,rfl⟩:=y;exact (t a c).1
 ·obtain⟨g,i,n,m⟩:=h.2.2.2 p;exact⟨g,i,⟨n,g,i,rfl⟩,m⟩
def pB (A5:Option Addr) (c5:Nat) (m:Int):Option Addr:=if ((((c5:Int)-m).toNat:Nat):Int)=0 then (if (c5:Int)=m then A5 else A5.map (·.add (m.toNat*8))) else (if (c5:Int)=m then A5 else A5.map (·.add (m.toNat*8))).map (·.add ((0:Int).toNat*8))
def pC (c5:Nat) (m:Int):Nat:=(((((c5:Int)-m).toNat:Nat):Int)-0).toNat
def pN (n:Nat) (m:Int):Nat:=((if (6:Int)<((((n:Int)-m).toNat:Nat):Int) then (6:Int) else ((((n:Int)-m).toNat:Nat):Int))-0).toNat
theorem B5z {S:Nat->Prop} {w:World} {A:Option Addr} {c k:Nat} {l:List D} (g:k<=l.length) (d:Row S w A l.length c (l.map dC).flatten) (m:Int) (i:m=(k:Int)):Row S w (pB A c m) ((l.drop k).take 6).length (pC c m) (((l.drop k).take 6).map dC).flatten:=by
 subst i;have f:=RowD8.sub d k g;have h:=Row.front f 8 (k:=((l.drop k).take 6).length) (by rw [zg];omega);have e:((l.drop k).map dC).flatten.take (((l.drop k).take 6).length*8)=(((l.drop k).take 6).map dC).flatten:=by rw [<-(T4 _).flat_take,<-List.map_take];congr 2;rw [zg];exact List.take_eq_take_iff.2 (by omega)
 rw [e] at h;have a:pB A c (k:Int)=if (c:Int)=(k:Int) then A else A.map (·.add ((k:Int).toNat*8)):=Y2 _ _ _
 have b:pC c (k:Int)=c-k:=by unfold pC;omega
 rw [a,b];exact h
theorem A12 (g:Lg) (L:Lk) (j:L.Ok) (q K:Int) (b1:L.H.k.b.seq<=q) (a3:q<=L.H.k.seq) (S:Nat->Prop) (w:World) (a0:∀ N,S N->N<w.heap.size) (X:LinkK g L S w):
  Calls Tryz.prog 60 #[.pointer (some ⟨g.gl,0,none⟩),.int .i64 q,.int .i64 K] w (RetWq (O5 L q) w):=by
 have s:=j.H.k;have a6:=(D5.1 s.may).1;have b2:=s.seq;have b0:=s.len;have hm:G5=1099511627776:=rfl;obtain⟨k,a7⟩:∃ k:Nat,q=L.H.k.b.seq+(k:Int):=⟨(q-L.H.k.b.seq).toNat,by omega⟩;have Z:k<=L.H.k.pend.length:=by unfold Known.seq at a3;omega
 have m:IntKind.i64.wrap (q-L.H.k.b.seq)=(k:Int):=by rw [yh _ ⟨by omega,by omega⟩];omega
 obtain⟨n,p,D,T,U,W⟩:=X.seen;obtain⟨i,F⟩:∃ i,i=A2V L:=⟨_,rfl⟩;refine vE Tryz.func60 ?_;have h:=CtxF.start w S a0 (R:=LkO g L n p D T U) W x8;have B:=h.row.2.1;have H:=h;refine vD (.Q [0,1,2,3,5,6,7,8,9] (.n 4 (.n 10 (.Q [11,12,13,14] .fin) .stop) .stop)) (Old _) (Old.start _) ?_;have b:=h.old0;have h:=h.drew;refine⟨_,fun u z=>Keeps.look z (B.cell 1),_,fun u z=>Keeps.look z (B.cell 1),⟨(A0h g.gs g.gj g.gc g.b L.H j.H _ _ h.row.link.shelf).mono fun x M f=>?_⟩,t6⟩;obtain⟨A,c5,e,d,ho⟩:=f;have h:=h.fresh d ho;have b:=Keeps.below b (fun _ c=>c) d;refine⟨_,e,b,⟨(K5 g.gs g.gj g.gc g.b L.H j.H _ _ h.row.link.shelf).mono fun x M f=>?_⟩,t6⟩;obtain⟨cs,e,d,a4⟩:=f;obtain⟨y,rfl⟩:=a4.stX;have h:=(h.quiet d).1;have b:=Keeps.below b (fun _ c=>c) d;refine⟨_,e,b,?_⟩;have a8:L.H.k.pend.length<=c5:=h.fst.fit.1;have a9:c5<=maxLen:=h.fst.fit.2;refine⟨⟨by rw [m];omega,by rw [m];omega,by omega,by omega⟩,?_⟩;clear b H;obtain⟨S2,h⟩:=h.toldN;have C:=h.row.1.2.1;have H:=h;refine vD (.Q [0,1,2,3,4,5,6,7,8,10,11,12,13,14,15,17] (.n 9 (.q 16 (.n 18 (.q 19 .fin) .stop)) .stop)) (Old _) (Old.start _) ?_;have b:=h.old0;have h:=h.drew;refine⟨M1 L.r n p,rfl,fun u z=>Old.looks z (Blk.part C 2 (M1 L.r n p) rfl),_,fun u z=>Keeps.look z (C.cell 0),?_⟩;have G:=A3Y L.id h.row.1.ros;rw [show A5Y L.r.l L.id=i from F.symm] at G;refine⟨⟨by omega,by omega,by omega,by omega⟩,h.q (G) fun wA V h=>?_,t6⟩;have b:=Keeps.below b (fun _ c=>c) V;refine⟨b,?_⟩;have a1:(A3e L q).to≠L.id:=j.next;have E:(A3e L q).deeds=(L.H.k.pend.drop k).take 6:=by show (L.H.k.pend.drop (q-L.H.k.b.seq).toNat).take 6=_;rw [show (q-L.H.k.b.seq).toNat=k by omega]
 have a2:pN L.H.k.pend.length (IntKind.i64.wrap (q-L.H.k.b.seq))=(A3e L q).deeds.length:=by rw [E,zg,zh,m];unfold pN;split<;>omega
 have a5:Fresh w no (WdR (A3e L q) ⟨none,0,pB A c5 (IntKind.i64.wrap (q-L.H.k.b.seq)),pC c5 (IntKind.i64.wrap (q-L.H.k.b.seq)),SX0⟩) _ wA:=h.row.2.mono fun S c=>⟨⟨Ros0.rep _ _,by show Row S wA (pB A c5 (IntKind.i64.wrap (q-L.H.k.b.seq))) (A3e L q).deeds.length (pC c5 (IntKind.i64.wrap (q-L.H.k.b.seq))) ((A3e L q).deeds.map dC).flatten;rw [E];exact B5z Z c _ m⟩,T3 _ _⟩;have zp:wdC (A3e L q) ⟨none,0,pB A c5 (IntKind.i64.wrap (q-L.H.k.b.seq)),pC c5 (IntKind.i64.wrap (q-L.H.k.b.seq)),SX0⟩=[.int .i64 4,.int .i64 0,.int .i64 i,.int .i64 0,.int .i64 q,.int .i64 0,.int .i64 0,.int .i64 0,.int .i64 0,.int .i64 0,.slice none 0 0,.int .i64 0,.slice (pB A c5 (IntKind.i64.wrap (q-L.H.k.b.seq))) (pN L.H.k.pend.length (IntKind.i64.wrap (q-L.H.k.b.seq))) (pC c5 (IntKind.i64.wrap (q-L.H.k.b.seq))),.int .i64 0,.slice none 0 0,.slice none 0 0,.int .i64 0,.int .i64 0,.int .i64 0,.int .i64 0,.int .i64 0]:=by rw [a2,F];kernel_rfl
 have sw:=K6 g L (A3e L q) ⟨none,0,pB A c5 (IntKind.i64.wrap (q-L.H.k.b.seq)),pC c5 (IntKind.i64.wrap (q-L.H.k.b.seq)),SX0⟩ a1 K _ _ h.ctx.lt h.row.1.link;rw [zp] at sw;refine⟨⟨sw.mono fun x M f=>?_⟩,t6⟩;obtain⟨O,Q,e,l,o⟩:=f;have I:=h.below.size;have Y:=h.below.trans (l.mono I);have b:=Keeps.below b (fun _ c=>c) l;refine⟨_,e,b,?_⟩;obtain⟨P,t,k2⟩:=a5;refine⟨O,Q,[wdC (N7 L (A3e L q)) ⟨none,0,pB A c5 (IntKind.i64.wrap (q-L.H.k.b.seq)),pC c5 (IntKind.i64.wrap (q-L.H.k.b.seq)),SX0⟩],P,rfl,Y,?_,⟨_,[],rfl,WdR.below (v:=A3e L q) k2 ?_,rfl⟩,fun y J=>⟨(t y J).2.resolve_left id,?_⟩,fun a r hn=>?_⟩
 ·rw [List.flatten_singleton];exact R8 o fun a r=>zq I (by rw [r] at o;exact (o.lt a.block rfl).1)
 ·exact l
 ·exact Nat.lt_of_lt_of_le (h.ctx.lt y (t y J).1) l.size
 ·rw [r] at o;have h1:=(o.lt a.block rfl).1;have h2:=h.ctx.lt _ (t _ hn).1;omega
def C0A (g:Lg) (now:Int) (L:Lk):Prop:=Z0 L=true->∀ (Sx:Nat->Prop) (w:World),(∀ x,Sx x->x<w.heap.size)->EnvFree Sx w->LinkK g L Sx w->Calls Tryz.prog 95 #[.pointer (some ⟨g.gl,0,none⟩),.int .i64 now] w (RetWL Sx w (LinkK g (H6 L).1) (H6 L).2)
def A3m (g:Lg) (now:Int) (L:Lk):Prop:=∀ L':Lk,L'.id=L.id->L'.r=L.r->L'.H.Ok->L'.done.length<=900000->C0A g now L'
theorem C0B (g:Lg) (L:Lk) (z:L.Ok) (F:L.done.length<=900000) (q n:Int) (B:C0A g n L) (i:L.H.k.b.seq<=q) (C:q<=L.H.k.seq) (b:Nat->Prop) (w:World) (l:∀ x,b x->x<w.heap.size) (p:EnvFree b w) (K:LinkK g L b w):
  Calls Tryz.prog 164 #[.pointer (some ⟨g.gl,0,none⟩),.int .i64 q,.int .i64 n] w (RetWL b w (LinkK g (onL L q).1) (onL L q).2):=by
 have T:=A5j g L b w K;refine vE Tryz.func164 ?_;have h:=CtxF.enterO l K (LinkK.stab g L);cases t:Z0 L with
 | true=>
  have j:onL L q=H6 L:=yn t;rw [j];rw [t] at T;refine h.q (T) fun D Q h=>?_;obtain⟨r,S,d,k,f,O⟩:=h.row;have e:=A3i h d f p;refine⟨((fun S w l e O=>B t S w l e O) S _ (fun x m=>h.ctx.lt x (k x m).1) e O).mono fun o E a=>?_⟩;have i:=a;obtain⟨A,u,v,N,s,c,_⟩:=i;refine⟨_,c,?_⟩;rw [c] at a;exact h.tailW0 xa d f a
 | false=>
  have j:onL L q=(L,O5 L q):=yo (by rw [t];decide);rw [j];rw [t] at T;refine h.q (T) fun D Q h=>?_;obtain⟨r,S,d,k,f,O⟩:=h.row;have e:=A3i h d f p;refine⟨((fun S w l (e:EnvFree S w) O=>(A12 g L z q n i C S w l O).mono fun o w' y=>y.turn O l) S _ (fun x m=>h.ctx.lt x (k x m).1) e O).mono fun o E a=>?_⟩;have i:=a;obtain⟨A,u,v,N,s,c,_⟩:=i;refine⟨_,c,?_⟩;rw [c] at a;exact h.tailW0 xa d f a
theorem B0p (p:D->Bool) (f:Nat) (c:Addr) (q:lay.fns f=true) (l:List D) (A:Option Addr) (d:Nat) (S:Nat->Prop) (w:World) (o:∀ (g:D) w',Below w.heap.size w w'->Calls Tryz.prog f #[.agg (dC g).toArray,.pointer (some c)] w' (D4 (.bool (p g)) w')) (R:Row S w A l.length d (l.map dC).flatten):
  Calls Tryz.prog 114 #[.slice A l.length d,.func (.func f) #[] #[.pointer (some c)]] w (D4 (.int .i64 (B2K (l.findIdx? p))) w):=by
 refine vE Tryz.func114 ?_;have M:l.length<=9223372036854775807:=zq R.1 R.2.1;refine⟨Nat,fun i=>[(0,.slice A l.length d),(1,.func (.func f) #[] #[.pointer (some c)]),(7,.int .i64 l.length),(8,.int .i64 i)],
  fun i w'=>i<=l.length/\(∀ j (a:j<l.length),j<i->p l[j]=false)/\Below w.heap.size w w',fun i _=>l.length-i,0,
  ⟨rfl,rfl,rfl,rfl,t6⟩,⟨zb _,fun j a h=>absurd h (Nat.not_lt_zero _),Below.refl _ _⟩,?_⟩
 rintro i w' u ⟨s,e,b⟩;by_cases t:i<l.length
 ·refine dt (by omega) ?_;obtain⟨r,rfl,m⟩:=Row.elemF (R.below b) (by decide) (T4 _) i (by rw [zl];exact t);rw [List.getElem_map] at m;refine⟨⟨by omega,by omega⟩,dC l[i],rfl,m,?_⟩;refine A9e (L:=lay) q ?_;refine B8 (o l[i] w' b) ?_;intro v n;have k:=b.trans (n.mono b.size);obtain hv|hv:=yj (p l[i])
  ·refine B5 hv ?_;refine⟨?_,k⟩;rw [A1R p l i t hv e];rfl
  ·refine B4 hv ?_;refine⟨i+1,⟨rfl,rfl,rfl,yb _ (C4 (by omega)),t6⟩,⟨t,fun j a h=>?_,k⟩,by show l.length-(i+1)<l.length-i;omega⟩;obtain h|h:=Nat.lt_succ_iff_lt_or_eq.1 h
   ·exact e j a h
   ·subst h;exact hv
 ·refine df (by omega) ?_;refine⟨?_,b⟩;rw [A1S p l (fun j a=>e j a (by omega))];rfl
theorem A5m (p:D->Bool) (f:Nat) (a:Addr) (n:lay.fns f=true) (l:List D) (A:Option Addr) (c:Nat) (S:Nat->Prop) (w:World) (b:∀ (d:D) w',Below w.heap.size w w'->Calls Tryz.prog f #[.agg (dC d).toArray,.pointer (some a)] w' (D4 (.bool (p d)) w')) (R:Row S w A l.length c (l.map dC).flatten):
  Calls Tryz.prog 63 #[.slice A l.length c,.func (.func f) #[] #[.pointer (some a)]] w (D4 (.bool (l.any p)) w):=by
 refine vE Tryz.func63 ?_;refine B8 (B0p p f a n l A c S w b R) ?_;intro e h;exact⟨C1 (A2g p l),h⟩
theorem B0q (b d:D) (a:Addr) (w:World) (e:w.cell? (a.add 6)=some (.int .i64 b.req)):Calls Tryz.prog 163 #[.agg (dC d).toArray,.pointer (some a)] w (D4 (.bool (d.req==b.req)) w):=by refine vE Tryz.func163 ?_;have h:=CtxF.start w no (fun _ c=>c.elim) (R:=fun _ _=>True) trivial Stab.true;refine h.n fun g i f h=>?_;refine h.c 0 rfl rfl ?_;exact⟨_,cell_later h.below e,rfl,h.below⟩
theorem B8c {H:Sh} {d:D} (h:H.Ok) (a:d.Ok):(A2M H d).1.Ok:=by
 unfold A2M;split
 ·exact h
 split
 ·rename_i k;obtain⟨m,c⟩:=A9i k;show (A2m H (.add d) true).Ok;unfold A2m;split
  ·exact h.fell
  ·rename_i b;exact h.write (r:=.add d) ⟨m,a⟩ c true (by omega)
 ·exact h
theorem B50 {H:Sh} {d:D} (h:(A2M H d).2=0):(A2M H d).1.k=⟨H.k.b,H.k.pend++[d],H.k.ep,H.k.ln⟩:=by
 unfold A2M at h ⊢;split at h
 ·exact absurd h (by show ¬ ((7:Int)=0);decide)
 rename_i n;rw [yo n];split at h
 ·rename_i k;rw [yn k];have h:B4m H (.add d)=0:=h;show (A2m H (.add d) true).k=_;unfold B4m at h;unfold A2m;split at h
  ·exact absurd h (by show ¬ ((7:Int)=0);decide)
  ·rename_i r;rw [yo r];exact A03 _ _ _
 ·rename_i k;exact absurd h k
theorem B0r (g:Lg) (L:Lk) (E:L.Ok) (hd:L.done.length<=900000) (v:Wd) (d2:∀ d∈v.deeds,d.Ok) (x:WX) (a1:Int) (d1:A3m g a1 L) (j:Nat->Prop) (w:World) (Z:∀ x,j x->x<w.heap.size) (he:EnvFree j w) (hK:LinkK g L j w)
  (Sv:Nat->Prop) (d5:∀ y,Sv y->y<w.heap.size/\¬ j y) (hR:WdR v x Sv w):
  Calls Tryz.prog 99 #[.pointer (some ⟨g.gl,0,none⟩),.agg (wdC v x).toArray,.int .i64 a1] w (RetWL j w (LinkK g (A3f L v).1) (A3f L v).2):=by
 obtain⟨A,b,D,m,M,hB⟩:=hK.seen;have s:=fun L=>LkO.stab g L A b D m M;have a6:∀ {S:Nat->Prop} {w1:World} {l:List LB} {os:List OR},CtxF no (bare w) S w1 l os (Vc.Sep 0 (Keep w j) (LkO g L A b D m M))->RetWL j w (LinkK g L) [] (.returned (.slice none 0 0)) w1:=fun h=>RetWL.nil ((h.now (fun a=>a.mono (fun _ a=>a) fun _ a=>LkO.link a) (Vc.Sep.stab yq xa)).endO _) rfl;have kept:∀ {S:Nat->Prop} {w1:World} {l:List LB} {os:List OR},CtxF no (bare w) S w1 l os (Vc.Sep 0 (Keep w j) (LkO g L A b D m M))->∃ Sk:Nat->Prop,WdR v x Sk w1:=fun h=>by obtain⟨S1,So,n,T,B,h4⟩:=h.row;exact⟨S1,Keep.of B yz hR d5⟩
 have h:=CtxF.enterO Z hB (s L);obtain⟨e,z⟩:∃ e,e=A3f L v:=⟨_,rfl⟩;rw [<-z];unfold A3f at z;by_cases Y:A1w L.r.l=L.id;rotate_left
 ·rw [yn Y] at z;subst z;refine vE Tryz.func99 ?_;refine h.n fun R b9 b5 h=>?_;have C:=(h.row.right (s L)).2.1;have p:=h;refine vD (.Q [0,1,2,3,5,6,7,8] (.n 4 (.Q [9,10,11,12,13,14,15] .fin) .stop)) (Old _) (Old.start _) ?_;have k:=h.old0;have h:=h.drew;refine⟨M1 L.r A b,rfl,fun e z=>Old.looks z (Blk.part C 2 (M1 L.r A b) rfl),_,fun e z=>Keeps.look z (C.cell 0),h.q (F7 (h.row.right (s L)).ros) fun wA o h=>?_,t6⟩;have k:=Keeps.below k (fun _ a=>a) o;refine⟨k,?_⟩;refine B5 (by show (A1w L.r.l != L.id)=true;rw [bne_iff_ne];exact Y) ?_;exact a6 h
 rw [yo (fun a=>a Y)] at z;obtain⟨xA,a2,xB,a3,xy⟩:=x;by_cases a7:v.deeds.length=1;rotate_left
 ·have c4:e=(L,[]):=by
   rw [z];split
   ·rename_i n;rw [n] at a7;exact absurd rfl a7
   ·rfl
  subst c4;refine vE Tryz.func99 ?_;refine h.n fun R b9 b5 h=>?_;have C:=(h.row.right (s L)).2.1;have p:=h;refine vD (.Q [0,1,2,3,5,6,7,8] (.n 4 (.Q [9,10,11,12,13,14,15] .fin) .stop)) (Old _) (Old.start _) ?_;have k:=h.old0;have h:=h.drew;refine⟨M1 L.r A b,rfl,fun e z=>Old.looks z (Blk.part C 2 (M1 L.r A b) rfl),_,fun e z=>Keeps.look z (C.cell 0),h.q (F7 (h.row.right (s L)).ros) fun wA o h=>?_,t6⟩;have k:=Keeps.below k (fun _ a=>a) o;refine⟨k,?_⟩;refine B4 (by show (A1w L.r.l != L.id)=false;rw [bne_eq_false_iff_eq];exact Y) ?_;refine⟨_,fun x t=>Keeps.cell t (p.blk 0 rfl) (p.blk 0 rfl).lt rfl,?_⟩;refine B5 (by show ((v.deeds.length:Int) != 1)=true;rw [bne_iff_ne];omega) ?_;exact a6 h
 obtain⟨d,a9⟩:=List.length_eq_one_iff.1 a7;have z:e=if (A1K L.k.b d.req).2=true then toldL L d.req (A1K L.k.b d.req).1
  else if L.k.pend.any (fun x=>x.req==d.req)=true then (L,[])
  else if (A2M L.H d).2≠0 then ({ L with H:=(A2M L.H d).1 },[]) else onL { L with H:=(A2M L.H d).1 } L.k.seq:=by
  rw [z,a9]
 have b3:d.Ok:=d2 d (by rw [a9];exact List.mem_singleton.2 rfl);obtain⟨u,b8⟩:∃ u,u=A1K L.H.k.b d.req:=⟨_,rfl⟩;rw [show A1K L.k.b d.req=u from b8.symm] at z;have a4:=fun cs S w a=>B2i L.H.k.b d.req cs S w a;rw [<-b8] at a4;refine vE Tryz.func99 ?_;refine h.n fun R b9 b5 h=>?_;have C:=(h.row.right (s L)).2.1;have p:=h;refine vD (.Q [0,1,2,3,5,6,7,8] (.n 4 (.Q [9,10,11,12,13,14,15] .fin) .stop)) (Old _) (Old.start _) ?_;have k:=h.old0;have h:=h.drew;refine⟨M1 L.r A b,rfl,fun e z=>Old.looks z (Blk.part C 2 (M1 L.r A b) rfl),_,fun e z=>Keeps.look z (C.cell 0),h.q (F7 (h.row.right (s L)).ros) fun wA o h=>?_,t6⟩;have k:=Keeps.below k (fun _ a=>a) o;refine⟨k,?_⟩;refine B4 (by show (A1w L.r.l != L.id)=false;rw [bne_eq_false_iff_eq];exact Y) ?_;refine⟨_,fun x t=>Keeps.cell t (p.blk 0 rfl) (p.blk 0 rfl).lt rfl,?_⟩;refine B4 (by show ((v.deeds.length:Int) != 1)=false;rw [bne_eq_false_iff_eq];omega) ?_;clear k p;obtain⟨Sk,hW⟩:=kept h;obtain⟨V,c9,b0⟩:=RowD8.elem hW.1.2 0 (by omega);have e0:v.deeds[0]'(by omega)=d:=by simp only [a9,List.getElem_cons_zero]
 rw [e0] at b0;subst c9;refine h.c 0 rfl rfl ?_;refine⟨⟨by omega,by omega⟩,dC d,rfl,b0,?_⟩;refine h.n fun G e1 d7 h=>?_;refine h.s 0 rfl fun wS J h=>?_;have h:=G4 h (l':=[(G,45,dC d),(R,43,wdC v ⟨xA,a2,some V,a3,xy⟩)]) (by kernel_rfl);have c6:=(h.row.right (s L)).2.1;refine Drawn.join (α:=Nat) (fun y=>[(0,.pointer (some ⟨g.gl,0,none⟩)),(2,.int .i64 a1),(7,.pointer (some ⟨G,0,none⟩)),(8,.pointer (some ⟨y,0,none⟩)),(9,.bool u.2)]) (fun y w'=>∃ S,CtxF no (bare w) S w' [(y,36,Z7 u.1),(G,45,dC d),(R,43,wdC v ⟨xA,a2,some V,a3,xy⟩)] [] (Vc.Sep 0 (Keep w j) (LkO g L A b D m M))) ?_ ?_
 ·have p:=h;refine vD (.Q [0,1,2,3,5,6] (.n 4 (.n 7 (.Q [8,9,10] (.n 11 (.n 12 (.q 13 .fin) .stop) .stop)) (.n 11 (.n 7 (.Q [8,9,10] (.n 12 (.q 13 .fin) .stop)) .stop) .stop)) (.n 11 (.n 4 (.n 7 (.Q [8,9,10] (.n 12 (.q 13 .fin) .stop)) .stop) .stop) .stop))) (Old _) (Old.start _) ?_;have k:=h.old0;have h:=h.drew;refine⟨_,fun e z=>Keeps.look z (c6.cell 1),_,fun x t=>Keeps.cell t (p.blk 0 rfl) (p.blk 0 rfl).lt rfl,?_,?_⟩
  ·skip
   refine⟨(K5 g.gs g.gj g.gc g.b L.H E.H _ _ (h.row.right (s L)).link.shelf).mono fun W wq q=>?_⟩;obtain⟨cs,f,K,U⟩:=q;obtain⟨y,rfl⟩:=U.stX;have h:=(h.quiet K).1;have k:=Keeps.below k (fun _ a=>a) K;refine⟨_,f,k,?_,?_⟩
   ·skip
    refine h.q (a4 (stX L.H.k.b y) _ _ (U.below (by first | exact Below.refl _ _ | exact r.below))) fun wA o h=>?_;have k:=Keeps.below k (fun _ a=>a) o;refine⟨k,h.n fun I c0 r h=>?_,t6⟩;have a0:=Old.new k r;have k:=Keeps.below k (fun _ a=>a) r.below;refine⟨k,⟨h.may 0 rfl _ _ (nle rfl) rfl,?_⟩,t6⟩;intro wS J;have k:=Keeps.stored k (h.blk 0 rfl) a0 J;have h:=(h.set 0 rfl J).1;refine⟨k,?_⟩;have h:=G4 h (l':=[(I,36,Z7 u.1),(G,45,dC d),(R,43,wdC v ⟨xA,a2,some V,a3,xy⟩)]) (by kernel_rfl);exact⟨I,⟨rfl,rfl,rfl,rfl,rfl,t6⟩,_,h⟩
   refine⟨h.n fun I c0 r h=>?_,t6⟩;have a0:=Old.new k r;have k:=Keeps.below k (fun _ a=>a) r.below;refine⟨k,h.q (a4 (stX L.H.k.b y) _ _ (U.below (by first | exact Below.refl _ _ | exact r.below))) fun wA o h=>?_,t6⟩;have k:=Keeps.below k (fun _ a=>a) o;refine⟨k,⟨h.may 0 rfl _ _ (nle rfl) rfl,?_⟩,t6⟩;intro wS J;have k:=Keeps.stored k (h.blk 0 rfl) a0 J;have h:=(h.set 0 rfl J).1;refine⟨k,?_⟩;have h:=G4 h (l':=[(I,36,Z7 u.1),(G,45,dC d),(R,43,wdC v ⟨xA,a2,some V,a3,xy⟩)]) (by kernel_rfl);exact⟨I,⟨rfl,rfl,rfl,rfl,rfl,t6⟩,_,h⟩
  refine⟨h.n fun I c0 r h=>?_,t6⟩;have a0:=Old.new k r;have k:=Keeps.below k (fun _ a=>a) r.below;refine⟨k,⟨(K5 g.gs g.gj g.gc g.b L.H E.H _ _ (h.row.right (s L)).link.shelf).mono fun W wq q=>?_⟩,t6⟩;obtain⟨cs,f,K,U⟩:=q;obtain⟨y,rfl⟩:=U.stX;have h:=(h.quiet K).1;have k:=Keeps.below k (fun _ a=>a) K;refine⟨_,f,k,h.q (a4 (stX L.H.k.b y) _ _ (U.below (by first | exact Below.refl _ _ | exact r.below))) fun wA o h=>?_,t6⟩;have k:=Keeps.below k (fun _ a=>a) o;refine⟨k,⟨h.may 0 rfl _ _ (nle rfl) rfl,?_⟩,t6⟩;intro wS J;have k:=Keeps.stored k (h.blk 0 rfl) a0 J;have h:=(h.set 0 rfl J).1;refine⟨k,?_⟩;have h:=G4 h (l':=[(I,36,Z7 u.1),(G,45,dC d),(R,43,wdC v ⟨xA,a2,some V,a3,xy⟩)]) (by kernel_rfl);exact⟨I,⟨rfl,rfl,rfl,rfl,rfl,t6⟩,_,h⟩
 clear h;rintro I d9 w1 ⟨S,h⟩;obtain ht|ht:=yj u.2
 ·rw [yn ht] at z;subst z;refine B5 ht ?_;have h:=h.now (X:=Vc.Sep 0 (Keep w j) (LinkK g L)) (fun a=>a.mono (fun _ a=>a) fun _ a=>LkO.link a) (Vc.Sep.stab yq xa);refine h.c 1 rfl rfl ?_;refine⟨Z7 u.1,rfl,h.cells 0 rfl,?_⟩;obtain⟨S1,F,n,T,B,O⟩:=h.row;have P:=A3i h n B he;refine⟨((fun F w Z P O=>A3j g L (by omega) d.req u.1 F a1 w Z O) F _ (fun x t=>h.ctx.lt x (T x t).1) P O).mono fun W wq q=>?_⟩;have a8:=q;obtain⟨A3,c3,c2,N3,Sn,f,_⟩:=a8;refine⟨_,f,?_⟩;rw [f] at q;exact h.tailW0 xa n B q
 rw [yo (by rw [ht];decide)] at z;refine B4 ht ?_;refine⟨_,(h.row.right (s L)).2.1.cell 1,?_⟩;refine⟨(A0h g.gs g.gj g.gc g.b L.H E.H _ _ (h.row.right (s L)).link.shelf).mono fun W wq q=>?_⟩;obtain⟨A5,c5,f,K,ho⟩:=q;have h:=h.fresh K ho;refine⟨_,f,?_⟩;obtain⟨S9,d3⟩:=J3 h;have d0:=h.cell 1 rfl 6 (v:=.int .i64 d.req) rfl;obtain⟨b1,f⟩:∃ c1,c1=L.H.k.pend.any fun x=>x.req==d.req:=⟨_,rfl⟩;have b2:=A5m (fun x=>x.req==d.req) 163 ⟨G,0,none⟩ (by kernel_rfl) L.H.k.pend A5 c5 S9 _ (fun d' w' K=>B0q d d' ⟨G,0,none⟩ w' (cell_later K d0)) d3;rw [<-f] at b2;rw [show (L.k.pend.any fun x=>x.req==d.req)=b1 from f.symm] at z;refine h.q (b2) fun wQ hQ h=>?_;have h:=h.rest;refine⟨_,(h.row.right (s L)).2.1.cell 1,?_⟩;refine h.q (A0U g.gs g.gj g.gc g.b L.H E.H _ _ (h.row.right (s L)).link.shelf) fun wQ hQ h=>?_;have d6:=(h.row.right (s L)).2.1;cases b1 with
 | true=>
  rw [yn rfl] at z;subst z;have p:=h;refine vD (.Q [0,1,2,3,4,5,6] (.n 7 (.Q [8,9] .fin) .stop)) (Old _) (Old.start _) ?_;have k:=h.old0;have h:=h.drew;refine⟨?_,t6⟩;exact a6 h
 | false=>
 rw [yo (by decide)] at z;obtain⟨Q,a5⟩:∃ c,c=A2M L.H d:=⟨_,rfl⟩;obtain⟨i,N⟩:∃ i:Lk,i={ L with H:=Q.1 }:=⟨_,rfl⟩;have c7:∀ S w,LkO g { L with H:=Q.1 } A b D m M S w->LkO g i A b D m M S w:=by rw [N];exact fun S w a=>a
 have C:∀ w,Blk w g.gl 85 (liC i g.gs A b D m)->Blk w g.gl 85 (liC L g.gs A b D m):=by rw [N];exact fun w a=>a
 have z:e=if Q.2≠0 then (i,[]) else onL i L.k.seq:=by rw [z,N,a5]
 have b7:i.Ok:=by rw [N,a5];exact⟨E.id,B8c E.H b3,E.r,E.nd,E.til⟩
 have b4:i.done.length<=900000:=by rw [N];exact hd
 have d4:Q.2=0->i.H.k=⟨L.H.k.b,L.H.k.pend++[d],L.H.k.ep,L.H.k.ln⟩:=fun a=>by rw [N];rw [a5] at a ⊢;exact B50 a
 refine vD (.Q [0,1,2,3,4,5,6] (.n 7 (.Q [8,9] .fin) .stop)) (fun e=>Blk e g.gl 85 (liC L g.gs A b D m)/\Blk e G 45 (dC d)) ⟨(h.row.right (s L)).2.1,h.blk 1 rfl⟩ ?_;have h:=h.drew;refine⟨.pointer (some ⟨g.gs,0,none⟩),fun e z=>(Blk.cell z.1 1).trans rfl,dC d,rfl,fun e z=>C0 z.2 0 _ 0 (fun d8 v hj=>by simpa using hj),?_,t6⟩;have h:=h.now (X:=Vc.Sep 0 (Vc.Sep 0 (Keep w j) (HdK g.gl 85 (liC L g.gs A b D m) (LiR L A b D m M))) (ShelfK g.gs g.gj g.gc g.b L.H)) (fun a=>LkO.open a) (Vc.Sep.stab (Vc.Sep.stab yq (HdK.stab xb)) yw);obtain⟨S1,F,n,T,B,O⟩:=h.row;have P:=A3i h n (B.left (Keep.stab w j)) he;refine⟨(A9j g.gs g.gj g.gc g.b L.H E.H d b3 F _ (fun x t=>h.ctx.lt x (T x t).1) P O).mono fun W wq q=>?_⟩;rw [<-a5] at q;obtain⟨f,hT,Sn,c8,O⟩:=q;have h:=h.turnO (Vc.Sep.stab yq (HdK.stab xb)) n T B hT c8 O yw;have h:=h.now (X:=Vc.Sep 0 (Keep w j) (LkO g i A b D m M)) (fun a=>(Vc.Sep.outer a).mono (fun _ a=>a) fun _ a=>c7 _ _ (Vc.Sep.obj a)) (Vc.Sep.stab yq x8);refine⟨_,f,⟨C _ (h.row.right (s i)).2.1,h.blk 1 rfl⟩,?_⟩;have h:=h.now (X:=Vc.Sep 0 (Keep w j) (LinkK g i)) (fun a=>a.mono (fun _ a=>a) fun _ a=>LkO.link a) (Vc.Sep.stab yq xa);by_cases h0:Q.2=0
 ·rw [yo (fun a=>a h0)] at z;subst z;refine B4 (by show (Q.2 != 0)=false;rw [bne_eq_false_iff_eq];exact h0) ?_;have b6:=d4 h0;obtain⟨S1,F,n,T,B,O⟩:=h.row;have P:=A3i h n B he;refine⟨((fun F w Z P O=>C0B g i b7 b4 L.H.k.seq a1 (d1 i (by rw [N]) (by rw [N]) b7.H b4) (by rw [b6];show L.H.k.b.seq<=L.H.k.b.seq+((L.H.k.pend.length:Nat):Int);omega) (by rw [b6];unfold Known.seq;show _<=L.H.k.b.seq+(((L.H.k.pend++[d]).length:Nat):Int);rw [z6];omega) F w Z P O) F _ (fun x t=>h.ctx.lt x (T x t).1) P O).mono fun W wq q=>?_⟩;have a8:=q;obtain⟨A3,c3,c2,N3,Sn,f,_⟩:=a8;refine⟨_,f,?_⟩;rw [f] at q;exact h.tailW0 xa n B q
 ·rw [yn h0] at z;subst z;refine B5 (by show (Q.2 != 0)=true;rw [bne_iff_ne];exact h0) ?_;exact RetWL.nil (h.endO _) rfl
theorem B0s {H:Sh} {n:Int} (h:H.Ok) (a:B9 n):(F9 H n).1.Ok:=by
 unfold F9;split
 ·exact h
 split
 ·exact h
 split
 ·exact h
 split
 ·exact h.fell
 ·rename_i b c d;exact h.write (r:=.done n) a (by show n<=H.k.seq;omega) false (by omega)
theorem Lk.Ok.commit {L:Lk} {n:Int} (h:L.Ok) (a:B9 n):(E3 L n).Ok:=⟨h.id,B0s h.H a,h.r,h.nd,h.til⟩
theorem Lk.Ok.seq {L:Lk} (a:L.Ok):B9 L.H.k.seq:=by have h:=a.H.k;have b:=h.seq;have c:=h.len;have d:=(D5.1 h.may).1;have m:G5=1099511627776:=rfl;unfold Known.seq B9;omega
theorem B3k {a b:Int} (c:B9 a) (d:B9 b):B9 (min a b):=by
 obtain h|h:=Int.le_total a b
 ·rw [Int.min_eq_left h];exact c
 ·rw [Int.min_eq_right h];exact d
theorem A9m {g:Lg} {L:Lk} {A:Option Addr} {c:Nat} {D:Option Addr} {b:Nat} {s:List (List Value)} {w j:World} {k S:Nat->Prop} {l:List LB} {o:List OR} (n:Int) (r:L.Ok) (y:B9 n) (u:EnvFree S w) (h:CtxF no (bare w) k j l o (Vc.Sep 0 (Keep w S) (LkO g L A c D b s))):
  Calls Tryz.prog 98 #[.pointer (some ⟨g.gs,0,none⟩),.int .i64 n] j (fun e E=>∃ C m,e=.returned C/\CtxF no (bare w) m E l o (Vc.Sep 0 (Keep w S) (LkO g (E3 L n) A c D b s))):=by
 have h:=h.now (X:=Vc.Sep 0 (Vc.Sep 0 (Keep w S) (HdK g.gl 85 (liC L g.gs A c D b) (LiR L A c D b s))) (ShelfK g.gs g.gj g.gc g.b L.H)) (fun a=>LkO.open a) (Vc.Sep.stab (Vc.Sep.stab yq (HdK.stab xb)) yw);obtain⟨G,p,d,f,i,O⟩:=h.row;have v:=A3i h d (i.left (Keep.stab w S)) u;refine (A3c g.gs g.gj g.gc g.b L.H r.H n y p _ (fun x B=>h.ctx.lt x (f x B).1) v O).mono fun e N z=>?_;obtain⟨F,J,q,T,I,H,t,O,K,M⟩:=z;have h:=h.turnO (Vc.Sep.stab yq (HdK.stab xb)) d f i T t O yw;exact⟨_,_,q,h.now (fun a=>(Vc.Sep.outer a).mono (fun _ a=>a) fun _ a=>Vc.Sep.obj a) (Vc.Sep.stab yq x8)⟩
theorem B51 (g:Lg) (L:Lk) (o:L.Ok) (v:Wd) (hs:B9 v.seq) (k:WX) (x:Nat->Prop) (w:World) (t:∀ k,x k->k<w.heap.size) (N:EnvFree x w) (K:LinkK g L x w):
  Calls Tryz.prog 102 #[.pointer (some ⟨g.gl,0,none⟩),.agg (wdC v k).toArray] w (RetWL x w (LinkK g (B8b L v).1) (B8b L v).2):=by
 obtain⟨A,d,D,n,H,hB⟩:=K.seen;have s:=fun L=>LkO.stab g L A d D n H;have I:∀ {L:Lk} {S:Nat->Prop} {w1:World} {l:List LB} {os:List OR},CtxF no (bare w) S w1 l os (Vc.Sep 0 (Keep w x) (LkO g L A d D n H))->RetWL x w (LinkK g L) [] (.returned (.slice none 0 0)) w1:=fun h=>RetWL.nil ((h.now (fun b=>b.mono (fun _ b=>b) fun _ b=>LkO.link b) (Vc.Sep.stab yq xa)).endO _) rfl;have h:=CtxF.enterO t hB (s L);obtain⟨c,z⟩:∃ c,c=B8b L v:=⟨_,rfl⟩;rw [<-z];unfold B8b at z;obtain⟨f,Q⟩:∃ f,f=A2V L:=⟨_,rfl⟩;rw [<-Q] at z;have E:=B3k hs o.seq;obtain⟨m,C⟩:∃ m,m=min v.seq L.H.k.seq:=⟨_,rfl⟩;rw [<-C] at E;have R:m=if L.H.k.seq<v.seq then L.H.k.seq else v.seq:=by rw [C];split<;>omega
 obtain⟨a,u⟩:∃ a,a=E3 L m:=⟨_,rfl⟩;have U:a.Ok:=u▸o.commit E;have a0:∀ w,Blk w g.gl 85 (liC a g.gs A d D n)->Blk w g.gl 85 (liC L g.gs A d D n):=by rw [u];exact fun w b=>b
 rw [show E3 L (min v.seq L.k.seq)=a from by rw [u,C];rfl] at z;refine vE Tryz.func102 ?_;refine h.n fun Y a4 a3 h=>?_;have J:=(h.row.right (s L)).2.1;have hr:=h;refine vD (.Q [0,1,2,3,4,5,6,7] (.n 8 (.q 9 .fin) .stop)) (Old _) (Old.start _) ?_;have y:=h.old0;have h:=h.drew;refine⟨M1 L.r A d,rfl,fun c z=>Old.looks z (Blk.part J 2 (M1 L.r A d) rfl),_,fun c z=>Keeps.look z (J.cell 0),?_⟩;have T:=A3Y L.id (h.row.right (s L)).ros;rw [show A5Y L.r.l L.id=f from Q.symm] at T;refine⟨h.q (T) fun wA hA h=>?_,t6⟩;have y:=Keeps.below y (fun _ b=>b) hA;refine⟨y,?_⟩;clear y hr;by_cases h0:f=0
 ·rw [yn (.inl h0)] at z;subst z;refine B5 (by show (f==0)=true;rw [h0];rfl) ?_;exact I h
 refine B4 (by show (f==0)=false;rw [ya];exact h0) ?_;refine h.c 0 rfl rfl ?_;by_cases i:v.frm=f;rotate_left
 ·rw [yn (.inr i)] at z;subst z;refine B5 (by show (v.frm != f)=true;rw [bne_iff_ne];exact i) ?_;exact I h
 refine B4 (by show (v.frm != f)=false;rw [bne_eq_false_iff_eq];exact i) ?_;rw [yo (fun b=>b.elim h0 fun b=>b i)] at z;refine⟨_,(h.row.right (s L)).2.1.cell 1,?_⟩;refine⟨(K5 g.gs g.gj g.gc g.b L.H o.H _ _ (h.row.right (s L)).link.shelf).mono fun r G q=>?_⟩;obtain⟨W,e,B,F⟩:=q;obtain⟨a5,rfl⟩:=F.stX;have h:=(h.quiet B).1;refine⟨_,e,?_⟩;refine vD (.Q [0,1,2,3,4,5,6,7,8,9] (.n 10 (.q 11 (.n 12 .fin .stop)) .stop)) (fun c=>Blk c g.gl 85 (liC L g.gs A d D n)/\c.cell? ⟨Y,4,none⟩=some (.int .i64 v.seq)) ⟨(h.row.right (s L)).2.1,h.cell 0 rfl 4 rfl⟩ ?_;have h:=h.drew;refine⟨.pointer (some ⟨g.gs,0,none⟩),fun c z=>(Blk.cell z.1 1).trans rfl,_,fun c z=>z.2,.pointer (some ⟨g.gs,0,none⟩),fun c z=>(Blk.cell z.1 1).trans rfl,h.q (A0U g.gs g.gj g.gc g.b L.H o.H _ _ (h.row.right (s L)).link.shelf) fun wQ hQ h=>?_,t6⟩;refine⟨⟨(h.row.right (s L)).2.1,h.cell 0 rfl 4 rfl⟩,?_,t6⟩;have M:=A9m (if L.H.k.seq<v.seq then L.H.k.seq else v.seq) o (by rw [<-R];exact E) N h;rw [show E3 L (if L.H.k.seq<v.seq then L.H.k.seq else v.seq)=a from by rw [u,R]] at M;refine⟨M.mono fun r G q=>?_⟩;obtain⟨v9,S9,e,h⟩:=q;refine⟨_,e,⟨a0 _ (h.row.right (s a)).2.1,h.cell 0 rfl 4 rfl⟩,_,(h.row.right (s a)).2.1.cell 1,?_⟩;refine⟨(K5 g.gs g.gj g.gc g.b a.H U.H _ _ (h.row.right (s a)).link.shelf).mono fun r G q=>?_⟩;obtain⟨W,e,B,F⟩:=q;obtain⟨y2,rfl⟩:=F.stX;have h:=(h.quiet B).1;refine⟨_,e,?_⟩;have h:=h.now (X:=Vc.Sep 0 (Keep w x) (LinkK g a)) (fun b=>b.mono (fun _ b=>b) fun _ b=>LkO.link b) (Vc.Sep.stab yq xa);by_cases j:L.H.k.b.seq<a.H.k.b.seq
 ·have z:c=(a,D9 a (A3g a.H.k.b.seq)):=z.trans (yb (Prod.mk a) (yn j));subst z;refine dt j ?_;have zp:wdC (A3g a.H.k.b.seq) WX0=[.int .i64 6,.int .i64 0,.int .i64 0,.int .i64 0,.int .i64 a.H.k.b.seq,.int .i64 0,.int .i64 0,.int .i64 0,.int .i64 0,.int .i64 0,.slice none 0 0,.int .i64 0,.slice none 0 0,.int .i64 0,.slice none 0 0,.slice none 0 0,.int .i64 0,.int .i64 0,.int .i64 0,.int .i64 0,.int .i64 0]:=by kernel_rfl
  have V:=fun S w t K=>A3l g a U (A3g a.H.k.b.seq) WX0 S w t K;rw [zp] at V;obtain⟨S1,p,i,Z,j,O⟩:=h.row;have P:=A3i h i j N;refine⟨((fun p w t (P:EnvFree p w) O=>(V p w t O).mono fun r w' b=>(b.quiet ⟨rfl,rfl,rfl⟩ (fun _ _=>⟨⟨A39 _ _,A39 _ _⟩,T3 _ _⟩)).turn O t) p _ (fun k hx=>h.ctx.lt k (Z k hx).1) P O).mono fun r G q=>?_⟩;have a1:=q;obtain⟨A3,c3,a2,N3,Sn,e,_⟩:=a1;refine⟨_,e,?_⟩;rw [e] at q;exact h.tailW0 xa i j q
 ·have z:c=(a,[]):=z.trans (yb (Prod.mk a) (yo j));subst z;refine df j ?_;exact RetWL.nil (h.endO _) rfl
theorem RetWq.back {f:List Wd} {w d w':World} {e:Ending} (b:Below w.heap.size w d) (l:RetWq f d e w'):RetWq f w e w':=by obtain⟨A,c,j,i,k,o,h,W,N,m⟩:=l;have s:=b.size;exact⟨A,c,j,i,k,b.trans (o.mono s),R8 h fun a n=>zq s (by rw [n] at h;exact (h.lt a.block rfl).1),W,fun g y=>⟨zq s (N g y).1,(N g y).2⟩,m⟩
theorem RetWq.nil {w w':World} (b:Below w.heap.size w w'):RetWq [] w (.returned (.slice none 0 0)) w':=⟨none,0,[],no,rfl,b,World.ownsRow_nil ..,rfl,fun y h=>h.elim,fun a h=>by cases h⟩
theorem RetWq.same {w:List Wd} {b d:World} {e:Ending} (h:RetWq w b e d):∃ A c,e=.returned (.slice A w.length c):=by obtain⟨A,c,s,N,a,_⟩:=h;exact⟨A,c,a⟩
theorem B3l (g:Lg) (L:Lk) (i:L.Ok) (v:Wd) (x:WX) (N:Int) (S:Nat->Prop) (w:World) (a2:∀ x,S x->x<w.heap.size) (hK:LinkK g L S w):
  Calls Tryz.prog 101 #[.pointer (some ⟨g.gl,0,none⟩),.agg (wdC v x).toArray,.int .i64 N] w (RetWq (B0m L v) w):=by
 obtain⟨F,G,D,Z,a0,hB⟩:=hK.seen;have h:=CtxF.start w S a2 (R:=LkO g L F G D Z a0) hB x8;obtain⟨c,z⟩:∃ c,c=B0m L v:=⟨_,rfl⟩;rw [<-z];unfold B0m at z;obtain⟨f,J⟩:∃ f,f=A2V L:=⟨_,rfl⟩;rw [<-J] at z;refine vE Tryz.func101 ?_;refine h.n fun g4 a7 a6 h=>?_;have T:=h.row.2.1;have r:=h;refine vD (.Q [0,1,2,3,4,5,6,7] (.n 8 (.q 9 .fin) .stop)) (Old _) (Old.start _) ?_;have k:=h.old0;have h:=h.drew;refine⟨M1 L.r F G,rfl,fun c z=>Old.looks z (Blk.part T 2 (M1 L.r F G) rfl),_,fun c z=>Keeps.look z (T.cell 0),?_⟩;have U:=A3Y L.id h.row.ros;rw [show A5Y L.r.l L.id=f from J.symm] at U;refine⟨h.q (U) fun wA p h=>?_,t6⟩;have k:=Keeps.below k (fun _ b=>b) p;refine⟨k,?_⟩;clear k r;by_cases h0:f=0
 ·rw [yn (.inl h0)] at z;subst z;refine B5 (by show (f==0)=true;rw [h0];rfl) ?_;exact RetWq.nil h.below
 refine B4 (by show (f==0)=false;rw [ya];exact h0) ?_;refine h.c 0 rfl rfl ?_;by_cases m:v.frm=f;rotate_left
 ·rw [yn (.inr m)] at z;subst z;refine B5 (by show (v.frm != f)=true;rw [bne_iff_ne];exact m) ?_;exact RetWq.nil h.below
 refine B4 (by show (v.frm != f)=false;rw [bne_eq_false_iff_eq];exact m) ?_;rw [yo (fun b=>b.elim h0 fun b=>b m)] at z;refine h.c 0 rfl rfl ?_;by_cases j:v.req=1/\f=L.r.new
 ·rw [yn j] at z;subst z;refine B5 (by show (v.req==1)=true;rw [j.1];rfl) ?_;refine⟨_,h.row.2.1.cell 4,?_⟩;refine B5 (by show (f==L.r.new)=true;rw [beq_iff_eq];exact j.2) ?_;have B:=h.row.2.1;have r:=h;refine vD (.Q [0,1,2,3,4,5,7,8,9,10,12,13,14,15,18] (.n 6 (.n 11 (.n 16 (.q 17 (.n 19 (.q 20 .fin) .stop)) .stop) .stop) .stop)) (Old _) (Old.start _) ?_;have k:=h.old0;have h:=h.drew;refine⟨_,fun c z=>Keeps.look z (B.cell 1),_,fun c z=>Keeps.look z (B.cell 1),_,fun c z=>Keeps.look z (B.cell 1),⟨(K5 g.gs g.gj g.gc g.b L.H i.H _ _ h.row.link.shelf).mono fun t E q=>?_⟩,t6⟩;obtain⟨cs,e,d,C⟩:=q;obtain⟨y,rfl⟩:=C.stX;have a5:=h.below.size;have h:=(h.call d).1.know (X:=Fresh w no (fun S w=>RepS S w L.H.k.b (stX L.H.k.b y))) ⟨_,fun P b=>⟨b.elim (fun b=>b.elim) .inr,.inr (b.elim (fun b=>b.elim) fun b=>zq a5 b.1)⟩,C⟩ (Fresh.stab (A0u _ _));have k:=Keeps.below k (fun _ b=>b) d;refine⟨_,e,k,h.q (A0U g.gs g.gj g.gc g.b L.H i.H _ _ h.row.1.link.shelf) fun wA p h=>?_,t6⟩;have k:=Keeps.below k (fun _ b=>b) p;refine⟨k,⟨(A0h g.gs g.gj g.gc g.b L.H i.H _ _ h.row.1.link.shelf).mono fun t E q=>?_⟩,t6⟩;obtain⟨A,l,e,d,ho⟩:=q;have h:=h.fresh d ho;have k:=Keeps.below k (fun _ b=>b) d;refine⟨_,e,k,?_⟩;obtain⟨S2,h⟩:=h.toldN;have a3:(A2N L).to≠L.id:=i.next;have a4:Fresh w no (WdR (A2N L) ⟨none,0,A,l,y⟩) _ _:=Fresh.both (A0u _ _) H8 h.row.1.2 h.row.2 fun S a P=>⟨⟨Ros0.rep _ _,P⟩,a⟩;have zp:wdC (A2N L) ⟨none,0,A,l,y⟩=[.int .i64 10,.int .i64 0,.int .i64 f,.int .i64 0,.int .i64 L.H.k.seq,.int .i64 0,.int .i64 0,.int .i64 0,.int .i64 0,.int .i64 0,.slice none 0 0,.int .i64 0,.slice A L.H.k.pend.length l,.int .i64 L.H.k.b.seq,.slice y.A L.H.k.b.l.length y.cap,.slice y.B L.H.k.b.ms.length y.cap',.int .i64 y.l0,.int .i64 y.l1,.int .i64 y.l2,.int .i64 y.l3,.int .i64 y.l4]:=by rw [J];rfl
  have sw:=K6 g L (A2N L) ⟨none,0,A,l,y⟩ a3 N _ _ h.ctx.lt h.row.1.1.link;rw [zp] at sw;refine⟨⟨sw.mono fun t E q=>?_⟩,t6⟩;obtain⟨O,Q,e,u,s⟩:=q;have V:=h.below.size;have a1:=h.below.trans (u.mono V);have k:=Keeps.below k (fun _ b=>b) u;refine⟨_,e,k,?_⟩;obtain⟨Y,M,k2⟩:=a4;refine⟨O,Q,[wdC (N7 L (A2N L)) ⟨none,0,A,l,y⟩],Y,rfl,a1,?_,⟨_,[],rfl,WdR.below (v:=A2N L) k2 ?_,rfl⟩,fun y W=>⟨(M y W).2.resolve_left id,?_⟩,fun a I hn=>?_⟩
  ·rw [List.flatten_singleton];exact R8 s fun a I=>zq V (by rw [I] at s;exact (s.lt a.block rfl).1)
  ·exact u
  ·exact Nat.lt_of_lt_of_le (h.ctx.lt y (M y W).1) u.size
  ·rw [I] at s;have m:=(s.lt a.block rfl).1;have j:=h.ctx.lt _ (M _ hn).1;omega
 rw [yo j] at z;by_cases H:v.req=1;refine B5 (by show (v.req==1)=true;rw [H];rfl) ?_;refine⟨_,h.row.2.1.cell 4,?_⟩;refine B4 (by show (f==L.r.new)=false;rw [ya];exact fun b=>j ⟨H,b⟩) ?_;rotate_left;refine B4 (by show (v.req==1)=false;rw [ya];exact H) ?_;rotate_left
 all_goals
  have B:=h.row.2.1;have r:=h;refine vD (.Q [0,1,2,3,4,5] (.n 6 (.Q [7,8,9,10,11,12,13,14,15] (.n 16 (.Q [17,18,19] .fin) .stop)) .stop)) (Old _) (Old.start _) ?_;have k:=h.old0;have h:=h.drew;refine⟨_,fun x K=>Keeps.cell K (r.blk 0 rfl) (r.blk 0 rfl).lt rfl,_,fun c z=>Keeps.look z (B.cell 1),⟨(K5 g.gs g.gj g.gc g.b L.H i.H _ _ h.row.link.shelf).mono fun t E q=>?_⟩,t6⟩;obtain⟨cs,e,d,C⟩:=q;obtain⟨y,rfl⟩:=C.stX;have h:=(h.quiet d).1;have k:=Keeps.below k (fun _ b=>b) d;refine⟨_,e,k,?_⟩;by_cases n:L.H.k.b.seq<=v.seq;rotate_left
  ·rw [yo (fun b=>n b.1)] at z;subst z;refine df n ?_;refine⟨?_,t6⟩;exact RetWq.nil h.below
  refine dt n ?_;refine⟨_,fun x K=>Keeps.cell K (r.blk 0 rfl) (r.blk 0 rfl).lt rfl,_,fun c z=>Keeps.look z (B.cell 1),h.q (A0U g.gs g.gj g.gc g.b L.H i.H _ _ h.row.link.shelf) fun wA p h=>?_,t6⟩;have k:=Keeps.below k (fun _ b=>b) p;refine⟨k,?_⟩;by_cases o:v.seq<L.H.k.seq;rotate_left
  ·rw [yo (fun b=>o b.2)] at z;subst z;refine df o ?_;exact RetWq.nil h.below
  refine dt o ?_;rw [yn ⟨n,o⟩] at z;subst z;refine h.c 0 rfl rfl ?_;refine⟨(A12 g L i v.seq N n (Int.le_of_lt o) _ _ h.ctx.lt h.row.link).mono fun t E q=>?_⟩;obtain⟨O,Q,e⟩:=q.same;refine⟨_,e,?_⟩;rw [e] at q;exact q.back h.below
theorem B0t (g:Lg) (L:Lk) (O:L.Ok) (T:L.done.length<=900000) (v:Wd) (k:v.kind=3) (U:∀ J∈v.deeds,J.Ok) (x:WX) (now:Int) (Q:A3m g now L) (b:Nat->Prop) (w:World) (Z:∀ x,b x->x<w.heap.size) (V:EnvFree b w) (N:LinkK g L b w)
  (n:Nat->Prop) (a1:∀ y,n y->y<w.heap.size/\¬ b y) (R:WdR v x n w):
  Calls Tryz.prog 48 #[.pointer (some ⟨g.gl,0,none⟩),.agg (wdC v x).toArray,.int .i64 now] w (RetWL b w (LinkK g (H9 L v now).1) (H9 L v now).2):=by
 obtain⟨A,o,D,t,u,M⟩:=N.seen;have s:=fun L=>LkO.stab g L A o D t u;have i:∀ {S:Nat->Prop} {w1:World} {l:List LB} {os:List OR},CtxF no (bare w) S w1 l os (Vc.Sep 0 (Keep w b) (LkO g L A o D t u))->RetWL b w (LinkK g L) [] (.returned (.slice none 0 0)) w1:=fun h=>RetWL.nil ((h.now (fun a=>a.mono (fun _ a=>a) fun _ a=>LkO.link a) (Vc.Sep.stab yq xa)).endO _) rfl;have h:=CtxF.enterO Z M (s L);obtain⟨f,z⟩:∃ f,f=H9 L v now:=⟨_,rfl⟩;rw [<-z];unfold H9 at z;rw [k,yo (show ¬ (3:Int)=7 by decide)] at z;refine vE Tryz.func48 ?_;refine h.n fun g4 a4 a3 h=>?_;refine h.c 0 rfl rfl ?_;refine B4 (by show (v.kind==7)=false;rw [k];rfl) ?_;have B:=(h.row.right (s L)).2.1;have r:=h;refine vD (.Q [0,1,2,3,4,5,6,7,8,9,10,11,12,13,14,15,16] .fin) (Old _) (Old.start _) ?_;have Y:=h.old0;have h:=h.drew;refine⟨_,fun x m=>Keeps.cell m (r.blk 0 rfl) (r.blk 0 rfl).lt rfl,_,fun f z=>Keeps.look z (B.cell 2),?_⟩;by_cases p:v.ep=L.r.ep;rotate_left
 ·rw [yn (.inl p)] at z;subst z;refine B5 (by show (v.ep != L.r.ep)=true;rw [bne_iff_ne];exact p) ?_;exact i h
 refine B4 (by show (v.ep != L.r.ep)=false;rw [bne_eq_false_iff_eq];exact p) ?_;refine⟨_,fun f z=>Keeps.look z (B.cell 2),?_⟩;by_cases d:L.r.ep=0
 ·rw [yn (.inr d)] at z;subst z;refine B5 (by show (L.r.ep==0)=true;rw [d];rfl) ?_;exact i h
 refine B4 (by show (L.r.ep==0)=false;rw [ya];exact d) ?_;clear Y r;rw [yo (fun a=>a.elim (fun a=>a p) d)] at z;rw [yo (show ¬ (3:Int)=10 by decide),yo (show ¬ (3:Int)=9 by decide)] at z;refine h.c 0 rfl rfl ?_;refine B4 (by show (v.kind==10)=false;rw [k];rfl) ?_;refine h.c 0 rfl rfl ?_;refine B4 (by show (v.kind==9)=false;rw [k];rfl) ?_;have C:=J4 g L now _ _ (h.row.right (s L)).link h.ctx.lt;obtain⟨I,e⟩:∃ H,H=E5 L now:=⟨_,rfl⟩;rw [<-e] at C z;refine h.q (C) fun wQ hQ h=>?_;cases I with
 | false=>
  rw [yn rfl] at z;subst z;exact i h
 | true=>
 rw [yo (by decide)] at z;refine h.c 0 rfl rfl ?_;rw [yn rfl] at z;subst z;refine B5 (by show (v.kind==3)=true;rw [k];rfl) ?_;refine⟨wdC v x,rfl,h.cells 0 rfl,?_⟩;have h:=h.now (X:=Vc.Sep 0 (Keep w b) (LinkK g L)) (fun a=>a.mono (fun _ a=>a) fun _ a=>LkO.link a) (Vc.Sep.stab yq xa);obtain⟨F,G,c,K,j,P⟩:=h.row;have W:=A3i h c j V;refine⟨(B0r g L O T v U x now Q G _ (fun x m=>h.ctx.lt x (K x m).1) W P F (fun y E=>⟨h.ctx.lt y (c y E).1,(c y E).2⟩) (Keep.of j yz R a1)).mono fun en wq q=>?_⟩;have a0:=q;obtain⟨A3,c3,a2,N3,Sn,e,_⟩:=a0;refine⟨_,e,?_⟩;rw [e] at q;exact h.tailW0 xa c j q
theorem B0u (g:Lg) (L:Lk) (M:L.Ok) (v:Wd) (k:v.kind=5) (x:WX) (now:Int) (b:Nat->Prop) (w:World) (t:∀ x,b x->x<w.heap.size) (N:EnvFree b w) (K:LinkK g L b w):
  Calls Tryz.prog 48 #[.pointer (some ⟨g.gl,0,none⟩),.agg (wdC v x).toArray,.int .i64 now] w (RetWL b w (LinkK g (H9 L v now).1) (H9 L v now).2):=by
 obtain⟨A,m,D,n,o,J⟩:=K.seen;have s:=fun L=>LkO.stab g L A m D n o;have i:∀ {S:Nat->Prop} {w1:World} {l:List LB} {os:List OR},CtxF no (bare w) S w1 l os (Vc.Sep 0 (Keep w b) (LkO g L A m D n o))->RetWL b w (LinkK g L) [] (.returned (.slice none 0 0)) w1:=fun h=>RetWL.nil ((h.now (fun a=>a.mono (fun _ a=>a) fun _ a=>LkO.link a) (Vc.Sep.stab yq xa)).endO _) rfl;have h:=CtxF.enterO t J (s L);obtain⟨f,z⟩:∃ f,f=H9 L v now:=⟨_,rfl⟩;rw [<-z];unfold H9 at z;rw [k,yo (show ¬ (5:Int)=7 by decide)] at z;refine vE Tryz.func48 ?_;refine h.n fun Z a1 a0 h=>?_;refine h.c 0 rfl rfl ?_;refine B4 (by show (v.kind==7)=false;rw [k];rfl) ?_;have B:=(h.row.right (s L)).2.1;have r:=h;refine vD (.Q [0,1,2,3,4,5,6,7,8,9,10,11,12,13,14,15,16] .fin) (Old _) (Old.start _) ?_;have P:=h.old0;have h:=h.drew;refine⟨_,fun x j=>Keeps.cell j (r.blk 0 rfl) (r.blk 0 rfl).lt rfl,_,fun f z=>Keeps.look z (B.cell 2),?_⟩;by_cases p:v.ep=L.r.ep;rotate_left
 ·rw [yn (.inl p)] at z;subst z;refine B5 (by show (v.ep != L.r.ep)=true;rw [bne_iff_ne];exact p) ?_;exact i h
 refine B4 (by show (v.ep != L.r.ep)=false;rw [bne_eq_false_iff_eq];exact p) ?_;refine⟨_,fun f z=>Keeps.look z (B.cell 2),?_⟩;by_cases d:L.r.ep=0
 ·rw [yn (.inr d)] at z;subst z;refine B5 (by show (L.r.ep==0)=true;rw [d];rfl) ?_;exact i h
 refine B4 (by show (L.r.ep==0)=false;rw [ya];exact d) ?_;clear P r;rw [yo (fun a=>a.elim (fun a=>a p) d)] at z;rw [yo (show ¬ (5:Int)=10 by decide),yo (show ¬ (5:Int)=9 by decide)] at z;refine h.c 0 rfl rfl ?_;refine B4 (by show (v.kind==10)=false;rw [k];rfl) ?_;refine h.c 0 rfl rfl ?_;refine B4 (by show (v.kind==9)=false;rw [k];rfl) ?_;have C:=J4 g L now _ _ (h.row.right (s L)).link h.ctx.lt;obtain⟨G,e⟩:∃ F,F=E5 L now:=⟨_,rfl⟩;rw [<-e] at C z;refine h.q (C) fun wQ hQ h=>?_;cases G with
 | false=>
  rw [yn rfl] at z;subst z;exact i h
 | true=>
 rw [yo (by decide)] at z;refine h.c 0 rfl rfl ?_;rw [yo (show ¬ (5:Int)=3 by decide),yo (show ¬ (5:Int)=4 by decide),yn rfl] at z;subst z;refine B4 (by show (v.kind==3)=false;rw [k];rfl) ?_;refine B4 (by show (v.kind==4)=false;rw [k];rfl) ?_;refine B5 (by show (v.kind==5)=true;rw [k];rfl) ?_;refine⟨wdC v x,rfl,h.cells 0 rfl,?_⟩;have h:=h.now (X:=Vc.Sep 0 (Keep w b) (LinkK g L)) (fun a=>a.mono (fun _ a=>a) fun _ a=>LkO.link a) (Vc.Sep.stab yq xa);obtain⟨U,c,u,I,y,O⟩:=h.row;have E:=A3i h u y N;refine⟨((fun c w t (E:EnvFree c w) O=>(B3l g L M v x now c w t O).mono fun H w' a=>a.turn O t) c _ (fun x j=>h.ctx.lt x (I x j).1) E O).mono fun H wq q=>?_⟩;have Q:=q;obtain⟨R,W,Y,T,V,e,_⟩:=Q;refine⟨_,e,?_⟩;rw [e] at q;exact h.tailW0 xa u y q
theorem B0v (g:Lg) (L:Lk) (J:L.Ok) (v:Wd) (k:v.kind=6) (Q:B9 v.seq) (x:WX) (now:Int) (b:Nat->Prop) (w:World) (t:∀ x,b x->x<w.heap.size) (M:EnvFree b w) (K:LinkK g L b w):
  Calls Tryz.prog 48 #[.pointer (some ⟨g.gl,0,none⟩),.agg (wdC v x).toArray,.int .i64 now] w (RetWL b w (LinkK g (H9 L v now).1) (H9 L v now).2):=by
 obtain⟨A,m,D,o,u,I⟩:=K.seen;have s:=fun L=>LkO.stab g L A m D o u;have i:∀ {S:Nat->Prop} {w1:World} {l:List LB} {os:List OR},CtxF no (bare w) S w1 l os (Vc.Sep 0 (Keep w b) (LkO g L A m D o u))->RetWL b w (LinkK g L) [] (.returned (.slice none 0 0)) w1:=fun h=>RetWL.nil ((h.now (fun a=>a.mono (fun _ a=>a) fun _ a=>LkO.link a) (Vc.Sep.stab yq xa)).endO _) rfl;have h:=CtxF.enterO t I (s L);obtain⟨d,z⟩:∃ d,d=H9 L v now:=⟨_,rfl⟩;rw [<-z];unfold H9 at z;rw [k,yo (show ¬ (6:Int)=7 by decide)] at z;refine vE Tryz.func48 ?_;refine h.n fun g4 a1 a0 h=>?_;refine h.c 0 rfl rfl ?_;refine B4 (by show (v.kind==7)=false;rw [k];rfl) ?_;have C:=(h.row.right (s L)).2.1;have r:=h;refine vD (.Q [0,1,2,3,4,5,6,7,8,9,10,11,12,13,14,15,16] .fin) (Old _) (Old.start _) ?_;have N:=h.old0;have h:=h.drew;refine⟨_,fun x j=>Keeps.cell j (r.blk 0 rfl) (r.blk 0 rfl).lt rfl,_,fun d z=>Keeps.look z (C.cell 2),?_⟩;by_cases p:v.ep=L.r.ep;rotate_left
 ·rw [yn (.inl p)] at z;subst z;refine B5 (by show (v.ep != L.r.ep)=true;rw [bne_iff_ne];exact p) ?_;exact i h
 refine B4 (by show (v.ep != L.r.ep)=false;rw [bne_eq_false_iff_eq];exact p) ?_;refine⟨_,fun d z=>Keeps.look z (C.cell 2),?_⟩;by_cases c:L.r.ep=0
 ·rw [yn (.inr c)] at z;subst z;refine B5 (by show (L.r.ep==0)=true;rw [c];rfl) ?_;exact i h
 refine B4 (by show (L.r.ep==0)=false;rw [ya];exact c) ?_;clear N r;rw [yo (fun a=>a.elim (fun a=>a p) c)] at z;rw [yo (show ¬ (6:Int)=10 by decide),yo (show ¬ (6:Int)=9 by decide)] at z;refine h.c 0 rfl rfl ?_;refine B4 (by show (v.kind==10)=false;rw [k];rfl) ?_;refine h.c 0 rfl rfl ?_;refine B4 (by show (v.kind==9)=false;rw [k];rfl) ?_;have E:=J4 g L now _ _ (h.row.right (s L)).link h.ctx.lt;obtain⟨G,e⟩:∃ F,F=E5 L now:=⟨_,rfl⟩;rw [<-e] at E z;refine h.q (E) fun wQ hQ h=>?_;cases G with
 | false=>
  rw [yn rfl] at z;subst z;exact i h
 | true=>
 rw [yo (by decide)] at z;refine h.c 0 rfl rfl ?_;rw [yo (show ¬ (6:Int)=3 by decide),yo (show ¬ (6:Int)=4 by decide),yo (show ¬ (6:Int)=5 by decide),yn rfl] at z;subst z;refine B4 (by show (v.kind==3)=false;rw [k];rfl) ?_;refine B4 (by show (v.kind==4)=false;rw [k];rfl) ?_;refine B4 (by show (v.kind==5)=false;rw [k];rfl) ?_;refine B5 (by show (v.kind==6)=true;rw [k];rfl) ?_;refine⟨wdC v x,rfl,h.cells 0 rfl,?_⟩;have h:=h.now (X:=Vc.Sep 0 (Keep w b) (LinkK g L)) (fun a=>a.mono (fun _ a=>a) fun _ a=>LkO.link a) (Vc.Sep.stab yq xa);obtain⟨U,f,y,H,B,O⟩:=h.row;have n:=A3i h y B M;refine⟨((fun f w t n O=>B51 g L J v Q x f w t n O) f _ (fun x j=>h.ctx.lt x (H x j).1) n O).mono fun Z wq q=>?_⟩;have P:=q;obtain⟨R,W,Y,T,V,e,_⟩:=P;refine⟨_,e,?_⟩;rw [e] at q;exact h.tailW0 xa y B q
theorem B52 {g:Lg} {L:Lk} {v:Wd} (t:Thin v) {A:Option Addr} {c:Nat} {S:Nat->Prop} {w w':World} (l:∀ x,S x->x<w.heap.size) (K:LinkK g L S w) (b:Below w.heap.size w w') (o:w'.ownsRow w.heap.size 43 21 (.slice A 1 c) 1 (wdC (N7 L v) WX0)):
  RetWL S w (LinkK g L) [N7 L v] (.returned (.slice A 1 c)) w':=by
 have r:WdR (B3g 0 r00) WX0 no w':=⟨⟨A39 _ _,A39 _ _⟩,T3 _ _⟩;refine RetWL.quiet (ws:=[N7 L v]) (css:=[wdC (N7 L v) WX0]) (N:=no) rfl b (by rw [List.flatten_singleton];exact o) ⟨WX0,[],rfl,?_,rfl⟩ (fun C h=>h.elim) (fun a n h=>h) (K.later l b) l;obtain⟨k,m,z,j,s,q,B,p,u,i,y⟩:=v;obtain⟨d,e,f⟩:=t;cases d;cases e;cases f;exact r
theorem A7E (g:Lg) (L:Lk) (v:Wd) (t:Thin v) (d:v.to≠L.id) (n:Int) (S:Nat->Prop) (w:World) (l:∀ x,S x->x<w.heap.size) (h:LinkK g L S w):
  Calls Tryz.prog 51 #[.pointer (some ⟨g.gl,0,none⟩),.agg (wdC v WX0).toArray,.int .i64 n] w (RetWL S w (LinkK g L) [N7 L v]):=by
 refine (K6 g L v WX0 d n S w l h).mono fun f w' a=>?_;obtain⟨A,c,e,b,o⟩:=a;exact e▸B52 t l h b o
end Go.Proofs.YtefdfaeieekioaaGreatDoor
