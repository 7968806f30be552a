import Derived.Test.YtefdfaeieekioaaGreatDoorQ05
set_option maxRecDepth 100000
set_option maxHeartbeats 40000000
set_option linter.unusedVariables false
set_option linter.unusedSimpArgs false
section
namespace Go.Vc
open Go Go.RowKit
structure CtxR (S0:Nat->Prop) (w0:World) (S:Nat->Prop) (w:World) (l:List LB) (R:World->Prop):Prop where
 ctx:Ctx S0 w0 S w l
 row:R w
 stab:∀ w1 w2,R w1->Fut S w1 S w2->R w2
section
variable {S0 S:Nat->Prop} {w0 w w':World} {l l':List LB} {R:World->Prop}
theorem CtxR.re (h:CtxR S0 w0 S w l R) (a:Ctx S0 w0 S w l'):CtxR S0 w0 S w l' R:=⟨a,h.row,h.stab⟩
theorem CtxR.via (h:CtxR S0 w0 S w l R) (a:Ctx S0 w0 S w' l') (f:Fut S w S w'):CtxR S0 w0 S w' l' R:=⟨a,h.stab _ _ h.row f,h.stab⟩
theorem CtxR.below (h:CtxR S0 w0 S w l R):Below w0.heap.size w0 w:=h.ctx.below
theorem CtxR.loc (h:CtxR S0 w0 S w l R) {cs:List Value} {T g:Nat} (N:New w cs T g w'):CtxR S0 w0 S w' ((g,T,cs)::l) R/\Fut S w S w':=
 ⟨h.via (h.ctx.loc N).1 (h.ctx.loc N).2,(h.ctx.loc N).2⟩
theorem CtxR.quiet (h:CtxR S0 w0 S w l R) (b:Below w.heap.size w w'):CtxR S0 w0 S w' l R/\Fut S w S w':=
 ⟨h.via (h.ctx.quiet b).1 (h.ctx.quiet b).2,(h.ctx.quiet b).2⟩
theorem CtxR.cell (h:CtxR S0 w0 S w l R) (k:Nat) {g T:Nat} {c:List Value} (a:l[k]?=some (g,T,c)) (i:Nat) {v:Value} (b:c[i]?=some v):w.cell? ⟨g,i,none⟩=some v:=h.ctx.cell k a i b
theorem CtxR.cells (h:CtxR S0 w0 S w l R) (k:Nat) {g T:Nat} {c:List Value} (a:l[k]?=some (g,T,c)):Go.Vc.cellsAt w ⟨g,0,none⟩ c 0:=h.ctx.cells k a
theorem CtxR.may (h:CtxR S0 w0 S w l R) (k:Nat) {g T:Nat} {c:List Value} (b:l[k]?=some (g,T,c)) (o:Nat) (x:List Value) (a:o+x.length<=c.length) (d:F4 x=true):E0 w ⟨g,o,none⟩ x 0:=h.ctx.may k b o x a d
theorem CtxR.set (h:CtxR S0 w0 S w l R) (k:Nat) {g T:Nat} {c:List Value} (b:l[k]?=some (g,T,c)) {o:Nat} {x:List Value} (a:E6 w ⟨g,o,none⟩ x w'):
  CtxR S0 w0 S w' (I2 l k (C5 c o x)) R/\Fut S w S w':=⟨h.via (h.ctx.set k b a).1 (h.ctx.set k b a).2,(h.ctx.set k b a).2⟩
section
variable {S0 S:Nat->Prop} {w0 w:World} {l:List LB} {R:World->Prop} {g T:Nat} {cs xs:List Value} {o:Nat} {K:World->Prop}
theorem CtxR.c (h:CtxR S0 w0 S w l R) (k:Nat) (a:l[k]?=some (g,T,cs)) {i:Nat} {v:Value} {K:Value->Prop} (b:cs[i]?=some v) (c:K v):∃ v,w.cell? ⟨g,i,none⟩=some v/\K v:=⟨v,h.cell k a i b,c⟩
theorem CtxR.s (c:CtxR S0 w0 S w l R) (k:Nat) (a:l[k]?=some (g,T,cs)) (d:∀ w',E6 w ⟨g,o,none⟩ xs w'->CtxR S0 w0 S w' (I2 l k (C5 cs o xs)) R->K w') (b:Nat.ble (o+xs.length) cs.length=true:=by rfl) (e:F4 xs=true:=by rfl):E0 w ⟨g,o,none⟩ xs 0/\∀ w',E6 w ⟨g,o,none⟩ xs w'->K w':=
 ⟨c.may k a o xs (ze b) e,fun w' h=>d w' h (c.set k a h).1⟩
theorem CtxR.s' (c:CtxR S0 w0 S w l R) (k:Nat) (a:l[k]?=some (g,T,cs)) (d:∀ w',E6 w ⟨g,o,none⟩ xs w'->CtxR S0 w0 S w' (I2 l k (C5 cs o xs)) R->K w') (b:Nat.ble (o+xs.length) cs.length=true:=by rfl) (e:F4 xs=true:=by rfl):E0 w ⟨g,o,none⟩ xs 0/\∀ w',E6 w ⟨g,o,none⟩ xs w'->True/\K w':=
 ⟨c.may k a o xs (ze b) e,fun w' h=>⟨t6,d w' h (c.set k a h).1⟩⟩
theorem CtxR.a (c:CtxR S0 w0 S w l R) (k:Nat) (a:l[k]?=some (g,T,cs)) {n:Nat} {K:List Value->Prop} (h:cs.length=n) (b:K cs):∃ ds:List Value,ds.length=n/\Go.Vc.cellsAt w ⟨g,0,none⟩ ds 0/\K ds:=⟨cs,h,c.cells k a,b⟩
theorem CtxR.a' (c:CtxR S0 w0 S w l R) (k:Nat) (a:l[k]?=some (g,T,cs)) {n:Nat} {K:List Value->Prop} (h:cs.length=n) (b:K cs):∃ ds:List Value,ds.length=n/\Go.Vc.cellsAt w ⟨g,0,none⟩ ds 0/\True/\K ds:=⟨cs,h,c.cells k a,t6,b⟩
theorem CtxR.n (c:CtxR S0 w0 S w l R) {K:Nat->World->Prop} (k:∀ g w',New w cs T g w'->CtxR S0 w0 S w' ((g,T,cs)::l) R->K g w'):∀ g w',New w cs T g w'->K g w':=fun g w' h=>k g w' h (c.loc h).1
theorem CtxR.n' (c:CtxR S0 w0 S w l R) {K:Nat->World->Prop} (k:∀ g w',New w cs T g w'->CtxR S0 w0 S w' ((g,T,cs)::l) R->K g w'):∀ g w',New w cs T g w'->True/\K g w':=fun g w' h=>⟨t6,k g w' h (c.loc h).1⟩
theorem CtxR.q (c:CtxR S0 w0 S w l R) {P:Program} {n:Nat} {a:List Value} {v:Value} {K:Value->World->Prop} (b:Calls P n a.toArray w (D4 v w)) (k:∀ w',Below w.heap.size w w'->CtxR S0 w0 S w' l R->K v w'):CallVc P n a w K:=B8 b fun w' h=>k w' h (c.quiet h).1
theorem CtxR.q' (c:CtxR S0 w0 S w l R) {P:Program} {n:Nat} {a:List Value} {v:Value} {K:Value->World->Prop} (b:Calls P n a.toArray w (D4 v w)) (k:∀ w',Below w.heap.size w w'->CtxR S0 w0 S w' l R->K v w'):CallVc P n a w (fun v w'=>True/\K v w'):=B8 b fun w' h=>⟨t6,k w' h (c.quiet h).1⟩
end
theorem CtxR.fresh (h:CtxR S0 w0 S w l R) {e s n c:Nat} {A:Option Addr} {xs:List Value} (b:Below w.heap.size w w') (o:w'.ownsRow w.heap.size e s (.slice A n c) n xs):
  CtxR S0 w0 S w' l R/\Fut S w S w'/\Own S w0.heap.size w' l e s A n c xs:=by
 obtain⟨f,a,d⟩:=h.ctx.fresh b o;exact⟨h.via f a,a,d⟩
theorem A78 {b d s n c:Nat} {A:Option Addr} {x:List Value} (o:w'.ownsRow b d s (.slice A n c) n x):n<=c/\c<=maxLen:=by
 obtain⟨i,h⟩:=o;obtain⟨h,rfl⟩|⟨g,p,u,e,_,_,f,a,_,_⟩:=h
 ·cases h;exact⟨zc _,zb _⟩
 ·cases e;exact⟨f,a⟩
theorem B5L {d i s n p:Nat} {A:Option Addr} {xs:List Value} (h:w'.ownsRow d i s (.slice A n p) n xs) (j:∀ b,d<=b->b<w'.heap.size->S b):Row S w' A n p xs:=by
 obtain⟨l,k⟩:=A78 h;refine⟨l,k,fun x=>?_⟩;have o:=h;obtain⟨e,a⟩:=o;obtain⟨a,rfl⟩|⟨g,m,u,f,_⟩:=a
 ·rw [Nat.zero_mul] at e;exact absurd (zo e) x
 ·cases f;have c:=h.lt g rfl;exact⟨_,rfl,j _ c.1 c.2,h.cells rfl⟩
theorem Row.wide {a:Nat->Prop} {A:Option Addr} {n c:Nat} {xs:List Value} (h:Row S w A n c xs) (f:∀ b,S b->a b):Row a w A n c xs:=h.fut ⟨f,fun _ _=>rfl⟩
theorem Row.ret {Sg:Nat->Prop} {A:Option Addr} {n p:Nat} {xs:List Value} (h:Row S w A n p xs) (c:Ctx S0 w0 S w l) (d:∀ b,¬ S0 b):Row (ext Sg w0 w) w A n p xs:=
 h.wide fun b a=>by
  obtain h|h:=c.new b a
  ·exact (d b h).elim
  ·exact .inr ⟨h,c.lt b a⟩
theorem Row.old {S:Nat->Prop} {A:Option Addr} {n c:Nat} {xs:List Value} (a:Row S w0 A n c xs) (h:Below w0.heap.size w0 w):Row (ext S w0 w) w A n c xs:=
 (a.below h).wide fun _ h=>.inl h
theorem CtxR.told (c:CtxR S0 w0 S w l R) {j z n a:Nat} {A:Option Addr} {s:List Value} (o:Own S w0.heap.size w l j z A n a s):
  ∃ S':Nat->Prop,(∀ b,S b->S' b)/\CtxR S0 w0 S' w l (fun x=>R x/\Row S' x A n a s):=by
 obtain⟨i,p,e⟩:=o.told c.ctx;refine⟨_,fun b h=>.inl h,i,⟨c.row,e o.fit.1 o.fit.2⟩,fun m k d f=>⟨c.stab m k d.1 ⟨fun _ g=>g,fun b h=>f.2 b (.inl h)⟩,d.2.fut f⟩⟩
end
end Go.Vc
namespace Go.Proofs.YtefdfaeieekioaaGreatDoor
open Go.Vc Go.RowKit Go.Fl
theorem RepEs.old {S:Nat->Prop} {w a:World} {l:List Ent} {css:List (List Value)} (h:RepEs S w l css) (b:Below w.heap.size w a):RepEs (ext S w a) a l css:=h.map (fun h=>h.old b)
theorem A5Q {n a:Nat} {u c:List Value} {s:List (List Value)} (F:Flat 2 s) (h:c.length=2) (r:u.length=a*2) (b:s.length=n) (e:n<=a) (t:u.take (n*2)=s.flatten) (i:Nat) (d:i<n):
  (C5 u (i*2) c).take (n*2)=(s.take i++[c]++s.drop (i+1)).flatten:=by
 rw [G9 _ _ _ (by rw [h];omega),zt,zt,F.flat_take,F.flat_drop,<-t,List.take_take,List.drop_take,h,List.take_append,z6,zg,h,show min (i*2) u.length+2=i*2+2 by omega,ym (l:=u.take (i*2)++c) (by rw [z6,zg,h];omega),show (i+1)*2=i*2+2 by omega,show min (i*2) (n*2)=i*2 by omega];simp
def RetK (s:Stt) (B:Option Addr) (cap':Nat) (l0 l1 l2 l3 l4:Int) (S:Nat->Prop) (q:List Ent × Res) (w:World) (en:Ending) (w':World):Prop:=
 ∃ A c css,en=.returned (.tuple #[.agg #[.int .i64 s.seq,.slice A q.1.length c,.slice B s.ms.length cap',.int .i64 l0,.int .i64 l1,.int .i64 l2,.int .i64 l3,.int .i64 l4],.agg #[.int .i64 q.2.err,.int .i64 q.2.ver]])/\
  Below w.heap.size w w'/\RepEs (ext S w w') w' q.1 css/\Row (ext S w w') w' A q.1.length c css.flatten
def Q2 (l:List Ent) (i:Nat) (e:Ent) (n:Int):List Ent × Res:=
 match A3B e.vs n with
 | none=>(l,⟨6,0⟩)
 | some j=>(l.take i++(if (e.vs.take j++e.vs.drop (j+1)).length=0 then [] else [⟨e.key,e.vs.take j++e.vs.drop (j+1)⟩])++l.drop (i+1),⟨0,n⟩)
theorem A1u (s:Stt) (A N:Option Addr) (cap O:Nat) (T X M U l4:Int) (b:List (List Value)) (S:Nat->Prop) (w:World) (E:RepEs S w s.l b) (R:Row S w A s.l.length cap b.flatten) (hn:s.l.length<=1000000)
  (i:Nat) (e:Ent) (G:Option Addr) (J:Nat) (a4:Row S w G e.vs.length J (e.vs.map J0).flatten) (hb:e.vs.length<=1000000) (n:Int) (B:(A3B e.vs n).isSome=true->i<s.l.length):
  Calls Tryz.prog 269 #[.agg (stC s A cap N O T X M U l4).toArray,.int .i64 i,.agg #[.string e.key,.slice G e.vs.length J],.int .i64 n] w (RetK s N O T X M U l4 S (Q2 s.l i e n) w):=by
 refine vE Tryz.func269 ?_;intro g4 w1 I;have h:=((Ctx.start w no (fun _ d=>d.elim)).loc I).1;refine h.n fun g6 w2 h2 h=>?_;refine h.n fun g8 w3 h3 h=>?_;refine h.n fun g9 u h4 h=>?_;refine h.a 2 rfl rfl ?_;refine⟨(B2M e n G J hb S u (a4.below h.below)).mono fun P k q=>?_⟩;unfold C06 B12 at q;cases D:A3B e.vs n with
 | none=>
  rw [D] at q;have z:Q2 s.l i e n=(s.l,⟨6,0⟩):=by unfold Q2;rw [D]
  rw [z];obtain⟨C,F⟩:=q;have h:=(h.quiet F).1;refine⟨_,C,?_⟩;refine h.s 2 rfl fun m l h=>?_;refine h.a 3 rfl rfl ?_;refine h.s 1 rfl fun m l h=>?_;refine h.s 0 rfl fun m l h=>?_;refine h.a 1 rfl rfl ?_;refine h.a 0 rfl rfl ?_;exact⟨A,cap,b,rfl,h.below,E.old h.below,R.old h.below⟩
 | some r=>
  rw [D] at q B;have B:=B rfl;obtain⟨f,p,C,F,o⟩:=q;simp only at C o;have z:Q2 s.l i e n=(s.l.take i++(if (e.vs.take r++e.vs.drop (r+1)).length=0 then [] else [⟨e.key,e.vs.take r++e.vs.drop (r+1)⟩])++s.l.drop (i+1),⟨0,n⟩):=by unfold Q2;rw [D]
  rw [z];clear z;generalize e.vs.take r++e.vs.drop (r+1)=vs at*;have Y:=(h.call F).1;have K:Row (ext no u k) k f vs.length p (vs.map J0).flatten:=B5L o fun a9 I h2=>.inr ⟨I,h2⟩;have h:CtxR no w (ext no u k) k _ (fun a6=>Row (ext no u k) a6 f vs.length p (vs.map J0).flatten):=⟨Y,K,fun _ _ d a2=>d.fut a2⟩;clear K o Y;generalize ext no u k=S1 at h;refine⟨_,C,h.may 2 rfl _ _ (zc 2) rfl,?_⟩;intro w6 h6;have h:=(h.set 2 rfl h6).1;refine h.c 3 rfl rfl ?_;refine⟨(J1 A s.l.length cap b E.flat E.len hn S w6 (R.below h.below)).mono fun P w7 q=>?_⟩;obtain⟨H,y,e3,h7,o⟩:=q;obtain⟨h,_,o⟩:=h.fresh h7 o;refine⟨_,e3,h.may 3 rfl _ _ (nle rfl) rfl,?_⟩;intro w8 h8;have o:=o.set h.ctx 3 rfl h8;have h:=(h.set 3 rfl h8).1;refine h.c 2 rfl rfl ?_;by_cases h0:vs.length=0
  ·refine B5 (by show ((vs.length:Int)==0)=true;rw [h0];rfl) ?_;refine h.c 3 rfl rfl ?_;have V:=E.len;have hM:=E2 R;have Z:=A75 h.ctx b E.flat (A:=H) (cap:=y) (by rw [V];exact o) i (by omega) (IntKind.i64.wrap ((i:Int)+1)) (by rw [G8 _ _ (by omega) (by omega)]);rw [V] at Z;refine⟨Z.mono fun P w9 q=>?_⟩;obtain⟨A4,e4,x,a8,o⟩:=q;have h:=h.via x a8;refine⟨_,e4,h.may 3 rfl _ _ (nle rfl) rfl,?_⟩;intro w10 j;have o:=o.set h.ctx 3 rfl j;have h:=(h.set 3 rfl j).1;obtain⟨S2,L,h⟩:=h.told o;refine h.a 3 rfl rfl ?_;refine h.s 1 rfl fun m l h=>?_;refine h.s 0 rfl fun m l h=>?_;refine h.a 1 rfl rfl ?_;refine h.a 0 rfl rfl ?_;have t:(s.l.take i++[]++s.l.drop (i+1)).length=s.l.length-1:=by rw [zx,z6,zg,zh];omega
   refine⟨A4,y,b.take i++b.drop (i+1),?_,h.below,?_,?_⟩
   ·rw [yn h0,t];rfl
   ·rw [yn h0,zx];exact ((E.take i).append (E.drop (i+1))).old h.below
   ·rw [yn h0,t];exact h.row.2.ret h.ctx (fun _ d=>d)
  ·refine B4 (by show ((vs.length:Int)==0)=false;rw [ya];omega) ?_;refine h.c 3 rfl rfl ?_;refine h.a 2 rfl rfl ?_;cases v:H with
   | none=>
    obtain⟨hz,_⟩:=o.none' v;omega
   | some a=>
   obtain⟨g,a3,ea,x,W,a5,Q,a7⟩:=o.opened h.ctx v;rw [v] at ea;cases ea;have h:=h.re x;refine⟨⟨by omega,by omega⟩,?_⟩;generalize a0:((⟨g,0,none⟩:Addr).add ((i:Int).toNat*2))=ae;rw [yi,zn,zi] at a0;subst a0;refine⟨h.may 0 rfl (i*2) [.string e.key,.slice f vs.length p] (by show i*2+2<=a3.length;omega) rfl,?_⟩;intro w10 j;have j:E6 w8 ⟨g,i*2,none⟩ [.string e.key,.slice f vs.length p] w10:=j;have h:=(h.set 0 rfl j).1;obtain⟨x,o⟩:=Ctx.closed h.ctx 2 s.l.length y Q a7 (by rw [putAt_len,W]);rw [A5Q (c:=[.string e.key,.slice f vs.length p]) E.flat rfl W E.len Q a5 i B] at o;have h:=h.re x;obtain⟨S2,L,h⟩:=h.told o;refine h.a 3 rfl rfl ?_;refine h.s 1 rfl fun m l h=>?_;refine h.s 0 rfl fun m l h=>?_;refine h.a 1 rfl rfl ?_;refine h.a 0 rfl rfl ?_;have t:(s.l.take i++([⟨e.key,vs⟩]:List Ent)++s.l.drop (i+1)).length=s.l.length:=by rw [z6,z6,zg,zh];simp;omega
   refine⟨H,y,b.take i++[[.string e.key,.slice f vs.length p]]++b.drop (i+1),?_,h.below,?_,?_⟩
   ·rw [yo h0,t];rfl
   ·rw [yo h0];refine (((E.take i).old h.below).append ?_).append ((E.drop (i+1)).old h.below);exact⟨_,_,rfl,⟨f,p,rfl,(h.row.1.wide L).ret h.ctx (fun _ d=>d)⟩,rfl⟩
   ·rw [yo h0];have a1:=h.row.2.ret (Sg:=S) h.ctx (fun _ d=>d);rw [<-v] at a1;rw [t];exact a1
end Go.Proofs.YtefdfaeieekioaaGreatDoor
end
section
namespace Go.Vc
open Go Go.RowKit
theorem cellsAt_later {w a:World} (b:Below w.heap.size w a) {c:Addr}:∀ (cs:List Value) (i:Nat),cellsAt w c cs i->cellsAt a c cs i
 | [],_,_=>trivial
 | v::r,i,h=>⟨cell_later b h.1,cellsAt_later b r (i+1) h.2⟩
structure OR where
 e:Nat
 sz:Nat
 A:Option Addr
 n:Nat
 cap:Nat
 xs:List Value
def Owns (S:Nat->Prop) (n0:Nat) (w:World) (l:List LB):List OR->Prop
 | []=>True
 | o::r=>Own S n0 w l o.e o.sz o.A o.n o.cap o.xs/\(∀ p∈r,∀ a b,o.A=some a->p.A=some b->a.block≠b.block)/\Owns S n0 w l r
abbrev Kn:=(Nat->Prop)->World->Prop
def Stab (R:Kn):Prop:=∀ S w S' w',R S w->Fut S w S' w'->R S' w'
theorem Stab.and {R X:Kn} (a:Stab R) (k:Stab X):Stab (fun S w=>R S w/\X S w):=fun _ _ _ _ h f=>⟨a _ _ _ _ h.1 f,k _ _ _ _ h.2 f⟩
theorem Stab.true:Stab (fun _ _=>True):=fun _ _ _ _ _ _=>trivial
structure CtxF (S0:Nat->Prop) (w0:World) (S:Nat->Prop) (w:World) (l:List LB) (os:List OR) (R:Kn):Prop where
 ctx:Ctx S0 w0 S w l
 own:Owns S w0.heap.size w l os
 row:R S w
 stab:Stab R
section
variable {S0 S S':Nat->Prop} {w0 w w':World} {l l':List LB} {os:List OR} {R:Kn} {n0:Nat}
theorem Owns.step:∀ {os:List OR},Owns S n0 w l os->(∀ o∈os,∀ a,o.A=some a->w'.heap[a.block]?=w.heap[a.block]?/\¬ S' a.block/\∀ x∈l',x.1≠a.block)->Owns S' n0 w' l' os
 | [],_,_=>trivial
 | o::r,⟨h1,h2,h3⟩,hh=>
  ⟨⟨h1.kept fun a h=>(hh o (zv ..) a h).1,fun a h=>(hh o (zv ..) a h).2⟩,h2,h3.step fun p b=>hh p (zu _ b)⟩
theorem Owns.mem:∀ {os:List OR},Owns S n0 w l os->∀ o∈os,Own S n0 w l o.e o.sz o.A o.n o.cap o.xs
 | o::r,⟨h1,h2,h3⟩,p,hp=>by
  cases hp with
  | head=>exact h1
  | tail _ h=>exact h3.mem p h
theorem CtxF.below (h:CtxF S0 w0 S w l os R):Below w0.heap.size w0 w:=h.ctx.below
theorem CtxF.start (w:World) (S:Nat->Prop) (a:∀ b,S b->b<w.heap.size) {R:Kn} (r:R S w) (h:Stab R):CtxF S w S w [] [] R:=⟨Ctx.start w S a,t6,r,h⟩
theorem CtxF.loc (h:CtxF S0 w0 S w l os R) {cs:List Value} {T g:Nat} (N:New w cs T g w'):CtxF S0 w0 S w' ((g,T,cs)::l) os R/\Fut S w S w':=by
 obtain⟨f,c⟩:=h.ctx.loc N;refine⟨⟨f,h.own.step fun o e a b=>?_,h.stab _ _ _ _ h.row c,h.stab⟩,c⟩;have O:=h.own.mem o e;refine⟨N.below.block _ (O.lt b).2,(O.out a b).1,fun d x=>?_⟩;cases x with
 | head=>have:=(O.lt b).2;have:=N.1;show g≠a.block;omega
 | tail _ x=>exact (O.out a b).2 d x
theorem CtxF.quiet (h:CtxF S0 w0 S w l os R) (c:Below w.heap.size w w'):CtxF S0 w0 S w' l os R/\Fut S w S w':=by obtain⟨f,e⟩:=h.ctx.quiet c;exact⟨⟨f,h.own.step fun o d a b=>⟨c.block _ ((h.own.mem o d).lt b).2,(h.own.mem o d).out a b⟩,h.stab _ _ _ _ h.row e,h.stab⟩,e⟩
theorem CtxF.call (h:CtxF S0 w0 S w l os R) (d:Below w.heap.size w w'):CtxF S0 w0 (ext S w w') w' l os R/\Fut S w (ext S w w') w':=by
 obtain⟨f,e⟩:=h.ctx.call d;refine⟨⟨f,h.own.step fun o c a b=>⟨d.block _ ((h.own.mem o c).lt b).2,fun s=>?_,((h.own.mem o c).out a b).2⟩,h.stab _ _ _ _ h.row e,h.stab⟩,e⟩;obtain s|s:=s
 ·exact ((h.own.mem o c).out a b).1 s
 ·have:=((h.own.mem o c).lt b).2;omega
theorem CtxF.know (h:CtxF S0 w0 S w l os R) {X:Kn} (a:X S w) (s:Stab X):CtxF S0 w0 S w l os (fun S w=>R S w/\X S w):=⟨h.ctx,h.own,⟨h.row,a⟩,h.stab.and s⟩
theorem CtxF.now (h:CtxF S0 w0 S w l os R) {X:Kn} (a:R S w->X S w) (s:Stab X):CtxF S0 w0 S w l os X:=⟨h.ctx,h.own,a h.row,s⟩
theorem CtxF.blk (h:CtxF S0 w0 S w l os R) (k:Nat) {g T:Nat} {cs:List Value} (a:l[k]?=some (g,T,cs)):Blk w g T cs:=h.ctx.blk k a
theorem CtxF.cell (h:CtxF S0 w0 S w l os R) (k:Nat) {g T:Nat} {c:List Value} (a:l[k]?=some (g,T,c)) (i:Nat) {v:Value} (b:c[i]?=some v):w.cell? ⟨g,i,none⟩=some v:=h.ctx.cell k a i b
theorem CtxF.cells (h:CtxF S0 w0 S w l os R) (k:Nat) {g T:Nat} {c:List Value} (a:l[k]?=some (g,T,c)):Go.Vc.cellsAt w ⟨g,0,none⟩ c 0:=h.ctx.cells k a
theorem CtxF.cellsAt (h:CtxF S0 w0 S w l os R) (k:Nat) {g T:Nat} {c:List Value} (a:l[k]?=some (g,T,c)) (o:Nat) (x:List Value) (b:(c.drop o).take x.length=x):Go.Vc.cellsAt w ⟨g,o,none⟩ x 0:=h.ctx.cellsAt k a o x b
theorem CtxF.may (h:CtxF S0 w0 S w l os R) (k:Nat) {g T:Nat} {c:List Value} (b:l[k]?=some (g,T,c)) (o:Nat) (x:List Value) (a:o+x.length<=c.length) (d:F4 x=true):E0 w ⟨g,o,none⟩ x 0:=h.ctx.may k b o x a d
theorem CtxF.set (h:CtxF S0 w0 S w l os R) (k:Nat) {g T:Nat} {c:List Value} (b:l[k]?=some (g,T,c)) {o:Nat} {x:List Value} (d:E6 w ⟨g,o,none⟩ x w'):
  CtxF S0 w0 S w' (I2 l k (C5 c o x)) os R/\Fut S w S w':=by
 obtain⟨n,m⟩:=h.ctx.set k b d;refine⟨⟨n,h.own.step fun p j a f=>?_,h.stab _ _ _ _ h.row m,h.stab⟩,m⟩;have O:=(h.own.mem p j).set h.ctx k b d;obtain⟨_,i,_⟩:=L9 o x w 0 c (h.blk k b);rw [<-(show w'=_ from d)] at i;exact⟨i _ fun e=>((h.own.mem p j).out a f).2 _ (List.mem_of_getElem? b) e.symm,O.out a f⟩
theorem CtxF.drop {x:LB} (h:CtxF S0 w0 S w (x::l) os R):CtxF S0 w0 S w l os R:=
 ⟨h.ctx.drop,h.own.step fun o c a b=>⟨rfl,((h.own.mem o c).out a b).1,fun d y=>((h.own.mem o c).out a b).2 d (zu _ y)⟩,h.row,h.stab⟩
theorem CtxF.drew (h:CtxF S0 w0 S w l os R):CtxF S0 w0 S w.drew l os R:=
 ⟨h.ctx.drew,h.own.step fun o d a b=>⟨rfl,(h.own.mem o d).out a b⟩,h.stab _ _ _ _ h.row ⟨fun _ c=>c,fun _ _=>rfl⟩,h.stab⟩
theorem CtxF.hold (h:CtxF S0 w0 S w l os R) {e sz n cap:Nat} {A:Option Addr} {xs:List Value} (o:Own S w0.heap.size w l e sz A n cap xs) (d:∀ p∈os,∀ a b,A=some a->p.A=some b->a.block≠b.block):CtxF S0 w0 S w l (⟨e,sz,A,n,cap,xs⟩::os) R:=
 ⟨h.ctx,⟨o,d,h.own⟩,h.row,h.stab⟩
theorem CtxF.nil (h:CtxF S0 w0 S w l os R) (e s:Nat):CtxF S0 w0 S w l (⟨e,s,none,0,0,[]⟩::os) R:=h.hold Own.nil (fun p d a c b=>by cases b)
theorem CtxF.fst {o:OR} (h:CtxF S0 w0 S w l (o::os) R):Own S w0.heap.size w l o.e o.sz o.A o.n o.cap o.xs:=h.own.1
theorem CtxF.rest {o:OR} (h:CtxF S0 w0 S w l (o::os) R):CtxF S0 w0 S w l os R:=⟨h.ctx,h.own.2.2,h.row,h.stab⟩
theorem CtxF.swap {o p:OR} (c:CtxF S0 w0 S w l (o::p::os) R):CtxF S0 w0 S w l (p::o::os) R:=by
 obtain⟨k,g,i,m,j⟩:=c.own;refine⟨c.ctx,⟨i,fun q h a f b d=>?_,k,fun q h=>g q (zu _ h),j⟩,c.row,c.stab⟩;cases h with
 | head=>exact fun e=>g p (zv ..) f a d b e.symm
 | tail _ h=>exact m q h a f b d
theorem CtxF.fresh (h:CtxF S0 w0 S w l os R) {e s n c:Nat} {A:Option Addr} {x:List Value} (b:Below w.heap.size w w') (o:w'.ownsRow w.heap.size e s (.slice A n c) n x):
  CtxF S0 w0 S w' l (⟨e,s,A,n,c,x⟩::os) R:=by
 obtain⟨j,q,f⟩:=h.ctx.fresh b o;refine (h.quiet b).1.hold f fun p i a m d g k=>?_;subst d;have:=(o.lt a.block rfl).1;have:=((h.own.mem p i).lt g).2;omega
theorem CtxF.told {o:OR} (h:CtxF S0 w0 S w l (o::os) R):∃ S':Nat->Prop,(∀ b,S b->S' b)/\CtxF S0 w0 S' w l os (fun S w=>R S w/\Row S w o.A o.n o.cap o.xs):=by
 obtain⟨j,m,g⟩:=h.fst.told h.ctx;refine⟨_,fun b d=>.inl d,j,h.own.2.2.step fun p f a c=>⟨rfl,?_,((h.own.2.2.mem p f).out a c).2⟩,⟨h.stab _ _ _ _ h.row m,g h.fst.fit.1 h.fst.fit.2⟩,h.stab.and fun _ _ _ _ i k=>i.fut k⟩;rintro (s | ⟨b,d,e⟩)
 ·exact ((h.own.2.2.mem p f).out a c).1 s
 ·exact h.own.2.1 p f b a d c e
theorem CtxF.opened {i s n a:Nat} {A:Option Addr} {j:List Value} (h:CtxF S0 w0 S w l (⟨i,s,A,n,a,j⟩::os) R) {m:Addr} (q:A=some m):
  ∃ g c,A=some ⟨g,0,none⟩/\CtxF S0 w0 S w ((g,i,c)::l) os R/\c.length=a*s/\c.take (n*s)=j/\n<=a/\a<=maxLen:=by
 obtain⟨g,c,e,o,r⟩:=h.fst.opened h.ctx q;have e:A=some ⟨g,0,none⟩:=e;refine⟨g,c,e,⟨o,h.own.2.2.step fun p f d b=>⟨rfl,((h.own.2.2.mem p f).out d b).1,fun k x=>?_⟩,h.row,h.stab⟩,r⟩;cases x with
 | head=>exact h.own.2.1 p f _ d e b
 | tail _ x=>exact ((h.own.2.2.mem p f).out d b).2 k x
theorem CtxF.closed {e g:Nat} {u:List Value} (h:CtxF S0 w0 S w ((g,e,u)::l) os R) (s n c:Nat) (i:n<=c) (q:c<=maxLen) (f:u.length=c*s):
  CtxF S0 w0 S w l (⟨e,s,some ⟨g,0,none⟩,n,c,u.take (n*s)⟩::os) R:=by
 obtain⟨r,k⟩:=Ctx.closed h.ctx s n c i q f;refine h.drop.hold k fun p m a o b d j=>?_;cases b;exact ((h.own.mem p m).out o d).2 _ (zv ..) j
theorem CtxF.made (d:CtxF S0 w0 S w l os R) {c:List Value} {e g:Nat} (N:New w c e g w') (s n:Nat) (h:c.length=n*s) (b:n<=maxLen):CtxF S0 w0 S w' l (⟨e,s,some ⟨g,0,none⟩,n,n,c⟩::os) R:=by have a:=(d.loc N).1.closed s n n (zc _) b h;rw [ym (Nat.le_of_eq h)] at a;exact a
theorem CtxF.out (h:CtxF S0 w0 S w l os R):R (ext S0 w0 w) w:=h.stab _ _ _ _ h.row h.ctx.out
theorem CtxF.old (h:CtxF S0 w0 S w l os R) {X:Kn} (s:Stab X) (c:X S0 w0) (t:∀ b,S0 b->b<w0.heap.size):X S w:=s _ _ _ _ c ⟨h.ctx.sub,fun b a=>h.below.block b (t b a)⟩
def Oth (S:Nat->Prop) (os:List OR):Nat->Prop:=fun b=>S b\/∃ p∈os,∃ a,p.A=some a/\a.block=b
theorem CtxF.others {o:OR} (e:CtxF S0 w0 S w l (o::os) R):Ctx S0 w0 (Oth S os) w l/\Own (Oth S os) w0.heap.size w l o.e o.sz o.A o.n o.cap o.xs:=by
 obtain⟨g,k,f⟩:=e.own;refine⟨⟨e.below,fun d h=>.inl (e.ctx.sub d h),fun d h=>?_,fun d h=>?_,e.ctx.locs.mono (fun _ _=>rfl) (fun x j s=>?_)⟩,g.row,fun a b=>⟨fun s=>?_,(g.out a b).2⟩⟩
 ·obtain h|⟨p,c,a,b,rfl⟩:=h
  ·exact e.ctx.new d h
  ·exact .inr ((f.mem p c).lt b).1
 ·obtain h|⟨p,c,a,b,rfl⟩:=h
  ·exact e.ctx.lt d h
  ·exact ((f.mem p c).lt b).2
 ·obtain s|⟨p,c,a,b,i⟩:=s
  ·exact s
  ·exact absurd i.symm (((f.mem p c).out a b).2 x j)
 ·obtain s|⟨p,c,d,h,i⟩:=s
  ·exact (g.out a b).1 s
  ·exact k p c a d b h i.symm
theorem CtxF.back {s o':OR} (c:CtxF S0 w0 S w l (s::os) R) (j:Ctx S0 w0 (Oth S os) w' l') (m:Fut (Oth S os) w (Oth S os) w') (i:Own (Oth S os) w0.heap.size w' l' o'.e o'.sz o'.A o'.n o'.cap o'.xs) (n:∀ x∈l',∃ y∈l,y.1=x.1):
  CtxF S0 w0 S w' l' (o'::os) R:=by
 have q:∀ x∈l',∀ a:Addr,(∀ y∈l,y.1≠a.block)->x.1≠a.block:=fun x k a d=>by obtain⟨y,o,e⟩:=n x k;rw [<-e];exact d y o
 refine⟨⟨j.below,c.ctx.sub,c.ctx.new,fun b h=>j.lt b (.inl h),j.locs.mono (fun _ _=>rfl) (fun _ _ d=>.inl d)⟩,⟨⟨i.row,fun a g=>⟨fun t=>(i.out a g).1 (.inl t),(i.out a g).2⟩⟩,fun p f a b g h r=>(i.out a g).1 (.inr ⟨p,f,b,h,r.symm⟩),?_⟩,?_,c.stab⟩
 ·exact c.own.2.2.step fun p f b h=>⟨m.2 _ (.inr ⟨p,f,b,h,rfl⟩),((c.own.2.2.mem p f).out b h).1,fun x k=>q x k b ((c.own.2.2.mem p f).out b h).2⟩
 ·exact c.stab _ _ _ _ c.row ⟨fun _ d=>d,fun b h=>m.2 b (.inl h)⟩
end
section
variable {P:Program} {S0 S:Nat->Prop} {w0 w:World} {l:List LB} {os:List OR} {R:Kn} {n:Nat} {args:List Value} {K:Value->World->Prop}
section
variable {e sz bytes:Nat} {A B:Option Addr} {m cap c:Nat} {xs ys:List Value} {z:Value}
theorem F0 {t T:Nat} {s:Array Bool} (b:P.underlying t=some (.slice e)) (f:(P.info? e).map (fun i=>(i.zero,i.size,i.bytes))=some (some z,sz,bytes)) (u:z.cells.size=sz) (C:0<sz)
  (h:CtxF S0 w0 S w l (⟨e,sz,A,n,cap,xs⟩::os) R) {d:Addr} (j:ys.length=m*sz) (k:Go.Vc.cellsAt w d ys 0) (q:F4 ys=true) (F:n+m<=34359738368) (r:bytes<=4096)
  {x y:Value} (J:x=.slice A n cap) (o:y=.slice (some d) m c)
  (D:∀ a p w',CtxF S0 w0 S w' l (⟨e,sz,a,n+m,p,xs++ys⟩::os) R->K (.slice a (n+m) p) w'):
  ∃ v w',(builtin .append #[t,t] T s #[x,y]).run P w=.ok (.value v) w'/\K v w':=by
 subst J;subst o;obtain⟨E,B⟩:=h.others;refine X9 b f u C E B j k q F r fun a p w' I g H _=>D a p w' ?_;exact h.back I g (o':=⟨e,sz,a,n+m,p,xs++ys⟩) H fun x G=>⟨x,G,rfl⟩
theorem Y6 {t T:Nat} {s:Array Bool} {F:Nat->Prop} (b:P.underlying t=some (.slice e)) (d:(P.info? e).map (fun i=>(i.zero,i.size,i.bytes))=some (some z,sz,bytes)) (r:z.cells.size=sz) (C:0<sz)
  (h:CtxF S0 w0 S w l (⟨e,sz,A,n,cap,xs⟩::os) R) (o:Row F w B m c ys) (g:ys.length=m*sz) (k:F4 ys=true) (G:n+m<=34359738368) (q:bytes<=4096)
  {x y:Value} (L:x=.slice A n cap) (j:y=.slice B m c)
  (D:∀ a p w',CtxF S0 w0 S w' l (⟨e,sz,a,n+m,p,xs++ys⟩::os) R->K (.slice a (n+m) p) w'):
  ∃ v w',(builtin .append #[t,t] T s #[x,y]).run P w=.ok (.value v) w'/\K v w':=by
 obtain⟨E,u⟩:=h.others;refine B43 b d r C E u o g k G q L j fun a p w' J f I _=>D a p w' ?_;exact h.back J f (o':=⟨e,sz,a,n+m,p,xs++ys⟩) I fun x H=>⟨x,H,rfl⟩
end
end
section
variable {S0 S:Nat->Prop} {w0 w:World} {l:List LB} {os:List OR} {R:Kn} {g T:Nat} {cs xs:List Value} {o:Nat} {K:World->Prop}
theorem CtxF.s (c:CtxF S0 w0 S w l os R) (k:Nat) (a:l[k]?=some (g,T,cs)) (d:∀ w',E6 w ⟨g,o,none⟩ xs w'->CtxF S0 w0 S w' (I2 l k (C5 cs o xs)) os R->K w') (b:Nat.ble (o+xs.length) cs.length=true:=by rfl) (e:F4 xs=true:=by rfl):E0 w ⟨g,o,none⟩ xs 0/\∀ w',E6 w ⟨g,o,none⟩ xs w'->K w':=
 ⟨c.may k a o xs (ze b) e,fun w' h=>d w' h (c.set k a h).1⟩
theorem CtxF.s' (c:CtxF S0 w0 S w l os R) (k:Nat) (a:l[k]?=some (g,T,cs)) (d:∀ w',E6 w ⟨g,o,none⟩ xs w'->CtxF S0 w0 S w' (I2 l k (C5 cs o xs)) os R->K w') (b:Nat.ble (o+xs.length) cs.length=true:=by rfl) (e:F4 xs=true:=by rfl):E0 w ⟨g,o,none⟩ xs 0/\∀ w',E6 w ⟨g,o,none⟩ xs w'->True/\K w':=
 ⟨c.may k a o xs (ze b) e,fun w' h=>⟨t6,d w' h (c.set k a h).1⟩⟩
theorem CtxF.c (h:CtxF S0 w0 S w l os R) (k:Nat) (a:l[k]?=some (g,T,cs)) {i:Nat} {v:Value} {K:Value->Prop} (b:cs[i]?=some v) (c:K v):∃ v,w.cell? ⟨g,i,none⟩=some v/\K v:=⟨v,h.cell k a i b,c⟩
theorem CtxF.a (c:CtxF S0 w0 S w l os R) (k:Nat) (a:l[k]?=some (g,T,cs)) {n:Nat} {K:List Value->Prop} (h:cs.length=n) (b:K cs):∃ ds:List Value,ds.length=n/\Go.Vc.cellsAt w ⟨g,0,none⟩ ds 0/\K ds:=⟨cs,h,c.cells k a,b⟩
theorem CtxF.a' (c:CtxF S0 w0 S w l os R) (k:Nat) (a:l[k]?=some (g,T,cs)) {n:Nat} {K:List Value->Prop} (h:cs.length=n) (b:K cs):∃ ds:List Value,ds.length=n/\Go.Vc.cellsAt w ⟨g,0,none⟩ ds 0/\True/\K ds:=⟨cs,h,c.cells k a,t6,b⟩
theorem CtxF.n (c:CtxF S0 w0 S w l os R) {K:Nat->World->Prop} (k:∀ g w',New w cs T g w'->CtxF S0 w0 S w' ((g,T,cs)::l) os R->K g w'):∀ g w',New w cs T g w'->K g w':=fun g w' h=>k g w' h (c.loc h).1
theorem CtxF.n' (c:CtxF S0 w0 S w l os R) {K:Nat->World->Prop} (k:∀ g w',New w cs T g w'->CtxF S0 w0 S w' ((g,T,cs)::l) os R->K g w'):∀ g w',New w cs T g w'->True/\K g w':=fun g w' h=>⟨t6,k g w' h (c.loc h).1⟩
theorem CtxF.q (c:CtxF S0 w0 S w l os R) {P:Program} {n:Nat} {a:List Value} {v:Value} {K:Value->World->Prop} (b:Calls P n a.toArray w (D4 v w)) (k:∀ w',Below w.heap.size w w'->CtxF S0 w0 S w' l os R->K v w'):CallVc P n a w K:=B8 b fun w' h=>k w' h (c.quiet h).1
theorem CtxF.q' (c:CtxF S0 w0 S w l os R) {P:Program} {n:Nat} {a:List Value} {v:Value} {K:Value->World->Prop} (b:Calls P n a.toArray w (D4 v w)) (k:∀ w',Below w.heap.size w w'->CtxF S0 w0 S w' l os R->K v w'):CallVc P n a w (fun v w'=>True/\K v w'):=B8 b fun w' h=>⟨t6,k w' h (c.quiet h).1⟩
end
end Go.Vc
end
namespace Go.Proofs.YtefdfaeieekioaaGreatDoor
open Go.Vc Go.RowKit Go.Fl
theorem B67 (l:List Ent) (s:Int) (d:D) (h:Bool) (e:Ent) (a:(I0 l d.key).isSome=h) (b:(I0 l d.key).getD ⟨d.key,[]⟩=e):
  doK l s d=if d.kind==3 then Q2 l (posK l d.key) e d.ver else if d.kind==1&&!M6 e d.cond d.tag then (l,⟨9,0⟩) else if d.kind==2&&!h then (l,⟨6,0⟩)
   else if 12<=e.vs.length||(!h&&decide (40<=l.length)) then (l,⟨5,0⟩) else (A3D l d.key h [⟨e.key,e.vs++[⟨s,d.kind==2,d.body⟩]⟩],⟨0,s⟩):=by
 unfold doK;simp only [a,b];cases k:(d.kind==3)
 ·rfl
 ·cases h with
  | true=>
   unfold Q2 A3D;cases A3B e.vs d.ver<;>rfl
  | false=>
   cases c:I0 l d.key with
   | some x=>rw [c] at a;cases a
   | none=>
    rw [c] at b;subst b;rfl
theorem Row.cutS {S:Nat->Prop} {w:World} {A:Option Addr} {n c:Nat} {xs:List Value} (h:Row S w A n c xs):Row (fun b=>S b/\b<w.heap.size) w A n c xs:=
 ⟨h.1,h.2.1,fun x=>by
  obtain⟨d,e,s,a⟩:=h.2.2 x;refine⟨d,e,⟨s,?_⟩,a⟩;cases xs with
  | nil=>exact absurd rfl x
  | cons v r=>
   have h0:=a 0 v rfl;have:=World.block_lt_of_cell? w _ h0;rwa [P2] at this⟩
theorem B2a {S:Nat->Prop} {w a:World}:∀ b,ext (fun b=>S b/\b<w.heap.size) w a b->ext S w a b:=fun b h=>by
 obtain h|h:=h
 ·exact .inl h.1
 ·exact .inr h
theorem RepEs.cutS {S:Nat->Prop} {w:World} {l:List Ent} {css:List (List Value)} (h:RepEs S w l css):RepEs (fun b=>S b/\b<w.heap.size) w l css:=h.map (fun h=>Row.cutS h)
theorem RepEs.wide {a S:Nat->Prop} {w:World} {l:List Ent} {css:List (List Value)} (h:RepEs a w l css) (f:∀ b,a b->S b):RepEs S w l css:=h.map (fun h=>h.wide f)
theorem RepEs.fut {b S:Nat->Prop} {a w:World} {l:List Ent} {css:List (List Value)} (h:RepEs b a l css) (f:Fut b a S w):RepEs S w l css:=h.map (fun h=>h.fut f)
theorem RetK.wide {s:Stt} {B:Option Addr} {a:Nat} {b h l d g:Int} {S:Nat->Prop} {q:List Ent × Res} {w w':World} {e:Ending} (k:RetK s B a b h l d g (fun f=>S f/\f<w.heap.size) q w e w'):RetK s B a b h l d g S q w e w':=by obtain⟨A,c,i,m,o,j,n⟩:=k;exact⟨A,c,i,m,o,j.wide B2a,n.wide B2a⟩
theorem A3R:∀ (l:List Ent) (k:ByteArray),posK l k<=l.length
 | [],_=>zc _
 | e::r,k=>by
  rw [posK];split
  ·exact Nat.succ_le_succ (A3R r k)
  ·exact zb _
def B2b (l:List Ent) (css:List (List Value)) (A:Option Addr) (cap:Nat):Kn:=fun S w=>RepEs S w l css/\Row S w A l.length cap css.flatten
theorem A4a (l:List Ent) (c:List (List Value)) (A:Option Addr) (a:Nat):Stab (B2b l c A a):=fun _ _ _ _ h f=>⟨RepEs.fut h.1 f,h.2.fut f⟩
theorem B5M (s:Stt) (d:D) (A B:Option Addr) (cap u:Nat) (N I G P J:Int) (el:s.lows=[N,I,G,P,J]) (c:List (List Value)) (S:Nat->Prop) (w:World) (c4:∀ a3,S a3->a3<w.heap.size) (E:RepEs S w s.l c) (O:Row S w A s.l.length cap c.flatten) (hM:Row S w B s.ms.length u (s.ms.map G0).flatten)
  (Q:s.l.length<=1000000) (hp:s.l.Pairwise (fun a a3=>E4 a.key a3.key=true)) (e7:∀ e∈s.l,e.vs.length<=1000000/\(e.vs.length≠0->(K1 e.vs).ver<s.seq)/\(A6d e).1.body.size<=maxLen) (q:I0 s.l d.key=none):
  Calls Tryz.prog 235 #[.agg (stC s A cap B u N I G P J).toArray,.agg (dC d).toArray] w (RetK s B u N I G P J S (doK s.l s.seq d) w):=by
 have b8:RepS S w s (stC s A cap B u N I G P J):=⟨A,cap,c,B,u,by rw [el];rfl,by rw [el];rfl,E,O,hM⟩;have e0:=E2 O;refine vE Tryz.func235 ?_;intro g2 w1 h1;have h:=((CtxF.start w S c4 (R:=B2b s.l c A cap) ⟨E,O⟩ (A4a _ _ _ _)).loc h1).1;refine h.n fun g3 w2 h2 h=>?_;refine h.n fun g4 w3 h3 h=>?_;refine h.n fun g5 w4 h4 h=>?_;refine h.a 3 rfl rfl ?_;refine h.c 2 rfl rfl ?_;have a9:=A9P s d.key hp Q _ S w4 (b8.below h.below);rw [q] at a9;refine B8 a9 ?_;clear a9;intro w5 h5;have h:=(h.quiet h5).1;refine h.c 2 rfl rfl ?_;refine h.n fun g8 w6 h6 h=>?_;refine⟨h.may 0 rfl _ _ (zc 2) rfl,?_⟩;intro w7 h7;have h:=(h.set 0 rfl h7).1;have i:=B67 s.l s.seq d;rw [q] at i;obtain⟨e,he⟩:∃ e:Ent,e=⟨d.key,[]⟩:=⟨_,rfl⟩;have i:=i false e rfl (by rw [he];rfl);have K:e.vs=[]:=by rw [he]
 have d2:(A6d e).1.body.size<=maxLen:=by rw [he];exact zb _
 have T:Row S w none 0 0 (([]:List Ver).map J0).flatten:=⟨zc _,zb _,fun t=>absurd rfl t⟩;obtain⟨n,C,T,h⟩:∃ (n:Option Addr) (C:Nat),Row S w n e.vs.length C (e.vs.map J0).flatten/\CtxF S w S w7 [(g8,99,[.string e.key,.slice n e.vs.length C]),(g5,36,[.int .i64 0,.int .i64 0]),(g4,41,(lay.ty 41).zero),(g3,45,dC d),(g2,41,stC s A cap B u N I G P J)] [] (B2b s.l c A cap):=⟨none,0,by rw [K];exact T,by rw [he];exact h⟩;have b2:e.vs.length<=1000000:=by rw [K];exact zb _
 have a2:¬ 12<=e.vs.length:=by rw [K];decide
 refine h.c 0 rfl rfl ?_;refine df (show ¬ (12:Int)<=(e.vs.length:Int) by omega) ?_;refine h.c 4 rfl rfl ?_;refine h.c 4 rfl rfl ?_;refine h.c 3 rfl rfl ?_;refine h.c 3 rfl rfl ?_;refine h.n fun e2 e6 d8 h=>?_;refine⟨h.may 0 rfl _ _ (zc 3) rfl,?_⟩;intro b7 d6;have h:=(h.set 0 rfl d6).1;refine h.c 4 rfl rfl ?_;cases k:(d.kind==3);rotate_left
 ·refine B5 k ?_;rw [show doK s.l s.seq d=Q2 s.l (posK s.l d.key) e d.ver by rw [i,k];rfl];refine h.a 5 rfl rfl ?_;refine h.a 1 rfl rfl ?_;refine h.c 4 rfl rfl ?_;refine⟨(A1u s A B cap u N I G P J c S b7 (E.below h.below) (O.below h.below) Q (posK s.l d.key) e n C (T.below h.below) b2 d.ver (fun t=>by rw [K] at t;cases t)).mono fun H c3 q=>?_⟩;obtain⟨A5,c5,b3,e5,a2,d3,d1⟩:=q;have h:=(h.call a2).1.know (X:=fun S w=>RepEs S w (Q2 s.l (posK s.l d.key) e d.ver).1 b3/\Row S w A5 (Q2 s.l (posK s.l d.key) e d.ver).1.length c5 b3.flatten) ⟨d3,d1⟩ (fun _ _ _ _ t b6=>⟨RepEs.fut t.1 b6,t.2.fut b6⟩);refine⟨_,e5,h.may 3 rfl 0 _ (nle rfl) rfl,?_⟩;intro M f;have h:=(h.set 3 rfl f).1;refine⟨h.may 2 rfl 0 _ (nle rfl) rfl,?_⟩;intro F b;have h:=(h.set 2 rfl b).1;refine h.a 3 rfl rfl ?_;refine h.a 2 rfl rfl ?_;exact⟨A5,c5,b3,rfl,h.below,h.out.2.1,h.out.2.2⟩
 refine B4 k ?_;refine h.c 4 rfl rfl ?_;cases k1:(d.kind==1)
 ·refine B4 k1 ?_;have L:(d.kind==1&&!M6 e d.cond d.tag)=false:=by rw [k1];rfl
  cases y:(d.kind==2)
  ·skip
   refine h.c 4 rfl rfl ?_;refine B4 y ?_;have U:(d.kind==2&&!false)=false:=by rw [y];rfl
   obtain V|V:=zm s.l.length 40;rotate_left
   ·refine dt (show (40:Int)<=(s.l.length:Int) by omega) ?_;rw [show doK s.l s.seq d=(s.l,⟨5,0⟩) by rw [i,k,L,U,zz V,Bool.not_false,Bool.true_and,Bool.or_true];rfl];refine h.a 5 rfl rfl ?_;refine⟨h.may 3 rfl 0 _ (nle rfl) rfl,?_⟩;intro M f;have h:=(h.set 3 rfl f).1;refine⟨h.may 2 rfl 0 _ (nle rfl) rfl,?_⟩;intro F b;have h:=(h.set 2 rfl b).1;refine h.a 3 rfl rfl ?_;refine h.a 2 rfl rfl ?_;exact⟨A,cap,c,rfl,h.below,h.out.1,h.out.2⟩
   refine df (show ¬ (40:Int)<=(s.l.length:Int) by omega) ?_;have r:doK s.l s.seq d=(A3D s.l d.key false [⟨e.key,e.vs++[⟨s.seq,d.kind==2,d.body⟩]⟩],⟨0,s.seq⟩):=by rw [i,k,L,U,y8 (show ¬ 40<=s.l.length by omega),y8 a2];rfl
   have Z:A7y e ⟨s.seq,d.kind==2,d.body⟩=(⟨e.key,e.vs++[⟨s.seq,d.kind==2,d.body⟩]⟩,true):=by
    rw [A7y,yo];rintro (h' | h')
    ·exact absurd (by rw [K];rfl) h'.1
    ·omega
   obtain⟨v,a0⟩:∃ v:List Ver,v=e.vs++[⟨s.seq,d.kind==2,d.body⟩]:=⟨_,rfl⟩;rw [<-a0] at Z r;clear a0;rw [r];clear r;refine h.a 1 rfl rfl ?_;refine h.a 0 rfl rfl ?_;refine⟨(A3K e ⟨s.seq,d.kind==2,d.body⟩ n C b2 S _ (T.below h.below)).mono fun H c9 q=>?_⟩;rw [Z] at q;obtain⟨j,p,e1,b0,o⟩:=q;simp only at e1 o;have h:=h.fresh b0 o;obtain⟨S1,d4,h⟩:=h.told;refine⟨_,e1,h.may 1 rfl 0 _ (zc 2) rfl,?_⟩;intro a5 a8;have h:=(h.set 1 rfl a8).1;refine h.c 5 rfl rfl ?_;refine⟨(J1 A s.l.length cap c E.flat E.len Q S a5 (O.below h.below)).mono fun H d7 q=>?_⟩;obtain⟨A3,b5,e3,a6,o⟩:=q;have h:=h.fresh a6 o;refine⟨_,e3,?_⟩;refine h.s 5 rfl fun c8 c6 h=>?_;refine h.c 5 rfl rfl ?_;refine h.a 1 rfl rfl ?_;refine h.n fun a4 c2 d0 h=>?_;have l:=E.len;obtain⟨m,z⟩:=h.others;have hd:=A3M m c E.flat (by rw [l];exact Q) (A:=A3) (cap:=b5) (by rw [l];exact z) (posK s.l d.key) (by rw [l];exact A3R _ _) 0 a4 [.string e.key,.slice j v.length p] rfl rfl rfl;rw [l] at hd;refine⟨hd.mono fun H c1 q=>?_⟩;obtain⟨A4,a1,e4,m,b4,z⟩:=q;have h:=h.back (o':=⟨99,2,A4,s.l.length+1,a1,(c.take (posK s.l d.key)).flatten++[.string e.key,.slice j v.length p]++(c.drop (posK s.l d.key)).flatten⟩) m b4 z (fun x g=>⟨x,g,rfl⟩);refine⟨_,e4,h.may 6 rfl _ _ (nle rfl) rfl,?_⟩;intro c7 b1;have h:=(h.set 6 rfl b1).1.drop;obtain⟨S2,b9,h⟩:=h.told;refine vD (.Q [0,1,2,3] (.n 4 (.z 5) .stop)) (fun x=>Blk x g2 41 _) (h.blk 5 rfl) ?_;have h:=h.drew;refine⟨_,?_,fun x g=>C0 g 0 _ 0 (fun d5 c0 hj=>by simpa using hj),?_⟩
   ·rfl
   refine⟨_,fun x g=>g.cell 0,⟨h.may 3 rfl 0 _ (nle rfl) rfl,?_⟩,t6⟩;intro M f;have h:=(h.set 3 rfl f).1;refine⟨h.blk 5 rfl,h.may 2 rfl 0 _ (nle rfl) rfl,?_⟩;intro F b;have h:=(h.set 2 rfl b).1;refine h.a 3 rfl rfl ?_;refine h.a 2 rfl rfl ?_;have o:=h.out;have a7:A3D s.l d.key false [⟨e.key,v⟩]=s.l.take (posK s.l d.key)++[⟨e.key,v⟩]++s.l.drop (posK s.l d.key):=rfl;have Y:(A3D s.l d.key false [⟨e.key,v⟩]).length=s.l.length+1:=by have:=A3R s.l d.key;rw [a7,z6,z6,zg,zh];show min (posK s.l d.key) s.l.length+1+_=_;omega
   refine⟨A4,a1,c.take (posK s.l d.key)++[[.string e.key,.slice j v.length p]]++c.drop (posK s.l d.key),?_,h.below,?_,?_⟩
   ·simp only [Y];rfl
   ·refine ((o.1.1.1.take _).append ?_).append (o.1.1.1.drop _);exact⟨_,_,rfl,⟨j,p,rfl,o.1.2⟩,rfl⟩
   ·simp only [Y];rw [zt,zt,List.flatten_cons,List.flatten_nil,zx];exact o.2
  ·skip
   refine h.c 4 rfl rfl ?_;refine B5 y ?_;rw [show doK s.l s.seq d=(s.l,⟨6,0⟩) by rw [i,k,L,y];rfl];refine h.a 5 rfl rfl ?_;refine⟨h.may 3 rfl 0 _ (nle rfl) rfl,?_⟩;intro M f;have h:=(h.set 3 rfl f).1;refine⟨h.may 2 rfl 0 _ (nle rfl) rfl,?_⟩;intro F b;have h:=(h.set 2 rfl b).1;refine h.a 3 rfl rfl ?_;refine h.a 2 rfl rfl ?_;exact⟨A,cap,c,rfl,h.below,h.out.1,h.out.2⟩
 ·refine B5 k1 ?_;have y:(d.kind==2)=false:=by
   have:d.kind=1:=by simpa using k1
   rw [this];rfl
  refine h.a 1 rfl rfl ?_;refine h.c 4 rfl rfl ?_;refine h.c 4 rfl rfl ?_;refine h.q (A3J e d.cond d.tag n C S b7 (T.below h.below) d2) fun c3 d9 h=>?_;obtain W|W:=yj (M6 e d.cond d.tag);rotate_left
  ·refine B5 (by show (!M6 e d.cond d.tag)=true;rw [W];rfl) ?_;rw [show doK s.l s.seq d=(s.l,⟨9,0⟩) by rw [i,k,k1,W];rfl];refine h.a 5 rfl rfl ?_;refine⟨h.may 3 rfl 0 _ (nle rfl) rfl,?_⟩;intro M f;have h:=(h.set 3 rfl f).1;refine⟨h.may 2 rfl 0 _ (nle rfl) rfl,?_⟩;intro F b;have h:=(h.set 2 rfl b).1;refine h.a 3 rfl rfl ?_;refine h.a 2 rfl rfl ?_;exact⟨A,cap,c,rfl,h.below,h.out.1,h.out.2⟩
  refine B4 (by show (!M6 e d.cond d.tag)=false;rw [W];rfl) ?_;have L:(d.kind==1&&!M6 e d.cond d.tag)=false:=by rw [W,Bool.not_true,Bool.and_false]
  refine h.c 4 rfl rfl ?_;refine B4 y ?_;have U:(d.kind==2&&!false)=false:=by rw [y];rfl
  obtain V|V:=zm s.l.length 40;rotate_left
  ·refine dt (show (40:Int)<=(s.l.length:Int) by omega) ?_;rw [show doK s.l s.seq d=(s.l,⟨5,0⟩) by rw [i,k,L,U,zz V,Bool.not_false,Bool.true_and,Bool.or_true];rfl];refine h.a 5 rfl rfl ?_;refine⟨h.may 3 rfl 0 _ (nle rfl) rfl,?_⟩;intro M f;have h:=(h.set 3 rfl f).1;refine⟨h.may 2 rfl 0 _ (nle rfl) rfl,?_⟩;intro F b;have h:=(h.set 2 rfl b).1;refine h.a 3 rfl rfl ?_;refine h.a 2 rfl rfl ?_;exact⟨A,cap,c,rfl,h.below,h.out.1,h.out.2⟩
  refine df (show ¬ (40:Int)<=(s.l.length:Int) by omega) ?_;have r:doK s.l s.seq d=(A3D s.l d.key false [⟨e.key,e.vs++[⟨s.seq,d.kind==2,d.body⟩]⟩],⟨0,s.seq⟩):=by rw [i,k,L,U,y8 (show ¬ 40<=s.l.length by omega),y8 a2];rfl
  have Z:A7y e ⟨s.seq,d.kind==2,d.body⟩=(⟨e.key,e.vs++[⟨s.seq,d.kind==2,d.body⟩]⟩,true):=by
   rw [A7y,yo];rintro (h' | h')
   ·exact absurd (by rw [K];rfl) h'.1
   ·omega
  obtain⟨v,a0⟩:∃ v:List Ver,v=e.vs++[⟨s.seq,d.kind==2,d.body⟩]:=⟨_,rfl⟩;rw [<-a0] at Z r;clear a0;rw [r];clear r;refine h.a 1 rfl rfl ?_;refine h.a 0 rfl rfl ?_;refine⟨(A3K e ⟨s.seq,d.kind==2,d.body⟩ n C b2 S _ (T.below h.below)).mono fun H c9 q=>?_⟩;rw [Z] at q;obtain⟨j,p,e1,b0,o⟩:=q;simp only at e1 o;have h:=h.fresh b0 o;obtain⟨S1,d4,h⟩:=h.told;refine⟨_,e1,h.may 1 rfl 0 _ (zc 2) rfl,?_⟩;intro a5 a8;have h:=(h.set 1 rfl a8).1;refine h.c 5 rfl rfl ?_;refine⟨(J1 A s.l.length cap c E.flat E.len Q S a5 (O.below h.below)).mono fun H d7 q=>?_⟩;obtain⟨A3,b5,e3,a6,o⟩:=q;have h:=h.fresh a6 o;refine⟨_,e3,?_⟩;refine h.s 5 rfl fun c8 c6 h=>?_;refine h.c 5 rfl rfl ?_;refine h.a 1 rfl rfl ?_;refine h.n fun a4 c2 d0 h=>?_;have l:=E.len;obtain⟨m,z⟩:=h.others;have hd:=A3M m c E.flat (by rw [l];exact Q) (A:=A3) (cap:=b5) (by rw [l];exact z) (posK s.l d.key) (by rw [l];exact A3R _ _) 0 a4 [.string e.key,.slice j v.length p] rfl rfl rfl;rw [l] at hd;refine⟨hd.mono fun H c1 q=>?_⟩;obtain⟨A4,a1,e4,m,b4,z⟩:=q;have h:=h.back (o':=⟨99,2,A4,s.l.length+1,a1,(c.take (posK s.l d.key)).flatten++[.string e.key,.slice j v.length p]++(c.drop (posK s.l d.key)).flatten⟩) m b4 z (fun x g=>⟨x,g,rfl⟩);refine⟨_,e4,h.may 6 rfl _ _ (nle rfl) rfl,?_⟩;intro c7 b1;have h:=(h.set 6 rfl b1).1.drop;obtain⟨S2,b9,h⟩:=h.told;refine vD (.Q [0,1,2,3] (.n 4 (.z 5) .stop)) (fun x=>Blk x g2 41 _) (h.blk 5 rfl) ?_;have h:=h.drew;refine⟨_,?_,fun x g=>C0 g 0 _ 0 (fun d5 c0 hj=>by simpa using hj),?_⟩
  ·rfl
  refine⟨_,fun x g=>g.cell 0,⟨h.may 3 rfl 0 _ (nle rfl) rfl,?_⟩,t6⟩;intro M f;have h:=(h.set 3 rfl f).1;refine⟨h.blk 5 rfl,h.may 2 rfl 0 _ (nle rfl) rfl,?_⟩;intro F b;have h:=(h.set 2 rfl b).1;refine h.a 3 rfl rfl ?_;refine h.a 2 rfl rfl ?_;have o:=h.out;have a7:A3D s.l d.key false [⟨e.key,v⟩]=s.l.take (posK s.l d.key)++[⟨e.key,v⟩]++s.l.drop (posK s.l d.key):=rfl;have Y:(A3D s.l d.key false [⟨e.key,v⟩]).length=s.l.length+1:=by have:=A3R s.l d.key;rw [a7,z6,z6,zg,zh];show min (posK s.l d.key) s.l.length+1+_=_;omega
  refine⟨A4,a1,c.take (posK s.l d.key)++[[.string e.key,.slice j v.length p]]++c.drop (posK s.l d.key),?_,h.below,?_,?_⟩
  ·simp only [Y];rfl
  ·refine ((o.1.1.1.take _).append ?_).append (o.1.1.1.drop _);exact⟨_,_,rfl,⟨j,p,rfl,o.1.2⟩,rfl⟩
  ·simp only [Y];rw [zt,zt,List.flatten_cons,List.flatten_nil,zx];exact o.2
theorem B71 (s:Stt) (d:D) (b6 P:Option Addr) (j Q:Nat) (l0 l1 l2 l3 l4:Int) (el:s.lows=[l0,l1,l2,l3,l4]) (b:List (List Value)) (S:Nat->Prop) (w:World) (d8:∀ b8,S b8->b8<w.heap.size) (E:RepEs S w s.l b) (O:Row S w b6 s.l.length j b.flatten) (hM:Row S w P s.ms.length Q (s.ms.map G0).flatten)
  (hn:s.l.length<=1000000) (hp:s.l.Pairwise (fun a b8=>E4 a.key b8.key=true)) (e1:∀ e∈s.l,e.vs.length<=1000000/\(e.vs.length≠0->(K1 e.vs).ver<s.seq)/\(A6d e).1.body.size<=maxLen) (e:Ent) (q:I0 s.l d.key=some e):
  Calls Tryz.prog 235 #[.agg (stC s b6 j P Q l0 l1 l2 l3 l4).toArray,.agg (dC d).toArray] w (RetK s P Q l0 l1 l2 l3 l4 S (doK s.l s.seq d) w):=by
 have d5:RepS S w s (stC s b6 j P Q l0 l1 l2 l3 l4):=⟨b6,j,b,P,Q,by rw [el];rfl,by rw [el];rfl,E,O,hM⟩;have e4:=E2 O;refine vE Tryz.func235 ?_;intro g2 w1 h1;have h:=((CtxF.start w S d8 (R:=B2b s.l b b6 j) ⟨E,O⟩ (A4a _ _ _ _)).loc h1).1;refine h.n fun g3 w2 h2 h=>?_;refine h.n fun g4 w3 h3 h=>?_;refine h.n fun g5 w4 h4 h=>?_;refine h.a 3 rfl rfl ?_;refine h.c 2 rfl rfl ?_;have c1:=A9P s d.key hp hn _ S w4 (d5.below h.below);rw [q] at c1;refine B8 c1 ?_;clear c1;intro w5 h5;have h:=(h.quiet h5).1;refine h.c 2 rfl rfl ?_;refine h.n fun g8 w6 h6 h=>?_;refine⟨h.may 0 rfl _ _ (zc 2) rfl,?_⟩;intro w7 h7;have h:=(h.set 0 rfl h7).1;have m:=B67 s.l s.seq d;rw [q] at m;have m:=m true e rfl rfl;obtain⟨hg,_⟩:=W6 q;have F:posK s.l d.key<s.l.length:=(List.getElem?_eq_some_iff.1 hg).1;have e2:s.l[posK s.l d.key]=e:=(List.getElem?_eq_some_iff.1 hg).2;obtain⟨b5,c3,d1⟩:=e1 e (A6j q);refine h.c 4 rfl rfl ?_;obtain⟨n,I,K,G,b9,a1⟩:=RowE.elem O E (posK s.l d.key) F;have b9:=cellsAt_later h.below _ _ b9;rw [e2] at b9 a1;subst G;refine⟨⟨Int.natCast_nonneg _,Int.ofNat_lt.2 F⟩,[.string e.key,.slice I e.vs.length K],rfl,b9,h.may 0 rfl _ _ (zc 2) rfl,?_⟩;intro w8 h8;have h:=(h.set 0 rfl h8).1;have h:CtxF S w S w8 [(g8,99,[.string e.key,.slice I e.vs.length K]),(g5,36,[.int .i64 0,.int .i64 0]),(g4,41,(lay.ty 41).zero),(g3,45,dC d),(g2,41,stC s (some n) j P Q l0 l1 l2 l3 l4)] [] (B2b s.l b (some n) j):=h;refine h.c 0 rfl rfl ?_;obtain e6|u:=zm e.vs.length 12;rotate_left
 ·refine dt (show (12:Int)<=(e.vs.length:Int) by omega) ?_;refine h.c 4 rfl rfl ?_;refine h.c 3 rfl rfl ?_;refine h.c 3 rfl rfl ?_;refine h.n fun d9 e0 d6 h=>?_;refine⟨h.may 0 rfl _ _ (zc 3) rfl,?_⟩;intro b4 c6;have h:=(h.set 0 rfl c6).1;refine h.c 4 rfl rfl ?_;cases k:(d.kind==3);rotate_left
  ·refine B5 k ?_;rw [show doK s.l s.seq d=Q2 s.l (posK s.l d.key) e d.ver by rw [m,k];rfl];refine h.a 5 rfl rfl ?_;refine h.a 1 rfl rfl ?_;refine h.c 4 rfl rfl ?_;refine⟨(A1u s (some n) P j Q l0 l1 l2 l3 l4 b S b4 (E.below h.below) (O.below h.below) hn (posK s.l d.key) e I K (a1.below h.below) b5 d.ver (fun a4=>F)).mono fun en c0 q=>?_⟩;obtain⟨A5,c5,a5,e5,u,c4,c2⟩:=q;have h:=(h.call u).1.know (X:=fun S w=>RepEs S w (Q2 s.l (posK s.l d.key) e d.ver).1 a5/\Row S w A5 (Q2 s.l (posK s.l d.key) e d.ver).1.length c5 a5.flatten) ⟨c4,c2⟩ (fun _ _ _ _ a4 a6=>⟨RepEs.fut a4.1 a6,a4.2.fut a6⟩);refine⟨_,e5,h.may 3 rfl 0 _ (nle rfl) rfl,?_⟩;intro M i;have h:=(h.set 3 rfl i).1;refine⟨h.may 2 rfl 0 _ (nle rfl) rfl,?_⟩;intro H f;have h:=(h.set 2 rfl f).1;refine h.a 3 rfl rfl ?_;refine h.a 2 rfl rfl ?_;exact⟨A5,c5,a5,rfl,h.below,h.out.2.1,h.out.2.2⟩
  refine B4 k ?_;refine h.c 4 rfl rfl ?_;cases B:(d.kind==1)
  ·refine B4 B ?_;have L:(d.kind==1&&!M6 e d.cond d.tag)=false:=by rw [B];rfl
   cases J:(d.kind==2)
   ·skip
    refine h.c 4 rfl rfl ?_;refine B4 J ?_;have N:(d.kind==2&&!true)=false:=by rw [Bool.not_true,Bool.and_false]
    rw [show doK s.l s.seq d=(s.l,⟨5,0⟩) by rw [m,k,L,N,zz u];rfl];refine h.a 5 rfl rfl ?_;refine⟨h.may 3 rfl 0 _ (nle rfl) rfl,?_⟩;intro M i;have h:=(h.set 3 rfl i).1;refine⟨h.may 2 rfl 0 _ (nle rfl) rfl,?_⟩;intro H f;have h:=(h.set 2 rfl f).1;refine h.a 3 rfl rfl ?_;refine h.a 2 rfl rfl ?_;exact⟨(some n),j,b,rfl,h.below,h.out.1,h.out.2⟩
   ·skip
    refine h.c 4 rfl rfl ?_;refine B5 J ?_;have N:(d.kind==2&&!true)=false:=by rw [Bool.not_true,Bool.and_false]
    rw [show doK s.l s.seq d=(s.l,⟨5,0⟩) by rw [m,k,L,N,zz u];rfl];refine h.a 5 rfl rfl ?_;refine⟨h.may 3 rfl 0 _ (nle rfl) rfl,?_⟩;intro M i;have h:=(h.set 3 rfl i).1;refine⟨h.may 2 rfl 0 _ (nle rfl) rfl,?_⟩;intro H f;have h:=(h.set 2 rfl f).1;refine h.a 3 rfl rfl ?_;refine h.a 2 rfl rfl ?_;exact⟨(some n),j,b,rfl,h.below,h.out.1,h.out.2⟩
  ·refine B5 B ?_;have J:(d.kind==2)=false:=by
    have:d.kind=1:=by simpa using B
    rw [this];rfl
   refine h.a 1 rfl rfl ?_;refine h.c 4 rfl rfl ?_;refine h.c 4 rfl rfl ?_;refine h.q (A3J e d.cond d.tag I K S b4 (a1.below h.below) d1) fun c0 d7 h=>?_;obtain t|t:=yj (M6 e d.cond d.tag);rotate_left
   ·refine B5 (by show (!M6 e d.cond d.tag)=true;rw [t];rfl) ?_;rw [show doK s.l s.seq d=(s.l,⟨9,0⟩) by rw [m,k,B,t];rfl];refine h.a 5 rfl rfl ?_;refine⟨h.may 3 rfl 0 _ (nle rfl) rfl,?_⟩;intro M i;have h:=(h.set 3 rfl i).1;refine⟨h.may 2 rfl 0 _ (nle rfl) rfl,?_⟩;intro H f;have h:=(h.set 2 rfl f).1;refine h.a 3 rfl rfl ?_;refine h.a 2 rfl rfl ?_;exact⟨(some n),j,b,rfl,h.below,h.out.1,h.out.2⟩
   refine B4 (by show (!M6 e d.cond d.tag)=false;rw [t];rfl) ?_;have L:(d.kind==1&&!M6 e d.cond d.tag)=false:=by rw [t,Bool.not_true,Bool.and_false]
   refine h.c 4 rfl rfl ?_;refine B4 J ?_;have N:(d.kind==2&&!true)=false:=by rw [Bool.not_true,Bool.and_false]
   rw [show doK s.l s.seq d=(s.l,⟨5,0⟩) by rw [m,k,L,N,zz u];rfl];refine h.a 5 rfl rfl ?_;refine⟨h.may 3 rfl 0 _ (nle rfl) rfl,?_⟩;intro M i;have h:=(h.set 3 rfl i).1;refine⟨h.may 2 rfl 0 _ (nle rfl) rfl,?_⟩;intro H f;have h:=(h.set 2 rfl f).1;refine h.a 3 rfl rfl ?_;refine h.a 2 rfl rfl ?_;exact⟨(some n),j,b,rfl,h.below,h.out.1,h.out.2⟩
 have u:¬ 12<=e.vs.length:=by omega
 refine df (show ¬ (12:Int)<=(e.vs.length:Int) by omega) ?_;refine h.c 4 rfl rfl ?_;refine h.c 3 rfl rfl ?_;refine h.c 3 rfl rfl ?_;refine h.n fun d9 e0 d6 h=>?_;refine⟨h.may 0 rfl _ _ (zc 3) rfl,?_⟩;intro b4 c6;have h:=(h.set 0 rfl c6).1;refine h.c 4 rfl rfl ?_;cases k:(d.kind==3);rotate_left
 ·refine B5 k ?_;rw [show doK s.l s.seq d=Q2 s.l (posK s.l d.key) e d.ver by rw [m,k];rfl];refine h.a 5 rfl rfl ?_;refine h.a 1 rfl rfl ?_;refine h.c 4 rfl rfl ?_;refine⟨(A1u s (some n) P j Q l0 l1 l2 l3 l4 b S b4 (E.below h.below) (O.below h.below) hn (posK s.l d.key) e I K (a1.below h.below) b5 d.ver (fun a4=>F)).mono fun en c0 q=>?_⟩;obtain⟨A5,c5,a5,e5,u,c4,c2⟩:=q;have h:=(h.call u).1.know (X:=fun S w=>RepEs S w (Q2 s.l (posK s.l d.key) e d.ver).1 a5/\Row S w A5 (Q2 s.l (posK s.l d.key) e d.ver).1.length c5 a5.flatten) ⟨c4,c2⟩ (fun _ _ _ _ a4 a6=>⟨RepEs.fut a4.1 a6,a4.2.fut a6⟩);refine⟨_,e5,h.may 3 rfl 0 _ (nle rfl) rfl,?_⟩;intro M i;have h:=(h.set 3 rfl i).1;refine⟨h.may 2 rfl 0 _ (nle rfl) rfl,?_⟩;intro H f;have h:=(h.set 2 rfl f).1;refine h.a 3 rfl rfl ?_;refine h.a 2 rfl rfl ?_;exact⟨A5,c5,a5,rfl,h.below,h.out.2.1,h.out.2.2⟩
 refine B4 k ?_;refine h.c 4 rfl rfl ?_;cases B:(d.kind==1)
 ·refine B4 B ?_;have L:(d.kind==1&&!M6 e d.cond d.tag)=false:=by rw [B];rfl
  cases J:(d.kind==2)
  ·skip
   refine h.c 4 rfl rfl ?_;refine B4 J ?_;have N:(d.kind==2&&!true)=false:=by rw [Bool.not_true,Bool.and_false]
   have r:doK s.l s.seq d=(A3D s.l d.key true [⟨e.key,e.vs++[⟨s.seq,d.kind==2,d.body⟩]⟩],⟨0,s.seq⟩):=by rw [m,k,L,N,y8 u];rfl
   have Y:A7y e ⟨s.seq,d.kind==2,d.body⟩=(⟨e.key,e.vs++[⟨s.seq,d.kind==2,d.body⟩]⟩,true):=by
    rw [A7y,yo];rintro (z | z)
    ·have:=c3 z.1;exact absurd z.2 (by show ¬ s.seq<=(K1 e.vs).ver;omega)
    ·omega
   obtain⟨v,a0⟩:∃ v:List Ver,v=e.vs++[⟨s.seq,d.kind==2,d.body⟩]:=⟨_,rfl⟩;rw [<-a0] at Y r;clear a0;rw [r];clear r;refine h.a 1 rfl rfl ?_;refine h.a 0 rfl rfl ?_;refine⟨(A3K e ⟨s.seq,d.kind==2,d.body⟩ I K b5 S _ (a1.below h.below)).mono fun en d0 q=>?_⟩;rw [Y] at q;obtain⟨A,p,G,b1,o⟩:=q;simp only at G o;have h:=h.fresh b1 o;obtain⟨S1,d2,h⟩:=h.told;refine⟨_,G,h.may 1 rfl 0 _ (zc 2) rfl,?_⟩;intro a7 b0;have h:=(h.set 1 rfl b0).1;refine h.c 5 rfl rfl ?_;refine⟨(J1 (some n) s.l.length j b E.flat E.len hn S a7 (O.below h.below)).mono fun en d4 q=>?_⟩;obtain⟨U,a3,e3,a8,o⟩:=q;have h:=h.fresh a8 o;refine⟨_,e3,?_⟩;refine h.s 5 rfl fun b2 c9 h=>?_;refine h.c 5 rfl rfl ?_;refine h.a 1 rfl rfl ?_;cases l:U with
   | none=>
    have hz:s.l.length=0:=(h.fst.none' l).1;omega
   | some a=>
   obtain⟨g,b3,V,h,T,b7,Z,a9⟩:=h.opened l;rw [l] at V;cases V;refine⟨⟨Int.natCast_nonneg _,Int.ofNat_lt.2 F⟩,?_⟩;generalize a2:((⟨g,0,none⟩:Addr).add ((posK s.l d.key:Int).toNat*2))=ae;rw [yi,zn,zi] at a2;subst a2;refine⟨h.may 0 rfl (posK s.l d.key*2) [.string e.key,.slice A v.length p] (by show posK s.l d.key*2+2<=b3.length;omega) rfl,?_⟩;intro w17 y;have y:E6 b2 ⟨g,posK s.l d.key*2,none⟩ [.string e.key,.slice A v.length p] w17:=y;have h:=(h.set 0 rfl y).1;have h:=CtxF.closed h 2 s.l.length a3 Z a9 (by rw [putAt_len,T]);rw [A5Q (c:=[.string e.key,.slice A v.length p]) E.flat rfl T E.len Z b7 _ F] at h;obtain⟨S2,c7,h⟩:=h.told;refine vD (.Q [0,1,2,3] (.n 4 (.z 5) .stop)) (fun x=>Blk x g2 41 _) (h.blk 5 rfl) ?_;have h:=h.drew;refine⟨_,?_,fun x C=>C0 C 0 _ 0 (fun d3 c8 hj=>by simpa using hj),?_⟩
   ·rfl
   refine⟨_,fun x C=>C.cell 0,⟨h.may 3 rfl 0 _ (nle rfl) rfl,?_⟩,t6⟩;intro M i;have h:=(h.set 3 rfl i).1;refine⟨h.blk 5 rfl,h.may 2 rfl 0 _ (nle rfl) rfl,?_⟩;intro H f;have h:=(h.set 2 rfl f).1;refine h.a 3 rfl rfl ?_;refine h.a 2 rfl rfl ?_;have o:=h.out;have W:(A3D s.l d.key true [⟨e.key,v⟩]).length=s.l.length:=by unfold A3D;rw [yn rfl,z6,z6,zg,zh];show min (posK s.l d.key) s.l.length+1+_=_;omega
   refine⟨U,a3,b.take (posK s.l d.key)++[[.string e.key,.slice A v.length p]]++b.drop (posK s.l d.key+1),?_,h.below,?_,?_⟩
   ·simp only [W];rfl
   ·refine ((o.1.1.1.take _).append ?_).append (o.1.1.1.drop _);exact⟨_,_,rfl,⟨A,p,rfl,o.1.2⟩,rfl⟩
   ·simp only [W];rw [l];exact o.2
  ·skip
   refine h.c 4 rfl rfl ?_;refine B5 J ?_;have N:(d.kind==2&&!true)=false:=by rw [Bool.not_true,Bool.and_false]
   have r:doK s.l s.seq d=(A3D s.l d.key true [⟨e.key,e.vs++[⟨s.seq,d.kind==2,d.body⟩]⟩],⟨0,s.seq⟩):=by rw [m,k,L,N,y8 u];rfl
   have Y:A7y e ⟨s.seq,d.kind==2,d.body⟩=(⟨e.key,e.vs++[⟨s.seq,d.kind==2,d.body⟩]⟩,true):=by
    rw [A7y,yo];rintro (z | z)
    ·have:=c3 z.1;exact absurd z.2 (by show ¬ s.seq<=(K1 e.vs).ver;omega)
    ·omega
   obtain⟨v,a0⟩:∃ v:List Ver,v=e.vs++[⟨s.seq,d.kind==2,d.body⟩]:=⟨_,rfl⟩;rw [<-a0] at Y r;clear a0;rw [r];clear r;refine h.a 1 rfl rfl ?_;refine h.a 0 rfl rfl ?_;refine⟨(A3K e ⟨s.seq,d.kind==2,d.body⟩ I K b5 S _ (a1.below h.below)).mono fun en d0 q=>?_⟩;rw [Y] at q;obtain⟨A,p,G,b1,o⟩:=q;simp only at G o;have h:=h.fresh b1 o;obtain⟨S1,d2,h⟩:=h.told;refine⟨_,G,h.may 1 rfl 0 _ (zc 2) rfl,?_⟩;intro a7 b0;have h:=(h.set 1 rfl b0).1;refine h.c 5 rfl rfl ?_;refine⟨(J1 (some n) s.l.length j b E.flat E.len hn S a7 (O.below h.below)).mono fun en d4 q=>?_⟩;obtain⟨U,a3,e3,a8,o⟩:=q;have h:=h.fresh a8 o;refine⟨_,e3,?_⟩;refine h.s 5 rfl fun b2 c9 h=>?_;refine h.c 5 rfl rfl ?_;refine h.a 1 rfl rfl ?_;cases l:U with
   | none=>
    have hz:s.l.length=0:=(h.fst.none' l).1;omega
   | some a=>
   obtain⟨g,b3,V,h,T,b7,Z,a9⟩:=h.opened l;rw [l] at V;cases V;refine⟨⟨Int.natCast_nonneg _,Int.ofNat_lt.2 F⟩,?_⟩;generalize a2:((⟨g,0,none⟩:Addr).add ((posK s.l d.key:Int).toNat*2))=ae;rw [yi,zn,zi] at a2;subst a2;refine⟨h.may 0 rfl (posK s.l d.key*2) [.string e.key,.slice A v.length p] (by show posK s.l d.key*2+2<=b3.length;omega) rfl,?_⟩;intro w17 y;have y:E6 b2 ⟨g,posK s.l d.key*2,none⟩ [.string e.key,.slice A v.length p] w17:=y;have h:=(h.set 0 rfl y).1;have h:=CtxF.closed h 2 s.l.length a3 Z a9 (by rw [putAt_len,T]);rw [A5Q (c:=[.string e.key,.slice A v.length p]) E.flat rfl T E.len Z b7 _ F] at h;obtain⟨S2,c7,h⟩:=h.told;refine vD (.Q [0,1,2,3] (.n 4 (.z 5) .stop)) (fun x=>Blk x g2 41 _) (h.blk 5 rfl) ?_;have h:=h.drew;refine⟨_,?_,fun x C=>C0 C 0 _ 0 (fun d3 c8 hj=>by simpa using hj),?_⟩
   ·rfl
   refine⟨_,fun x C=>C.cell 0,⟨h.may 3 rfl 0 _ (nle rfl) rfl,?_⟩,t6⟩;intro M i;have h:=(h.set 3 rfl i).1;refine⟨h.blk 5 rfl,h.may 2 rfl 0 _ (nle rfl) rfl,?_⟩;intro H f;have h:=(h.set 2 rfl f).1;refine h.a 3 rfl rfl ?_;refine h.a 2 rfl rfl ?_;have o:=h.out;have W:(A3D s.l d.key true [⟨e.key,v⟩]).length=s.l.length:=by unfold A3D;rw [yn rfl,z6,z6,zg,zh];show min (posK s.l d.key) s.l.length+1+_=_;omega
   refine⟨U,a3,b.take (posK s.l d.key)++[[.string e.key,.slice A v.length p]]++b.drop (posK s.l d.key+1),?_,h.below,?_,?_⟩
   ·simp only [W];rfl
   ·refine ((o.1.1.1.take _).append ?_).append (o.1.1.1.drop _);exact⟨_,_,rfl,⟨A,p,rfl,o.1.2⟩,rfl⟩
   ·simp only [W];rw [l];exact o.2
 ·refine B5 B ?_;have J:(d.kind==2)=false:=by
   have:d.kind=1:=by simpa using B
   rw [this];rfl
  refine h.a 1 rfl rfl ?_;refine h.c 4 rfl rfl ?_;refine h.c 4 rfl rfl ?_;refine h.q (A3J e d.cond d.tag I K S b4 (a1.below h.below) d1) fun c0 d7 h=>?_;obtain t|t:=yj (M6 e d.cond d.tag);rotate_left
  ·refine B5 (by show (!M6 e d.cond d.tag)=true;rw [t];rfl) ?_;rw [show doK s.l s.seq d=(s.l,⟨9,0⟩) by rw [m,k,B,t];rfl];refine h.a 5 rfl rfl ?_;refine⟨h.may 3 rfl 0 _ (nle rfl) rfl,?_⟩;intro M i;have h:=(h.set 3 rfl i).1;refine⟨h.may 2 rfl 0 _ (nle rfl) rfl,?_⟩;intro H f;have h:=(h.set 2 rfl f).1;refine h.a 3 rfl rfl ?_;refine h.a 2 rfl rfl ?_;exact⟨(some n),j,b,rfl,h.below,h.out.1,h.out.2⟩
  refine B4 (by show (!M6 e d.cond d.tag)=false;rw [t];rfl) ?_;have L:(d.kind==1&&!M6 e d.cond d.tag)=false:=by rw [t,Bool.not_true,Bool.and_false]
  refine h.c 4 rfl rfl ?_;refine B4 J ?_;have N:(d.kind==2&&!true)=false:=by rw [Bool.not_true,Bool.and_false]
  have r:doK s.l s.seq d=(A3D s.l d.key true [⟨e.key,e.vs++[⟨s.seq,d.kind==2,d.body⟩]⟩],⟨0,s.seq⟩):=by rw [m,k,L,N,y8 u];rfl
  have Y:A7y e ⟨s.seq,d.kind==2,d.body⟩=(⟨e.key,e.vs++[⟨s.seq,d.kind==2,d.body⟩]⟩,true):=by
   rw [A7y,yo];rintro (z | z)
   ·have:=c3 z.1;exact absurd z.2 (by show ¬ s.seq<=(K1 e.vs).ver;omega)
   ·omega
  obtain⟨v,a0⟩:∃ v:List Ver,v=e.vs++[⟨s.seq,d.kind==2,d.body⟩]:=⟨_,rfl⟩;rw [<-a0] at Y r;clear a0;rw [r];clear r;refine h.a 1 rfl rfl ?_;refine h.a 0 rfl rfl ?_;refine⟨(A3K e ⟨s.seq,d.kind==2,d.body⟩ I K b5 S _ (a1.below h.below)).mono fun en d0 q=>?_⟩;rw [Y] at q;obtain⟨A,p,G,b1,o⟩:=q;simp only at G o;have h:=h.fresh b1 o;obtain⟨S1,d2,h⟩:=h.told;refine⟨_,G,h.may 1 rfl 0 _ (zc 2) rfl,?_⟩;intro a7 b0;have h:=(h.set 1 rfl b0).1;refine h.c 5 rfl rfl ?_;refine⟨(J1 (some n) s.l.length j b E.flat E.len hn S a7 (O.below h.below)).mono fun en d4 q=>?_⟩;obtain⟨U,a3,e3,a8,o⟩:=q;have h:=h.fresh a8 o;refine⟨_,e3,?_⟩;refine h.s 5 rfl fun b2 c9 h=>?_;refine h.c 5 rfl rfl ?_;refine h.a 1 rfl rfl ?_;cases l:U with
  | none=>
   have hz:s.l.length=0:=(h.fst.none' l).1;omega
  | some a=>
  obtain⟨g,b3,V,h,T,b7,Z,a9⟩:=h.opened l;rw [l] at V;cases V;refine⟨⟨Int.natCast_nonneg _,Int.ofNat_lt.2 F⟩,?_⟩;generalize a2:((⟨g,0,none⟩:Addr).add ((posK s.l d.key:Int).toNat*2))=ae;rw [yi,zn,zi] at a2;subst a2;refine⟨h.may 0 rfl (posK s.l d.key*2) [.string e.key,.slice A v.length p] (by show posK s.l d.key*2+2<=b3.length;omega) rfl,?_⟩;intro w17 y;have y:E6 b2 ⟨g,posK s.l d.key*2,none⟩ [.string e.key,.slice A v.length p] w17:=y;have h:=(h.set 0 rfl y).1;have h:=CtxF.closed h 2 s.l.length a3 Z a9 (by rw [putAt_len,T]);rw [A5Q (c:=[.string e.key,.slice A v.length p]) E.flat rfl T E.len Z b7 _ F] at h;obtain⟨S2,c7,h⟩:=h.told;refine vD (.Q [0,1,2,3] (.n 4 (.z 5) .stop)) (fun x=>Blk x g2 41 _) (h.blk 5 rfl) ?_;have h:=h.drew;refine⟨_,?_,fun x C=>C0 C 0 _ 0 (fun d3 c8 hj=>by simpa using hj),?_⟩
  ·rfl
  refine⟨_,fun x C=>C.cell 0,⟨h.may 3 rfl 0 _ (nle rfl) rfl,?_⟩,t6⟩;intro M i;have h:=(h.set 3 rfl i).1;refine⟨h.blk 5 rfl,h.may 2 rfl 0 _ (nle rfl) rfl,?_⟩;intro H f;have h:=(h.set 2 rfl f).1;refine h.a 3 rfl rfl ?_;refine h.a 2 rfl rfl ?_;have o:=h.out;have W:(A3D s.l d.key true [⟨e.key,v⟩]).length=s.l.length:=by unfold A3D;rw [yn rfl,z6,z6,zg,zh];show min (posK s.l d.key) s.l.length+1+_=_;omega
  refine⟨U,a3,b.take (posK s.l d.key)++[[.string e.key,.slice A v.length p]]++b.drop (posK s.l d.key+1),?_,h.below,?_,?_⟩
  ·simp only [W];rfl
  ·refine ((o.1.1.1.take _).append ?_).append (o.1.1.1.drop _);exact⟨_,_,rfl,⟨A,p,rfl,o.1.2⟩,rfl⟩
  ·simp only [W];rw [l];exact o.2
theorem B72 (s:Stt) (d:D) (A B:Option Addr) (p c:Nat) (b i l f g:Int) (n:s.lows=[b,i,l,f,g]) (j:List (List Value)) (S:Nat->Prop) (w:World) (E:RepEs S w s.l j) (R:Row S w A s.l.length p j.flatten) (M:Row S w B s.ms.length c (s.ms.map G0).flatten)
  (q:s.l.length<=1000000) (m:s.l.Pairwise (fun a k=>E4 a.key k.key=true)) (o:∀ e∈s.l,e.vs.length<=1000000/\(e.vs.length≠0->(K1 e.vs).ver<s.seq)/\(A6d e).1.body.size<=maxLen):
  Calls Tryz.prog 235 #[.agg (stC s A p B c b i l f g).toArray,.agg (dC d).toArray] w (RetK s B c b i l f g S (doK s.l s.seq d) w):=by
 cases r:I0 s.l d.key with
 | none=>exact (B5M s d A B p c b i l f g n j _ w (fun k h=>h.2) E.cutS (Row.cutS R) (Row.cutS M) q m o r).mono fun _ _ h=>h.wide
 | some e=>exact (B71 s d A B p c b i l f g n j _ w (fun k h=>h.2) E.cutS (Row.cutS R) (Row.cutS M) q m o e r).mono fun _ _ h=>h.wide
abbrev C07 (l:List Ent):Prop:=l.Pairwise (fun a b=>E4 a.key b.key=true)
abbrev C08 (l:List Mem):Prop:=l.Pairwise (fun a b=>a.req<b.req)
theorem B2c {s:Int} {p:Option ByteArray} {l:List Ent} (h:A2a s p l=true):C07 l:=((K3 _ _ _).1 h).2.1
theorem B2d {o:List Int} {s:Int} {p:Option Int} {l:List Mem} (h:A2T o s p l=true):C08 l:=((U1 _ _ _ _).1 h).2.1
theorem B2e {l:List Mem} (n:Nat) (m x:Mem):x∈l.take n++m::l.drop n↔x=m\/x∈l:=by
 rw [List.mem_append,List.mem_cons];have:x∈l↔x∈l.take n\/x∈l.drop n:=by rw [<-List.mem_append,List.take_append_drop]
 rw [this];constructor
 ·rintro (h | h | h)
  ·exact .inr (.inl h)
  ·exact .inl h
  ·exact .inr (.inr h)
 ·rintro (h | h | h)
  ·exact .inr (.inl h)
  ·exact .inl h
  ·exact .inr (.inr h)
theorem B2f {d:D} (h:M0 d=true):B7 d.req≠0:=by unfold M0 at h;simp only [z7,Bool.not_eq_true',ya,ne_eq] at h;exact h.1.1.1.2
inductive Done (s:Stt) (d:D):Prop where
 | form (h:P6 s=false\/M0 d=false) (e:doS s d=(s,⟨1,0⟩))
 | top (h:G5<=s.seq) (e:doS s d=(s,⟨5,0⟩))
 | old (hs:P6 s=true) (hd:M0 d=true) (hq:s.seq<G5) (h:d.req<M7 s.lows (B7 d.req)) (e:doS s d=(⟨s.seq+1,s.l,s.ms,s.lows⟩,⟨12,0⟩))
 | told (hs:P6 s=true) (hd:M0 d=true) (hq:s.seq<G5) (h:M7 s.lows (B7 d.req)<=d.req) (m:Mem) (hm:A0M s.ms d.req=some m) (e:doS s d=(⟨s.seq+1,s.l,s.ms,s.lows⟩,m.res))
 | full (hs:P6 s=true) (hd:M0 d=true) (hq:s.seq<G5) (h:M7 s.lows (B7 d.req)<=d.req) (hm:A0M s.ms d.req=none) (hf:100<=s.ms.length) (e:doS s d=(⟨s.seq+1,s.l,s.ms,s.lows⟩,⟨5,0⟩))
 | new (hs:P6 s=true) (hd:M0 d=true) (hq:s.seq<G5) (h:M7 s.lows (B7 d.req)<=d.req) (hm:A0M s.ms d.req=none) (hf:s.ms.length<100) (ms:List Mem) (lows:List Int)
   (hx:∀ m,m∈ms↔(m=⟨d.req,(doK s.l (s.seq+1) d).2⟩\/m∈s.ms)/\¬ (m.req<d.low/\B7 m.req=B7 d.req/\M7 s.lows (B7 d.req)<d.low/\B7 d.low=B7 d.req))
   (hl:lows=if M7 s.lows (B7 d.req)<d.low/\B7 d.low=B7 d.req then s.lows.set (B7 d.req-1).toNat d.low else s.lows)
   (e:doS s d=(⟨s.seq+1,(doK s.l (s.seq+1) d).1,ms,lows⟩,(doK s.l (s.seq+1) d).2))
theorem A9Q (s:Stt) (d:D):Done s d:=by
 cases h:P6 s with
 | false=>exact .form (.inl h) (by simp [doS,h])
 | true=>
 cases a:M0 d with
 | false=>exact .form (.inr a) (by simp [doS,a])
 | true=>
 by_cases q:G5<=s.seq
 ·exact .top q (by simp [doS,h,a,q])
 have g:s.seq<G5:=by omega
 by_cases b:d.req<M7 s.lows (B7 d.req)
 ·exact .old h a g b (by simp [doS,h,a,q,b])
 have j:M7 s.lows (B7 d.req)<=d.req:=by omega
 cases e:A0M s.ms d.req with
 | some m=>exact .told h a g j m e (by simp [doS,h,a,q,b,e])
 | none=>
 by_cases i:100<=s.ms.length
 ·exact .full h a g j e i (by simp [doS,h,a,q,b,e,i])
 by_cases f:M7 s.lows (B7 d.req)<d.low/\B7 d.low=B7 d.req
 ·refine .new h a g j e (by omega) (T9 d.low (B7 d.req) (s.ms.take (T2 s.ms d.req)++⟨d.req,(doK s.l (s.seq+1) d).2⟩::s.ms.drop (T2 s.ms d.req))) _ (fun m=>?_) rfl ?_
  ·unfold T9;rw [List.mem_filter,B2e];refine and_congr Iff.rfl ?_;simp only [Bool.not_eq_true',Bool.and_eq_false_iff,decide_eq_false_iff_not,ya,ne_eq,f,and_true,not_and];by_cases c:m.req<d.low<;>simp [c]
  ·rw [yn f];simp only [doS,h,a,q,b,e,i,f,Bool.not_true,Bool.or_false,Bool.false_eq_true,if_false,and_self,if_true]
 ·refine .new h a g j e (by omega) (s.ms.take (T2 s.ms d.req)++⟨d.req,(doK s.l (s.seq+1) d).2⟩::s.ms.drop (T2 s.ms d.req)) _ (fun m=>?_) rfl ?_
  ·rw [B2e];constructor
   ·intro b;exact⟨b,fun b=>f b.2.2⟩
   ·intro b;exact b.1
  ·rw [yo f];simp only [doS,h,a,q,b,e,i,f,Bool.not_true,Bool.or_false,Bool.false_eq_true,if_false]
theorem A6r {a:Stt} (b:D) (h:a.lows.length=5):(doS a b).1.lows.length=5:=by
 cases A9Q a b with
 | form h0 e=>rw [e];exact h
 | top h0 e=>rw [e];exact h
 | old s d q h0 e=>rw [e];exact h
 | told s d q h0 m c e=>rw [e];exact h
 | full s d q h0 c f e=>rw [e];exact h
 | new s d q h0 c f i l x g e=>
  rw [e];show l.length=5;rw [g];split
  ·rw [List.length_set];exact h
  ·exact h
def B73 (q:Stt × Res) (S:Nat->Prop) (w:World) (en:Ending) (w':World):Prop:=
 ∃ cs,en=.returned (.tuple #[.agg cs.toArray,.agg #[.int .i64 q.2.err,.int .i64 q.2.ver]])/\Below w.heap.size w w'/\RepS (ext S w w') w' q.1 cs
theorem RepS.mk' {S:Nat->Prop} {w:World} {s:Int} {l:List Ent} {m:List Mem} {o:List Int} {A B:Option Addr} {a c:Nat} {d h b e g:Int} {css:List (List Value)} (f:o=[d,h,b,e,g]) (E:RepEs S w l css) (R:Row S w A l.length a css.flatten) (M:Row S w B m.length c (m.map G0).flatten):
  RepS S w ⟨s,l,m,o⟩ [.int .i64 s,.slice A l.length a,.slice B m.length c,.int .i64 d,.int .i64 h,.int .i64 b,.int .i64 e,.int .i64 g]:=
 ⟨A,a,css,B,c,by subst f;rfl,by subst f;rfl,E,R,M⟩
theorem B2g (a:Addr) (c:List Value):Stab (fun S w=>S a.block/\Go.Vc.cellsAt w a c 0):=by
 have k:∀ (c:List Value) (i:Nat) (S S':Nat->Prop) (w w':World),S a.block->Fut S w S' w'->Go.Vc.cellsAt w a c i->Go.Vc.cellsAt w' a c i:=by
  intro c;induction c with
  | nil=>intros;trivial
  | cons v r d=>
   intro i S S' w w' b f h;exact⟨(World.cell?_of_block (f.2 _ (by rw [P2];exact b))).trans h.1,d _ S S' w w' b f h.2⟩
 intro S w S' w' h f;exact⟨f.1 _ h.1,k c 0 S S' w w' h.1 f h.2⟩
theorem RowM.elemR {S:Nat->Prop} {w:World} {A:Option Addr} {n p:Nat} {l:List Mem} (R:Row S w A n p (l.map G0).flatten) (i:Nat) (f:i<l.length):
  ∃ a b o s,A=some a/\a.add (i*3)=⟨b,o,s⟩/\S b/\Go.Vc.cellsAt w ⟨b,o,s⟩ (G0 l[i]) 0/\Go.Vc.cellsAt w ⟨b,o+1,none⟩ [.int .i64 l[i].res.err,.int .i64 l[i].res.ver] 0:=by
 obtain⟨a,e,h⟩:=RowM.elem R i f;obtain⟨q,d,k,_⟩:=R.2.2 (fun h=>by have:=(I6 l).len;rw [h,zl,List.length_nil] at this;omega);rw [e] at d;cases d;have c:=P2 a (i*3);generalize j:a.add (i*3)=ae at h c;obtain⟨b,o,s⟩:=ae;simp only at c;subst c;refine⟨a,a.block,o,s,e,j,k,h,?_⟩;obtain⟨_,g,m,_⟩:=h;refine⟨?_,?_,t6⟩
 ·have:(⟨a.block,o+1,none⟩:Addr).add 0=(⟨a.block,o,s⟩:Addr).add (0+1):=rfl;rw [this];exact g
 ·have:(⟨a.block,o+1,none⟩:Addr).add (0+1)=(⟨a.block,o,s⟩:Addr).add (0+1+1):=rfl;rw [this];exact m
def B5N (l:List Ent) (css:List (List Value)) (A:Option Addr) (cap:Nat) (ms:List Mem) (B:Option Addr) (cap':Nat):Kn:=fun S w=>RepEs S w l css/\Row S w A l.length cap css.flatten/\Row S w B ms.length cap' (ms.map G0).flatten
theorem B0M {l:List Ent} {s:List (List Value)} {A:Option Addr} {c:Nat} {m:List Mem} {B:Option Addr} {a:Nat}:Stab (B5N l s A c m B a):=fun _ _ _ _ h f=>⟨RepEs.fut h.1 f,h.2.1.fut f,h.2.2.fut f⟩
theorem C1q (l:List Mem) (i:Nat) (m:Mem):((l.map G0).take i).flatten++G0 m++((l.map G0).drop i).flatten=((l.take i++m::l.drop i).map G0).flatten:=by simp
theorem A5R:∀ (l:List Mem) (k:Int),T2 l k<=l.length
 | [],_=>zc _
 | e::r,k=>by
  rw [T2];split
  ·exact Nat.succ_le_succ (A5R r k)
  ·exact zb _
theorem A9R (e g k:Value) (a d l b c x:Int) (h j:Int) (r:1<=h/\h<=5) (p:j=h-1):∃ n i o m f,[a,d,l,b,c].set (h-1).toNat x=[n,i,o,m,f]/\
  C5 [e,g,k,.int .i64 a,.int .i64 d,.int .i64 l,.int .i64 b,.int .i64 c] (3+j.toNat) [.int .i64 x]=[e,g,k,.int .i64 n,.int .i64 i,.int .i64 o,.int .i64 m,.int .i64 f]:=by
 subst p;have:h=1\/h=2\/h=3\/h=4\/h=5:=by omega
 obtain rfl|rfl|rfl|rfl|rfl:=this
 ·exact⟨x,d,l,b,c,rfl,rfl⟩
 ·exact⟨a,x,l,b,c,rfl,rfl⟩
 ·exact⟨a,d,x,b,c,rfl,rfl⟩
 ·exact⟨a,d,l,x,c,rfl,rfl⟩
 ·exact⟨a,d,l,b,x,rfl,rfl⟩
theorem B2h {s:Stt} (h:P6 s=true):∀ e∈s.l,e.vs.length<=1000000/\(e.vs.length≠0->(K1 e.vs).ver<s.seq+1)/\(A6d e).1.body.size<=maxLen:=by
 intro e a;obtain⟨_,_,r,_⟩:=D5.1 h;have o:=((K3 _ _ _).1 r).1 e a;have p:=G2.1 o.1;have hv:=A0b o;refine⟨by omega,fun h0=>?_,?_⟩
 ·have:=o.2 _ (A3G (l:=e.vs) (fun h=>h0 (by rw [h];rfl)));omega
 ·rw [A6d,yo (by omega)];have:=hv _ (A3G (l:=e.vs) (fun h=>by rw [h] at p;simp at p));have:=(A0a this).2;simp only [maxLen];omega
theorem B74 (s:Stt) (d:D) (hk:∀ e∈s.l,U7 e.key) (z:d.Ok) (cs:List Value) (c:Nat->Prop) (f:World) (b6:∀ n,c n->n<f.heap.size) (hs:RepS c f s cs):Calls Tryz.prog 190 #[.agg cs.toArray,.agg (dC d).toArray] f (B73 (doS s d) c f):=by
 obtain⟨A,cap,a6,B,J,G,E,l2,H,F,rfl,N,hE,hR,hM⟩:=hs.shape;refine vE Tryz.func190 ?_;intro g w1 h1;have h:=((CtxF.start f c b6 (R:=B5N s.l a6 A cap s.ms B J) ⟨hE,hR,hM⟩ B0M).loc h1).1;refine h.n fun Y e0 f1 h=>?_;refine h.n fun g4 e3 f4 h=>?_;refine h.n fun g5 f0 f6 h=>?_;refine h.a 3 rfl rfl ?_;refine h.q (A1O s hk _ c _ (hs.below h.below)) fun wQ hQ h=>?_;have same:∀ (w':World) (Q:Res),Below f.heap.size f w'->doS s d=(s,Q)->B73 (doS s d) c f (.returned (.tuple #[.agg (stC s A cap B J G E l2 H F).toArray,.agg #[.int .i64 Q.err,.int .i64 Q.ver]])) w':=fun w' Q hb e=>by rw [e];exact⟨_,rfl,hb,hs.map (fun l=>l.old hb)⟩
 obtain K|K:=yj (P6 s);rotate_left
 ·refine B5 (by show (!P6 s)=true;rw [K];rfl) ?_;refine h.a 3 rfl rfl ?_;refine h.s 1 rfl fun w S h=>?_;refine h.s 0 rfl fun w S h=>?_;refine h.a 1 rfl rfl ?_;refine h.a 0 rfl rfl ?_;exact same _ ⟨1,0⟩ h.below (by simp [doS,K])
 refine B4 (by show (!P6 s)=false;rw [K];rfl) ?_;refine h.a 2 rfl rfl ?_;refine h.q (A0z d z _) fun wQ hQ h=>?_;obtain P|P:=yj (M0 d);rotate_left
 ·refine B5 (by show (!M0 d)=true;rw [P];rfl) ?_;refine h.a 3 rfl rfl ?_;refine h.s 1 rfl fun w S h=>?_;refine h.s 0 rfl fun w S h=>?_;refine h.a 1 rfl rfl ?_;refine h.a 0 rfl rfl ?_;exact same _ ⟨1,0⟩ h.below (by simp [doS,P])
 refine B4 (by show (!M0 d)=false;rw [P];rfl) ?_;refine h.c 3 rfl rfl ?_;obtain k|k:=Int.lt_or_le s.seq G5;rotate_left
 ·refine dt (show (1099511627776:Int)<=s.seq from k) ?_;refine h.a 3 rfl rfl ?_;refine h.s 1 rfl fun w S h=>?_;refine h.s 0 rfl fun w S h=>?_;refine h.a 1 rfl rfl ?_;refine h.a 0 rfl rfl ?_;exact same _ ⟨5,0⟩ h.below (by simp [doS,K,P,k])
 have k:s.seq<1099511627776:=k;refine df (show ¬ (1099511627776:Int)<=s.seq by omega) ?_;clear same;obtain⟨⟨e2,_⟩,⟨f8,f3⟩,d2,_,c9⟩:=D5.1 K;have d9:=Y4 d.req;have f7:=B2f P;have a4:1<=B7 d.req/\B7 d.req<=5:=by omega
 refine h.c 3 rfl rfl ?_;have d8:IntKind.i64.wrap (s.seq+1)=s.seq+1:=G8 _ _ (by omega) (by omega);refine⟨h.may 3 rfl _ _ (nle rfl) rfl,?_⟩;intro w5 h5;rw [d8] at h5;have h:=(h.set 3 rfl h5).1;have h:CtxF c f c w5 [(g5,36,[.int .i64 0,.int .i64 0]),(g4,41,(lay.ty 41).zero),(Y,45,dC d),(g,41,[.int .i64 (s.seq+1),.slice A s.l.length cap,.slice B s.ms.length J,.int .i64 G,.int .i64 E,.int .i64 l2,.int .i64 H,.int .i64 F])] [] (B5N s.l a6 A cap s.ms B J):=h;refine h.c 2 rfl rfl ?_;refine h.q (O8 d.req _) fun wQ hQ h=>?_;have d0:IntKind.i64.wrap (B7 d.req-1)=B7 d.req-1:=by rw [yh _ ⟨by omega,by omega⟩]
 refine h.n fun Z e6 f5 h=>?_;refine⟨h.may 0 rfl _ _ (zc 1) rfl,?_⟩;intro w6 h6;rw [d0] at h6;have h:=(h.set 0 rfl h6).1;have h:CtxF c f c w6 [(Z,3,[.int .i64 (B7 d.req-1)]),(g5,36,[.int .i64 0,.int .i64 0]),(g4,41,(lay.ty 41).zero),(Y,45,dC d),(g,41,[.int .i64 (s.seq+1),.slice A s.l.length cap,.slice B s.ms.length J,.int .i64 G,.int .i64 E,.int .i64 l2,.int .i64 H,.int .i64 F])] [] (B5N s.l a6 A cap s.ms B J):=h;refine h.a 4 rfl rfl ?_;refine h.c 3 rfl rfl ?_;have c2:RepS c f ⟨s.seq+1,s.l,s.ms,s.lows⟩ [.int .i64 (s.seq+1),.slice A s.l.length cap,.slice B s.ms.length J,.int .i64 G,.int .i64 E,.int .i64 l2,.int .i64 H,.int .i64 F]:=RepS.mk' N hE hR hM;refine h.q (B5K ⟨s.seq+1,s.l,s.ms,s.lows⟩ d.req (B2d c9) (by show s.ms.length<=_;omega) _ c _ (c2.below h.below)) fun wQ hQ h=>?_;have same:∀ (w':World) (Q:Res),Below f.heap.size f w'->doS s d=(⟨s.seq+1,s.l,s.ms,s.lows⟩,Q)->B73 (doS s d) c f (.returned (.tuple #[.agg #[.int .i64 (s.seq+1),.slice A s.l.length cap,.slice B s.ms.length J,.int .i64 G,.int .i64 E,.int .i64 l2,.int .i64 H,.int .i64 F],.agg #[.int .i64 Q.err,.int .i64 Q.ver]])) w':=fun w' Q hb e=>by rw [e];exact⟨_,rfl,hb,c2.map (fun l=>l.old hb)⟩
 have a5:¬ G5<=s.seq:=by show ¬ 1099511627776<=s.seq;omega
 have u:=A1N (h.blk 4 rfl) (B7 d.req) (B7 d.req-1) a4 rfl;rw [<-N] at u;refine vD (.Q [0,1,2,3,4,5,6,7] .fin) (Keeps (fun n=>n<wQ.heap.size) wQ) (Keeps.start _ _) ?_;refine⟨_,fun a x=>x.look (h.cell 3 rfl _ rfl),_,fun a x=>x.look (h.cell 0 rfl _ rfl),⟨by omega,by omega⟩,?_⟩;generalize i:((⟨g,0+3,none⟩:Addr).add ((B7 d.req-1).toNat*1))=ae at u ⊢;obtain⟨ab,ao,c3⟩:=ae;refine⟨_,fun a x=>x.look u,?_⟩;have h:=h.drew;obtain o|o:=Int.lt_or_le d.req (M7 s.lows (B7 d.req))
 ·refine dt o ?_;refine h.a 4 rfl rfl ?_;refine h.s 2 rfl fun w S h=>?_;refine h.s 1 rfl fun w S h=>?_;refine h.a 2 rfl rfl ?_;refine h.a 1 rfl rfl ?_;exact same _ ⟨12,0⟩ h.below (by simp [doS,K,P,a5,o])
 refine df (show ¬ d.req<M7 s.lows (B7 d.req) by omega) ?_;have b0:¬ d.req<M7 s.lows (B7 d.req):=by omega
 cases M:A0M s.ms d.req with
 | some m=>
  have c4:s.ms[T2 s.ms d.req]?=some m:=by
   unfold A0M at M;cases e1:s.ms[T2 s.ms d.req]? with
   | none=>rw [e1] at M;cases M
   | some a=>
    rw [e1] at M;simp only at M;split at M
    ·exact M
    ·cases M
  obtain⟨b5,d7⟩:=List.getElem?_eq_some_iff.1 c4;obtain⟨ad,ab,ao,c3,rfl,i,d1,_,b8⟩:=RowM.elemR hM (T2 s.ms d.req) b5;rw [d7] at b8;have h:=h.know (h.old (B2g ⟨ab,ao+1,none⟩ [.int .i64 m.res.err,.int .i64 m.res.ver]) ⟨d1,b8⟩ b6) (B2g _ _);refine vD (.Q [0,1,2,3,4,5,6] (.n 7 (.z 8) .stop)) (fun a=>Blk a g 41 _/\Go.Vc.cellsAt a ⟨ab,ao+1,none⟩ [.int .i64 m.res.err,.int .i64 m.res.ver] 0) ⟨h.blk 4 rfl,h.row.2.2⟩ ?_;refine⟨_,?_,fun a x=>C0 x.1 0 _ 0 (fun C v j=>by simpa using j),?_⟩
  ·rfl
  refine⟨_,fun a x=>x.1.cell 2,⟨Int.natCast_nonneg _,Int.ofNat_lt.2 b5⟩,?_⟩;rw [<-zi (T2 s.ms d.req)] at i;generalize ad.add ((T2 s.ms d.req:Int).toNat*3)=ae at i ⊢;subst i;refine⟨_,?_,fun a x=>x.2,?_⟩
  ·rfl
  have h:=h.drew;refine⟨h.s 2 rfl fun w S h=>?_,t6⟩;refine⟨⟨h.blk 4 rfl,h.row.2.2⟩,?_⟩;refine h.s 1 rfl fun w S h=>?_;refine h.a 2 rfl rfl ?_;refine h.a 1 rfl rfl ?_;exact same _ m.res h.below (by simp [doS,K,P,a5,b0,M])
 | none=>
 refine h.c 4 rfl rfl ?_;obtain hf|hf:=zm s.ms.length 100;rotate_left
 ·refine dt (show (100:Int)<=(s.ms.length:Int) by omega) ?_;refine h.a 4 rfl rfl ?_;refine h.s 2 rfl fun w S h=>?_;refine h.s 1 rfl fun w S h=>?_;refine h.a 2 rfl rfl ?_;refine h.a 1 rfl rfl ?_;exact same _ ⟨5,0⟩ h.below (by simp [doS,K,P,a5,o,b0,M,hf])
 refine df (show ¬ (100:Int)<=(s.ms.length:Int) by omega) ?_;have d4:¬ 100<=s.ms.length:=by omega
 refine h.a 4 rfl rfl ?_;refine h.a 3 rfl rfl ?_;refine⟨(B72 ⟨s.seq+1,s.l,s.ms,s.lows⟩ d A B cap J G E l2 H F N a6 c _ (hE.below h.below) (hR.below h.below) (hM.below h.below) (by show s.l.length<=_;omega) (B2c d2) (B2h K)).mono fun en wq k=>?_⟩;obtain⟨A5,V,b9,e5,h5,c1,b7⟩:=k;have c0:doS s d=(if M7 s.lows (B7 d.req)<d.low/\B7 d.low=B7 d.req then
   (⟨s.seq+1,(doK s.l (s.seq+1) d).1,T9 d.low (B7 d.req) (s.ms.take (T2 s.ms d.req)++⟨d.req,(doK s.l (s.seq+1) d).2⟩::s.ms.drop (T2 s.ms d.req)),s.lows.set (B7 d.req-1).toNat d.low⟩,(doK s.l (s.seq+1) d).2)
   else (⟨s.seq+1,(doK s.l (s.seq+1) d).1,s.ms.take (T2 s.ms d.req)++⟨d.req,(doK s.l (s.seq+1) d).2⟩::s.ms.drop (T2 s.ms d.req),s.lows⟩,(doK s.l (s.seq+1) d).2)):=by
  simp only [doS,K,P,a5,b0,M,d4,Bool.not_true,Bool.or_false,Bool.false_eq_true,if_false]
 rw [c0];clear c0;have h:=(h.call h5).1.know (X:=fun c f=>RepEs c f (doK s.l (s.seq+1) d).1 b9/\Row c f A5 (doK s.l (s.seq+1) d).1.length V b9.flatten) ⟨c1,b7⟩ (fun _ _ _ _ l b4=>⟨RepEs.fut l.1 b4,l.2.fut b4⟩);generalize ext c _ wq=S5 at h;clear c1 b7;generalize doK s.l (s.seq+1) d=q at*;obtain⟨ql,L⟩:=q;refine⟨_,e5,?_⟩;refine h.n fun I e4 f2 h=>?_;refine h.s 5 rfl fun w S h=>?_;refine h.s 0 rfl fun w S h=>?_;obtain⟨b,T⟩:∃ b,b=s.ms.take (T2 s.ms d.req)++⟨d.req,L⟩::s.ms.drop (T2 s.ms d.req):=⟨_,rfl⟩;have a7:b.length=s.ms.length+1:=by have:=A5R s.ms d.req;rw [T,z6,zj,zg,zh];omega
 refine vD (.Q [0,1,3,4,5,6,7] (.n 2 (.n 8 (.n 9 (.q 10 (.z 11)) .stop) .stop) (.n 8 (.n 2 (.n 9 (.q 10 (.z 11)) .stop) .stop) .stop))) (fun a=>Blk a g 41 _/\Blk a Y 45 (dC d)/\Blk a I 36 _) ⟨h.blk 5 rfl,h.blk 4 rfl,h.blk 0 rfl⟩ ?_;refine⟨_,fun a x=>x.1.cell 2,_,fun a x=>x.2.1.cell 6,_,?_,fun a x=>C0 x.2.2 0 _ 0 (fun C v j=>by simpa using j),?_⟩
 ·rfl
 have h:=h.drew;have O:(s.ms.map G0).length=s.ms.length:=zl _;refine⟨?_,?_,t6⟩
 ·skip
  refine⟨(W7 B s.ms.length J (s.ms.map G0) (I6 _) O (by omega) c _ (hM.below h.below)).mono fun en wq k=>?_⟩;obtain⟨A7,a8,e7,h7,o⟩:=k;have h:=h.fresh h7 o;refine⟨_,e7,⟨h.blk 5 rfl,h.blk 4 rfl,h.blk 0 rfl⟩,h.n fun gb c7 d3 h=>?_,t6⟩;refine⟨⟨h.blk 6 rfl,h.blk 5 rfl,h.blk 1 rfl⟩,?_,t6⟩;obtain⟨r,p⟩:=h.others;have z:=A3L r (s.ms.map G0) (I6 _) (by rw [O];omega) (A:=A7) (cap:=a8) (by rw [O];exact p) (T2 s.ms d.req) (by rw [O];exact A5R _ _) 0 gb (G0 ⟨d.req,L⟩) rfl rfl rfl;rw [O] at z;refine⟨z.mono fun en c5 k=>?_⟩;obtain⟨y,t,e8,r,a1,p⟩:=k;rw [C1q,<-T,<-a7] at p;rw [<-a7] at e8;have h:=(h.back (o':=⟨101,3,y,b.length,t,(b.map G0).flatten⟩) r a1 p (fun a x=>⟨a,x,rfl⟩)).drop;refine⟨_,e8,⟨h.blk 5 rfl,h.blk 4 rfl,h.blk 0 rfl⟩,?_⟩;refine h.s 5 rfl fun w S h=>?_;have h:CtxF c f _ w [(I,36,[.int .i64 L.err,.int .i64 L.ver]),(Z,3,[.int .i64 (B7 d.req-1)]),(g5,36,[.int .i64 0,.int .i64 0]),(g4,41,(lay.ty 41).zero),(Y,45,dC d),(g,41,[.int .i64 (s.seq+1),.slice A5 ql.length V,.slice y b.length t,.int .i64 G,.int .i64 E,.int .i64 l2,.int .i64 H,.int .i64 F])] [⟨101,3,y,b.length,t,(b.map G0).flatten⟩] _:=h;refine h.c 4 rfl rfl ?_;refine h.n fun a2 d5 c6 h=>?_;refine h.s 0 rfl fun w S h=>?_;have u:=A1N (h.blk 6 rfl) (B7 d.req) (B7 d.req-1) a4 rfl;rw [<-N] at u;generalize c8:M7 s.lows (B7 d.req)=lo at u;refine vD (.Q [0,1,2,3,4,5,6,7,9,10] (.n 8 (.Q [11,12] .fin) .stop)) (Keeps (fun n=>n<w.heap.size) w) (Keeps.start _ _) ?_;refine⟨_,fun a x=>x.look (h.cell 0 rfl _ rfl),_,fun a x=>x.look (h.cell 2 rfl _ rfl),⟨by omega,by omega⟩,?_⟩;generalize i:((⟨g,0+3,none⟩:Addr).add ((B7 d.req-1).toNat*1))=ae at u ⊢;have i:(⟨g,3+(B7 d.req-1).toNat,none⟩:Addr)=ae:=by rw [<-i,yi,Nat.mul_one,zn]
  subst i;refine⟨_,fun a x=>x.look u,?_⟩;have b1:=Keeps.start (fun n=>n<w.heap.size) w;have a9:∀ n,n<w.heap.size->n<w.heap.size:=fun _ l=>l;have a3:IntKind.i64.wrap (B7 d.req-1+1)=B7 d.req:=by rw [yh _ ⟨by omega,by omega⟩];omega
  obtain a0|a0:=Int.lt_or_le lo d.low
  ·refine dt a0 ?_;refine⟨_,fun a x=>x.look (h.cell 0 rfl _ rfl),_,fun a x=>x.look (h.cell 2 rfl _ rfl),?_⟩;have h:=h.drew;refine⟨h.q (O8 d.low _) fun b2 b3 h=>?_,t6⟩;refine⟨b1.below a9 b3,?_⟩;by_cases U:B7 d.low=B7 d.req
   ·refine B5 (by show (B7 d.low==IntKind.i64.wrap (B7 d.req-1+1))=true;rw [a3,U];simp) ?_;rw [yn ⟨a0,U⟩];refine h.c 2 rfl rfl ?_;refine h.c 0 rfl rfl ?_;refine⟨⟨by omega,by omega⟩,?_⟩;generalize i:((⟨g,0+3,none⟩:Addr).add ((B7 d.req-1).toNat*1))=ae;have i:(⟨g,3+(B7 d.req-1).toNat,none⟩:Addr)=ae:=by rw [<-i,yi,Nat.mul_one,zn]
    subst i;refine⟨h.may 6 rfl (3+(B7 d.req-1).toNat) [.int .i64 d.low] (by show 3+(B7 d.req-1).toNat+1<=8;omega) rfl,?_⟩;intro w21 W;have W:E6 b2 ⟨g,3+(B7 d.req-1).toNat,none⟩ [.int .i64 d.low] w21:=W;have h:=(h.set 6 rfl W).1;obtain⟨m0,m1,m2,m3,m4,em,ep⟩:=A9R (.int .i64 (s.seq+1)) (.slice A5 ql.length V) (.slice y b.length t) G E l2 H F d.low (B7 d.req) (B7 d.req-1) a4 rfl;have h:CtxF c f _ w21 [(a2,2,[.int .i64 d.low]),(I,36,[.int .i64 L.err,.int .i64 L.ver]),(Z,3,[.int .i64 (B7 d.req-1)]),(g5,36,[.int .i64 0,.int .i64 0]),(g4,41,(lay.ty 41).zero),(Y,45,dC d),(g,41,C5 [.int .i64 (s.seq+1),.slice A5 ql.length V,.slice y b.length t,.int .i64 G,.int .i64 E,.int .i64 l2,.int .i64 H,.int .i64 F] (3+(B7 d.req-1).toNat) [.int .i64 d.low])] [⟨101,3,y,b.length,t,(b.map G0).flatten⟩] _:=h;rw [ep] at h;rw [N,em];refine h.c 6 rfl rfl ?_;obtain⟨r,p⟩:=h.others;have z:=A0P r b (by omega) p d.low (B7 d.req-1) (by omega) (by omega) 0 2 a2 Z 2 3 rfl rfl;rw [show B7 d.req-1+1=B7 d.req by omega] at z;refine⟨z.mono fun en d6 k=>?_⟩;obtain⟨A9,e9,r,a1,p⟩:=k;have h:=h.back (o':=⟨101,3,A9,(T9 d.low (B7 d.req) b).length,t,((T9 d.low (B7 d.req) b).map G0).flatten⟩) r a1 p (fun a x=>⟨a,x,rfl⟩);refine⟨_,e9,?_⟩;refine h.s 6 rfl fun w S h=>?_;obtain⟨S9,_,h⟩:=h.told;refine vD (.Q [0,1] (.n 2 (.z 3) .stop)) (fun a=>Blk a g 41 _/\Blk a I 36 _) ⟨h.blk 6 rfl,h.blk 1 rfl⟩ ?_;refine⟨_,?_,fun a x=>C0 x.1 0 _ 0 (fun C v j=>by simpa using j),?_⟩
    ·rfl
    refine⟨_,?_,fun a x=>C0 x.2 0 _ 0 (fun C v j=>by simpa using j),?_⟩
    ·rfl
    have h:=h.drew;refine⟨h.s 4 rfl fun w S h=>?_,t6⟩;refine⟨⟨h.blk 6 rfl,h.blk 1 rfl⟩,?_⟩;refine h.s 3 rfl fun w S h=>?_;refine h.a 4 rfl rfl ?_;refine h.a 3 rfl rfl ?_;have o:=h.out;subst T;exact⟨_,rfl,h.below,RepS.mk' rfl o.1.2.1 o.1.2.2 o.2⟩
   ·refine B4 (by show (B7 d.low==IntKind.i64.wrap (B7 d.req-1+1))=false;rw [a3];simpa using U) ?_;rw [yo (fun l=>U l.2)];obtain⟨S9,_,h⟩:=h.told;refine vD (.Q [0,1] (.n 2 (.z 3) .stop)) (fun a=>Blk a g 41 _/\Blk a I 36 _) ⟨h.blk 6 rfl,h.blk 1 rfl⟩ ?_;refine⟨_,?_,fun a x=>C0 x.1 0 _ 0 (fun C v j=>by simpa using j),?_⟩
    ·rfl
    refine⟨_,?_,fun a x=>C0 x.2 0 _ 0 (fun C v j=>by simpa using j),?_⟩
    ·rfl
    have h:=h.drew;refine⟨h.s 4 rfl fun w S h=>?_,t6⟩;refine⟨⟨h.blk 6 rfl,h.blk 1 rfl⟩,?_⟩;refine h.s 3 rfl fun w S h=>?_;refine h.a 4 rfl rfl ?_;refine h.a 3 rfl rfl ?_;have o:=h.out;subst T;exact⟨_,rfl,h.below,RepS.mk' N o.1.2.1 o.1.2.2 o.2⟩
  ·refine df (show ¬ lo<d.low by omega) ?_;refine⟨?_,t6⟩;have h:=h.drew;rw [yo (fun l=>absurd l.1 (by omega))];obtain⟨S9,_,h⟩:=h.told;refine vD (.Q [0,1] (.n 2 (.z 3) .stop)) (fun a=>Blk a g 41 _/\Blk a I 36 _) ⟨h.blk 6 rfl,h.blk 1 rfl⟩ ?_;refine⟨_,?_,fun a x=>C0 x.1 0 _ 0 (fun C v j=>by simpa using j),?_⟩
   ·rfl
   refine⟨_,?_,fun a x=>C0 x.2 0 _ 0 (fun C v j=>by simpa using j),?_⟩
   ·rfl
   have h:=h.drew;refine⟨h.s 4 rfl fun w S h=>?_,t6⟩;refine⟨⟨h.blk 6 rfl,h.blk 1 rfl⟩,?_⟩;refine h.s 3 rfl fun w S h=>?_;refine h.a 4 rfl rfl ?_;refine h.a 3 rfl rfl ?_;have o:=h.out;subst T;exact⟨_,rfl,h.below,RepS.mk' N o.1.2.1 o.1.2.2 o.2⟩
 ·skip
  refine h.n fun gb c7 d3 h=>?_;refine⟨⟨h.blk 6 rfl,h.blk 5 rfl,h.blk 1 rfl⟩,⟨(W7 B s.ms.length J (s.ms.map G0) (I6 _) O (by omega) c _ (hM.below h.below)).mono fun en wq k=>?_⟩,t6⟩;obtain⟨A7,a8,e7,h7,o⟩:=k;have h:=h.fresh h7 o;refine⟨_,e7,⟨h.blk 6 rfl,h.blk 5 rfl,h.blk 1 rfl⟩,?_,t6⟩;obtain⟨r,p⟩:=h.others;have z:=A3L r (s.ms.map G0) (I6 _) (by rw [O];omega) (A:=A7) (cap:=a8) (by rw [O];exact p) (T2 s.ms d.req) (by rw [O];exact A5R _ _) 0 gb (G0 ⟨d.req,L⟩) rfl rfl rfl;rw [O] at z;refine⟨z.mono fun en c5 k=>?_⟩;obtain⟨y,t,e8,r,a1,p⟩:=k;rw [C1q,<-T,<-a7] at p;rw [<-a7] at e8;have h:=(h.back (o':=⟨101,3,y,b.length,t,(b.map G0).flatten⟩) r a1 p (fun a x=>⟨a,x,rfl⟩)).drop;refine⟨_,e8,⟨h.blk 5 rfl,h.blk 4 rfl,h.blk 0 rfl⟩,?_⟩;refine h.s 5 rfl fun w S h=>?_;have h:CtxF c f _ w [(I,36,[.int .i64 L.err,.int .i64 L.ver]),(Z,3,[.int .i64 (B7 d.req-1)]),(g5,36,[.int .i64 0,.int .i64 0]),(g4,41,(lay.ty 41).zero),(Y,45,dC d),(g,41,[.int .i64 (s.seq+1),.slice A5 ql.length V,.slice y b.length t,.int .i64 G,.int .i64 E,.int .i64 l2,.int .i64 H,.int .i64 F])] [⟨101,3,y,b.length,t,(b.map G0).flatten⟩] _:=h;refine h.c 4 rfl rfl ?_;refine h.n fun a2 d5 c6 h=>?_;refine h.s 0 rfl fun w S h=>?_;have u:=A1N (h.blk 6 rfl) (B7 d.req) (B7 d.req-1) a4 rfl;rw [<-N] at u;generalize c8:M7 s.lows (B7 d.req)=lo at u;refine vD (.Q [0,1,2,3,4,5,6,7,9,10] (.n 8 (.Q [11,12] .fin) .stop)) (Keeps (fun n=>n<w.heap.size) w) (Keeps.start _ _) ?_;refine⟨_,fun a x=>x.look (h.cell 0 rfl _ rfl),_,fun a x=>x.look (h.cell 2 rfl _ rfl),⟨by omega,by omega⟩,?_⟩;generalize i:((⟨g,0+3,none⟩:Addr).add ((B7 d.req-1).toNat*1))=ae at u ⊢;have i:(⟨g,3+(B7 d.req-1).toNat,none⟩:Addr)=ae:=by rw [<-i,yi,Nat.mul_one,zn]
  subst i;refine⟨_,fun a x=>x.look u,?_⟩;have b1:=Keeps.start (fun n=>n<w.heap.size) w;have a9:∀ n,n<w.heap.size->n<w.heap.size:=fun _ l=>l;have a3:IntKind.i64.wrap (B7 d.req-1+1)=B7 d.req:=by rw [yh _ ⟨by omega,by omega⟩];omega
  obtain a0|a0:=Int.lt_or_le lo d.low
  ·refine dt a0 ?_;refine⟨_,fun a x=>x.look (h.cell 0 rfl _ rfl),_,fun a x=>x.look (h.cell 2 rfl _ rfl),?_⟩;have h:=h.drew;refine⟨h.q (O8 d.low _) fun b2 b3 h=>?_,t6⟩;refine⟨b1.below a9 b3,?_⟩;by_cases U:B7 d.low=B7 d.req
   ·refine B5 (by show (B7 d.low==IntKind.i64.wrap (B7 d.req-1+1))=true;rw [a3,U];simp) ?_;rw [yn ⟨a0,U⟩];refine h.c 2 rfl rfl ?_;refine h.c 0 rfl rfl ?_;refine⟨⟨by omega,by omega⟩,?_⟩;generalize i:((⟨g,0+3,none⟩:Addr).add ((B7 d.req-1).toNat*1))=ae;have i:(⟨g,3+(B7 d.req-1).toNat,none⟩:Addr)=ae:=by rw [<-i,yi,Nat.mul_one,zn]
    subst i;refine⟨h.may 6 rfl (3+(B7 d.req-1).toNat) [.int .i64 d.low] (by show 3+(B7 d.req-1).toNat+1<=8;omega) rfl,?_⟩;intro w21 W;have W:E6 b2 ⟨g,3+(B7 d.req-1).toNat,none⟩ [.int .i64 d.low] w21:=W;have h:=(h.set 6 rfl W).1;obtain⟨m0,m1,m2,m3,m4,em,ep⟩:=A9R (.int .i64 (s.seq+1)) (.slice A5 ql.length V) (.slice y b.length t) G E l2 H F d.low (B7 d.req) (B7 d.req-1) a4 rfl;have h:CtxF c f _ w21 [(a2,2,[.int .i64 d.low]),(I,36,[.int .i64 L.err,.int .i64 L.ver]),(Z,3,[.int .i64 (B7 d.req-1)]),(g5,36,[.int .i64 0,.int .i64 0]),(g4,41,(lay.ty 41).zero),(Y,45,dC d),(g,41,C5 [.int .i64 (s.seq+1),.slice A5 ql.length V,.slice y b.length t,.int .i64 G,.int .i64 E,.int .i64 l2,.int .i64 H,.int .i64 F] (3+(B7 d.req-1).toNat) [.int .i64 d.low])] [⟨101,3,y,b.length,t,(b.map G0).flatten⟩] _:=h;rw [ep] at h;rw [N,em];refine h.c 6 rfl rfl ?_;obtain⟨r,p⟩:=h.others;have z:=A0P r b (by omega) p d.low (B7 d.req-1) (by omega) (by omega) 0 2 a2 Z 2 3 rfl rfl;rw [show B7 d.req-1+1=B7 d.req by omega] at z;refine⟨z.mono fun en d6 k=>?_⟩;obtain⟨A9,e9,r,a1,p⟩:=k;have h:=h.back (o':=⟨101,3,A9,(T9 d.low (B7 d.req) b).length,t,((T9 d.low (B7 d.req) b).map G0).flatten⟩) r a1 p (fun a x=>⟨a,x,rfl⟩);refine⟨_,e9,?_⟩;refine h.s 6 rfl fun w S h=>?_;obtain⟨S9,_,h⟩:=h.told;refine vD (.Q [0,1] (.n 2 (.z 3) .stop)) (fun a=>Blk a g 41 _/\Blk a I 36 _) ⟨h.blk 6 rfl,h.blk 1 rfl⟩ ?_;refine⟨_,?_,fun a x=>C0 x.1 0 _ 0 (fun C v j=>by simpa using j),?_⟩
    ·rfl
    refine⟨_,?_,fun a x=>C0 x.2 0 _ 0 (fun C v j=>by simpa using j),?_⟩
    ·rfl
    have h:=h.drew;refine⟨h.s 4 rfl fun w S h=>?_,t6⟩;refine⟨⟨h.blk 6 rfl,h.blk 1 rfl⟩,?_⟩;refine h.s 3 rfl fun w S h=>?_;refine h.a 4 rfl rfl ?_;refine h.a 3 rfl rfl ?_;have o:=h.out;subst T;exact⟨_,rfl,h.below,RepS.mk' rfl o.1.2.1 o.1.2.2 o.2⟩
   ·refine B4 (by show (B7 d.low==IntKind.i64.wrap (B7 d.req-1+1))=false;rw [a3];simpa using U) ?_;rw [yo (fun l=>U l.2)];obtain⟨S9,_,h⟩:=h.told;refine vD (.Q [0,1] (.n 2 (.z 3) .stop)) (fun a=>Blk a g 41 _/\Blk a I 36 _) ⟨h.blk 6 rfl,h.blk 1 rfl⟩ ?_;refine⟨_,?_,fun a x=>C0 x.1 0 _ 0 (fun C v j=>by simpa using j),?_⟩
    ·rfl
    refine⟨_,?_,fun a x=>C0 x.2 0 _ 0 (fun C v j=>by simpa using j),?_⟩
    ·rfl
    have h:=h.drew;refine⟨h.s 4 rfl fun w S h=>?_,t6⟩;refine⟨⟨h.blk 6 rfl,h.blk 1 rfl⟩,?_⟩;refine h.s 3 rfl fun w S h=>?_;refine h.a 4 rfl rfl ?_;refine h.a 3 rfl rfl ?_;have o:=h.out;subst T;exact⟨_,rfl,h.below,RepS.mk' N o.1.2.1 o.1.2.2 o.2⟩
  ·refine df (show ¬ lo<d.low by omega) ?_;refine⟨?_,t6⟩;have h:=h.drew;rw [yo (fun l=>absurd l.1 (by omega))];obtain⟨S9,_,h⟩:=h.told;refine vD (.Q [0,1] (.n 2 (.z 3) .stop)) (fun a=>Blk a g 41 _/\Blk a I 36 _) ⟨h.blk 6 rfl,h.blk 1 rfl⟩ ?_;refine⟨_,?_,fun a x=>C0 x.1 0 _ 0 (fun C v j=>by simpa using j),?_⟩
   ·rfl
   refine⟨_,?_,fun a x=>C0 x.2 0 _ 0 (fun C v j=>by simpa using j),?_⟩
   ·rfl
   have h:=h.drew;refine⟨h.s 4 rfl fun w S h=>?_,t6⟩;refine⟨⟨h.blk 6 rfl,h.blk 1 rfl⟩,?_⟩;refine h.s 3 rfl fun w S h=>?_;refine h.a 4 rfl rfl ?_;refine h.a 3 rfl rfl ?_;have o:=h.out;subst T;exact⟨_,rfl,h.below,RepS.mk' N o.1.2.1 o.1.2.2 o.2⟩
theorem A9S:∀ {l:List Mem} {k:Int} {i:Nat},B63 l k=some i->∃ h:i<l.length,l[i].req=k
 | [],k,i,h=>by cases h
 | m::r,k,i,h=>by
  rw [B63] at h;split at h
  ·rename_i a;cases h;exact⟨by simp,by simpa using a⟩
  ·cases e:B63 r k with
   | none=>rw [e] at h;cases h
   | some j=>
    rw [e] at h;cases h;obtain⟨b,c⟩:=A9S e;exact⟨by simpa using b,by simpa using c⟩
theorem B68 (n:Int):∀ l:List Mem,A6q (fun m=>m.req==n) l=B63 l n
 | []=>rfl
 | m::r=>by rw [A6q,B63,B68 n r]
theorem B2i (s:Stt) (n:Int) (c:List Value) (S:Nat->Prop) (w:World) (r:RepS S w s c):Calls Tryz.prog 162 #[.agg c.toArray,.int .i64 n] w (D4 (.tuple #[.agg #[.int .i64 (A1K s n).1.err,.int .i64 (A1K s n).1.ver],.bool (A1K s n).2]) w):=by
 obtain⟨A,cap,u,B,q,H,U,l2,J,E,rfl,L,G,I,M⟩:=r.shape;refine vE Tryz.func162 ?_;have h:=CtxF.start w no (fun _ b=>b.elim) (R:=fun _ _=>True) trivial Stab.true;refine h.n fun O P K h=>?_;refine h.n fun g v y h=>?_;refine h.n fun C F z h=>?_;refine h.c 2 rfl rfl ?_;have f:=A3P (fun m=>m.req==n) ⟨g,0,none⟩ s.ms B q S _ (M.below h.below) (fun m w' b=>B2W m ⟨g,0,none⟩ n w' (cell_later b (h.cell 1 rfl 0 rfl)));rw [B68] at f;unfold A1K;cases a:B63 s.ms n with
 | none=>
  rw [a,show B2K none = -1 from rfl] at f;refine h.q (f) fun Q k h=>?_;refine h.s 0 rfl fun d t h=>?_;refine h.a 0 rfl rfl ?_;exact⟨rfl,h.below⟩
 | some i=>
  rw [a,show B2K (some i)=(i:Int) from rfl] at f;refine h.q (f) fun Q k h=>?_;obtain⟨l,_⟩:=A9S a;have p:((some i).bind fun i=>s.ms[i]?)=some s.ms[i]:=yc l;rw [p];obtain⟨o,N,D,x,rfl,e,T,_,j⟩:=RowM.elemR M i l;refine h.c 2 rfl rfl ?_;refine⟨⟨Int.natCast_nonneg _,Int.ofNat_lt.2 l⟩,?_⟩;rw [<-zi i] at e;generalize o.add ((i:Int).toNat*3)=ae at e ⊢;subst e;refine⟨_,?_,cellsAt_later h.below _ _ j,?_⟩
  ·rfl
  refine h.s 0 rfl fun d t h=>?_;refine h.a 0 rfl rfl ?_;exact⟨rfl,h.below⟩
end Go.Proofs.YtefdfaeieekioaaGreatDoor
