import Derived.Test.YtefdfaeieekioaaGreatDoorQ06
import Derived.Test.YtefdfaeieekioaaGreatDoorRows
import Derived.Test.YtefdfaeieekioaaGreatDoorCards
import Derived.Test.YtefdfaeieekioaaGreatDoorTie
import Derived.ProofKit
import Derived.OpenShut
import Derived.Deep.DeepHandedRow
import Derived.Deep.DeepWitnessRowRef
import Derived.Lib.LaidTab
import Derived.Stop.LaidErr
import Derived.Lay
import Derived.Carry
import Derived.RowKit3
import Derived.Maps.OwnSet
import Derived.Maps.Views
import Derived.Maps.StringElems
set_option maxRecDepth 100000
set_option maxHeartbeats 40000000
set_option linter.unusedVariables false
set_option linter.unusedSimpArgs false
namespace Go.Proofs.YtefdfaeieekioaaGreatDoor
open Go.Vc Go.RowKit Go.Fl
theorem Y7 (n:Int) (w:World):Calls Tryz.prog 225 #[.int .i64 n] w (D4 (.agg #[.int .i64 1,.int .i64 n,.string ⟨#[]⟩,.slice none 0 0]) w):=by refine vE Tryz.func225 ?_;have h:=Ctx.start w no (fun _ a=>a.elim);refine h.n fun A b g h=>?_;refine h.s 0 rfl fun c S h=>?_;refine h.a 0 rfl rfl ?_;exact⟨rfl,h.below⟩
theorem A9T (s:ByteArray) (w:World):Calls Tryz.prog 227 #[.string s] w (D4 (.agg #[.int .i64 2,.int .i64 0,.string s,.slice none 0 0]) w):=by refine vE Tryz.func227 ?_;have h:=Ctx.start w no (fun _ a=>a.elim);refine h.n fun A b g h=>?_;refine h.s 0 rfl fun c S h=>?_;refine h.a 0 rfl rfl ?_;exact⟨rfl,h.below⟩
theorem A2d (A:Option Addr) (n c:Nat) (w:World):Calls Tryz.prog 224 #[.slice A n c] w (D4 (.agg #[.int .i64 3,.int .i64 0,.string ⟨#[]⟩,.slice A n c]) w):=by refine vE Tryz.func224 ?_;have h:=Ctx.start w no (fun _ a=>a.elim);refine h.n fun b d g h=>?_;refine h.s 0 rfl fun e S h=>?_;refine h.a 0 rfl rfl ?_;exact⟨rfl,h.below⟩
theorem B2j (b:Bool) (w:World):Calls Tryz.prog 226 #[.bool b] w (D4 (.int .i64 (if b then 1 else 0)) w):=by
 refine vE Tryz.func226 ?_;cases b
 ·exact⟨rfl,Below.refl _ _⟩
 ·exact⟨rfl,Below.refl _ _⟩
theorem G3 (v:V) (c:List Value):Stab (fun S w=>RepC S w v c):=fun _ _ _ _ h f=>h.fut f
theorem A0Q (l:List V) (x:List Value):Stab (fun S w=>RepL S w l x):=fun _ _ _ _ h f=>h.fut f
def B75 (v:Ver):List Value:=leaf 1 v.ver ⟨#[]⟩++(leaf 1 (if v.gone then 1 else 0) ⟨#[]⟩++(leaf 2 0 v.body++[]))
theorem B2k (S:Nat->Prop) (w:World) (v:Ver):RepL S w (vL (A4C v)) (B75 v):=.cons (.leaf ..) (.cons (.leaf ..) (.cons (.leaf ..) (.nil _ _)))
def B76 (m:Mem):List Value:=leaf 1 m.req ⟨#[]⟩++(leaf 1 m.res.err ⟨#[]⟩++(leaf 1 m.res.ver ⟨#[]⟩++[]))
theorem B2l (S:Nat->Prop) (w:World) (m:Mem):RepL S w (vL (A4E m)) (B76 m):=.cons (.leaf ..) (.cons (.leaf ..) (.cons (.leaf ..) (.nil _ _)))
theorem B5O (v:Ver) (w:World):Calls Tryz.prog 223 #[.agg (J0 v).toArray] w (B64 (A4C v) w):=by
 refine vE Tryz.func223 ?_;intro f z p;have h:=((Ctx.start w no (fun _ o=>o.elim)).loc p).1;refine h.n fun y d t h=>?_;have i:=h.blk 1 rfl;have l:∀ b,(fun b=>b=f) b->b<d.heap.size:=fun b e=>by subst e;exact i.lt
 refine vD (.Q [0,1,3,4,7,8] (.n 2 (.n 5 (.n 6 (.n 9 (.n 10 (.n 11 (.z 12) .stop) .stop) .stop) .stop) .stop) .stop)) (Keeps (fun b=>b=f) d) (Keeps.start _ _) ?_;have k:=Keeps.start (fun b=>b=f) d;have h:=h.drew
 iterate 3 refine⟨_,fun x s=>s.cell i rfl rfl,?_⟩
 refine⟨h.q (Y7 v.ver _) fun c q h=>?_,t6⟩;have k:=k.below l q;refine⟨k,h.q (B2j v.gone _) fun c q h=>?_,t6⟩;have k:=k.below l q;refine⟨k,h.q (Y7 (if v.gone then 1 else 0) _) fun c q h=>?_,t6⟩;have k:=k.below l q;refine⟨k,h.q (A9T v.body _) fun c q h=>?_,t6⟩;have k:=k.below l q;refine⟨k,fun g m a=>?_,t6⟩;refine⟨k.below l a.below,?_⟩;have k:=k.below l a.below;have C:=h.call a.below;have h:=C.1;have r:Row (ext no _ m) m (some ⟨g,0,none⟩) 3 3 (B75 v):=(a.row 3 (by decide)).sub fun b e=>by subst e;exact .inr ⟨Nat.le_of_eq a.1.symm,a.blk.lt⟩
 refine⟨B8 (A2d (some ⟨g,0,none⟩) 3 3 _) ?_,t6⟩;intro A j;refine⟨k.below l j,?_⟩;have C:=h.quiet j;have h:=C.1;have r:=r.fut C.2;refine⟨h.may 0 rfl 0 _ (zc 4) rfl,?_⟩;intro u n;have C:=h.set 0 rfl n;have h:=C.1;refine h.a 0 rfl rfl ?_;refine⟨3,0,⟨#[]⟩,some ⟨g,0,none⟩,3,3,rfl,h.below,?_⟩;rw [A4C,M8,RepC];exact⟨some ⟨g,0,none⟩,3,B75 v,rfl,B2k _ _ v,(r.fut C.2).fut h.out⟩
theorem B5P (m:Mem) (w:World):Calls Tryz.prog 230 #[.agg (G0 m).toArray] w (B64 (A4E m) w):=by
 refine vE Tryz.func230 ?_;intro d z s;have h:=((Ctx.start w no (fun _ p=>p.elim)).loc s).1;refine h.n fun y c u h=>?_;have f:=h.blk 1 rfl;have l:∀ b,(fun b=>b=d) b->b<c.heap.size:=fun b e=>by subst e;exact f.lt
 refine vD (.Q [0,1,3,4,5,7,8,9] (.n 2 (.n 6 (.n 10 (.n 11 (.n 12 (.z 13) .stop) .stop) .stop) .stop) .stop)) (Keeps (fun b=>b=d) c) (Keeps.start _ _) ?_;have k:=Keeps.start (fun b=>b=d) c;have h:=h.drew
 iterate 3 refine⟨_,fun x t=>t.cell f rfl rfl,?_⟩
 refine⟨h.q (Y7 m.req _) fun i q h=>?_,t6⟩;have k:=k.below l q;refine⟨k,h.q (Y7 m.res.err _) fun i q h=>?_,t6⟩;have k:=k.below l q;refine⟨k,h.q (Y7 m.res.ver _) fun i q h=>?_,t6⟩;have k:=k.below l q;refine⟨k,fun g n a=>?_,t6⟩;refine⟨k.below l a.below,?_⟩;have k:=k.below l a.below;have C:=h.call a.below;have h:=C.1;have r:Row (ext no _ n) n (some ⟨g,0,none⟩) 3 3 (B76 m):=(a.row 3 (by decide)).sub fun b e=>by subst e;exact .inr ⟨Nat.le_of_eq a.1.symm,a.blk.lt⟩
 refine⟨B8 (A2d (some ⟨g,0,none⟩) 3 3 _) ?_,t6⟩;intro A j;refine⟨k.below l j,?_⟩;have C:=h.quiet j;have h:=C.1;have r:=r.fut C.2;refine⟨h.may 0 rfl 0 _ (zc 4) rfl,?_⟩;intro v o;have C:=h.set 0 rfl o;have h:=C.1;refine h.a 0 rfl rfl ?_;refine⟨3,0,⟨#[]⟩,some ⟨g,0,none⟩,3,3,rfl,h.below,?_⟩;rw [A4E,M8,RepC];exact⟨some ⟨g,0,none⟩,3,B76 m,rfl,B2l _ _ m,(r.fut C.2).fut h.out⟩
theorem A79 (l:List Ver) (e:Option Addr) (p:Nat) (M:Nat->Prop) (w:World)  (F:Row M w e l.length p ((l.map J0).flatten)) (hn:l.length<=1000000):
  Calls Tryz.prog 229 #[.slice e l.length p,.func (.func 223) #[] #[]] w (B64 (M8 (l.map A4C)) w):=by
 refine vE Tryz.func229 ?_;intro o w1 J;have h:=((CtxF.start w no (fun _ a=>a.elim) (R:=fun S w=>RepL S w [] []) (.nil _ _) (A0Q _ _)).loc J).1;refine h.n fun g w2 h2 h=>?_;refine⟨h.may 0 rfl 0 _ (zc 4) rfl,?_⟩;intro w3 E;have h:=(h.set 0 rfl E).1;have h:=h.nil 107 4;refine⟨Nat,fun i=>[(1,.func (.func 223) #[] #[]),(4,.pointer (some ⟨o,0,none⟩)),(5,.pointer (some ⟨g,0,none⟩)),(9,.slice e l.length p),(10,.int .i64 l.length),(11,.int .i64 i)],
  fun i w'=>i<=l.length/\∃ S A c b,CtxF no w S w' [(g,107,[.int .i64 3,.int .i64 0,.string ⟨#[]⟩,.slice A i c]),(o,107,(lay.ty 107).zero)] [⟨107,4,A,i,c,b⟩] (fun S w=>RepL S w ((l.take i).map A4C) b),
  fun i _=>l.length-i,0,⟨rfl,rfl,rfl,rfl,rfl,rfl,t6⟩,⟨zb _,no,none,0,[],h⟩,?_⟩
 clear h;rintro i w4 W ⟨j,S,A,c,b,h⟩;by_cases t:i<l.length
 ·refine dt (by omega) ?_;obtain⟨ad,rfl,L⟩:=RowV.elem (F.below h.below) i t;refine⟨⟨by omega,by omega⟩,J0 l[i],rfl,L,?_⟩;generalize d:l[i]=x at*;refine h.n fun D w7 Y h=>?_;refine⟨h.may 0 rfl 0 _ (nle rfl) rfl,?_⟩;intro w8 P;have h:=(h.set 0 rfl P).1;have h:=h.drew;refine vD (.Q [0,1,2,3] (.n 4 (.n 5 (.n 6 (.q 7 (.z 8)) .stop) .stop) .stop)) (fun z=>Blk z g 107 [.int .i64 3,.int .i64 0,.string ⟨#[]⟩,.slice A i c]/\Blk z D 147 (J0 x)) ⟨h.blk 1 rfl,h.blk 0 rfl⟩ ?_;refine⟨_,fun x d=>d.1.cell 3,(J0 x),rfl,fun x d=>C0 d.2 0 _ 0 (fun a4 v O=>by simpa using O),⟨(B5O x _).mono fun en U N=>?_⟩,t6⟩;obtain⟨k,n,s,f,q,y,K,I,C⟩:=N;have h:=(h.call I).1.know (C.sub fun a3 a=>a.elim (fun a=>a.elim) .inr) (G3 _ _);refine⟨_,K,⟨h.blk 1 rfl,h.blk 0 rfl⟩,h.n fun a2 a5 Z h=>?_,t6⟩;refine⟨⟨h.blk 2 rfl,h.blk 1 rfl⟩,F0 Tryz.underlying105 A0Z rfl (by decide) h (ys:=[.int .i64 k,.int .i64 n,.string s,.slice f q y]) (m:=1) rfl (h.cells 0 rfl) rfl (by omega) (by decide) rfl rfl ?_,t6⟩;intro G Q a0 h;refine⟨⟨h.blk 2 rfl,h.blk 1 rfl⟩,h.may 2 rfl 3 _ (zc 4) rfl,?_⟩;intro a1 T;have h:=(h.set 2 rfl T).1;have H:(l.take (i+1)).map A4C=(l.take i).map A4C++[A4C x]:=by rw [List.take_add_one,yc t,d];simp
  have u:=h.drop.drop.now (X:=fun S w=>RepL S w ((l.take i).map A4C++[A4C x]) (b++[.int .i64 k,.int .i64 n,.string s,.slice f q y])) (fun a=>RepL.snoc a.2 a.1) (A0Q _ _);rw [<-H] at u;exact⟨i+1,⟨rfl,rfl,rfl,rfl,rfl,yb _ (C4 (by omega)),t6⟩,⟨t,_,G,Q,_,u⟩,by show l.length-(i+1)<l.length-i;omega⟩
 ·refine df (by omega) ?_;have j:i=l.length:=by omega
  subst j;rw [List.take_length] at h;refine h.a 0 rfl rfl ?_;refine⟨h.may 1 rfl 0 _ (zc 4) rfl,?_⟩;intro w5 B;have h:=(h.set 1 rfl B).1;obtain⟨V,_,h⟩:=h.told;refine h.a 1 rfl rfl ?_;refine⟨3,0,⟨#[]⟩,A,l.length,c,rfl,h.below,?_⟩;rw [M8,RepC];have r:=h.out;exact⟨A,c,b,by rw [zl],r.1,by rw [zl];exact r.2⟩
theorem B5Q (e:Ent) (A:Option Addr) (p:Nat) (S:Nat->Prop) (d:World) (C:Row S d A e.vs.length p (e.vs.map J0).flatten) (D:e.vs.length<=1000000) (i:Addr) (j:d.cell? i=some (.func (.func 223) #[] #[])):
  Calls Tryz.prog 228 #[.agg #[.string e.key,.slice A e.vs.length p],.pointer (some i)] d (B64 (A4D e) d):=by
 obtain⟨T,J,F⟩:=i;refine vE Tryz.func228 ?_;intro U V u;have h:=((CtxF.start d no (fun _ b=>b.elim) (R:=fun _ _=>True) trivial Stab.true).loc u).1;refine h.n fun N w O h=>?_;have l:∀ c,c<w.heap.size->c<w.heap.size:=fun _ b=>b;have j:=cell_later h.below j;refine vD (.Q [0,1,3,4,5] (.n 2 (.n 6 (.n 7 (.n 8 (.z 9) .stop) .stop) .stop) .stop)) (Keeps (fun c=>c<w.heap.size) w) (Keeps.start _ _) ?_;have a:=Keeps.start (fun c=>c<w.heap.size) w;refine⟨_,fun x f=>f.look (h.cell 1 rfl _ rfl),_,fun x f=>f.look (h.cell 1 rfl _ rfl),_,fun x f=>f.look j,?_⟩;have h:=h.drew;refine⟨B8 (A9T e.key _) ?_,t6⟩;intro L r;have h:=(h.quiet r).1.know (RepC.leaf _ _ 2 0 e.key) (G3 _ _);have a:=a.below l r;refine⟨a,⟨(A79 e.vs A p S _ (C.below h.below) D).mono fun Q I z=>?_⟩,t6⟩;obtain⟨k,n,s,G,P,W,v,m,y⟩:=z;have h:=(h.call m).1.know (y.sub fun c b=>b.elim (fun b=>b.elim) .inr) (G3 _ _);have a:=a.below l m;refine⟨_,v,a,fun g K q=>?_,t6⟩;have h:=h.made q 4 2 rfl (by decide);have a:=a.below l q.below;refine⟨a,h.q (A2d (some ⟨g,0,none⟩) 2 2 _) fun M t h=>?_,t6⟩;have a:=a.below l t;refine⟨a,h.may 0 rfl 0 _ (zc 4) rfl,?_⟩;intro H B;have h:=(h.set 0 rfl B).1;obtain⟨E,_,h⟩:=h.told;refine h.a 0 rfl rfl ?_;refine⟨3,0,⟨#[]⟩,some ⟨g,0,none⟩,2,2,rfl,h.below,?_⟩;have o:=h.out;rw [A4D,M8,RepC];exact⟨some ⟨g,0,none⟩,2,_,rfl,.cons o.1.1.2 (.cons o.1.2 (.nil _ _)),o.2⟩
theorem A8A (l:List Ent) (u:List (List Value)) (j:Option Addr) (o:Nat) (r:Nat->Prop) (w:World) (e:Addr) (Z:w.cell? e=some (.func (.func 223) #[] #[])) (hE:RepEs r w l u) (hv:∀ U∈l,U.vs.length<=1000000) (L:Row r w j l.length o (u.flatten)) (hn:l.length<=1000000):
  Calls Tryz.prog 231 #[.slice j l.length o,.func (.func 228) #[] #[.pointer (some e)]] w (B64 (M8 (l.map A4D)) w):=by
 refine vE Tryz.func231 ?_;intro C w1 Q;have h:=((CtxF.start w no (fun _ a=>a.elim) (R:=fun S w=>RepL S w [] []) (.nil _ _) (A0Q _ _)).loc Q).1;refine h.n fun g w2 h2 h=>?_;refine⟨h.may 0 rfl 0 _ (zc 4) rfl,?_⟩;intro w3 K;have h:=(h.set 0 rfl K).1;have h:=h.nil 107 4;refine⟨Nat,fun i=>[(1,.func (.func 228) #[] #[.pointer (some e)]),(4,.pointer (some ⟨C,0,none⟩)),(5,.pointer (some ⟨g,0,none⟩)),(9,.slice j l.length o),(10,.int .i64 l.length),(11,.int .i64 i)],
  fun i w'=>i<=l.length/\∃ S A c b,CtxF no w S w' [(g,107,[.int .i64 3,.int .i64 0,.string ⟨#[]⟩,.slice A i c]),(C,107,(lay.ty 107).zero)] [⟨107,4,A,i,c,b⟩] (fun S w=>RepL S w ((l.take i).map A4D) b),
  fun i _=>l.length-i,0,⟨rfl,rfl,rfl,rfl,rfl,rfl,t6⟩,⟨zb _,no,none,0,[],h⟩,?_⟩
 clear h;rintro i w4 a2 ⟨B,S,A,c,b,h⟩;by_cases t:i<l.length
 ·refine dt (by omega) ?_;have P:=hv l[i] (List.getElem_mem t);obtain⟨ad,f,p,rfl,q,V⟩:=RowE.elem L hE i t;have q:=cellsAt_later h.below _ _ q;refine⟨⟨by omega,by omega⟩,[.string l[i].key,.slice f l[i].vs.length p],rfl,q,?_⟩;generalize d:l[i]=x at*;refine h.n fun J w7 h7 h=>?_;refine⟨h.may 0 rfl 0 _ (nle rfl) rfl,?_⟩;intro w8 h8;have h:=(h.set 0 rfl h8).1;have h:=h.drew;refine vD (.Q [0,1,2,3] (.n 4 (.n 5 (.n 6 (.q 7 (.z 8)) .stop) .stop) .stop)) (fun z=>Blk z g 107 [.int .i64 3,.int .i64 0,.string ⟨#[]⟩,.slice A i c]/\Blk z J 99 [.string x.key,.slice f x.vs.length p]) ⟨h.blk 1 rfl,h.blk 0 rfl⟩ ?_;refine⟨_,fun x d=>d.1.cell 3,[.string x.key,.slice f x.vs.length p],rfl,fun x d=>C0 d.2 0 _ 0 (fun a8 v Y=>by simpa using Y),⟨(B5Q x f p r _ (V.below h.below) P e (cell_later h.below Z)).mono fun en w9 W=>?_⟩,t6⟩;obtain⟨k,n,s,y,D,G,T,O,I⟩:=W;have h:=(h.call O).1.know (I.sub fun a7 a=>a.elim (fun a=>a.elim) .inr) (G3 _ _);refine⟨_,T,⟨h.blk 1 rfl,h.blk 0 rfl⟩,h.n fun a6 a9 a3 h=>?_,t6⟩;refine⟨⟨h.blk 2 rfl,h.blk 1 rfl⟩,F0 Tryz.underlying105 A0Z rfl (by decide) h (ys:=[.int .i64 k,.int .i64 n,.string s,.slice y D G]) (m:=1) rfl (h.cells 0 rfl) rfl (by omega) (by decide) rfl rfl ?_,t6⟩;intro M a0 a4 h;refine⟨⟨h.blk 2 rfl,h.blk 1 rfl⟩,h.may 2 rfl 3 _ (zc 4) rfl,?_⟩;intro a5 a1;have h:=(h.set 2 rfl a1).1;have N:(l.take (i+1)).map A4D=(l.take i).map A4D++[A4D x]:=by rw [List.take_add_one,yc t,d];simp
  have F:=h.drop.drop.now (X:=fun S w=>RepL S w ((l.take i).map A4D++[A4D x]) (b++[.int .i64 k,.int .i64 n,.string s,.slice y D G])) (fun a=>RepL.snoc a.2 a.1) (A0Q _ _);rw [<-N] at F;exact⟨i+1,⟨rfl,rfl,rfl,rfl,rfl,yb _ (C4 (by omega)),t6⟩,⟨t,_,M,a0,_,F⟩,by show l.length-(i+1)<l.length-i;omega⟩
 ·refine df (by omega) ?_;have B:i=l.length:=by omega
  subst B;rw [List.take_length] at h;refine h.a 0 rfl rfl ?_;refine⟨h.may 1 rfl 0 _ (zc 4) rfl,?_⟩;intro w5 H;have h:=(h.set 1 rfl H).1;obtain⟨S2,_,h⟩:=h.told;refine h.a 1 rfl rfl ?_;refine⟨3,0,⟨#[]⟩,A,l.length,c,rfl,h.below,?_⟩;rw [M8,RepC];have E:=h.out;exact⟨A,c,b,by rw [zl],E.1,by rw [zl];exact E.2⟩
theorem A8B (l:List Mem) (e:Option Addr) (p:Nat) (M:Nat->Prop) (w:World)  (F:Row M w e l.length p ((l.map G0).flatten)) (hn:l.length<=1000000):
  Calls Tryz.prog 232 #[.slice e l.length p,.func (.func 230) #[] #[]] w (B64 (M8 (l.map A4E)) w):=by
 refine vE Tryz.func232 ?_;intro o w1 J;have h:=((CtxF.start w no (fun _ a=>a.elim) (R:=fun S w=>RepL S w [] []) (.nil _ _) (A0Q _ _)).loc J).1;refine h.n fun g w2 h2 h=>?_;refine⟨h.may 0 rfl 0 _ (zc 4) rfl,?_⟩;intro w3 E;have h:=(h.set 0 rfl E).1;have h:=h.nil 107 4;refine⟨Nat,fun i=>[(1,.func (.func 230) #[] #[]),(4,.pointer (some ⟨o,0,none⟩)),(5,.pointer (some ⟨g,0,none⟩)),(9,.slice e l.length p),(10,.int .i64 l.length),(11,.int .i64 i)],
  fun i w'=>i<=l.length/\∃ S A c b,CtxF no w S w' [(g,107,[.int .i64 3,.int .i64 0,.string ⟨#[]⟩,.slice A i c]),(o,107,(lay.ty 107).zero)] [⟨107,4,A,i,c,b⟩] (fun S w=>RepL S w ((l.take i).map A4E) b),
  fun i _=>l.length-i,0,⟨rfl,rfl,rfl,rfl,rfl,rfl,t6⟩,⟨zb _,no,none,0,[],h⟩,?_⟩
 clear h;rintro i w4 W ⟨j,S,A,c,b,h⟩;by_cases t:i<l.length
 ·refine dt (by omega) ?_;obtain⟨ad,rfl,L⟩:=RowM.elem (F.below h.below) i t;refine⟨⟨by omega,by omega⟩,G0 l[i],rfl,L,?_⟩;generalize d:l[i]=x at*;refine h.n fun D w7 Y h=>?_;refine⟨h.may 0 rfl 0 _ (nle rfl) rfl,?_⟩;intro w8 P;have h:=(h.set 0 rfl P).1;have h:=h.drew;refine vD (.Q [0,1,2,3] (.n 4 (.n 5 (.n 6 (.q 7 (.z 8)) .stop) .stop) .stop)) (fun z=>Blk z g 107 [.int .i64 3,.int .i64 0,.string ⟨#[]⟩,.slice A i c]/\Blk z D 101 (G0 x)) ⟨h.blk 1 rfl,h.blk 0 rfl⟩ ?_;refine⟨_,fun x d=>d.1.cell 3,(G0 x),rfl,fun x d=>C0 d.2 0 _ 0 (fun a4 v O=>by simpa using O),⟨(B5P x _).mono fun en U N=>?_⟩,t6⟩;obtain⟨k,n,s,f,q,y,K,I,C⟩:=N;have h:=(h.call I).1.know (C.sub fun a3 a=>a.elim (fun a=>a.elim) .inr) (G3 _ _);refine⟨_,K,⟨h.blk 1 rfl,h.blk 0 rfl⟩,h.n fun a2 a5 Z h=>?_,t6⟩;refine⟨⟨h.blk 2 rfl,h.blk 1 rfl⟩,F0 Tryz.underlying105 A0Z rfl (by decide) h (ys:=[.int .i64 k,.int .i64 n,.string s,.slice f q y]) (m:=1) rfl (h.cells 0 rfl) rfl (by omega) (by decide) rfl rfl ?_,t6⟩;intro G Q a0 h;refine⟨⟨h.blk 2 rfl,h.blk 1 rfl⟩,h.may 2 rfl 3 _ (zc 4) rfl,?_⟩;intro a1 T;have h:=(h.set 2 rfl T).1;have H:(l.take (i+1)).map A4E=(l.take i).map A4E++[A4E x]:=by rw [List.take_add_one,yc t,d];simp
  have u:=h.drop.drop.now (X:=fun S w=>RepL S w ((l.take i).map A4E++[A4E x]) (b++[.int .i64 k,.int .i64 n,.string s,.slice f q y])) (fun a=>RepL.snoc a.2 a.1) (A0Q _ _);rw [<-H] at u;exact⟨i+1,⟨rfl,rfl,rfl,rfl,rfl,yb _ (C4 (by omega)),t6⟩,⟨t,_,G,Q,_,u⟩,by show l.length-(i+1)<l.length-i;omega⟩
 ·refine df (by omega) ?_;have j:i=l.length:=by omega
  subst j;rw [List.take_length] at h;refine h.a 0 rfl rfl ?_;refine⟨h.may 1 rfl 0 _ (zc 4) rfl,?_⟩;intro w5 B;have h:=(h.set 1 rfl B).1;obtain⟨V,_,h⟩:=h.told;refine h.a 1 rfl rfl ?_;refine⟨3,0,⟨#[]⟩,A,l.length,c,rfl,h.below,?_⟩;rw [M8,RepC];have r:=h.out;exact⟨A,c,b,by rw [zl],r.1,by rw [zl];exact r.2⟩
theorem A8C (l:List Int) (b:Option Addr) (p:Nat) (r:Nat->Prop) (w:World)  (z:Row r w b l.length p (l.map C0l)) (T:l.length<=1000000):
  Calls Tryz.prog 233 #[.slice b l.length p,.func (.func 225) #[] #[]] w (B64 (M8 (l.map N9)) w):=by
 refine vE Tryz.func233 ?_;intro f V n;have h:=((CtxF.start w no (fun _ a=>a.elim) (R:=fun S w=>RepL S w [] []) (.nil _ _) (A0Q _ _)).loc n).1;refine h.n fun g Q W h=>?_;refine⟨h.may 0 rfl 0 _ (zc 4) rfl,?_⟩;intro O u;have h:=(h.set 0 rfl u).1;have h:=h.nil 107 4;refine⟨Nat,fun i=>[(1,.func (.func 225) #[] #[]),(4,.pointer (some ⟨f,0,none⟩)),(5,.pointer (some ⟨g,0,none⟩)),(9,.slice b l.length p),(10,.int .i64 l.length),(11,.int .i64 i)],
  fun i w'=>i<=l.length/\∃ S A c s,CtxF no w S w' [(g,107,[.int .i64 3,.int .i64 0,.string ⟨#[]⟩,.slice A i c]),(f,107,(lay.ty 107).zero)] [⟨107,4,A,i,c,s⟩] (fun S w=>RepL S w ((l.take i).map N9) s),
  fun i _=>l.length-i,0,⟨rfl,rfl,rfl,rfl,rfl,rfl,t6⟩,⟨zb _,no,none,0,[],h⟩,?_⟩
 clear h;rintro i M G ⟨e,S,A,c,s,h⟩;by_cases t:i<l.length
 ·refine dt (by omega) ?_;obtain⟨L,rfl,q⟩:=Row.at (z.below h.below) (i:=i) (v:=C0l l[i]) (by rw [List.getElem?_map,yc t];rfl);refine⟨⟨by omega,by omega⟩,C0l l[i],by rw [zi,Nat.mul_one];exact q,?_⟩;generalize d:l[i]=x at*;have h:=h.drew;refine vD (.Q [0,1,2,3] (.n 4 (.n 5 (.n 6 (.q 7 (.z 8)) .stop) .stop) .stop)) (fun x=>Blk x g 107 [.int .i64 3,.int .i64 0,.string ⟨#[]⟩,.slice A i c]) (h.blk 0 rfl) ?_;refine⟨_,fun x d=>d.cell 3,h.q (Y7 x _) fun F H h=>?_,t6⟩;refine⟨h.blk 0 rfl,?_⟩;have h:=h.know (X:=fun S w=>RepC S w (N9 x) [.int .i64 1,.int .i64 x,.string ⟨#[]⟩,.slice none 0 0]) (RepC.leaf _ _ 1 x ⟨#[]⟩) (G3 _ _);refine⟨h.n fun N U I h=>?_,t6⟩;refine⟨h.blk 1 rfl,F0 Tryz.underlying105 A0Z rfl (by decide) h (ys:=[.int .i64 1,.int .i64 x,.string ⟨#[]⟩,.slice none 0 0]) (m:=1) rfl (h.cells 0 rfl) rfl (by omega) (by decide) rfl rfl ?_,t6⟩;intro C y P h;refine⟨h.blk 1 rfl,h.may 1 rfl 3 _ (zc 4) rfl,?_⟩;intro J B;have h:=(h.set 1 rfl B).1;have D:(l.take (i+1)).map N9=(l.take i).map N9++[N9 x]:=by rw [List.take_add_one,yc t,d];simp
  have j:=h.drop.now (X:=fun S w=>RepL S w ((l.take i).map N9++[N9 x]) (s++[.int .i64 1,.int .i64 x,.string ⟨#[]⟩,.slice none 0 0])) (fun a=>RepL.snoc a.2 a.1) (A0Q _ _);rw [<-D] at j;exact⟨i+1,⟨rfl,rfl,rfl,rfl,rfl,yb _ (C4 (by omega)),t6⟩,⟨t,_,C,y,_,j⟩,by show l.length-(i+1)<l.length-i;omega⟩
 ·refine df (by omega) ?_;have e:i=l.length:=by omega
  subst e;rw [List.take_length] at h;refine h.a 0 rfl rfl ?_;refine⟨h.may 1 rfl 0 _ (zc 4) rfl,?_⟩;intro K k;have h:=(h.set 1 rfl k).1;obtain⟨E,_,h⟩:=h.told;refine h.a 1 rfl rfl ?_;refine⟨3,0,⟨#[]⟩,A,l.length,c,rfl,h.below,?_⟩;rw [M8,RepC];have o:=h.out;exact⟨A,c,s,by rw [zl],o.1,by rw [zl];exact o.2⟩
theorem B77 {w:World} {g T:Nat} {c:List Value} (a:Blk w g T c) (o:Nat) (xs:List Value) (x:(c.drop o).take xs.length=xs) (n:xs.length<=1000):Row (fun b=>b=g) w (some ⟨g,o,none⟩) xs.length xs.length xs:=
 ⟨zc _,zq n (by decide),fun _=>⟨_,rfl,rfl,fun j u h=>by
  have e:(⟨g,o,none⟩:Addr).add j=⟨g,o+j,none⟩:=yi _ _ _;rw [e,a.cell (o+j)];rw [<-x,List.getElem?_take] at h;split at h
  ·rw [List.getElem?_drop] at h;exact h
  ·cases h⟩⟩
theorem B5R {S:Nat->Prop} {w:World} {A B:Option Addr} {n c:Nat} {xs:List Value} (h:Row S w A n c xs) (e:B=A):Row S w B n c xs:=by rw [e];exact h
theorem A9U (s:Stt) (J:∀ d∈s.l,U7 d.key) (p:List Value) (i:Nat->Prop) (w:World) (G:RepS i w s p) (W:Tab w):Calls Tryz.prog 189 #[.agg p.toArray] w (D4 (.string ⟨(F5 s).toArray⟩) w):=by
 obtain⟨Y,Z,H,Q,T,v,A,l2,y,E,rfl,z,hE,U,M⟩:=G.shape;refine vE Tryz.func189 ?_;intro O w1 C;have h:=((CtxF.start w no (fun _ a=>a.elim) (R:=fun _ _=>True) trivial Stab.true).loc C).1;refine h.a 0 rfl rfl ?_;refine h.q (A1O s J _ i w1 (G.below h.below)) fun w2 h2 h=>?_;obtain m|m:=yj (P6 s);rotate_left
 ·refine B5 (by show (!P6 s)=true;rw [m];rfl) ?_;refine⟨?_,h.below⟩;rw [F5,m];rfl
 refine B4 (by show (!P6 s)=false;rw [m];rfl) ?_;obtain⟨_,⟨a5,a3⟩,K,_,_⟩:=D5.1 m;have a0:∀ d∈s.l,d.vs.length<=1000000:=fun d he=>by have:=(G2.1 (((K3 _ _ _).1 K).1 d he).1).2.2.2;omega
 refine h.n fun g3 w3 P h=>?_;refine⟨h.may 0 rfl 0 _ (nle rfl) rfl,?_⟩;intro c V;have h:=(h.set 0 rfl V).1;have l:∀ b,b<c.heap.size->b<c.heap.size:=fun _ a=>a;refine vD (.Q [0,1,3,4,5,7,8,9,11,12] (.n 2 (.n 6 (.n 10 (.n 13 (.n 14 (.n 15 (.n 16 (.q 17 .fin) .stop) .stop) .stop) .stop) .stop) .stop) .stop)) (Keeps (fun b=>b<c.heap.size) c) (Keeps.start _ _) ?_;have k:=Keeps.start (fun b=>b<c.heap.size) c;refine⟨_,fun x f=>f.look (h.cell 1 rfl _ rfl),_,fun x f=>f.look (h.cell 1 rfl _ rfl),_,fun x f=>f.look (h.cell 1 rfl _ rfl),⟨by decide,by decide,by decide,by decide⟩,?_⟩;have h:=h.drew;refine⟨B8 (Y7 s.seq _) ?_,t6⟩;intro w5 g;have h:=(h.quiet g).1.know (X:=fun S w=>RepC S w (N9 s.seq) [.int .i64 1,.int .i64 s.seq,.string ⟨#[]⟩,.slice none 0 0]) (RepC.leaf _ _ 1 s.seq ⟨#[]⟩) (G3 _ _);have k:=k.below l g;refine⟨k,⟨(A8A s.l H Y Z i _ ⟨g3,0,none⟩ (h.cell 0 rfl _ rfl) (hE.below h.below) a0 (U.below h.below) (by omega)).mono fun t w6 q=>?_⟩,t6⟩;obtain⟨ka,na,sa,Aa,la,ca,e,D,r⟩:=q;have h:=(h.call D).1.know (r.sub fun b a=>a.elim (fun a=>a.elim) .inr) (G3 _ _);have k:=k.below l D;refine⟨_,e,k,⟨(A8B s.ms Q T i _ (M.below h.below) (by omega)).mono fun t w7 q=>?_⟩,t6⟩;obtain⟨kb,nb,sb,Ab,lb,cb,e,n,r⟩:=q;have h:=(h.call n).1.know (r.sub fun b a=>a.elim (fun a=>a.elim) .inr) (G3 _ _);have k:=k.below l n;refine⟨_,e,k,⟨(A8C [v,A,l2,y,E] _ _ (fun b=>b=O) _ (B5R (B77 (h.blk 1 rfl) 3 [.int .i64 v,.int .i64 A,.int .i64 l2,.int .i64 y,.int .i64 E] rfl (nle rfl)) (Y2 _ 5 1)) (nle rfl)).mono fun t w8 q=>?_⟩,t6⟩;obtain⟨kd,nd,sd,Ad,ld,cd,e,F,r⟩:=q;have h:=(h.call F).1.know (r.sub fun b a=>a.elim (fun a=>a.elim) .inr) (G3 _ _);have k:=k.below l F;refine⟨_,e,k,fun j w9 B=>?_,t6⟩;have h:=h.made B 4 4 rfl (by decide);have k:=k.below l B.below;refine⟨k,h.q (A2d (some ⟨j,0,none⟩) 4 4 _) fun a1 N h=>?_,t6⟩;have k:=k.below l N;refine⟨k,?_⟩;obtain⟨I,_,h⟩:=h.told;have r:RepC I a1 (A4U s) [.int .i64 3,.int .i64 0,.string ⟨#[]⟩,.slice (some ⟨j,0,none⟩) 4 4]:=by have o:=h.row;rw [A4U,z,M8,RepC];exact⟨some ⟨j,0,none⟩,4,_,rfl,.cons o.1.1.1.1.2 (.cons o.1.1.1.2 (.cons o.1.1.2 (.cons o.1.2 (.nil _ _)))),o.2⟩
 have g:s.lows.length=5:=by rw [z];rfl
 have L:(L4 (A4U s)).length<=1073741824:=by have C:=A1L s g m;have P:=E8 (A4U s);have:=I9 (u:=(K0 (A4U s)).length) (by omega);omega
 refine⟨h.q (A2Z (A4U s) (A9L s m) L 3 0 ⟨#[]⟩ _ 4 4 _ _ r (W.below h.below)) fun a4 a2 h=>?_,t6⟩;have k:=k.below l a2;refine⟨k,?_,h.below⟩;rw [F5,yn m];rfl
def D3 (v:V) (A:Option Addr) (cap:Nat):List Value:=[.int .i64 (vK v),.int .i64 (vN v),.string (vS v),.slice A (vL v).length cap]
theorem RepC.cells {S:Nat->Prop} {w:World} {v:V} {c:List Value} (h:RepC S w v c):∃ A cap,c=D3 v A cap:=by obtain⟨k,n,s,l⟩:=v;rw [RepC] at h;obtain⟨A,cap,x,e,_,_⟩:=h;exact⟨A,cap,e⟩
theorem RepC.rows {S:Nat->Prop} {w:World} {v:V} {A:Option Addr} {c:Nat} (h:RepC S w v (D3 v A c)):∃ xs,RepL S w (vL v) xs/\Row S w A (vL v).length c xs:=by obtain⟨k,n,s,l⟩:=v;rw [RepC] at h;obtain⟨d,p,xs,e,a,b⟩:=h;cases e;exact⟨xs,a,b⟩
def C12 (u:V) (S:Nat->Prop) (w:World) (en:Ending) (w':World):Prop:=∃ A cap,en=.returned (.agg (D3 u A cap).toArray)/\Below w.heap.size w w'/\RepC S w' u (D3 u A cap)
theorem J2 (v:V) (i:Nat) (A:Option Addr) (p:Nat) (S:Nat->Prop) (w:World) (g:RepC S w v (D3 v A p)):Calls Tryz.prog 183 #[.agg (D3 v A p).toArray,.int .i64 i] w (C12 (atV v i) S w):=by
 obtain⟨x,L,l⟩:=g.rows;refine vE Tryz.func183 ?_;intro n B f;have h:=((CtxF.start w no (fun _ k=>k.elim) (R:=fun _ _=>True) trivial Stab.true).loc f).1;refine h.n fun z t C h=>?_;refine h.c 1 rfl rfl ?_;obtain a|a:=zm i (vL v).length;rotate_left
 ·refine dt (by omega) ?_;refine h.s 0 rfl fun m y h=>?_;refine h.a 0 rfl rfl ?_;have e:atV v i=V0:=by unfold atV;rw [List.getD_eq_getElem?_getD,List.getElem?_eq_none a];rfl
  rw [e];exact⟨none,0,rfl,h.below,RepC.V0 _ _⟩
 refine df (by omega) ?_;have e:atV v i=(vL v)[i]:=by unfold atV;rw [List.getD_eq_getElem?_getD,yc a];rfl
 obtain⟨o,cs,rfl,r,q,c⟩:=Rep.elem L l i a;have c:=cellsAt_later h.below _ _ c;obtain⟨d,b,rfl⟩:=r.cells;rw [e];generalize (vL v)[i]=u at*;refine h.c 1 rfl rfl ?_;refine⟨⟨by omega,by omega⟩,D3 u d b,rfl,c,h.may 0 rfl 0 _ (zc 4) rfl,?_⟩;intro s j;have h:=(h.set 0 rfl j).1;refine h.a 0 rfl rfl ?_;exact⟨d,b,rfl,h.below,r.below h.below⟩
theorem B2m (v:V) (A:Option Addr) (c:Nat) (S:Nat->Prop) (w:World) (r:RepC S w v (D3 v A c)):Calls Tryz.prog 182 #[.agg (D3 v A c).toArray] w (D4 (.agg (J0 (B0G v)).toArray) w):=by
 refine vE Tryz.func182 ?_;intro g F j;have h:=((Ctx.start w no (fun _ o=>o.elim)).loc j).1;refine h.n fun E a y h=>?_;have d:=h.blk 1 rfl;have l:∀ b,(fun b=>b=g) b->b<a.heap.size:=fun b m=>by subst m;exact d.lt
 refine vD (.Q [0,3,7] (.n 1 (.q 2 (.n 4 (.Q [5,6] (.n 8 (.Q [9,10] (.z 11)) .stop)) .stop)) .stop)) (Keeps (fun b=>b=g) a) (Keeps.start _ _) ?_;have k:=Keeps.start (fun b=>b=g) a;have h:=h.drew
 iterate 3 (refine⟨D3 v A c,?_,fun x p=>p.cells d rfl,?_⟩;(· rfl))
 refine⟨⟨(J2 v 0 A c S _ (r.below h.below)).mono fun n f q=>?_⟩,t6⟩;obtain⟨B,s,e,q,_⟩:=q;have h:=(h.quiet q).1;have k:=k.below l q;refine⟨_,e,k,⟨(J2 v 1 A c S _ (r.below h.below)).mono fun n f q=>?_⟩,t6⟩;obtain⟨t,D,e,q,_⟩:=q;have h:=(h.quiet q).1;have k:=k.below l q;refine⟨_,e,k,⟨(J2 v 2 A c S _ (r.below h.below)).mono fun n f q=>?_⟩,t6⟩;obtain⟨C,z,e,q,_⟩:=q;have h:=(h.quiet q).1;have k:=k.below l q;refine⟨_,e,k,h.may 0 rfl 0 _ (zc 3) rfl,?_⟩;intro u i;have h:=(h.set 0 rfl i).1;refine h.a 0 rfl rfl ?_;exact⟨rfl,h.below⟩
theorem B2n (v:V) (A:Option Addr) (c:Nat) (S:Nat->Prop) (w:World) (r:RepC S w v (D3 v A c)):Calls Tryz.prog 188 #[.agg (D3 v A c).toArray] w (D4 (.agg (G0 (A37 v)).toArray) w):=by
 refine vE Tryz.func188 ?_;intro g F j;have h:=((Ctx.start w no (fun _ o=>o.elim)).loc j).1;refine h.n fun E a y h=>?_;have d:=h.blk 1 rfl;have l:∀ b,(fun b=>b=g) b->b<a.heap.size:=fun b m=>by subst m;exact d.lt
 refine vD (.Q [0,3,6] (.n 1 (.q 2 (.n 4 (.q 5 (.n 7 (.Q [8,9,10] (.z 11)) .stop)) .stop)) .stop)) (Keeps (fun b=>b=g) a) (Keeps.start _ _) ?_;have k:=Keeps.start (fun b=>b=g) a;have h:=h.drew
 iterate 3 (refine⟨D3 v A c,?_,fun x p=>p.cells d rfl,?_⟩;(· rfl))
 refine⟨⟨(J2 v 0 A c S _ (r.below h.below)).mono fun n f q=>?_⟩,t6⟩;obtain⟨B,s,e,q,_⟩:=q;have h:=(h.quiet q).1;have k:=k.below l q;refine⟨_,e,k,⟨(J2 v 1 A c S _ (r.below h.below)).mono fun n f q=>?_⟩,t6⟩;obtain⟨t,D,e,q,_⟩:=q;have h:=(h.quiet q).1;have k:=k.below l q;refine⟨_,e,k,⟨(J2 v 2 A c S _ (r.below h.below)).mono fun n f q=>?_⟩,t6⟩;obtain⟨C,z,e,q,_⟩:=q;have h:=(h.quiet q).1;have k:=k.below l q;refine⟨_,e,k,h.may 0 rfl 0 _ (zc 3) rfl,?_⟩;intro u i;have h:=(h.set 0 rfl i).1;refine h.a 0 rfl rfl ?_;exact⟨rfl,h.below⟩
theorem A2e (A:Option Addr) (n c:Nat) (x:List Value):Stab (fun S w=>Row S w A n c x):=fun _ _ _ _ h f=>h.fut f
theorem B2o (l:List Ent) (c:List (List Value)):Stab (fun S w=>RepEs S w l c):=fun _ _ _ _ h f=>RepEs.map (fun h=>h.fut f) h
theorem RepEs.snoc {S:Nat->Prop} {w:World} {l:List Ent} {s:List (List Value)} {e:Ent} {c:List Value} (a:RepEs S w l s) (h:RepE S w e c):RepEs S w (l++[e]) (s++[c]):=a.append ⟨c,[],rfl,h,rfl⟩
theorem A8D (v:V) (A:Option Addr) (c:Nat) (g:Nat->Prop) (w:World) (o:RepC g w v (D3 v A c)) (Y:(vL v).length<=1000000) :
  Calls Tryz.prog 186 #[.agg (D3 v A c).toArray,.func (.func 182) #[] #[]] w (fun u w'=>∃ a f,u=.returned (.slice a ((vL v).map B0G).length f)/\Below w.heap.size w w'/\Row (ext no w w') w' a ((vL v).map B0G).length f (((vL v).map B0G).map J0).flatten):=by
 obtain⟨ys,L,C⟩:=o.rows;refine vE Tryz.func186 ?_;intro E w1 n;have h:=((CtxF.start w no (fun _ t=>t.elim) (R:=fun S w=>True) trivial (Stab.true)).loc n).1;have h:=h.nil 147 3;refine h.c 0 rfl rfl ?_;refine⟨Nat × Option Addr × Nat,fun x=>[(1,.func (.func 182) #[] #[]),(5,.slice x.2.1 x.1 x.2.2),(9,.slice A (vL v).length c),(10,.int .i64 (vL v).length),(11,.int .i64 x.1)],
  fun x w'=>x.1<=(vL v).length/\∃ S s,CtxF no w S w' [(E,107,D3 v A c)] [⟨147,3,x.2.1,x.1,x.2.2,s⟩] (fun S w=>True)/\s=((((vL v).take x.1).map B0G).map J0).flatten,
  fun x _=>(vL v).length-x.1,(0,none,0),⟨rfl,rfl,rfl,rfl,rfl,t6⟩,⟨zb _,no,[],h,rfl⟩,?_⟩
 clear h;rintro⟨i,k,y⟩ Q G ⟨b,S,s,h,j⟩;simp only at b h;by_cases l:i<(vL v).length
 ·refine dt (by omega) ?_;obtain⟨P,cs,rfl,r,T,e⟩:=Rep.elem L C i l;have e:=cellsAt_later h.below _ _ e;obtain⟨d,p,rfl⟩:=r.cells;have N:(vL v)[i]∈vL v:=List.getElem_mem l;have D:((vL v).take (i+1)).map B0G=((vL v).take i).map B0G++[B0G (vL v)[i]]:=by rw [List.take_add_one,yc l,List.map_append];rfl
  generalize (vL v)[i]=x at*;refine⟨⟨by first | omega | (simp only;omega),by first | omega | (simp only;omega)⟩,D3 x d p,rfl,e,?_⟩;refine h.n fun O U J h=>?_;refine⟨h.may 0 rfl 0 _ (zc 4) rfl,?_⟩;intro K q;have h:=(h.set 0 rfl q).1;refine⟨D3 x d p,rfl,h.cells 0 rfl,?_⟩;refine h.q (B2m x d p g _ (r.below h.below)) fun F I h=>?_;refine h.n fun W Z M h=>?_;refine F0 Tryz.underlying97 A6n rfl (by decide) h (ys:=J0 (B0G x)) (m:=1) rfl (h.cells 0 rfl) rfl (by omega) (by decide) rfl rfl ?_;intro a z X h;exact⟨(i+1,a,z),⟨rfl,rfl,rfl,rfl,yb _ (C4 (by first | omega | (simp only;omega))),t6⟩,⟨l,_,_,h.drop.drop,by simp only;rw [D,List.map_append,zt,j];simp⟩,by show (vL v).length-(i+1)<(vL v).length-i;omega⟩
 ·refine df (by first | omega | (simp only;omega)) ?_;have b:i=(vL v).length:=by omega
  subst b;rw [List.take_length] at*;obtain⟨H,_,h⟩:=h.told;have B:=h.out;subst j;exact⟨k,y,by rw [zl];rfl,h.below,by rw [zl];exact B.2⟩
theorem B2p (v:V) (A:Option Addr) (p:Nat) (S:Nat->Prop) (w:World) (r:RepC S w v (D3 v A p)) (B:(vL (atV v 1)).length<=1000000) (g:Addr) (i:w.cell? g=some (.func (.func 182) #[] #[])):
  Calls Tryz.prog 185 #[.agg (D3 v A p).toArray,.pointer (some g)] w (fun n w'=>∃ f d,n=.returned (.agg #[.string (A0B v).key,.slice f (A0B v).vs.length d])/\Below w.heap.size w w'/\Row (ext no w w') w' f (A0B v).vs.length d ((A0B v).vs.map J0).flatten):=by
 obtain⟨L,H,E⟩:=g;refine vE Tryz.func185 ?_;intro I N o;have h:=((CtxF.start w no (fun _ a=>a.elim) (R:=fun _ _=>True) trivial Stab.true).loc o).1;refine h.n fun M c J h=>?_;have l:∀ b,b<c.heap.size->b<c.heap.size:=fun _ a=>a;have i:=cell_later h.below i;refine vD (.Q [0,3,5] (.n 1 (.q 2 (.n 4 (.n 6 (.q 7 (.z 8)) .stop) .stop)) .stop)) (Keeps (fun b=>b<c.heap.size) c) (Keeps.start _ _) ?_;have k:=Keeps.start (fun b=>b<c.heap.size) c
 iterate 2 (refine⟨D3 v A p,?_,fun x j=>j.looks _ _ (h.cells 1 rfl),?_⟩;(· rfl))
 refine⟨_,fun x j=>j.look i,?_⟩;have h:=h.drew;refine⟨⟨(J2 v 0 A p S _ (r.below h.below)).mono fun n y q=>?_⟩,t6⟩;obtain⟨K,D,e,q,_⟩:=q;have h:=(h.quiet q).1;have k:=k.below l q;refine⟨_,e,k,⟨(J2 v 1 A p S _ (r.below h.below)).mono fun n y q=>?_⟩,t6⟩;obtain⟨t,z,e,q,s⟩:=q;have h:=(h.quiet q).1;have k:=k.below l q;refine⟨_,e,k,⟨(A8D (atV v 1) t z S _ s B).mono fun n G q=>?_⟩,t6⟩;obtain⟨f,d,e,m,C⟩:=q;have h:=(h.call m).1.know (C.sub fun b a=>a.elim (fun a=>a.elim) .inr) (A2e _ _ _ _);have k:=k.below l m;refine⟨_,e,k,h.may 0 rfl 0 _ (zc 2) rfl,?_⟩;intro F u;have h:=(h.set 0 rfl u).1;refine h.a 0 rfl rfl ?_;exact⟨f,d,rfl,h.below,h.out.2⟩
theorem A8E (v:V) (A:Option Addr) (c:Nat) (g:Nat->Prop) (w:World) (o:RepC g w v (D3 v A c)) (Y:(vL v).length<=1000000) :
  Calls Tryz.prog 187 #[.agg (D3 v A c).toArray,.func (.func 188) #[] #[]] w (fun u w'=>∃ a f,u=.returned (.slice a ((vL v).map A37).length f)/\Below w.heap.size w w'/\Row (ext no w w') w' a ((vL v).map A37).length f (((vL v).map A37).map G0).flatten):=by
 obtain⟨ys,L,C⟩:=o.rows;refine vE Tryz.func187 ?_;intro E w1 n;have h:=((CtxF.start w no (fun _ t=>t.elim) (R:=fun S w=>True) trivial (Stab.true)).loc n).1;have h:=h.nil 101 3;refine h.c 0 rfl rfl ?_;refine⟨Nat × Option Addr × Nat,fun x=>[(1,.func (.func 188) #[] #[]),(5,.slice x.2.1 x.1 x.2.2),(9,.slice A (vL v).length c),(10,.int .i64 (vL v).length),(11,.int .i64 x.1)],
  fun x w'=>x.1<=(vL v).length/\∃ S s,CtxF no w S w' [(E,107,D3 v A c)] [⟨101,3,x.2.1,x.1,x.2.2,s⟩] (fun S w=>True)/\s=((((vL v).take x.1).map A37).map G0).flatten,
  fun x _=>(vL v).length-x.1,(0,none,0),⟨rfl,rfl,rfl,rfl,rfl,t6⟩,⟨zb _,no,[],h,rfl⟩,?_⟩
 clear h;rintro⟨i,k,y⟩ Q G ⟨b,S,s,h,j⟩;simp only at b h;by_cases l:i<(vL v).length
 ·refine dt (by omega) ?_;obtain⟨P,cs,rfl,r,T,e⟩:=Rep.elem L C i l;have e:=cellsAt_later h.below _ _ e;obtain⟨d,p,rfl⟩:=r.cells;have N:(vL v)[i]∈vL v:=List.getElem_mem l;have D:((vL v).take (i+1)).map A37=((vL v).take i).map A37++[A37 (vL v)[i]]:=by rw [List.take_add_one,yc l,List.map_append];rfl
  generalize (vL v)[i]=x at*;refine⟨⟨by first | omega | (simp only;omega),by first | omega | (simp only;omega)⟩,D3 x d p,rfl,e,?_⟩;refine h.n fun O U J h=>?_;refine⟨h.may 0 rfl 0 _ (zc 4) rfl,?_⟩;intro K q;have h:=(h.set 0 rfl q).1;refine⟨D3 x d p,rfl,h.cells 0 rfl,?_⟩;refine h.q (B2n x d p g _ (r.below h.below)) fun F I h=>?_;refine h.n fun W Z M h=>?_;refine F0 Tryz.underlying38 A2I rfl (by decide) h (ys:=G0 (A37 x)) (m:=1) rfl (h.cells 0 rfl) rfl (by omega) (by decide) rfl rfl ?_;intro a z X h;exact⟨(i+1,a,z),⟨rfl,rfl,rfl,rfl,yb _ (C4 (by first | omega | (simp only;omega))),t6⟩,⟨l,_,_,h.drop.drop,by simp only;rw [D,List.map_append,zt,j];simp⟩,by show (vL v).length-(i+1)<(vL v).length-i;omega⟩
 ·refine df (by first | omega | (simp only;omega)) ?_;have b:i=(vL v).length:=by omega
  subst b;rw [List.take_length] at*;obtain⟨H,_,h⟩:=h.told;have B:=h.out;subst j;exact⟨k,y,by rw [zl];rfl,h.below,by rw [zl];exact B.2⟩
theorem A8F (v:V) (f:Option Addr) (p:Nat) (s:Nat->Prop) (w:World) (I:RepC s w v (D3 v f p)) (hn:(vL v).length<=1000000) (E:∀ x∈vL v,(vL (atV x 1)).length<=1000000) (d:Addr) (M:w.cell? d=some (.func (.func 182) #[] #[])):
  Calls Tryz.prog 184 #[.agg (D3 v f p).toArray,.func (.func 185) #[] #[.pointer (some d)]] w (fun o w'=>∃ e q c,o=.returned (.slice e ((vL v).map A0B).length q)/\Below w.heap.size w w'/\RepEs (ext no w w') w' ((vL v).map A0B) c/\Row (ext no w w') w' e ((vL v).map A0B).length q c.flatten):=by
 obtain⟨ys,L,B⟩:=I.rows;refine vE Tryz.func184 ?_;intro Q w1 G;have h:=((CtxF.start w no (fun _ a=>a.elim) (R:=fun S w=>RepEs S w [] []) rfl (B2o _ _)).loc G).1;have h:=h.nil 99 2;refine h.c 0 rfl rfl ?_;refine⟨Nat × Option Addr × Nat,fun x=>[(1,.func (.func 185) #[] #[.pointer (some d)]),(5,.slice x.2.1 x.1 x.2.2),(9,.slice f (vL v).length p),(10,.int .i64 (vL v).length),(11,.int .i64 x.1)],
  fun x w'=>x.1<=(vL v).length/\∃ S c,CtxF no w S w' [(Q,107,D3 v f p)] [⟨99,2,x.2.1,x.1,x.2.2,c.flatten⟩] (fun S w=>RepEs S w (((vL v).take x.1).map A0B) c)/\True,
  fun x _=>(vL v).length-x.1,(0,none,0),⟨rfl,rfl,rfl,rfl,rfl,t6⟩,⟨zb _,no,[],h,t6⟩,?_⟩
 clear h;rintro⟨i,y,z⟩ w4 W ⟨j,S,c,h,a4⟩;simp only at j h;by_cases l:i<(vL v).length
 ·refine dt (by omega) ?_;obtain⟨ad,cs,rfl,r,a1,k⟩:=Rep.elem L B i l;have k:=cellsAt_later h.below _ _ k;obtain⟨g,n,rfl⟩:=r.cells;have J:(vL v)[i]∈vL v:=List.getElem_mem l;have C:((vL v).take (i+1)).map A0B=((vL v).take i).map A0B++[A0B (vL v)[i]]:=by rw [List.take_add_one,yc l,List.map_append];rfl
  generalize (vL v)[i]=x at*;refine⟨⟨by first | omega | (simp only;omega),by first | omega | (simp only;omega)⟩,D3 x g n,rfl,k,?_⟩;refine h.n fun g7 w7 Y h=>?_;refine⟨h.may 0 rfl 0 _ (zc 4) rfl,?_⟩;intro w8 N;have h:=(h.set 0 rfl N).1;refine⟨D3 x g n,rfl,h.cells 0 rfl,?_⟩;refine⟨(B2p x g n s _ (r.below h.below) (E x J) d (cell_later h.below M)).mono fun o T K=>?_⟩;obtain⟨A,b,H,F,D⟩:=K;have h:=(h.call F).1.know (D.sub fun a3 a=>a.elim (fun a=>a.elim) .inr) (A2e _ _ _ _);refine⟨_,H,?_⟩;refine h.n fun a2 a5 Z h=>?_;refine F0 Tryz.underlying37 A1M rfl (by decide) h (ys:=[.string (A0B x).key,.slice A (A0B x).vs.length b]) (m:=1) rfl (h.cells 0 rfl) rfl (by omega) (by decide) rfl rfl ?_;intro e O a0 h;have u:=h.drop.drop.now (X:=fun S w=>RepEs S w (((vL v).take i).map A0B++[A0B x]) (c++[[.string (A0B x).key,.slice A (A0B x).vs.length b]])) (fun a=>RepEs.snoc a.1 ⟨A,b,rfl,a.2⟩) (B2o _ _);have P:c.flatten++[Value.string (A0B x).key,Value.slice A (A0B x).vs.length b]=(c++[[Value.string (A0B x).key,Value.slice A (A0B x).vs.length b]]).flatten:=by rw [zt];simp
  rw [<-C,P] at u;exact⟨(i+1,e,O),⟨rfl,rfl,rfl,rfl,yb _ (C4 (by first | omega | (simp only;omega))),t6⟩,⟨l,_,_,u,t6⟩,by show (vL v).length-(i+1)<(vL v).length-i;omega⟩
 ·refine df (by first | omega | (simp only;omega)) ?_;have j:i=(vL v).length:=by omega
  subst j;rw [List.take_length] at*;obtain⟨U,_,h⟩:=h.told;have t:=h.out;exact⟨y,z,c,by rw [zl];rfl,h.below,t.1,by rw [zl];exact t.2⟩
def Sm (f N:Nat) (v:V):Prop:=v=V0\/(cnt f v<=6000/\(L4 v).length<=N)
theorem Sm.mem {f N:Nat} {v:V} (d:Sm (f+1) N v):(vL v).length<=6000/\∀ x∈vL v,Sm f N x:=by
 obtain rfl|⟨c,p⟩:=d
 ·exact⟨zb _,fun x h=>by cases h⟩
 obtain⟨k,n,s,l⟩:=v;show l.length<=6000/\∀ x∈l,_;rw [cnt] at c;by_cases b:(k==1&&mt s&&((l.length:Int)==0))||(k==2&&n==0&&((l.length:Int)==0))
 ·have h0:l=[]:=by
   simp only [Bool.or_eq_true,z7,beq_iff_eq] at b;have:l.length=0:=by omega
   exact zo this
  subst h0;exact⟨zb _,fun x h=>by cases h⟩
 rw [yo b] at c;by_cases a:(k != 3||!(n==0)||!mt s)=true
 ·rw [yn a] at c;omega
 rw [yo a] at c;obtain⟨j,i⟩:=A7v (cnt f) (fun v=>(M5 f v).1) l 1 c;have e:k=3:=by simp only [Bool.or_eq_true,not_or,Bool.not_eq_true] at a;simpa using a.1.1
 subst e;have t:K0 (.mk 3 n s l)=Q1 l:=by simp [K0]
 have g:(Q1 l).length<=N:=by rw [E8,t] at p;omega
 exact⟨by omega,fun x h=>.inr ⟨by have:=i x h;omega,zq (Y1 h) g⟩⟩
theorem Sm.at {f N:Nat} {v:V} (a:Sm (f+1) N v) (i:Nat):Sm f N (atV v i):=by
 unfold atV;rw [List.getD_eq_getElem?_getD];cases h:(vL v)[i]? with
 | none=>exact .inl rfl
 | some x=>exact a.mem.2 x (List.mem_of_getElem? h)
theorem Sm.str {f N:Nat} {v:V} (a:Sm f N v):(vS v).size<=N:=by
 obtain rfl|⟨h,p⟩:=a
 ·exact zb _
 ·exact zq (B0H h) p
theorem B78 (t:List UInt8):Sm 6 t.length (A1o t).1:=by
 by_cases h:(A1o t).2=0
 ·have a:A1o t=((A1o t).1,0):=by rw [<-h]
  obtain⟨c,k,d⟩:=B42 a;exact .inr ⟨by simpa [A2D] using k,by rw [c];exact zc _⟩
 ·left;unfold A1o at h ⊢;simp only at h ⊢;split at h
  ·rename_i b;rw [yn b]
  ·exact absurd rfl h
theorem B9q (t:List UInt8) (w:World) (b:t.length<=1073741824) (j:Env w):
  Calls Tryz.prog 128 #[.string ⟨t.toArray⟩] w (fun e w'=>∃ A c,e=.returned (.tuple #[.agg (D3 (A1o t).1 A c).toArray,.int .i64 (A1o t).2])/\Below w.heap.size w w'/\RepC (ext no w w') w' (A1o t).1 (D3 (A1o t).1 A c)):=
 (B7l t w b j).mono fun e w' f=>by obtain⟨k,n,s,A,len,c,i,d,h⟩:=f;obtain⟨g,p,a⟩:=h.cells;rw [a] at h;exact⟨g,p,by rw [i,<-a],d,h⟩
def C09 (q:Stt × Int) (w:World) (en:Ending) (w':World):Prop:=∃ cs,en=.returned (.tuple #[.agg cs.toArray,.int .i64 q.2])/\Below w.heap.size w w'/\RepS (ext no w w') w' q.1 cs
def B5S:List Value:=[.int .i64 0,.slice none 0 0,.slice none 0 0,.int .i64 0,.int .i64 0,.int .i64 0,.int .i64 0,.int .i64 0]
theorem A39 (S:Nat->Prop) (w:World):Row S w none 0 0 []:=⟨zc _,zb _,fun h=>absurd rfl h⟩
theorem rep0 (S:Nat->Prop) (w:World):RepS S w Stt0 B5S:=⟨none,0,[],none,0,rfl,rfl,rfl,A39 S w,A39 S w⟩
def B4l (u:V) (i j:Nat):Int:=if j<i then vN (atV u j) else 0
def A5S (u:V) (i:Nat):List Value:=[.int .i64 (B4l u i 0),.int .i64 (B4l u i 1),.int .i64 (B4l u i 2),.int .i64 (B4l u i 3),.int .i64 (B4l u i 4)]
theorem B5T (a b c:Value) (u:V) (i:Nat) (h:i<5):C5 ([a,b,c]++A5S u i) (3+i) [.int .i64 (vN (atV u i))]=[a,b,c]++A5S u (i+1):=by
 match i,h with
 | 0,_=>simp [C5,A5S,B4l]
 | 1,_=>simp [C5,A5S,B4l]
 | 2,_=>simp [C5,A5S,B4l]
 | 3,_=>simp [C5,A5S,B4l]
 | 4,_=>simp [C5,A5S,B4l]
theorem A0u (s:Stt) (c:List Value):Stab (fun S w=>RepS S w s c):=fun _ _ _ _ h f=>h.map (fun h=>h.fut f)
theorem B2q (t:List UInt8) (ht:t.length<=1073741824) (w:World) (W:Env w):Calls Tryz.prog 130 #[.string ⟨t.toArray⟩] w (C09 (A5I t) w):=by
 refine vE Tryz.func130 ?_;have h:=CtxF.start w no (fun _ a=>a.elim) (R:=fun S w=>True) trivial Stab.true;refine h.n fun V b1 a9 h=>?_;refine⟨(B9q t _ ht (W.below h.below)).mono fun n l b=>?_⟩;obtain⟨f,p,e,b,G⟩:=b;have h:=(h.call b).1.know (G.sub fun C a=>a.elim (fun a=>a.elim) .inr) (G3 _ _);have y:=B78 t;have Q:A5I t=if (A1o t).2≠0 then (Stt0,1) else if F5 (A38 (A1o t).1)=[]\/F5 (A38 (A1o t).1)≠t then (Stt0,1) else (A38 (A1o t).1,0):=rfl
 rw [Q];clear Q G;generalize A1o t=q at*;obtain⟨v,u⟩:=q;simp only at y h ⊢;refine⟨_,e,?_⟩;refine h.n fun O a7 a6 h=>?_;refine h.s 0 rfl fun g d h=>?_;by_cases s:u=0;rotate_left
 ·refine B5 (by show (u != 0)=true;simpa using s) ?_;refine h.s 1 rfl fun g d h=>?_;refine h.a 1 rfl rfl ?_;rw [yn s];exact⟨B5S,rfl,h.below,rep0 _ _⟩
 refine B4 (by show (u != 0)=false;simpa using s) ?_;rw [yo (show ¬ u≠0 by omega)];refine h.n fun J b0 a8 h=>?_;refine h.s 0 rfl fun g d h=>?_;refine h.a 1 rfl rfl ?_;refine⟨(J2 v 0 f p _ _ h.row.2).mono fun n l b=>?_⟩;obtain⟨A0,b3,e,b,_⟩:=b;have h:=(h.quiet b).1;refine⟨_,e,?_⟩;refine h.n fun r a4 b4 h=>?_;refine h.s 0 rfl fun g d h=>?_;refine h.a 2 rfl rfl ?_;refine⟨(J2 v 1 f p _ _ h.row.2).mono fun n l b=>?_⟩;obtain⟨Y,a2,e,b,L⟩:=b;have h:=(h.quiet b).1.know L (G3 _ _);refine⟨_,e,?_⟩;have T:=y.at 1;refine⟨(A8F (atV v 1) Y a2 _ _ h.row.2 (zq T.mem.1 (by decide)) (fun x E=>zq ((T.mem.2 x E).at 1).mem.1 (by decide)) ⟨J,0,none⟩ (h.cell 1 rfl 0 rfl)).mono fun n l b=>?_⟩;obtain⟨A,j,c,e,b,U,H⟩:=b;have h:=(h.call b).1.know (X:=fun S w=>RepEs S w ((vL (atV v 1)).map A0B) c/\Row S w A ((vL (atV v 1)).map A0B).length j c.flatten) ⟨U.map (fun a=>a.sub fun C a=>a.elim (fun a=>a.elim) .inr),H.sub fun C a=>a.elim (fun a=>a.elim) .inr⟩ (fun _ _ _ _ a o=>⟨RepEs.map (fun a=>a.fut o) a.1,a.2.fut o⟩);refine⟨_,e,?_⟩;refine h.s 0 rfl fun g d h=>?_;refine h.a 2 rfl rfl ?_;refine⟨(J2 v 2 f p _ _ h.row.1.1.2).mono fun n l b=>?_⟩;obtain⟨A3,a3,e,b,F⟩:=b;have h:=(h.quiet b).1;refine⟨_,e,?_⟩;refine⟨(A8E (atV v 2) A3 a3 _ _ F (zq (y.at 2).mem.1 (by decide))).mono fun n l b=>?_⟩;obtain⟨m,k,e,b,M⟩:=b;have h:=(h.call b).1.know (M.sub fun C a=>a.elim (fun a=>a.elim) .inr) (A2e _ _ _ _);refine⟨_,e,?_⟩;refine h.s 0 rfl fun g d h=>?_;refine⟨Nat,fun i=>[(0,.string ⟨t.toArray⟩),(2,.pointer (some ⟨V,0,none⟩)),(4,.pointer (some ⟨O,0,none⟩)),(7,.pointer (some ⟨r,0,none⟩)),(31,.int .i64 i)],
  fun i w'=>i<=5/\∃ S,CtxF no w S w' [(r,41,[.int .i64 (vN (atV v 0)),.slice A ((vL (atV v 1)).map A0B).length j,.slice m ((vL (atV v 2)).map A37).length k]++A5S (atV v 3) i),(J,213,[.func (.func 182) #[] #[]]),(O,107,D3 v f p),(V,41,(lay.ty 41).zero)] []
   (fun S w=>RepC S w v (D3 v f p)/\(RepEs S w ((vL (atV v 1)).map A0B) c/\Row S w A ((vL (atV v 1)).map A0B).length j c.flatten)/\Row S w m ((vL (atV v 2)).map A37).length k (((vL (atV v 2)).map A37).map G0).flatten),
  fun i _=>5-i,0,⟨rfl,rfl,rfl,rfl,rfl,t6⟩,⟨zb _,_,h.now (fun a=>⟨a.1.1.1.2,a.1.2,a.2⟩) ((G3 _ _).and (Stab.and (fun _ _ _ _ a o=>⟨RepEs.map (fun a=>a.fut o) a.1,a.2.fut o⟩) (A2e _ _ _ _)))⟩,?_⟩
 clear h U H M L F;rintro i w4 a5 ⟨K,S,h⟩;by_cases P:i<5
 ·refine dt (by omega) ?_;refine h.a 2 rfl rfl ?_;refine⟨(J2 v 3 f p _ _ h.row.1).mono fun n l b=>?_⟩;obtain⟨A5,a1,e,b,Z⟩:=b;have h:=(h.quiet b).1;refine⟨_,e,?_⟩;refine⟨(J2 (atV v 3) i A5 a1 _ _ Z).mono fun n l b=>?_⟩;obtain⟨A6,b2,e,b,_⟩:=b;have h:=(h.quiet b).1;refine⟨_,e,⟨Int.natCast_nonneg _,by omega⟩,?_⟩;generalize D:((⟨r,0+3,none⟩:Addr).add ((i:Int).toNat*1))=ae;have D:(⟨r,3+i,none⟩:Addr)=ae:=by rw [<-D,yi,Nat.mul_one,zn,zi]
  subst D;refine⟨h.may 0 rfl (3+i) [.int .i64 (vN (atV (atV v 3) i))] (by show 3+i+1<=8;omega) rfl,?_⟩;intro w21 B;have B:E6 _ ⟨r,3+i,none⟩ [.int .i64 (vN (atV (atV v 3) i))] w21:=B;have h:=(h.set 0 rfl B).1;have ep:=B5T (.int .i64 (vN (atV v 0))) (.slice A ((vL (atV v 1)).map A0B).length j) (.slice m ((vL (atV v 2)).map A37).length k) (atV v 3) i P;refine⟨i+1,⟨rfl,rfl,rfl,rfl,yb _ (C4 (by omega)),t6⟩,⟨P,S,by rw [<-ep];exact h⟩,by show 5-(i+1)<5-i;omega⟩
 ·refine df (by omega) ?_;have K:i=5:=by omega
  subst K;refine h.a 0 rfl rfl ?_;have b5:Stab (fun S w=>RepC S w v (D3 v f p)/\(RepEs S w ((vL (atV v 1)).map A0B) c/\Row S w A ((vL (atV v 1)).map A0B).length j c.flatten)/\Row S w m ((vL (atV v 2)).map A37).length k (((vL (atV v 2)).map A37).map G0).flatten):=h.stab;have I:∀ (S:Nat->Prop) (w:World),(RepC S w v (D3 v f p)/\(RepEs S w ((vL (atV v 1)).map A0B) c/\Row S w A ((vL (atV v 1)).map A0B).length j c.flatten)/\Row S w m ((vL (atV v 2)).map A37).length k (((vL (atV v 2)).map A37).map G0).flatten)->
    RepS S w (A38 v) ([.int .i64 (vN (atV v 0)),.slice A ((vL (atV v 1)).map A0B).length j,.slice m ((vL (atV v 2)).map A37).length k]++A5S (atV v 3) 5):=fun S w a=>⟨A,j,c,m,k,rfl,rfl,a.2.1.1,a.2.1.2,a.2.2⟩
  have a0:∀ N∈(A38 v).l,U7 N.key:=by intro N s;obtain⟨x,E,rfl⟩:=List.mem_map.1 s;have:=(((y.at 1).mem.2 x E).at 0).str;show (vS (atV x 0)).size<=_;omega
  refine h.q (A9U (A38 v) a0 _ _ _ (I _ _ h.row) (W.tab.below h.below)) fun wQ hQ h=>?_;have err:(F5 (A38 v)=[]\/F5 (A38 v)≠t)->(if F5 (A38 v)=[]\/F5 (A38 v)≠t then ((Stt0,1):Stt × Int) else (A38 v,0))=(Stt0,1):=fun a=>yn a;by_cases h0:F5 (A38 v)=[]
  ·refine B5 (by rw [C6,h0]) ?_;refine h.s 3 rfl fun g d h=>?_;refine h.a 3 rfl rfl ?_;rw [err (.inl h0)];exact⟨B5S,rfl,h.below,rep0 _ _⟩
  refine B4 (by
   cases a:D7 ⟨(F5 (A38 v)).toArray⟩ ⟨#[]⟩
   ·rfl
   ·rw [C6] at a;exact absurd (by simpa using a) h0) ?_
  by_cases z:F5 (A38 v)=t
  ·refine B4 (by show (!D7 ⟨(F5 (A38 v)).toArray⟩ ⟨t.toArray⟩)=false;rw [z,C6.2 rfl];rfl) ?_;refine h.a 0 rfl rfl ?_;refine h.s 3 rfl fun g d h=>?_;refine h.a 3 rfl rfl ?_;rw [yo (by rintro (a | a);exact h0 a;exact a z)];exact⟨_,rfl,h.below,I _ _ h.out⟩
  ·refine B5 (by
    show (!D7 ⟨(F5 (A38 v)).toArray⟩ ⟨t.toArray⟩)=true;cases a:D7 ⟨(F5 (A38 v)).toArray⟩ ⟨t.toArray⟩
    ·rfl
    ·rw [C6] at a;exact absurd (by simpa using a) z) ?_
   refine h.s 3 rfl fun g d h=>?_;refine h.a 3 rfl rfl ?_;rw [err (.inr z)];exact⟨B5S,rfl,h.below,rep0 _ _⟩
def cut (s:ByteArray) (n:Nat):ByteArray:=s.extract 0 (min s.size n)
theorem C3 (s:ByteArray) (n:Nat) (w:World) (h:s.size<=9223372036854775807):Calls Tryz.prog 49 #[.string s,.int .i64 n] w (D4 (.string (cut s n)) w):=by have:=B7Z s n w (Int.natCast_nonneg _) h;rw [zi] at this;exact this
theorem A5T (s:ByteArray) (n:Nat):(cut s n).size<=n:=by unfold cut;rw [ByteArray.size_extract];omega
def C1A (d:D):D:=⟨d.kind,cut d.key 42,cut d.body 302,d.ver,d.cond,cut d.tag 10,d.req,d.low⟩
theorem A8G {d:D} (h:d.Ok):(C1A d).Ok:=
 ⟨h.kind,zq (A5T _ _) (by decide),zq (A5T _ _) (by decide),h.ver,h.cond,zq (A5T _ _) (by decide),h.req,h.low⟩
theorem A3S (d:D) (a:d.Ok) (c:World):Calls Tryz.prog 18 #[.agg (dC d).toArray] c (D4 (.agg (dC (C1A d)).toArray) c):=by
 refine vE Tryz.func18 ?_;have h:=CtxF.start c no (fun _ a=>a.elim) (R:=fun _ _=>True) trivial Stab.true;refine h.n fun i j e h=>?_;refine h.n fun f k g h=>?_;refine vD (.Q [0,3,6] (.n 1 (.n 2 (.n 4 (.n 5 (.n 7 (.q 9 (.n 8 (.n 10 (.q 11 (.n 12 (.q 13 (.z 14)) .stop)) .stop) .stop)) .stop) (.n 7 (.q 9 (.n 5 (.n 8 (.n 10 (.q 11 (.n 12 (.q 13 (.z 14)) .stop)) .stop) .stop) .stop)) .stop)) (.n 7 (.n 4 (.q 9 (.n 5 (.n 8 (.n 10 (.q 11 (.n 12 (.q 13 (.z 14)) .stop)) .stop) .stop) .stop)) .stop) .stop)) (.n 4 (.n 2 (.n 5 (.n 7 (.q 9 (.n 8 (.n 10 (.q 11 (.n 12 (.q 13 (.z 14)) .stop)) .stop) .stop)) .stop) (.n 7 (.q 9 (.n 5 (.n 8 (.n 10 (.q 11 (.n 12 (.q 13 (.z 14)) .stop)) .stop) .stop) .stop)) .stop)) (.n 7 (.n 2 (.q 9 (.n 5 (.n 8 (.n 10 (.q 11 (.n 12 (.q 13 (.z 14)) .stop)) .stop) .stop) .stop)) .stop) .stop)) (.n 7 (.n 2 (.n 4 (.q 9 (.n 5 (.n 8 (.n 10 (.q 11 (.n 12 (.q 13 (.z 14)) .stop)) .stop) .stop) .stop)) .stop) (.n 4 (.n 2 (.q 9 (.n 5 (.n 8 (.n 10 (.q 11 (.n 12 (.q 13 (.z 14)) .stop)) .stop) .stop) .stop)) .stop) .stop)) .stop))) (.n 4 (.n 1 (.n 2 (.n 5 (.n 7 (.q 9 (.n 8 (.n 10 (.q 11 (.n 12 (.q 13 (.z 14)) .stop)) .stop) .stop)) .stop) (.n 7 (.q 9 (.n 5 (.n 8 (.n 10 (.q 11 (.n 12 (.q 13 (.z 14)) .stop)) .stop) .stop) .stop)) .stop)) (.n 7 (.n 2 (.q 9 (.n 5 (.n 8 (.n 10 (.q 11 (.n 12 (.q 13 (.z 14)) .stop)) .stop) .stop) .stop)) .stop) .stop)) (.n 7 (.n 1 (.n 2 (.q 9 (.n 5 (.n 8 (.n 10 (.q 11 (.n 12 (.q 13 (.z 14)) .stop)) .stop) .stop) .stop)) .stop) .stop) .stop)) (.n 7 (.n 1 (.n 2 (.n 4 (.q 9 (.n 5 (.n 8 (.n 10 (.q 11 (.n 12 (.q 13 (.z 14)) .stop)) .stop) .stop) .stop)) .stop) (.n 4 (.n 2 (.q 9 (.n 5 (.n 8 (.n 10 (.q 11 (.n 12 (.q 13 (.z 14)) .stop)) .stop) .stop) .stop)) .stop) .stop)) (.n 4 (.n 1 (.n 2 (.q 9 (.n 5 (.n 8 (.n 10 (.q 11 (.n 12 (.q 13 (.z 14)) .stop)) .stop) .stop) .stop)) .stop) .stop) .stop)) .stop)))) (fun _=>True) trivial ?_;have h:=h.drew;refine⟨?_,?_⟩
 ·skip
  refine⟨_,h.cell 1 rfl _ rfl,t6,?_,?_⟩
  ·skip
   refine h.q' (C3 d.key 42 _ a.key) fun b Q h=>?_;refine⟨?_,?_⟩
   ·skip
    refine⟨_,h.cell 1 rfl _ rfl,t6,?_,?_⟩
    ·skip
     refine h.q' (C3 d.body 302 _ a.body) fun b Q h=>?_;refine⟨⟨_,h.cell 1 rfl _ rfl,t6,?_⟩,t6⟩;refine⟨h.q' (C3 d.tag 10 _ a.tag) fun b Q h=>?_,t6⟩;refine⟨h.s' 1 rfl fun w S h=>?_,t6⟩;refine⟨h.s' 1 rfl fun w S h=>?_,t6⟩;refine h.s 1 rfl fun w S h=>?_;refine h.a 1 rfl rfl ?_;refine h.s 0 rfl fun w S h=>?_;refine h.a 0 rfl rfl ?_;exact⟨rfl,h.below⟩
    refine⟨⟨_,h.cell 1 rfl _ rfl,t6,?_⟩,t6⟩;refine⟨h.q' (C3 d.body 302 _ a.body) fun b Q h=>?_,t6⟩;refine⟨h.q' (C3 d.tag 10 _ a.tag) fun b Q h=>?_,t6⟩;refine⟨h.s' 1 rfl fun w S h=>?_,t6⟩;refine⟨h.s' 1 rfl fun w S h=>?_,t6⟩;refine h.s 1 rfl fun w S h=>?_;refine h.a 1 rfl rfl ?_;refine h.s 0 rfl fun w S h=>?_;refine h.a 0 rfl rfl ?_;exact⟨rfl,h.below⟩
   refine⟨⟨_,h.cell 1 rfl _ rfl,t6,?_⟩,t6⟩;refine⟨⟨_,h.cell 1 rfl _ rfl,t6,?_⟩,t6⟩;refine⟨h.q' (C3 d.body 302 _ a.body) fun b Q h=>?_,t6⟩;refine⟨h.q' (C3 d.tag 10 _ a.tag) fun b Q h=>?_,t6⟩;refine⟨h.s' 1 rfl fun w S h=>?_,t6⟩;refine⟨h.s' 1 rfl fun w S h=>?_,t6⟩;refine h.s 1 rfl fun w S h=>?_;refine h.a 1 rfl rfl ?_;refine h.s 0 rfl fun w S h=>?_;refine h.a 0 rfl rfl ?_;exact⟨rfl,h.below⟩
  refine⟨?_,?_⟩
  ·skip
   refine⟨_,h.cell 1 rfl _ rfl,t6,?_,?_⟩
   ·skip
    refine h.q' (C3 d.key 42 _ a.key) fun b Q h=>?_;refine⟨?_,?_⟩
    ·skip
     refine h.q' (C3 d.body 302 _ a.body) fun b Q h=>?_;refine⟨⟨_,h.cell 1 rfl _ rfl,t6,?_⟩,t6⟩;refine⟨h.q' (C3 d.tag 10 _ a.tag) fun b Q h=>?_,t6⟩;refine⟨h.s' 1 rfl fun w S h=>?_,t6⟩;refine⟨h.s' 1 rfl fun w S h=>?_,t6⟩;refine h.s 1 rfl fun w S h=>?_;refine h.a 1 rfl rfl ?_;refine h.s 0 rfl fun w S h=>?_;refine h.a 0 rfl rfl ?_;exact⟨rfl,h.below⟩
    refine⟨⟨_,h.cell 1 rfl _ rfl,t6,?_⟩,t6⟩;refine⟨h.q' (C3 d.body 302 _ a.body) fun b Q h=>?_,t6⟩;refine⟨h.q' (C3 d.tag 10 _ a.tag) fun b Q h=>?_,t6⟩;refine⟨h.s' 1 rfl fun w S h=>?_,t6⟩;refine⟨h.s' 1 rfl fun w S h=>?_,t6⟩;refine h.s 1 rfl fun w S h=>?_;refine h.a 1 rfl rfl ?_;refine h.s 0 rfl fun w S h=>?_;refine h.a 0 rfl rfl ?_;exact⟨rfl,h.below⟩
   refine⟨⟨_,h.cell 1 rfl _ rfl,t6,?_⟩,t6⟩;refine⟨h.q' (C3 d.key 42 _ a.key) fun b Q h=>?_,t6⟩;refine⟨h.q' (C3 d.body 302 _ a.body) fun b Q h=>?_,t6⟩;refine⟨h.q' (C3 d.tag 10 _ a.tag) fun b Q h=>?_,t6⟩;refine⟨h.s' 1 rfl fun w S h=>?_,t6⟩;refine⟨h.s' 1 rfl fun w S h=>?_,t6⟩;refine h.s 1 rfl fun w S h=>?_;refine h.a 1 rfl rfl ?_;refine h.s 0 rfl fun w S h=>?_;refine h.a 0 rfl rfl ?_;exact⟨rfl,h.below⟩
  refine⟨⟨_,h.cell 1 rfl _ rfl,t6,?_⟩,t6⟩;refine⟨?_,?_⟩
  ·skip
   refine h.q' (C3 d.key 42 _ a.key) fun b Q h=>?_;refine⟨⟨_,h.cell 1 rfl _ rfl,t6,?_⟩,t6⟩;refine⟨h.q' (C3 d.body 302 _ a.body) fun b Q h=>?_,t6⟩;refine⟨h.q' (C3 d.tag 10 _ a.tag) fun b Q h=>?_,t6⟩;refine⟨h.s' 1 rfl fun w S h=>?_,t6⟩;refine⟨h.s' 1 rfl fun w S h=>?_,t6⟩;refine h.s 1 rfl fun w S h=>?_;refine h.a 1 rfl rfl ?_;refine h.s 0 rfl fun w S h=>?_;refine h.a 0 rfl rfl ?_;exact⟨rfl,h.below⟩
  refine⟨⟨_,h.cell 1 rfl _ rfl,t6,?_⟩,t6⟩;refine⟨h.q' (C3 d.key 42 _ a.key) fun b Q h=>?_,t6⟩;refine⟨h.q' (C3 d.body 302 _ a.body) fun b Q h=>?_,t6⟩;refine⟨h.q' (C3 d.tag 10 _ a.tag) fun b Q h=>?_,t6⟩;refine⟨h.s' 1 rfl fun w S h=>?_,t6⟩;refine⟨h.s' 1 rfl fun w S h=>?_,t6⟩;refine h.s 1 rfl fun w S h=>?_;refine h.a 1 rfl rfl ?_;refine h.s 0 rfl fun w S h=>?_;refine h.a 0 rfl rfl ?_;exact⟨rfl,h.below⟩
 refine⟨?_,?_⟩
 ·skip
  refine⟨_,h.cell 1 rfl _ rfl,t6,?_,?_⟩
  ·skip
   refine⟨_,h.cell 1 rfl _ rfl,t6,?_,?_⟩
   ·skip
    refine h.q' (C3 d.key 42 _ a.key) fun b Q h=>?_;refine⟨?_,?_⟩
    ·skip
     refine h.q' (C3 d.body 302 _ a.body) fun b Q h=>?_;refine⟨⟨_,h.cell 1 rfl _ rfl,t6,?_⟩,t6⟩;refine⟨h.q' (C3 d.tag 10 _ a.tag) fun b Q h=>?_,t6⟩;refine⟨h.s' 1 rfl fun w S h=>?_,t6⟩;refine⟨h.s' 1 rfl fun w S h=>?_,t6⟩;refine h.s 1 rfl fun w S h=>?_;refine h.a 1 rfl rfl ?_;refine h.s 0 rfl fun w S h=>?_;refine h.a 0 rfl rfl ?_;exact⟨rfl,h.below⟩
    refine⟨⟨_,h.cell 1 rfl _ rfl,t6,?_⟩,t6⟩;refine⟨h.q' (C3 d.body 302 _ a.body) fun b Q h=>?_,t6⟩;refine⟨h.q' (C3 d.tag 10 _ a.tag) fun b Q h=>?_,t6⟩;refine⟨h.s' 1 rfl fun w S h=>?_,t6⟩;refine⟨h.s' 1 rfl fun w S h=>?_,t6⟩;refine h.s 1 rfl fun w S h=>?_;refine h.a 1 rfl rfl ?_;refine h.s 0 rfl fun w S h=>?_;refine h.a 0 rfl rfl ?_;exact⟨rfl,h.below⟩
   refine⟨⟨_,h.cell 1 rfl _ rfl,t6,?_⟩,t6⟩;refine⟨h.q' (C3 d.key 42 _ a.key) fun b Q h=>?_,t6⟩;refine⟨h.q' (C3 d.body 302 _ a.body) fun b Q h=>?_,t6⟩;refine⟨h.q' (C3 d.tag 10 _ a.tag) fun b Q h=>?_,t6⟩;refine⟨h.s' 1 rfl fun w S h=>?_,t6⟩;refine⟨h.s' 1 rfl fun w S h=>?_,t6⟩;refine h.s 1 rfl fun w S h=>?_;refine h.a 1 rfl rfl ?_;refine h.s 0 rfl fun w S h=>?_;refine h.a 0 rfl rfl ?_;exact⟨rfl,h.below⟩
  refine⟨⟨_,h.cell 1 rfl _ rfl,t6,?_⟩,t6⟩;refine⟨⟨_,h.cell 1 rfl _ rfl,t6,?_⟩,t6⟩;refine⟨h.q' (C3 d.key 42 _ a.key) fun b Q h=>?_,t6⟩;refine⟨h.q' (C3 d.body 302 _ a.body) fun b Q h=>?_,t6⟩;refine⟨h.q' (C3 d.tag 10 _ a.tag) fun b Q h=>?_,t6⟩;refine⟨h.s' 1 rfl fun w S h=>?_,t6⟩;refine⟨h.s' 1 rfl fun w S h=>?_,t6⟩;refine h.s 1 rfl fun w S h=>?_;refine h.a 1 rfl rfl ?_;refine h.s 0 rfl fun w S h=>?_;refine h.a 0 rfl rfl ?_;exact⟨rfl,h.below⟩
 refine⟨⟨_,h.cell 1 rfl _ rfl,t6,?_⟩,t6⟩;refine⟨?_,?_⟩
 ·skip
  refine⟨_,h.cell 1 rfl _ rfl,t6,?_,?_⟩
  ·skip
   refine h.q' (C3 d.key 42 _ a.key) fun b Q h=>?_;refine⟨⟨_,h.cell 1 rfl _ rfl,t6,?_⟩,t6⟩;refine⟨h.q' (C3 d.body 302 _ a.body) fun b Q h=>?_,t6⟩;refine⟨h.q' (C3 d.tag 10 _ a.tag) fun b Q h=>?_,t6⟩;refine⟨h.s' 1 rfl fun w S h=>?_,t6⟩;refine⟨h.s' 1 rfl fun w S h=>?_,t6⟩;refine h.s 1 rfl fun w S h=>?_;refine h.a 1 rfl rfl ?_;refine h.s 0 rfl fun w S h=>?_;refine h.a 0 rfl rfl ?_;exact⟨rfl,h.below⟩
  refine⟨⟨_,h.cell 1 rfl _ rfl,t6,?_⟩,t6⟩;refine⟨h.q' (C3 d.key 42 _ a.key) fun b Q h=>?_,t6⟩;refine⟨h.q' (C3 d.body 302 _ a.body) fun b Q h=>?_,t6⟩;refine⟨h.q' (C3 d.tag 10 _ a.tag) fun b Q h=>?_,t6⟩;refine⟨h.s' 1 rfl fun w S h=>?_,t6⟩;refine⟨h.s' 1 rfl fun w S h=>?_,t6⟩;refine h.s 1 rfl fun w S h=>?_;refine h.a 1 rfl rfl ?_;refine h.s 0 rfl fun w S h=>?_;refine h.a 0 rfl rfl ?_;exact⟨rfl,h.below⟩
 refine⟨⟨_,h.cell 1 rfl _ rfl,t6,?_⟩,t6⟩;refine⟨⟨_,h.cell 1 rfl _ rfl,t6,?_⟩,t6⟩;refine⟨h.q' (C3 d.key 42 _ a.key) fun b Q h=>?_,t6⟩;refine⟨h.q' (C3 d.body 302 _ a.body) fun b Q h=>?_,t6⟩;refine⟨h.q' (C3 d.tag 10 _ a.tag) fun b Q h=>?_,t6⟩;refine⟨h.s' 1 rfl fun w S h=>?_,t6⟩;refine⟨h.s' 1 rfl fun w S h=>?_,t6⟩;refine h.s 1 rfl fun w S h=>?_;refine h.a 1 rfl rfl ?_;refine h.s 0 rfl fun w S h=>?_;refine h.a 0 rfl rfl ?_;exact⟨rfl,h.below⟩
def B9r (s:Stt) (S:Nat->Prop) (w:World) (en:Ending) (w':World):Prop:=∃ cs,en=.returned (.agg cs.toArray)/\Below w.heap.size w w'/\RepS (ext S w w') w' s cs
theorem B2r {s:Stt} (u:s.lows.length=5) (g:P6 s=true):s.Ok:=by
 obtain⟨⟨t,d⟩,⟨w,y⟩,r,l,f⟩:=D5.1 g;have z:G5=1099511627776:=rfl;refine⟨by unfold B9;omega,fun i e=>?_,fun q m=>?_,fun x h=>?_⟩
 ·have o:=((K3 _ _ _).1 r).1 i e;have p:=G2.1 o.1;have:=A2b p.2.1;refine⟨by unfold U7;omega,fun v hv=>?_⟩;obtain⟨a,b⟩:=A0a (A0b o v hv);exact⟨a,by unfold U7;omega⟩
 ·obtain⟨a,b,c⟩:=A5K d (((U1 _ _ _ _).1 f).1 q m);exact⟨a,b,c⟩
 ·obtain⟨k,j,h⟩:=List.getElem_of_mem h;rcases (A0N _ _).1 l k x (by rw [<-h];exact yc j) with h0 | h0
  ·unfold B9;omega
  ·have:=A2c (n:=x) (by omega);unfold B9;omega
theorem C1B (t:List UInt8) (w:World) (a:t.length<=1073741824) (g:Env w):Calls Tryz.prog 180 #[.string ⟨t.toArray⟩] w (fun n w'=>∃ A c,n=.returned (.tuple #[.agg (D3 (A0D t).1 A c).toArray,.int .i64 ((A0D t).2.1:Nat),.int .i64 (A0D t).2.2])/\Below w.heap.size w w'/\RepC (ext no w w') w' (A0D t).1 (D3 (A0D t).1 A c)):=
 (B1x t w a g).mono fun j w' d=>by obtain⟨cs,f,b,h⟩:=d;obtain⟨e,p,i⟩:=h.cells;subst i;exact⟨e,p,f,b,h⟩
def sB:Stt:=⟨1,[⟨⟨#[107]⟩,[⟨1,false,⟨#[118]⟩⟩]⟩],[⟨4294967297,⟨0,1⟩⟩],[0,0,0,0,0]⟩
theorem B0N {s:Stt} (a:s.lows.length=5) (h:P6 s=true):(F5 s).length<=1073741824:=by rw [A1t s a h];have c:=A1L s a h;have b:=E8 (A4U s);have:=I9 (u:=(K0 (A4U s)).length) (by omega);omega
end Go.Proofs.YtefdfaeieekioaaGreatDoor
namespace Go.Proofs.YtefdfaeieekioaaGreatDoor
open Go.Vc Go.RowKit Go.Fl Go.ChangeShapes Go.WideShapes Go.ChangeAt
abbrev B2s:List (String × DataW Unit):=[("math/bits.deBruijn32tab",Rows.laid_math_bits_deBruijn32tab),("math/bits.deBruijn64tab",Rows.laid_math_bits_deBruijn64tab),("internal/strconv.uint64pow10",Rows.laid_internal_strconv_uint64pow10),("strconv.ErrRange",Rows.laid_strconv_ErrRange),("strconv.ErrSyntax",Rows.laid_strconv_ErrSyntax)]
theorem C15:ownKnob Tryz.prog.godebug=none:=by kernel_rfl
theorem C16:∃ g,Tryz.prog.globalNamed "internal/strconv.uint64pow10"=some g/\(Tryz.prog.globals[g]?).map (·.type)=some 330:=⟨2,by kernel_rfl,by kernel_rfl⟩
theorem gES:∃ g,Tryz.prog.globalNamed "strconv.ErrSyntax"=some g/\(Tryz.prog.globals[g]?).map (·.type)=some 245:=⟨5,by kernel_rfl,by kernel_rfl⟩
theorem gER:∃ g,Tryz.prog.globalNamed "strconv.ErrRange"=some g/\(Tryz.prog.globals[g]?).map (·.type)=some 245:=⟨6,by kernel_rfl,by kernel_rfl⟩
theorem C17:Tryz.prog.cellsOf 330=20:=by kernel_rfl
theorem C18:Tryz.prog.cellsOf 295=1:=by kernel_rfl
theorem cES:Tryz.prog.cellsOf 360=1:=by kernel_rfl
theorem C1r:Tryz.prog.cellsOf 9=1:=by kernel_rfl
theorem B9s : "*" ++ "errors.errorString" = "*errors.errorString":=by decide
theorem B9t (u:TypeId) (h:Tryz.prog.typeName? 3 u=some "*errors.errorString"):u=358:=
 typeName_ptr_named (nm := "errors.errorString") (by rw [B9s];kernel_rfl) (by kernel_rfl) (by decide) u (by rw [B9s];exact h)
theorem B5U {W:World} (h:laidMetH Tryz.prog B2s W):Env W:=by rw [MakeChecks.laidMetH_plain _ _ _ (by kernel_rfl)] at h;obtain⟨m,c,d⟩:=C16;obtain⟨l,a,b⟩:=gER;obtain⟨i,g,e⟩:=gES;have t:=Lib.tabIs_of_head (k:=.u64) (zs:=Lib.pow10Tab) c d Tryz.underlying330 Tryz.underlying295 C18 C17 h.tail.tail;obtain⟨x,s,f,-,-,-⟩:=laid_sentinel h.tail.tail.tail a b Tryz.underlying245 B9t Tryz.underlying358 Tryz.underlying360 rfl rfl Tryz.underlying9 cES C1r;obtain⟨n,j,v,-,-,-⟩:=laid_sentinel h.tail.tail.tail.tail g e Tryz.underlying245 B9t Tryz.underlying358 Tryz.underlying360 rfl rfl Tryz.underlying9 cES C1r;exact⟨t,⟨_,_,v⟩,⟨_,_,f⟩⟩
theorem B5V (o:Os) (a:Array Value):laidMetH Tryz.prog B2s ((World.laidAll Tryz.prog o B2s).forCall (fun _ _=>0) ⟨#[],a,[]⟩).memory:=by rw [MakeChecks.laidMetH_plain _ _ _ (by kernel_rfl)];exact laidMet_laidAll a (by kernel_rfl) (by kernel_rfl)
theorem C19 {a b:Bool} (h:a=true) (k:b=true):(a&&b)=true:=by rw [h,k];rfl
theorem C1s:laidOutB Tryz.prog=true:=by kernel_rfl
theorem B2t {H:Type} {n:TypeId × Value->H} {P:Program} (i:laidOutB P=true) {W g:World} {p:Nat->Bool} (j:Below W.heap.size W g) (s:List TypeId):∀ {c:List Value} {f:List (DataW H)} {ps:List MemPlace},
  s.all (fun t=>P.readableRec t&&decide (t<P.types.size))=true->DataW.TrodAll n P W 0 (fun _=>true) true s c f ps->(∀ x∈ps,x.block<W.heap.size)->(∀ x∈ps,p x.block=true)->
  DataW.TrodAll n P g 0 p true s c f ps:=by
 induction s with
 | nil=>
  intro _ _ _ _ b _ _;obtain⟨rfl,rfl,rfl⟩:=trodAll_nil b;exact trodAll_mk0
 | cons t s m=>
  intro _ _ _ r b l e;obtain⟨v,q,d,w,a,u,rfl,rfl,rfl,k,o⟩:=trodAll_cons b;rw [List.all_cons,z7,z7,y9] at r;exact trodAll_cons_mk (WideElems.Trod_stays i r.1.1 r.1.2 k (fun x h=>j.same (l x (List.mem_append_left _ h))) (fun x h=>e x (List.mem_append_left _ h)))
   (m r.2 o (fun x h=>l x (List.mem_append_right _ h)) (fun x h=>e x (List.mem_append_right _ h)))
theorem B2u {H:Type} {e:TypeId × Value->H} {f:Func} {s:ChangeSpec} {W W':World} {args:Array Value} {d g:List (DataW H)} {o:List MemPlace} (v:s.vars=[]) (j:f.resultTypes=#[4])
  (r:f.params.toList.all (fun t=>Tryz.prog.readableRec t&&decide (t<Tryz.prog.types.size))=true) (h:g=[]->s.fn H (d++g)={ results:=[.lit (.bool true)],args:=d })
  (b:DataW.Whole e Tryz.prog f.params.toList s.vars false W args.toList d g o) (c:Below W.heap.size W W'):
  s.post e Tryz.prog f false true false false W args (.bool true) W':=by
 have l:=fun x (a:x∈o)=>b.lt x a;have k:=b;obtain⟨p,q,A,V,rfl,z,n⟩:=b;rw [v] at V;obtain⟨rfl,rfl⟩:=trodVars_none V;have h:=h rfl;refine⟨d,[],p++[],[],p,[],k,?_,?_,?_,c.frame _,fun i=>by cases i⟩
 ·rw [h,j];exact trodAll_mk1 (shut_bool Tryz.underlying4 true)
 ·rw [h];exact B2t C1s c _ r A (fun x a=>l x (List.mem_append_left _ a)) (fun x a=>by simpa using l x (List.mem_append_left _ a))
 ·rw [h,v];rfl
end Go.Proofs.YtefdfaeieekioaaGreatDoor
namespace Go.Proofs.YtefdfaeieekioaaGreatDoor
theorem B2v:mapsRowed Tryz.prog=true:=by kernel_rfl
theorem B2w:Tryz.prog.stopsHeard=true:=by kernel_rfl
theorem B2x:Tryz.prog.mayEnter=true:=by kernel_rfl
theorem B5W:(Rows.linkNoneRow.plainKeys==Tryz.prog.plainKeys)=true:=by kernel_rfl
theorem B0O:(Rows.linkNoneRow.lifted==Tryz.prog.liftsFinal)=true:=by kernel_rfl
theorem B5X:(Tryz.prog.make==some Rows.linkNoneRow.make)=true:=by kernel_rfl
theorem B2y (c:OpenClaim) (h:c.plainKeys=Rows.linkNoneRow.plainKeys):(c.plainKeys==Tryz.prog.plainKeys)=true:=h▸B5W
theorem A8H (c:OpenClaim) (h:c.lifted=Rows.linkNoneRow.lifted):(c.lifted==Tryz.prog.liftsFinal)=true:=h▸B0O
theorem B2z (c:OpenClaim) (h:c.make=Rows.linkNoneRow.make):(Tryz.prog.make==some c.make)=true:=h▸B5X
end Go.Proofs.YtefdfaeieekioaaGreatDoor
section
namespace Go.Vc
open Go Go.RowKit
open Go.Proofs.YtefdfaeieekioaaGreatDoor (no)
structure Turn (G:Nat->Prop) (w w':World):Prop where
 os:w'.os=w.os
 tape:w'.tape=w.tape
 output:w'.output=w.output
 block:∀ x,x<w.heap.size->¬ G x->w'.heap[x]?=w.heap[x]?
theorem heap_lt {a w:World} {x:Nat} (h:w.heap[x]?=a.heap[x]?) (b:x<a.heap.size):x<w.heap.size:=by rw [Array.getElem?_eq_getElem b] at h;exact (Array.getElem?_eq_some_iff.1 h).1
theorem Turn.below {G:Nat->Prop} {w w':World} (h:Below w.heap.size w w'):Turn G w w':=⟨h.os,h.tape,h.output,fun x a _=>h.block x a⟩
theorem Turn.trans {G:Nat->Prop} {w a w'':World} (h:Turn G w a) (k:Turn (fun x=>G x\/w.heap.size<=x) a w''):Turn G w w'':=
 ⟨k.os.trans h.os,k.tape.trans h.tape,k.output.trans h.output,fun x b g=>by have c:=h.block x b g;exact (k.block x (heap_lt c b) (fun e=>e.elim g (fun e=>by omega))).trans c⟩
def Sep (n0:Nat) (R O:Kn):Kn:=fun S w=>∃ S1 Sa:Nat->Prop,(∀ x,S1 x->S x/\¬ Sa x)/\(∀ x,Sa x->S x/\n0<=x)/\R S1 w/\O Sa w
theorem Sep.stab {n0:Nat} {R O:Kn} (g:Stab R) (e:Stab O):Stab (Sep n0 R O):=fun S w l w' a f=>by obtain⟨j,i,b,c,d,k⟩:=a;exact⟨j,i,fun x h=>⟨f.1 x (b x h).1,(b x h).2⟩,fun x h=>⟨f.1 x (c x h).1,(c x h).2⟩,g _ _ _ _ d ⟨fun _ a=>a,fun x h=>f.2 x (b x h).1⟩,e _ _ _ _ k ⟨fun _ a=>a,fun x h=>f.2 x (c x h).1⟩⟩
theorem Sep.left {n:Nat} {R O:Kn} (c:Stab R) {S:Nat->Prop} {w:World} (a:Sep n R O S w):R S w:=by obtain⟨f,e,b,i,h,g⟩:=a;exact c _ _ _ _ h ⟨fun x d=>(b x d).1,fun _ _=>rfl⟩
theorem Sep.right {n:Nat} {R O:Kn} (a:Stab O) {S:Nat->Prop} {w:World} (h:Sep n R O S w):O S w:=by obtain⟨i,g,f,d,e,c⟩:=h;exact a _ _ _ _ c ⟨fun x b=>(d x b).1,fun _ _=>rfl⟩
theorem Sep.mono {n:Nat} {a R b O:Kn} {S:Nat->Prop} {w:World} (c:Sep n a b S w) (f:∀ S,a S w->R S w) (d:∀ S,b S w->O S w):Sep n R O S w:=by obtain⟨i,g,e,k,h,j⟩:=c;exact⟨i,g,e,k,f _ h,d _ j⟩
theorem Sep.assoc {n:Nat} {R X O:Kn} (g:Stab R) (p:Stab X) {S:Nat->Prop} {w:World} (a:Sep n R (Sep 0 X O) S w):Sep n (fun S w=>R S w/\X S w) O S w:=by
 obtain⟨j,q,c,b,f,i,l,k,d,e,m⟩:=a;refine⟨fun x=>j x\/i x,l,fun x h=>?_,fun x h=>b x (d x h).1,⟨g _ _ _ _ f ⟨fun _ a=>.inl a,fun _ _=>rfl⟩,p _ _ _ _ e ⟨fun _ a=>.inr a,fun _ _=>rfl⟩⟩,m⟩;obtain h|h:=h
 ·exact⟨(c x h).1,fun o=>(c x h).2 (d x o).1⟩
 ·exact⟨(b x (k x h).1).1,(k x h).2⟩
theorem Sep.swap {n:Nat} {R O P:Kn} {c:Nat->Prop} {w:World} (f:Sep n (Sep n R O) P c w):Sep n (Sep n R P) O c w:=by
 obtain⟨l,p,a,d,⟨S,g,k,b,e,j⟩,i⟩:=f;refine⟨fun x=>S x\/p x,g,fun x h=>?_,fun x h=>⟨(a x (b x h).1).1,(b x h).2⟩,⟨S,p,fun x h=>⟨.inl h,(a x (k x h).1).2⟩,fun x h=>⟨.inr h,(d x h).2⟩,e,i⟩,j⟩;obtain h|h:=h
 ·exact⟨(a x (k x h).1).1,(k x h).2⟩
 ·exact⟨(d x h).1,fun o=>(a x (b x o).1).2 h⟩
section
variable {w0 w w':World} {S:Nat->Prop} {l:List LB} {os:List OR} {R O O' X:Kn}
theorem CtxF.turn (B:CtxF no w0 S w l os R) {c Sn:Nat->Prop} (i:∀ x,c x->S x/\w0.heap.size<=x) (T:Turn c w w') (p:∀ x,Sn x->(c x\/w.heap.size<=x)/\x<w'.heap.size) {Y:Kn} (D:Y (fun x=>(S x/\¬ c x)\/Sn x) w') (A:Stab Y):
  CtxF no w0 (fun x=>(S x/\¬ c x)\/Sn x) w' l os Y:=by
 obtain⟨⟨g,E,t,s,d⟩,k,G,F⟩:=B;have r:∀ x,x<w.heap.size->¬ S x->w'.heap[x]?=w.heap[x]?:=fun x h n=>T.block x h (fun b=>n (i x b).1);have u:∀ x,x<w.heap.size->¬ S x->¬ ((S x/\¬ c x)\/Sn x):=fun x h n b=>by
  obtain b|b:=b
  ·exact n b.1
  ·obtain b|b:=(p x b).1
   ·exact n (i x b).1
   ·omega
 have v:∀ x,x<w0.heap.size->w'.heap[x]?=w0.heap[x]?:=fun x h=>by have q:=g.block x h;exact (T.block x (heap_lt q h) (fun b=>by have:=(i x b).2;omega)).trans q
 have z:w0.heap.size<=w'.heap.size:=by
  obtain h0|h0:=Nat.eq_zero_or_pos w0.heap.size
  ·omega
  ·have:=heap_lt (v (w0.heap.size-1) (by omega)) (by omega);omega
 refine⟨⟨⟨T.os.trans g.os,T.tape.trans g.tape,T.output.trans g.output,z,v⟩,fun _ b=>b.elim,fun x h=>?_,fun x h=>?_,?_⟩,?_,D,A⟩
 ·obtain h|h:=h
  ·exact t x h.1
  ·obtain b|b:=(p x h).1
   ·exact t x (i x b).1
   ·exact .inr (zq g.size b)
 ·obtain h|h:=h
  ·exact heap_lt (T.block x (s x h.1) h.2) (s x h.1)
  ·exact (p x h).2
 ·refine d.mono (fun x h=>?_) (fun x h b=>?_)
  ·obtain⟨C,j⟩:=List.getElem?_of_mem h;obtain⟨m,y,cs⟩:=x;exact r m (d.lt _ h) (d.notS j).1
  ·obtain⟨C,j⟩:=List.getElem?_of_mem h;obtain⟨m,y,cs⟩:=x;exact absurd b (u m (d.lt _ h) (d.notS j).1)
 ·refine k.step fun o f a e=>⟨r _ ((k.mem o f).lt e).2 ((k.mem o f).out a e).1,u _ ((k.mem o f).lt e).2 ((k.mem o f).out a e).1,((k.mem o f).out a e).2⟩
theorem CtxF.turnO (d:CtxF no w0 S w l os (Sep w0.heap.size R O)) (f:Stab R) {e c Sn:Nat->Prop} (b:∀ x,e x->S x/\¬ c x) (g:∀ x,c x->S x/\w0.heap.size<=x) (i:R e w) (T:Turn c w w')
  (n:∀ x,Sn x->(c x\/w.heap.size<=x)/\x<w'.heap.size) (j:O' Sn w') (s:Stab O'):CtxF no w0 (fun x=>(S x/\¬ c x)\/Sn x) w' l os (Sep w0.heap.size R O'):=by
 refine d.turn g T n ⟨e,Sn,fun x h=>⟨.inl (b x h),fun k=>?_⟩,fun x h=>⟨.inr h,?_⟩,f _ _ _ _ i ⟨fun _ a=>a,fun x h=>?_⟩,j⟩ (Sep.stab f s)
 ·obtain a|a:=(n x k).1
  ·exact (b x h).2 a
  ·have:=d.ctx.lt x (b x h).1;omega
 ·obtain a|a:=(n x h).1
  ·exact (g x a).2
  ·have:=d.ctx.below.size;omega
 ·exact T.block x (d.ctx.lt x (b x h).1) (b x h).2
theorem CtxF.sepNew (c:CtxF no w0 S w l os R) (b:Below w.heap.size w w') (O:O' (ext no w w') w') (s:Stab O'):CtxF no w0 (ext S w w') w' l os (Sep w0.heap.size R O'):=by
 refine (c.call b).1.now (fun _=>⟨S,ext no w w',fun x a=>⟨.inl a,fun h=>?_⟩,fun x a=>?_,?_,O⟩) (Sep.stab c.stab s)
 ·obtain h|h:=h
  ·exact h
  ·have:=c.ctx.lt x a;omega
 ·obtain h|h:=a
  ·exact h.elim
  ·exact⟨.inr h,zq c.ctx.below.size h.1⟩
 ·exact c.stab _ _ _ _ c.row ⟨fun _ h=>h,fun x a=>b.block x (c.ctx.lt x a)⟩
def bare (w:World):World:={ w with heap:=#[] }
def Keep (w:World) (G:Nat->Prop):Kn:=fun S w'=>∀ x,x<w.heap.size->¬ G x->S x/\w'.heap[x]?=w.heap[x]?
theorem Keep.stab (w:World) (G:Nat->Prop):Stab (Keep w G):=fun S e d c a f x b h=>⟨f.1 x (a x b h).1,(f.2 x (a x b h).1).trans (a x b h).2⟩
theorem yq {w:World} {G:Nat->Prop}:Stab (Keep w G):=Keep.stab _ _
theorem CtxF.enter {S:Nat->Prop} (t:∀ x,S x->x<w.heap.size) (a:Locs S 0 w l) (o:Owns S 0 w l os) (r:R S w) (h:Stab R):CtxF no (bare w) S w l os R:=
 ⟨⟨⟨rfl,rfl,rfl,zb _,fun k c=>absurd c (Nat.not_lt_zero _)⟩,fun _ b=>b.elim,fun d _=>.inr (zb _),t,a⟩,o,r,h⟩
theorem CtxF.leave {G a:Nat->Prop} (h:CtxF no (bare w) S w' l os R) (k:Keep w G a w'):Turn G w w':=
 ⟨h.ctx.below.os,h.ctx.below.tape,h.ctx.below.output,fun x b g=>(k x b g).2⟩
theorem Keep.of {G a S:Nat->Prop} {w w':World} (k:Keep w G S w') {X:Kn} (s:Stab X) (b:X a w) (l:∀ x,a x->x<w.heap.size/\¬ G x):X S w':=
 s _ _ _ _ b ⟨fun x h=>(k x (l x h).1 (l x h).2).1,fun x h=>(k x (l x h).1 (l x h).2).2⟩
end
end Go.Vc
end
section
namespace Go.Proofs.YtefdfaeieekioaaGreatDoor
open Go.Vc Go.RowKit Go.Fl Go.ChangeShapes Go.WideShapes Go.ChangeAt
section
variable {H:Type} {enc:TypeId × Value->H} {P:Program} {w:World} {base:Nat} {spare:Nat->Bool} {held:Bool} {fuel:Nat} {t:TypeId} {cs:List Value} {x:DataW H × List MemPlace}
theorem A4b (c:P.underlying t=some (.int .i64)) (d:DataW.trod enc P w base spare held fuel t cs=some x):∃ n,cs=[.int .i64 n]/\B9 n:=by obtain⟨n,e,_,h⟩:=DataW.trod_int c d;simp only [Lit.wf,z7,y9] at h;refine⟨n,e,?_⟩;have a:=h.1;have b:=h.2;rw [show IntKind.i64.min = -9223372036854775808 by decide] at a;rw [show IntKind.i64.max=9223372036854775807 by decide] at b;exact⟨a,b⟩
theorem B20 (h:P.underlying t=some .string) (a:DataW.trod enc P w base spare held fuel t cs=some x):∃ s,cs=[.string s]/\s.size<=maxLen:=by obtain⟨s,e,_,b⟩:=DataW.trod_string h a;exact⟨s,e,b⟩
theorem B21 {a:Array Field} (b:P.underlying t=some (.struct a)) (d:DataW.trod enc P w base spare held fuel t cs=some x):
  cs.length=P.cellsOf t/\∀ (i:Nat) (f:Field),a[i]?=some f->∃ n y,DataW.trod enc P w base spare held n f.type ((cs.drop f.offset).take (P.cellsOf f.type))=some y:=by
 obtain⟨s,n,_,_,l,e,c⟩:=DataW.trod_struct b d;refine⟨l,fun i f h=>⟨n,?_⟩⟩;have g:i<s.length:=by rw [e];exact (Array.getElem?_eq_some_iff.1 h).1
 exact⟨s[i],by rw [c i f h,yc g]⟩
theorem fld {s:Array Field} (d:∀ (i:Nat) (f:Field),s[i]?=some f->∃ n y,DataW.trod enc P w base spare held n f.type ((cs.drop f.offset).take (P.cellsOf f.type))=some y)
  (i:Nat) (f:Field) (h:s[i]?=some f) (T:TypeId) (b:f.type=T) (k:Nat) (a:P.cellsOf T=k) (o:Nat) (c:f.offset=o):∃ n y,DataW.trod enc P w base spare held n T ((cs.drop o).take k)=some y:=by
 subst b;subst a;subst c;exact d i f h
theorem B79 {a:Addr} {u:Value} (b:w.cell? a=some u):a.block<w.heap.size:=by
 obtain h|h:=zm a.block w.heap.size
 ·exact h
 ·have c:w.heap[a.block]?=none:=by simp;omega
  simp [World.cell?,c] at b
theorem B5Y {e:TypeId} (k:0<P.cellsOf e) (g:P.underlying t=some (.slice e)) (l:DataW.trod enc P w base spare held fuel t cs=some x):
  ∃ A len p,cs=[.slice A len p]/\len<=p/\p<=maxLen/\∀ i,i<len->∃ a c n y,A=some a/\c.length=P.cellsOf e/\a.block<w.heap.size/\(∀ j,j<P.cellsOf e->w.cell? (a.add (i*P.cellsOf e+j))=c[j]?)/\DataW.trod enc P w base spare held n e c=some y:=by
 obtain⟨rfl,_⟩|⟨a,len,p,z,rest,n,_,rfl,_,v,q,m,B,h,_⟩:=DataW.trod_slice g l
 ·exact⟨none,0,0,rfl,zc _,zb _,fun i h=>absurd h (by omega)⟩
 ·refine⟨some a,len,p,rfl,q,m,fun i s=>?_⟩;have d:=h i s;rw [yc (by omega)] at d;obtain⟨c,o,r⟩:=Option.bind_eq_some_iff.1 d;obtain⟨_,u,b⟩:=World.cells?_some o;refine⟨a,c,n,_,rfl,u,?_,fun j f=>?_,r⟩
  ·have h0:=b 0 k;rw [yc (by omega)] at h0;have:=B79 h0;rwa [P2,P2] at this
  ·rw [<-add_add];exact b j f
theorem B22 {k:Nat}:∀ (s:List (List Value)),(∀ c∈s,c.length=k)->∀ (m:Nat) (u:Value),s.flatten[m]?=some u->∃ i j c,s[i]?=some c/\j<k/\m=i*k+j/\c[j]?=some u
 | [],_,m,u,h=>by simp at h
 | c::r,hl,m,u,h=>by
  have d:=hl c (by simp);rw [List.flatten_cons] at h;obtain a|a:=zm m k
  ·rw [List.getElem?_append_left (by omega)] at h;exact⟨0,m,c,rfl,a,by omega,h⟩
  ·rw [List.getElem?_append_right (by omega),d] at h;obtain⟨i,j,f,b,l,n,g⟩:=B22 r (fun x e=>hl x (by simp [e])) (m-k) u h;exact⟨i+1,j,f,by simpa using b,l,by rw [Nat.succ_mul];omega,g⟩
theorem B8A {g:Type} {e:TypeId} (R:g->List Value->Prop) (D:0<P.cellsOf e) (J:∀ n c y,DataW.trod enc P w base spare held n e c=some y->∃ a,R a c)
  (B:P.underlying t=some (.slice e)) (I:DataW.trod enc P w base spare held fuel t cs=some x):
  ∃ A p,∃ (l:List g) (s:List (List Value)),cs=[.slice A l.length p]/\s.length=l.length/\(∀ (i:Nat) (a:g) (c:List Value),l[i]?=some a->s[i]?=some c->R a c)/\(∀ c∈s,c.length=P.cellsOf e)/\Row (fun m=>m<w.heap.size) w A l.length p s.flatten:=by
 obtain⟨A,len,p,rfl,N,K,M⟩:=B5Y D B I;have L:∀ i:Fin len,∃ q:Addr × List Value × g,A=some q.1/\q.2.1.length=P.cellsOf e/\q.1.block<w.heap.size/\(∀ j,j<P.cellsOf e->w.cell? (q.1.add (i.val*P.cellsOf e+j))=q.2.1[j]?)/\R q.2.2 q.2.1:=by intro i;obtain⟨a,c,n,y,h,b,H,r,E⟩:=M i.val i.isLt;obtain⟨m,G⟩:=J n c y E;exact⟨(a,c,m),h,b,H,r,G⟩
 obtain⟨k,f⟩:=Classical.axiomOfChoice L;refine⟨A,p,List.ofFn fun i=>(k i).2.2,List.ofFn fun i=>(k i).2.1,by simp,by simp,?_,?_,?_⟩
 ·intro i a c h b;rw [List.getElem?_ofFn] at h b;split at h
  ·rename_i d;rw [dif_pos d] at b;cases h;cases b;exact (f ⟨i,d⟩).2.2.2.2
  ·cases h
 ·intro c o;obtain⟨i,rfl⟩:=List.mem_ofFn.1 o;exact (f i).2.1
 ·rw [List.length_ofFn];refine⟨N,K,fun z=>?_⟩;have u:0<len:=by
   obtain h0|h0:=Nat.eq_zero_or_pos len
   ·subst h0;exact absurd (by simp) z
   ·exact h0
  obtain⟨v,_,S,_,_⟩:=f ⟨0,u⟩;refine⟨(k ⟨0,u⟩).1,v,S,fun F C O=>?_⟩;obtain⟨i,j,c,h,b,rfl,r⟩:=B22 _ (fun c o=>by obtain⟨i,rfl⟩:=List.mem_ofFn.1 o;exact (f i).2.1) F C O;rw [List.getElem?_ofFn] at h;split at h
  ·rename_i d;cases h;rw [Option.some.inj (v.symm.trans (f ⟨i,d⟩).1),(f ⟨i,d⟩).2.2.2.1 j b];exact r
  ·cases h
end
theorem B9u {c:List Value} (j:c.length=8):∃ i b d g h f a e,c=[i,b,d,g,h,f,a,e]:=by
 match c,j with
 | [i,b,d,g,h,f,a,e],_=>exact⟨i,b,d,g,h,f,a,e,rfl⟩
theorem B9v:Tryz.prog.cellsOf 3=1:=by kernel_rfl
theorem B8B:Tryz.prog.cellsOf 2=1:=by kernel_rfl
theorem B8C:Tryz.prog.cellsOf 9=1:=by kernel_rfl
theorem B69:Tryz.prog.cellsOf 45=8:=by kernel_rfl
section
variable {H:Type} {enc:TypeId × Value->H} {w:World} {base:Nat} {spare:Nat->Bool} {held:Bool} {fuel:Nat} {cs:List Value} {x:DataW H × List MemPlace}
theorem B8D (a:DataW.trod enc Tryz.prog w base spare held fuel 45 cs=some x):∃ d:D,cs=dC d/\d.Ok:=by obtain⟨l,h⟩:=B21 Tryz.underlying45 a;rw [B69] at l;obtain⟨c0,U,P,T,Q,O,S,R,rfl⟩:=B9u l;obtain⟨_,_,h0⟩:=fld h 0 _ rfl 3 rfl 1 B9v 0 rfl;obtain⟨_,_,s⟩:=fld h 1 _ rfl 9 rfl 1 B8C 1 rfl;obtain⟨_,_,N⟩:=fld h 2 _ rfl 9 rfl 1 B8C 2 rfl;obtain⟨_,_,G⟩:=fld h 3 _ rfl 2 rfl 1 B8B 3 rfl;obtain⟨_,_,M⟩:=fld h 4 _ rfl 3 rfl 1 B9v 4 rfl;obtain⟨_,_,i⟩:=fld h 5 _ rfl 9 rfl 1 B8C 5 rfl;obtain⟨_,_,v⟩:=fld h 6 _ rfl 2 rfl 1 B8B 6 rfl;obtain⟨_,_,q⟩:=fld h 7 _ rfl 2 rfl 1 B8B 7 rfl;obtain⟨r,F,H⟩:=A4b Tryz.underlying3 h0;obtain⟨I,t,J⟩:=B20 Tryz.underlying9 s;obtain⟨b,B,u⟩:=B20 Tryz.underlying9 N;obtain⟨C,f,E⟩:=A4b Tryz.underlying2 G;obtain⟨j,e,z⟩:=A4b Tryz.underlying3 M;obtain⟨o,g,k⟩:=B20 Tryz.underlying9 i;obtain⟨A,y,p⟩:=A4b Tryz.underlying2 v;obtain⟨c,L,K⟩:=A4b Tryz.underlying2 q;cases F;cases t;cases B;cases f;cases e;cases g;cases y;cases L;have m:∀ {n:Nat},n<=maxLen->n<=9223372036854775807:=fun a=>zq a (by decide);exact⟨⟨r,I,b,C,j,o,A,c⟩,rfl,⟨H,m J,m u,E,z,m k,p,K⟩⟩
end
section
variable {H:Type} {enc:TypeId × Value->H} {P:Program} {w:World} {base:Nat} {spare:Nat->Bool} {held:Bool} {fuel:Nat} {t:TypeId} {cs:List Value} {x:DataW H × List MemPlace}
theorem B8E {b:Type} {e:TypeId} (f:b->List Value) (O:b->Prop) (m:0<P.cellsOf e) (r:∀ n c y,DataW.trod enc P w base spare held n e c=some y->∃ a,c=f a/\O a)
  (d:P.underlying t=some (.slice e)) (o:DataW.trod enc P w base spare held fuel t cs=some x):
  ∃ A p,∃ l:List b,cs=[.slice A l.length p]/\Row (fun u=>u<w.heap.size) w A l.length p (l.map f).flatten/\∀ a∈l,O a:=by
 obtain⟨A,p,l,s,rfl,k,h,_,v⟩:=B8A (fun a c=>c=f a/\O a) m r d o;refine⟨A,p,l,rfl,?_,fun a g=>?_⟩
 ·have:s=l.map f:=by refine List.ext_getElem (by simpa using k) fun i q z=>?_;rw [List.getElem_map];exact (h i _ _ (yc (by omega)) (yc q)).1
  rwa [this] at v
 ·obtain⟨i,j,rfl⟩:=List.getElem_of_mem g;exact (h i _ _ (yc j) (yc (by omega))).2
end
theorem mx {n:Nat} (h:n<=maxLen):n<=9223372036854775807:=zq h (by decide)
section
variable {H:Type} {enc:TypeId × Value->H} {w:World} {base:Nat} {spare:Nat->Bool} {held:Bool} {fuel:Nat} {cs:List Value} {x:DataW H × List MemPlace}
abbrev inW (w:World) (b:Nat):Prop:=b<w.heap.size
end
section
variable {H:Type} {enc:TypeId × Value->H} {W:World} {base:Nat} {sp:Nat->Bool} {hd:Bool} {v:Value} {d:DataW H} {p:List MemPlace}
theorem B23 {e:Type} {t f:TypeId} (g:e->List Value) (O:e->Prop) (o:0<Tryz.prog.cellsOf f) (r:∀ n c y,DataW.trod enc Tryz.prog W 0 sp hd n f c=some y->∃ a,c=g a/\O a) (j:Tryz.prog.underlying t=some (.slice f))
  (q:DataW.Trod enc Tryz.prog W 0 sp hd t v d p) (u:Value.okWide Tryz.prog W .any base t v):∃ A h,∃ l:List e,v=.slice A l.length h/\Row (inW W) W A l.length h (l.map g).flatten/\∀ a∈l,O a:=by
 obtain⟨i,len,b,rfl⟩:=okWide_slice j u;obtain⟨fuel,w⟩:=q;obtain⟨A,h,l,k,s,m⟩:=B8E g O o r j w;have x:(Value.slice i len b).cells.toList=[.slice i len b]:=rfl;rw [x] at k;cases k;exact⟨i,b,l,rfl,s,m⟩
theorem A4c (h:DataW.Trod enc Tryz.prog W 0 sp hd 22 v d p) (k:Value.okWide Tryz.prog W .any base 22 v):∃ A c,∃ l:List D,v=.slice A l.length c/\Row (inW W) W A l.length c (l.map dC).flatten/\∀ a∈l,a.Ok:=
 B23 dC D.Ok (by rw [B69];decide) (fun _ _ _ h=>B8D h) Tryz.underlying22 h k
theorem B5Z {t:TypeId} (h:Tryz.prog.underlying t=some (.int .i64)) (a:DataW.Trod enc Tryz.prog W 0 sp hd t v d p) (k:Value.okWide Tryz.prog W .any base t v):∃ n,v=.int .i64 n/\B9 n:=by obtain⟨n,rfl⟩:=okWide_int h k;obtain⟨fuel,f⟩:=a;obtain⟨c,e,m⟩:=A4b h f;have b:(Value.int .i64 n).cells.toList=[.int .i64 n]:=rfl;rw [b] at e;cases e;exact⟨n,rfl,m⟩
end
end Go.Proofs.YtefdfaeieekioaaGreatDoor
end
section
namespace Go.Vc
open Go Go.RowKit
theorem Drawn.join {P:Program} {i:Nat} {o:Array Oper} {b:Fr} {w:World} {K:Fr->World->Prop} {α:Type} (l:α->List (Nat × Value)) (R:α->World->Prop)
  (d:Drawn P i o b w (fun f w'=>∃ x,B4j f (l x)/\R x w')) (k:∀ x u w',R x w'->K (Go.Vc.mk (l x) u) w'):Drawn P i o b w K:=
 ⟨fun n a e j=>wp_mono (d.wp n a e j) fun m a' w' ⟨h,f,c,x,g,r⟩=>⟨h,f,c,by have:=k x f w' r;rwa [A7m g] at this⟩⟩
abbrev Old (w x:World):Prop:=Keeps (fun b=>b<w.heap.size) w x
theorem Old.start (w:World):Old w w.drew:=Keeps.start _ _
theorem CtxF.old0 {S b:Nat->Prop} {a w:World} {l:List LB} {o:List OR} {R:Kn} (_:CtxF S a b w l o R):Old w w.drew:=Keeps.start _ _
theorem CtxF.swapL {e S:Nat->Prop} {d w:World} {x y:LB} {l:List LB} {s:List OR} {R:Kn} (E:CtxF e d S w (x::y::l) s R):CtxF e d S w (y::x::l) s R:=by
 obtain⟨⟨q,H,v,F,k⟩,b,p,B⟩:=E;obtain⟨J,I,cs⟩:=x;obtain⟨D,T,i⟩:=y;obtain⟨A,C,n,c,u,t,j,G,m⟩:=k;refine⟨⟨q,H,v,F,u,t,j,fun z h=>?_,A,C,n,fun z h=>c z (zu _ h),m⟩,b.step fun o g a f=>⟨rfl,((b.mem o g).out a f).1,fun z h=>((b.mem o g).out a f).2 z ?_⟩,p,B⟩
 ·cases h with
  | head=>exact fun r=>c (D,T,i) (zv ..) r.symm
  | tail _ h=>exact G z h
 ·cases h with
  | head=>exact zu _ (zv ..)
  | tail _ h=>
   cases h with
   | head=>exact zv ..
   | tail _ h=>exact zu _ (zu _ h)
end Go.Vc
namespace Go.Proofs.YtefdfaeieekioaaGreatDoor
open Go.Vc Go.RowKit Go.Fl Go.ChangeShapes Go.WideShapes Go.ChangeAt
structure SX where
 A:Option Addr
 cap:Nat
 B:Option Addr
 cap':Nat
 l0:Int
 l1:Int
 l2:Int
 l3:Int
 l4:Int
def stX (s:Stt) (x:SX):List Value:=[.int .i64 s.seq,.slice x.A s.l.length x.cap,.slice x.B s.ms.length x.cap',.int .i64 x.l0,.int .i64 x.l1,.int .i64 x.l2,.int .i64 x.l3,.int .i64 x.l4]
def SX0:SX:=⟨none,0,none,0,0,0,0,0,0⟩
theorem RepS.stX {S:Nat->Prop} {w:World} {s:Stt} {c:List Value} (h:RepS S w s c):∃ x,c=stX s x:=by obtain⟨A,p,f,B,a,l,e,l2,b,d,rfl,_⟩:=h.shape;exact⟨⟨A,p,B,a,l,e,l2,b,d⟩,rfl⟩
theorem RepS.five {S:Nat->Prop} {w:World} {s:Stt} {c:List Value} (h:RepS S w s c):s.lows.length=5:=by obtain⟨A,i,b,B,p,g,e,d,a,f⟩:=h;exact e
theorem RepS.lowsX {S:Nat->Prop} {w:World} {s:Stt} {x:SX} (h:RepS S w s (Go.Proofs.YtefdfaeieekioaaGreatDoor.stX s x)):s.lows=[x.l0,x.l1,x.l2,x.l3,x.l4]:=by obtain⟨A,p,c,B,a,b,g,l2,d,f,e,l,_⟩:=h.shape;unfold Go.Proofs.YtefdfaeieekioaaGreatDoor.stX at e;simp only [List.cons.injEq,Value.int.injEq,true_and,and_true] at e;rw [l,e.2.2.1,e.2.2.2.1,e.2.2.2.2.1,e.2.2.2.2.2.1,e.2.2.2.2.2.2]
theorem T3 (S:Nat->Prop) (w:World):RepS S w Stt0 (stX Stt0 SX0):=rep0 S w
theorem T4 (l:List D):Flat 8 (l.map dC):=Flat.map dC (fun d=>⟨rfl,rfl⟩) l
theorem Old.looks {w x:World} (b:Old w x) {a:Addr} {c:List Value} {i:Nat} (h:Go.Vc.cellsAt w a c i):Go.Vc.cellsAt x a c i:=Keeps.looks b _ _ h
end Go.Proofs.YtefdfaeieekioaaGreatDoor
end
namespace Go.Proofs.YtefdfaeieekioaaGreatDoor
open Go.Vc Go.RowKit Go.Fl
def doF (s:Stt) (d:D):Stt × Res:=
 if d.req<M7 s.lows (B7 d.req) then (⟨s.seq+1,s.l,s.ms,s.lows⟩,⟨12,0⟩)
 else match A0M s.ms d.req with
  | some m=>(⟨s.seq+1,s.l,s.ms,s.lows⟩,m.res)
  | none=>
   if 100<=s.ms.length then (⟨s.seq+1,s.l,s.ms,s.lows⟩,⟨5,0⟩)
   else
    let q:=doK s.l (s.seq+1) d;let ms:=s.ms.take (T2 s.ms d.req)++⟨d.req,q.2⟩::s.ms.drop (T2 s.ms d.req)
    if M7 s.lows (B7 d.req)<d.low/\B7 d.low=B7 d.req then
     (⟨s.seq+1,q.1,T9 d.low (B7 d.req) ms,s.lows.set (B7 d.req-1).toNat d.low⟩,q.2)
    else (⟨s.seq+1,q.1,ms,s.lows⟩,q.2)
theorem C1C {s:Stt} {d:D} (h:P6 s=true) (a:M0 d=true) (q:s.seq<G5):doS s d=doF s d:=by unfold doS doF;rw [yo (by rw [h,a];decide),yo (by omega)];rfl
theorem B8F (s:Stt) (d:D):(doS s d).1.seq<=s.seq+1:=by
 cases A9Q s d with
 | form _ e=>rw [e];show s.seq<=_;omega
 | top _ e=>rw [e];show s.seq<=_;omega
 | old _ _ _ _ e=>rw [e];exact Int.le_refl _
 | told _ _ _ _ _ _ e=>rw [e];exact Int.le_refl _
 | full _ _ _ _ _ _ e=>rw [e];exact Int.le_refl _
 | new _ _ _ _ _ _ _ _ _ _ e=>rw [e];exact Int.le_refl _
def W8 (s:Stt) (l:List D):Stt:=l.foldl (fun s d=>(doS s d).1) s
theorem A9V:∀ (l:List D) {s:Stt},P6 s=true->s.lows.length=5->P6 (W8 s l)=true/\(W8 s l).lows.length=5/\(W8 s l).seq<=s.seq+l.length
 | [],s,h,h5=>⟨h,h5,by show s.seq<=s.seq+((0:Nat):Int);omega⟩
 | d::r,s,h,h5=>by obtain⟨a,b,c⟩:=A9V r (A9K (d:=d) h5 h) (A6r d h5);have:=B8F s d;refine⟨a,b,Int.le_trans c ?_⟩;rw [zj];omega
theorem A4d {s:Stt} (b:P6 s=true) (a:s.lows.length=5):∀ e∈s.l,U7 e.key:=fun e h=>((B2r a b).l e h).key
theorem B0P (s:Stt) (l:List D) (d:D):W8 s (l++[d])=(doS (W8 s l) d).1:=by unfold W8;rw [List.foldl_append];rfl
theorem _root_.Go.Vc.Old.new {w x a:World} {c:List Value} {T g:Nat} (h:Old w x) (b:New x c T g a):¬ g<w.heap.size:=by have d:=h.2;have e:=b.1;omega
end Go.Proofs.YtefdfaeieekioaaGreatDoor
namespace Go.Proofs.YtefdfaeieekioaaGreatDoor
open Go.Vc Go.RowKit Go.Fl Go.ChangeShapes Go.WideShapes Go.ChangeAt
structure Scroll where
 s:ByteArray
 pressed:Int
 kept:Bool
structure Chest where
 room:Int
 f:ByteArray->Option Scroll
 k:Nat
def scC (r:Scroll):List Value:=[.string r.s,.int .i64 r.pressed,.bool r.kept]
def sc0:Scroll:=⟨⟨#[]⟩,0,false⟩
def scD (r:Scroll):DataW Unit:=.agg [.lit (.string r.s.data.toList),.lit (.int .i64 r.pressed),.lit (.bool r.kept)]
def scR:Value->Option (DataW Unit × List MemPlace)
 | .agg cs=>match cs.toList with
  | [.string s,.int .i64 p,.bool k]=>some (scD ⟨s,p,k⟩,[])
  | _=>none
 | _=>none
theorem B24 (r:Scroll):scR (.agg (scC r).toArray)=some (scD r,[]):=rfl
theorem A8I {e b:Scroll} (d:scD e=scD b):e=b:=by
 obtain⟨s,p,k⟩:=e;obtain⟨s',p',k'⟩:=b;unfold scD at d;injection d with d
 injection d with c a
 injection a with a h
 injection h with h h4
 injection c with c
 injection c with c
 injection a with a
 injection a with _ a
 injection h with h
 injection h with h
 have c:s.data.toList=s'.data.toList:=c;have f:s=s':=C6.1 (beq_iff_eq.2 c);have a:p=p':=a;have h:k=k':=h;subst f a h;rfl
theorem A8J {v:Value} {d:DataW Unit} {a:List MemPlace} (h:scR v=some (d,a)):∃ r,v=.agg (scC r).toArray/\d=scD r:=by
 unfold scR at h;split at h
 ·rename_i cs;split at h
  ·rename_i s p k e;cases h;refine⟨⟨s,p,k⟩,?_,rfl⟩;show Value.agg cs=.agg (scC ⟨s,p,k⟩).toArray;rw [show scC ⟨s,p,k⟩=cs.toList from e.symm,Array.toArray_toList]
  ·cases h
 ·cases h
def MapC (b k:Nat) (f:ByteArray->Option Scroll) (w:World):Prop:=
 ∃ D:DataW Unit,w.ownsMap Tryz.prog 9 scR b k D/\Maps.size D=k/\∀ x:ByteArray,x.size<=maxLen->Maps.has D (.string x.data.toList)=(f x).isSome/\∀ r,f x=some r->D.atKey (.string x.data.toList) (scD sc0)=scD r
theorem MapC.eq {b k:Nat} {f:ByteArray->Option Scroll} {w w':World} (a:MapC b k f w) (e:w'.heap[b]?=w.heap[b]?):MapC b k f w':=by obtain⟨D,⟨s,c,d,g⟩,h⟩:=a;exact⟨D,⟨s,c,e.trans d,g⟩,h⟩
theorem MapC.lt {b k:Nat} {f:ByteArray->Option Scroll} {w:World} (h:MapC b k f w):b<w.heap.size:=by obtain⟨D,h,_⟩:=h;exact h.lt
theorem B25:Tryz.prog.underlying 117=some (.map 9 121):=Tryz.underlying117
theorem B7A (w:World):(zeroValue 121).run Tryz.prog w=.ok (.agg (scC sc0).toArray) w:=by kernel_rfl
theorem A1P:Maps.Keyed Tryz.prog 9:=Maps.string_keyed Tryz.underlying9
theorem C0m {x:ByteArray} (h:x.size<=maxLen):keyOf Tryz.prog 9 (.string x)=some (.string x.data.toList):=WideMaps.keyOf_string_mk Tryz.underlying9 h
theorem A5U {x y:ByteArray} (h:x≠y):(Lit.string x.data.toList)≠.string y.data.toList:=fun e=>h (by
 injection e with e
 exact C6.1 (beq_iff_eq.2 e))
theorem MapC.made (w:World):MapC w.heap.size 0 (fun _=>none) (w.alloc (.map #[] 0)):=
 ⟨.map [],World.ownsMap_made w _ _ _,rfl,fun x _=>⟨rfl,fun s h=>by cases h⟩⟩
theorem B26 {D:DataW Unit} {f:ByteArray->Option Scroll} {x:ByteArray} (h:Maps.has D (.string x.data.toList)=(f x).isSome/\∀ r,f x=some r->D.atKey (.string x.data.toList) (scD sc0)=scD r):D.atKey (.string x.data.toList) (scD sc0)=scD ((f x).getD sc0):=by
 cases e:f x with
 | none=>
  rw [e] at h;exact Maps.atKey_of_not_has h.1 _
 | some r=>exact h.2 r e
theorem MapC.look_ok {b k:Nat} {f:ByteArray->Option Scroll} {w:World} (c:MapC b k f w) {x:ByteArray} (h:x.size<=maxLen):(Instr.lookup 117 (.map (some b)) (.string x) true).run Tryz.prog w=.ok (.tuple #[.agg (scC ((f x).getD sc0)).toArray,.bool (f x).isSome]) w:=by obtain⟨D,d,_,a⟩:=c;obtain⟨v,p,r,hv⟩:=d.look_ok A1P B25 (B7A w) (B24 sc0) (C0m h);rw [B26 (a x h)] at hv;obtain⟨e,rfl,hd⟩:=A8J hv;rw [(a x h).1,<-A8I hd] at r;exact r
theorem MapC.look {b k:Nat} {f:ByteArray->Option Scroll} {w:World} (c:MapC b k f w) {x:ByteArray} (a:x.size<=maxLen):(Instr.lookup 117 (.map (some b)) (.string x) false).run Tryz.prog w=.ok (.agg (scC ((f x).getD sc0)).toArray) w:=by obtain⟨D,d,_,e⟩:=c;obtain⟨v,p,h,hv⟩:=d.lookup A1P B25 (B7A w) (B24 sc0) (C0m a);rw [B26 (e x a)] at hv;obtain⟨r,rfl,hd⟩:=A8J hv;rw [<-A8I hd] at h;exact h
def A2f (f:ByteArray->Option Scroll) (x:ByteArray) (r:Scroll):ByteArray->Option Scroll:=fun y=>if y=x then some r else f y
def B7B (f:ByteArray->Option Scroll) (x:ByteArray):ByteArray->Option Scroll:=fun y=>if y=x then none else f y
def A6s (f:ByteArray->Option Scroll) (k:Nat) (x:ByteArray):Nat:=if (f x).isSome then k else k+1
def B7C (f:ByteArray->Option Scroll) (k:Nat) (x:ByteArray):Nat:=if (f x).isSome then k-1 else k
theorem A1Q {P:Program} {t:TypeId} {R:Value->Option (DataW Unit × List MemPlace)} {w:World} {b n:Nat} {D:DataW Unit} (h:w.ownsMap P t R b n D):w.ownsMap P t R b (Maps.size D) D:=by obtain⟨e,c,d,a,f,rfl⟩:=h;exact⟨e,c,d,a,by simp [Maps.size,length_sorted],rfl⟩
theorem MapC.store {b k:Nat} {f:ByteArray->Option Scroll} {w:World} (p:MapC b k f w) {x:ByteArray} (m:x.size<=maxLen) (n:k<1000000) (r:Scroll):
  ∃ w',(Instr.mapUpdate 117 (.map (some b)) (.string x) (.agg (scC r).toArray)).run Tryz.prog w=.ok () w'/\w.grownBy w' (some b)/\w'.heap.size=w.heap.size/\MapC b (A6s f k x) (A2f f x r) w':=by
 obtain⟨D,c,z,d⟩:=p;obtain⟨w',o,q,i⟩:=c.store A1P B25 (Nat.lt_of_lt_of_le n (by decide)) (C0m m) (B24 r);have I:=c.isMap;have l:WideAt.IsKeyLit (.string x.data.toList):=trivial;have s:=Maps.size_put (k:=.string x.data.toList) (c.tidy A1P) (scD r);have g:=A1Q q;have e:Maps.size (D.put (.string x.data.toList) (scD r))=A6s f k x:=by rw [s,(d x m).1,z];rfl
 rw [e] at g;refine⟨w',o,i.grown,?_,_,g,e,fun y j=>?_⟩
 ·obtain⟨B,u,v,A,_,rfl⟩:=i;simp [ChangeMaps.setBlock]
 unfold A2f;by_cases h:y=x
 ·subst h;rw [yn rfl];refine⟨Maps.has_put_same I l _,fun t a=>?_⟩;rw [Maps.atKey_put_same I l];cases a;rfl
 ·rw [yo h];exact⟨(Maps.has_put_other (A5U h) _).trans (d y j).1,fun t a=>(Maps.atKey_put_other (A5U h) _ _).trans ((d y j).2 t a)⟩
theorem C2A {P:Program} {ts cs} {t:TypeId} {a:Array Value} {w w':World} {v:Value} (h:(Builtin.delete_ ts t a).run P w=.ok v w'):(builtin .delete ts t cs a).run P w=.ok (.value v) w':=by show ((do pure (Next.value (<-Builtin.delete_ ts t a))):Sem Next).run P w=_;rw [yf,h];rfl
theorem MapC.drop {b k:Nat} {f:ByteArray->Option Scroll} {w:World} (h:MapC b k f w) {x:ByteArray} (n:x.size<=maxLen) (j:TypeId) (o:Array Bool):
  ∃ w',(builtin .delete #[117,9] j o #[.map (some b),.string x]).run Tryz.prog w=.ok (.value (.tuple #[])) w'/\w.grownBy w' (some b)/\w'.heap.size=w.heap.size/\MapC b (B7C f k x) (B7B f x) w':=by
 obtain⟨D,i,z,d⟩:=h;obtain⟨w',p,q,e⟩:=i.drop A1P B25 (C0m n) j;have s:=Maps.size_del (k:=.string x.data.toList) (i.tidy A1P);have m:=A1Q q;have l:Maps.size (D.del (.string x.data.toList))=B7C f k x:=by
  rw [(d x n).1,z] at s;unfold B7C;split
  ·rename_i h;rw [h] at s;simp only [if_true] at s;omega
  ·rename_i h;rw [yo h] at s;omega
 rw [l] at m;refine⟨w',C2A p,e.grown,?_,_,m,l,fun c g=>?_⟩
 ·obtain⟨A,r,u,v,_,rfl⟩:=e;simp [ChangeMaps.setBlock]
 unfold B7B;by_cases y:c=x
 ·subst y;rw [yn rfl];exact⟨Maps.has_del_same,fun t a=>by cases a⟩
 ·rw [yo y];exact⟨(Maps.has_del_other (A5U y)).trans (d c g).1,fun t a=>(Maps.atKey_del_other (A5U y) _).trans ((d c g).2 t a)⟩
def A4I (s:ByteArray):Bool:=s.data.toList.all (fun c=>65<=c&&c<=90)&&decide (1<=s.size)&&decide (s.size<=10)
theorem B27 (c:UInt8) (w:World):Calls Tryz.prog 219 #[.int .u8 (c.toNat:Int)] w (D4 (.bool (!(65<=c&&c<=90))) w):=by
 refine vE Tryz.func219 ?_;have b:(65<=c)↔(65:Int)<=(c.toNat:Int):=by rw [UInt8.le_iff_toNat_le];show 65<=c.toNat↔_;omega
 have d:(c<=90)↔(c.toNat:Int)<=(90:Int):=by rw [UInt8.le_iff_toNat_le];show c.toNat<=90↔_;omega
 by_cases a:(c.toNat:Int)<65
 ·refine dt a ?_;refine⟨C1 ?_,Below.refl _ _⟩;have e:¬ 65<=c:=by rw [b];omega
  simp [e]
 ·refine df a ?_;have e:65<=c:=by rw [b];omega
  refine⟨C1 ?_,Below.refl _ _⟩;have f:decide ((90:Int)<(c.toNat:Int))=!(decide (65<=c)&&decide (c<=90)):=by
   rw [zz e];by_cases h:c<=90
   ·rw [zz h,y8 (by rw [d] at h;omega)];rfl
   ·rw [y8 h,zz (by rw [d] at h;omega)];rfl
  exact f
end Go.Proofs.YtefdfaeieekioaaGreatDoor
