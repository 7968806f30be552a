import Derived.Test.YtefdfaeieekioaaGreatDoorQ07
import Derived.Maps.Range
import Derived.Maps.RangeWalk
import Derived.Laws.OwnMore
set_option maxRecDepth 100000
set_option maxHeartbeats 40000000
set_option linter.unusedVariables false
set_option linter.unusedSimpArgs false
namespace Go.Proofs.YtefdfaeieekioaaGreatDoor
open Go.Vc Go.RowKit Go.Fl Go.ChangeShapes Go.WideShapes Go.ChangeAt
theorem A2g {a:Type} (p:a->Bool) (l:List a):decide (0<=B2K (l.findIdx? p))=l.any p:=by
 rw [<-List.findIdx?_isSome];cases l.findIdx? p with
 | none=>rfl
 | some i=>exact zz (Int.natCast_nonneg i)
theorem A1R {a:Type} (p:a->Bool) (l:List a) (i:Nat) (b:i<l.length) (d:p l[i]=true) (c:∀ j (h:j<l.length),j<i->p l[j]=false):l.findIdx? p=some i:=
 List.findIdx?_eq_some_iff_getElem.2 ⟨b,d,fun j h=>by rw [c j (by omega) h];exact Bool.false_ne_true⟩
theorem A1S {a:Type} (p:a->Bool) (l:List a) (b:∀ j (h:j<l.length),p l[j]=false):l.findIdx? p=none:=
 List.findIdx?_eq_none_iff.2 fun c x=>by obtain⟨j,h,rfl⟩:=List.getElem_of_mem x;exact b j h
def B5a (c:UInt8):Bool:=!(65<=c&&c<=90)
theorem A4J (l:List UInt8) (A:Option Addr) (n c:Nat) (k:n=l.length) (S:Nat->Prop) (w:World) (R:Row S w A n c (bv l)):
  Calls Tryz.prog 259 #[.slice A n c,.func (.func 219) #[] #[]] w (D4 (.int .i64 (B2K (l.findIdx? B5a))) w):=by
 refine vE Tryz.func259 ?_;subst k;have M:l.length<=9223372036854775807:=zq R.1 R.2.1;refine⟨Nat,fun i=>[(0,.slice A l.length c),(1,.func (.func 219) #[] #[]),(7,.int .i64 l.length),(8,.int .i64 i)],
  fun i w'=>i<=l.length/\(∀ j (a:j<l.length),j<i->B5a l[j]=false)/\Below w.heap.size w w',fun i _=>l.length-i,0,
  ⟨rfl,rfl,rfl,rfl,t6⟩,⟨zb _,fun j a h=>absurd h (Nat.not_lt_zero _),Below.refl _ _⟩,?_⟩
 rintro i w' u ⟨o,e,b⟩;by_cases t:i<l.length
 ·refine dt (by omega) ?_;obtain⟨q,rfl,g⟩:=(R.below b).at (A4Q l i t);refine⟨⟨by omega,by omega⟩,_,by rw [Nat.mul_one,zi];exact g,?_⟩;have f:l.getD i 0=l[i]:=by rw [List.getD_eq_getElem?_getD,yc t];rfl
  rw [f];refine B8 (B27 l[i] w') ?_;intro p m;have d:=b.trans (m.mono b.size);obtain hv|hv:=yj (B5a l[i])
  ·refine B5 hv ?_;refine⟨?_,d⟩;rw [A1R B5a l i t hv e];rfl
  ·refine B4 hv ?_;refine⟨i+1,⟨rfl,rfl,rfl,yb _ (C4 (by omega)),t6⟩,⟨t,fun j a h=>?_,d⟩,by show l.length-(i+1)<l.length-i;omega⟩;obtain h|h:=Nat.lt_succ_iff_lt_or_eq.1 h
   ·exact e j a h
   ·subst h;exact hv
 ·refine df (by omega) ?_;refine⟨?_,b⟩;rw [A1S B5a l (fun j a=>e j a (by omega))];rfl
theorem A1v (l:List UInt8) (A:Option Addr) (n c:Nat) (h:n=l.length) (S:Nat->Prop) (w:World) (R:Row S w A n c (bv l)):
  Calls Tryz.prog 218 #[.slice A n c,.func (.func 219) #[] #[]] w (D4 (.bool (l.any B5a)) w):=by
 refine vE Tryz.func218 ?_;refine B8 (A4J l A n c h S w R) ?_;intro b a;exact⟨C1 (A2g B5a l),a⟩
theorem A9W (s:ByteArray) (f:s.size<=9223372036854775807) (w:World):Calls Tryz.prog 174 #[.string s] w (D4 (.bool (A4I s)) w):=by
 refine vE Tryz.func174 ?_;refine A20 no Tryz.underlying9 Tryz.underlying207 Tryz.underlying5 f ?_;intro g cap i b R;refine B8 (A1v s.data.toList _ _ cap rfl _ i R) ?_;intro k j;have h:=b.trans (j.mono b.size);have e:s.data.toList.any B5a=!(s.data.toList.all (fun c=>65<=c&&c<=90)):=by unfold B5a;rw [List.not_all_eq_any_not]
 rw [e];unfold A4I;rcases yj (s.data.toList.all fun c=>65<=c&&c<=90) with a | a
 ·rw [a];by_cases d:(1:Int)<=(s.size:Int)
  ·refine dt d ?_;exact⟨C1 (by rw [zz (show 1<=s.size by omega)];simp;omega),h⟩
  ·refine df d ?_;exact⟨C1 (by rw [y8 (show ¬ 1<=s.size by omega)];rfl),h⟩
 ·rw [a];exact⟨rfl,h⟩
def MapK (b k:Nat) (f:ByteArray->Option Scroll):Kn:=fun S w=>S b/\MapC b k f w
theorem MapK.stab (b k:Nat) (f:ByteArray->Option Scroll):Stab (MapK b k f):=fun S w a w' h g=>⟨g.1 _ h.1,h.2.eq (g.2 _ h.1)⟩
def chC (room:Int) (b:Nat):List Value:=[.int .i64 room,.map (some b)]
def ChestK (gc b:Nat) (C:Chest):Kn:=fun S w=>S gc/\S b/\gc≠b/\Blk w gc 119 (chC C.room b)/\MapC b C.k C.f w
theorem ChestK.stab (c b:Nat) (C:Chest):Stab (ChestK c b C):=fun S w a w' h g=>⟨g.1 _ h.1,g.1 _ h.2.1,h.2.2.1,h.2.2.2.1.of_eq (g.2 _ h.1),h.2.2.2.2.eq (g.2 _ h.2.1)⟩
theorem yv {g b:Nat} {C:Chest}:Stab (ChestK g b C):=ChestK.stab _ _ _
def RetOb (Sa:Nat->Prop) (w:World) (v:Value) (O:Kn) (en:Ending) (w':World):Prop:=
 en=.returned v/\Turn Sa w w'/\∃ Sn:Nat->Prop,(∀ x,Sn x->(Sa x\/w.heap.size<=x)/\x<w'.heap.size)/\O Sn w'
theorem ChestK.enter {g b:Nat} {C:Chest} {S:Nat->Prop} {w:World} (a:ChestK g b C S w):CtxF no (bare w) (fun x=>x<w.heap.size/\x≠g) w [(g,119,chC C.room b)] [] (Sep 0 (Keep w S) (MapK b C.k C.f)):=by obtain⟨j,k,d,i,c⟩:=a;refine CtxF.enter (fun x h=>h.1) ⟨zb _,fun a=>a.2 rfl,i,(fun x h=>by cases h),t6⟩ trivial ⟨fun x=>x<w.heap.size/\¬ S x,fun x=>x=b,fun x h=>⟨⟨h.1,fun e=>h.2 (e▸j)⟩,fun e=>h.2 (e▸k)⟩,fun x h=>⟨⟨h▸c.lt,fun e=>d (e▸h)⟩,zb _⟩,fun x h f=>⟨⟨h,f⟩,rfl⟩,rfl,c⟩ (Sep.stab yq (MapK.stab _ _ _))
theorem ChestK.leave {g b k:Nat} {r:Int} {f:ByteArray->Option Scroll} {S i:Nat->Prop} {w w':World} (e:S g) (c:S b) (n:g≠b) (h:CtxF no (bare w) i w' [(g,119,chC r b)] [] (Sep 0 (Keep w S) (MapK b k f))) (v:Value):RetOb S w v (ChestK g b ⟨r,f,k⟩) (Ending.returned v) w':=by
 obtain⟨o,l,m,p,d,a⟩:=h.row;refine⟨rfl,h.leave d,fun x=>x=g\/x=b,fun x j=>?_,.inl rfl,.inr rfl,n,h.blk 0 rfl,a.2⟩;obtain rfl|rfl:=j
 ·exact⟨.inl e,(h.blk 0 rfl).lt⟩
 ·exact⟨.inl c,a.2.lt⟩
theorem _root_.Go.Vc.CtxF.mapc {w c a:World} {j:Nat->Prop} {l:List LB} {o:List OR} {R:Kn} {b s k:Nat} {r f:ByteArray->Option Scroll} (d:CtxF no w j c l o (Sep w.heap.size R (MapK b s r))) (p:Stab R) (g:c.grownBy a (some b)) (m:MapC b k f a):
  ∃ S,CtxF no w S a l o (Sep w.heap.size R (MapK b k f)):=by
 obtain⟨y,v,n,u,i,e⟩:=d.row;refine⟨_,d.turnO p n u i (Sn:=fun x=>x=b) ⟨g.os,g.tape,g.output,fun x h t=>g.block x h (fun q=>t (by rw [Option.some.inj q];exact e.1))⟩ (fun x h=>?_) ⟨rfl,m⟩ (MapK.stab _ _ _)⟩;have h:x=b:=h;subst h;exact⟨.inl e.1,m.lt⟩
theorem _root_.Go.Vc.CtxF.mapOf {a w:World} {S:Nat->Prop} {l:List LB} {o:List OR} {R:Kn} {n b k:Nat} {f:ByteArray->Option Scroll} (h:CtxF no a S w l o (Sep n R (MapK b k f))):MapC b k f w:=(h.row.right (MapK.stab _ _ _)).2
theorem ChestK.now {c w:World} {S:Nat->Prop} {l:List LB} {o:List OR} {R:Kn} {d g b k:Nat} {r:Int} {f:ByteArray->Option Scroll} (h:CtxF no c S w l o (Sep d R (MapK b k f))) (i:Nat) (a:l[i]?=some (g,119,chC r b)) (n:g≠b):ChestK g b ⟨r,f,k⟩ (fun x=>x=g\/x=b) w:=
 ⟨.inl rfl,.inr rfl,n,h.blk i a,h.mapOf⟩
theorem B28 (g:Nat) (o y:Operand) (w:World):(do eqGuard BinOp.eql 26 o y (.pointer (some ⟨g,0,none⟩)) (.pointer none);Go.binOp BinOp.eql 26 (.pointer (some ⟨g,0,none⟩)) (.pointer none):Sem Value).run Tryz.prog w=.ok (.bool false) w:=by kernel_rfl
theorem A8K (g b:Nat) (C:Chest) (x:ByteArray) (a:x.size<=9223372036854775807) (d:Nat->Prop) (w:World) (K:ChestK g b C d w):
  Calls Tryz.prog 175 #[.pointer (some ⟨g,0,none⟩),.string x] w (D4 (.tuple #[.agg (scC ((C.f x).getD sc0)).toArray,.int .i64 (if (C.f x).isSome then 0 else 6)]) w):=by
 refine vE Tryz.func175 ?_;have h:=CtxF.start w (fun x=>x=g\/x=b) (fun x a=>a.elim (fun e=>e▸K.2.2.2.1.lt) (fun e=>e▸K.2.2.2.2.lt)) (R:=ChestK g b C) ⟨.inl rfl,.inr rfl,K.2.2⟩ yv;refine h.n fun k m j h=>?_;refine⟨.bool false,fun w=>B28 g _ _ w,_,(h.row.2.2.2.1.cell 1).trans rfl,_,_,h.row.2.2.2.2.look_ok a,?_⟩;refine h.n fun f l i h=>?_;refine h.s 0 rfl fun S c h=>?_;cases e:C.f x with
 | none=>
  rw [e] at h;refine h.s 1 rfl fun S c h=>?_;refine h.a 1 rfl rfl ?_;exact⟨rfl,h.below⟩
 | some r=>
  rw [e] at h;refine h.a 0 rfl rfl ?_;refine h.s 1 rfl fun S c h=>?_;refine h.a 1 rfl rfl ?_;exact⟨rfl,h.below⟩
def Q3 (C:Chest) (to s:ByteArray):Chest × Int:=
 if A4I to then
  if C.room<(s.size:Int) then (C,5)
  else (⟨C.room-s.size,A2f C.f to ⟨((C.f to).getD sc0).s++s,((C.f to).getD sc0).pressed,((C.f to).getD sc0).kept⟩,A6s C.f C.k to⟩,0)
 else (C,1)
theorem A6t (g d:Nat) (C:Chest) (t s:ByteArray) (o:t.size<=9223372036854775807) (r : -1000000000000<=C.room/\C.room<=1000000000000) (F:s.size<=1000000000000) (E:((C.f t).getD sc0).s.size<=1000000000000) (k:C.k<1000000) (e:Nat->Prop) (w:World) (K:ChestK g d C e w):
  Calls Tryz.prog 169 #[.pointer (some ⟨g,0,none⟩),.string t,.string s] w (RetOb e w (.int .i64 (Q3 C t s).2) (ChestK g d (Q3 C t s).1)):=by
 obtain⟨q,a⟩:∃ q,q=Q3 C t s:=⟨_,rfl⟩;rw [<-a];unfold Q3 at a;have c:=K.1;have b:=K.2.1;have n:=K.2.2.1;have h:=K.enter;refine vE Tryz.func169 ?_;refine⟨.bool false,fun w=>B28 g _ _ w,?_⟩;refine h.q (A9W t o _) fun Q A h=>?_;cases i:A4I t with
 | false=>
  rw [i] at a;subst a;exact ChestK.leave c b n h _
 | true=>
  rw [i,yn rfl] at a;refine h.c 0 rfl rfl ?_;by_cases x:C.room<(s.size:Int)
  ·rw [yn x] at a;subst a;refine dt x ?_;exact ChestK.leave c b n h _
  rw [yo x] at a;refine df x ?_;refine h.c 0 rfl rfl ?_;refine⟨_,_,h.mapOf.look o,?_⟩;refine h.n fun B v D h=>?_;refine h.s 0 rfl fun S f h=>?_;refine h.c 0 rfl rfl ?_;refine⟨by simp only [ByteArray.size] at *;omega,?_⟩;refine h.s 0 rfl fun S f h=>?_;have r:=h;refine vD (.Q [0,1,2,3,4,5] (.z 6)) (Old _) (Old.start _) ?_;have z:=h.old0;have h:=h.drew;refine⟨_,fun l x=>Keeps.cell x (r.blk 1 rfl) (r.blk 1 rfl).lt rfl,_,?_,fun l x=>Keeps.cells x (r.blk 0 rfl) (r.blk 0 rfl).lt,?_⟩
  ·rfl
  obtain⟨m,j,p,_,u⟩:=h.mapOf.store o k ⟨((C.f t).getD sc0).s++s,((C.f t).getD sc0).pressed,((C.f t).getD sc0).kept⟩;refine⟨m,j,?_⟩;obtain⟨y,h⟩:=h.mapc yq p u;refine h.c 1 rfl rfl ?_;refine h.s 1 rfl fun S f h=>?_;rw [show IntKind.i64.wrap (C.room-(s.size:Int))=C.room-s.size from yh _ ⟨by omega,by omega⟩] at h;subst a;exact ChestK.leave c b n h.drop _
def A1T (C:Chest) (x:ByteArray):Chest × Int:=
 match C.f x with
 | none=>(C,6)
 | some r=>(⟨C.room,A2f C.f x ⟨r.s,r.s.size,true⟩,A6s C.f C.k x⟩,0)
theorem A6u (g e:Nat) (C:Chest) (x:ByteArray) (b:x.size<=9223372036854775807) (k:C.k<1000000) (S:Nat->Prop) (w:World) (K:ChestK g e C S w):
  Calls Tryz.prog 178 #[.pointer (some ⟨g,0,none⟩),.string x] w (RetOb S w (.int .i64 (A1T C x).2) (ChestK g e (A1T C x).1)):=by
 obtain⟨q,a⟩:∃ q,q=A1T C x:=⟨_,rfl⟩;rw [<-a];unfold A1T at a;have j:=K.1;have i:=K.2.1;have n:=K.2.2.1;have h:=K.enter;have d:=A8K g e C x b _ _ K;refine vE Tryz.func178 ?_;cases f:C.f x with
 | none=>
  rw [f] at a d;simp only at a;refine h.q (d) fun Q m h=>?_;refine h.n fun s y u h=>?_;refine h.s 0 rfl fun l v h=>?_;subst a;exact ChestK.leave j i n h.drop _
 | some r=>
  rw [f] at a d;simp only at a;refine h.q (d) fun Q m h=>?_;refine h.n fun s y u h=>?_;refine h.s 0 rfl fun l v h=>?_;have c:=h;refine vD (.Q [0,1,2,3,4,5,6,7,8,9,10] (.z 11)) (Old _) (Old.start _) ?_;have B:=h.old0;have h:=h.drew;refine⟨_,fun x b=>Keeps.cell b (c.blk 1 rfl) (c.blk 1 rfl).lt rfl,_,fun x b=>Keeps.cell b (c.blk 0 rfl) (c.blk 0 rfl).lt rfl,_,fun x b=>Keeps.cell b (c.blk 0 rfl) (c.blk 0 rfl).lt rfl,?_⟩;obtain⟨o,p,t,_,z⟩:=h.mapOf.store b k ⟨r.s,r.s.size,true⟩;refine⟨o,p,?_⟩;obtain⟨A,h⟩:=h.mapc yq t z;subst a;exact ChestK.leave j i n h.drop _
theorem A9X (g b:Nat) (C:Chest) (x:ByteArray) (m:x.size<=9223372036854775807) (S:Nat->Prop) (w:World) (K:ChestK g b C S w):
  Calls Tryz.prog 123 #[.pointer (some ⟨g,0,none⟩),.string x] w (D4 (.tuple #[.string ((C.f x).getD sc0).s,.bool (C.f x).isSome]) w):=by
 have a:=A8K g b C x m _ _ K;refine vE Tryz.func123 ?_;have h:=CtxF.start w no (fun _ c=>c.elim) (R:=fun _ _=>True) trivial Stab.true;cases e:C.f x with
 | none=>
  rw [e] at a;refine h.q (a) fun Q j h=>?_;refine h.n fun d l i h=>?_;refine h.s 0 rfl fun f k h=>?_;refine h.c 0 rfl rfl ?_;exact⟨rfl,h.below⟩
 | some r=>
  rw [e] at a;refine h.q (a) fun Q j h=>?_;refine h.n fun d l i h=>?_;refine h.s 0 rfl fun f k h=>?_;refine h.c 0 rfl rfl ?_;exact⟨rfl,h.below⟩
def A0v (C:Chest) (x to:ByteArray):Chest × Int:=
 if A4I to then match C.f x with
  | none=>(C,6)
  | some r=>if x=to then (C,0)
   else (⟨C.room+((C.f to).getD sc0).s.size,A2f (B7B C.f x) to ⟨r.s,r.pressed,true⟩,A6s (B7B C.f x) (B7C C.f C.k x) to⟩,0)
 else (C,1)
theorem B8G (f:ByteArray->Option Scroll) (k:Nat) (x:ByteArray):B7C f k x<=k:=by unfold B7C;split<;>omega
theorem A5V (g f:Nat) (C:Chest) (x to:ByteArray) (b:x.size<=9223372036854775807) (t:to.size<=9223372036854775807) (d : -1000000000000<=C.room/\C.room<=1000000000000) (P:((C.f to).getD sc0).s.size<=1000000000000) (A:C.k<1000000) (o:Nat->Prop) (w:World) (K:ChestK g f C o w):
  Calls Tryz.prog 122 #[.pointer (some ⟨g,0,none⟩),.string x,.string to] w (RetOb o w (.int .i64 (A0v C x to).2) (ChestK g f (A0v C x to).1)):=by
 obtain⟨q,a⟩:∃ q,q=A0v C x to:=⟨_,rfl⟩;rw [<-a];unfold A0v at a;have k:=K.1;have j:=K.2.1;have n:=K.2.2.1;have h:=K.enter;refine vE Tryz.func122 ?_;refine⟨.bool false,fun w=>B28 g _ _ w,?_⟩;refine h.q (A9W to t _) fun Q u h=>?_;cases v:A4I to with
 | false=>
  rw [v] at a;subst a;exact ChestK.leave k j n h _
 | true=>
  rw [v,yn rfl] at a;have e:=A8K g f C x b _ _ (ChestK.now h 0 rfl n);cases s:C.f x with
  | none=>
   rw [s] at a e;simp only at a;refine h.q (e) fun Q u h=>?_;refine h.n fun m y F h=>?_;refine h.s 0 rfl fun c l h=>?_;subst a;exact ChestK.leave k j n h.drop _
  | some r=>
   rw [s] at a e;rw [show (some r).getD sc0=r from rfl] at e;simp only at a;refine h.q (e) fun Q u h=>?_;refine h.n fun m y F h=>?_;refine h.s 0 rfl fun c l h=>?_;by_cases i:x=to
   ·rw [yn i] at a;subst a;refine B5 (C6.2 i) ?_;exact ChestK.leave k j n h.drop _
   rw [yo i] at a;refine B4 (by rw [<-Bool.not_eq_true,C6];exact i) ?_;have p:IntKind.i64.wrap (C.room+(((C.f to).getD sc0).s.size:Int))=C.room+((C.f to).getD sc0).s.size:=yh _ ⟨by omega,by omega⟩;refine Drawn.join (α:=Unit) (fun _=>[(0,.pointer (some ⟨g,0,none⟩)),(1,.string x),(2,.string to),(7,.pointer (some ⟨m,0,none⟩))])
    (fun _ c=>∃ S,CtxF no (bare w) S c [(m,121,scC r),(g,119,chC (C.room+((C.f to).getD sc0).s.size) f)] [] (Sep 0 (Keep w o) (MapK f C.k C.f))) ?_ ?_
   ·refine vD (.Q [0,1,2,4,5,6,8] (.n 3 (.n 7 (.n 9 (.Q [10,11,12,13,14] (.n 15 .fin .stop)) .stop) .stop) (.n 7 (.n 3 (.n 9 (.Q [10,11,12,13,14] (.n 15 .fin .stop)) .stop) (.n 9 (.Q [10,11] (.n 3 (.Q [12,13,14] (.n 15 .fin .stop)) .stop)) .stop)) .stop))) (fun _=>True) trivial ?_;have h:=h.drew;refine⟨?_,?_⟩
    ·skip
     refine⟨_,h.cell 1 rfl _ rfl,t6,⟨_,h.cell 1 rfl _ rfl,t6,?_⟩,t6⟩;refine⟨⟨_,_,h.mapOf.look t,t6,?_⟩,t6⟩;refine⟨h.s' 1 rfl fun c l h=>?_,t6⟩;rw [p] at h;exact⟨(),⟨rfl,rfl,rfl,rfl,t6⟩,_,h⟩
    refine⟨⟨_,h.cell 1 rfl _ rfl,t6,?_⟩,t6⟩;refine⟨?_,?_⟩
    ·skip
     refine⟨_,h.cell 1 rfl _ rfl,t6,⟨_,_,h.mapOf.look t,t6,?_⟩,t6⟩;refine⟨h.s' 1 rfl fun c l h=>?_,t6⟩;rw [p] at h;exact⟨(),⟨rfl,rfl,rfl,rfl,t6⟩,_,h⟩
    refine⟨⟨_,_,h.mapOf.look t,t6,?_⟩,t6⟩;refine⟨⟨_,h.cell 1 rfl _ rfl,t6,?_⟩,t6⟩;refine⟨h.s' 1 rfl fun c l h=>?_,t6⟩;rw [p] at h;exact⟨(),⟨rfl,rfl,rfl,rfl,t6⟩,_,h⟩
   clear h;rintro⟨⟩ N c ⟨S,h⟩;refine h.c 1 rfl rfl ?_;obtain⟨B,E,H,_,J⟩:=h.mapOf.drop b 0 _;refine⟨_,B,E,?_⟩;obtain⟨M,h⟩:=h.mapc yq H J;have d:=h;refine vD (.Q [0,1,2,3,4,5,6,7,8,9] (.z 10)) (Old _) (Old.start _) ?_;have O:=h.old0;have h:=h.drew;refine⟨_,fun x b=>Keeps.cell b (d.blk 1 rfl) (d.blk 1 rfl).lt rfl,_,fun x b=>Keeps.cell b (d.blk 0 rfl) (d.blk 0 rfl).lt rfl,_,fun x b=>Keeps.cell b (d.blk 0 rfl) (d.blk 0 rfl).lt rfl,?_⟩;obtain⟨D,G,z,_,I⟩:=h.mapOf.store t (Nat.lt_of_le_of_lt (B8G _ _ _) A) ⟨r.s,r.pressed,true⟩;refine⟨D,G,?_⟩;obtain⟨L,h⟩:=h.mapc yq z I;subst a;exact ChestK.leave k j n h.drop _
def C1D (n:Int):Chest:=⟨if (1048576:Int)<(if 0 > n then 0 else n) then 1048576 else (if 0 > n then 0 else n),fun _=>none,0⟩
theorem B8H (n:Int) (w:World):Calls Tryz.prog 45 #[.int .i64 n] w (fun e w'=>∃ c d,e=.returned (.pointer (some ⟨c,0,none⟩))/\Below w.heap.size w w'/\ChestK c d (C1D n) (ext no w w') w'):=by refine vE Tryz.func45 ?_;have i:=CtxF.start w no (fun _ a=>a.elim) (R:=fun _ _=>True) trivial Stab.true;refine⟨_,_,run_makeMap _ _,?_⟩;have b:Below w.heap.size w (w.alloc (.map #[] 0)):=(Below.refl _ _).alloc (zc _) _;have s:(w.alloc (.map #[] 0)).heap.size=w.heap.size+1:=Array.size_push ..;intro g j h;have f:g=w.heap.size+1:=h.1.trans s;have l:=h.blk.lt;exact⟨g,w.heap.size,rfl,b.trans (h.below.mono (by omega)),.inr ⟨by omega,l⟩,.inr ⟨zc _,by omega⟩,by omega,h.blk,(MapC.made w).eq (h.below.block _ (by omega))⟩
theorem B8I {D:DataW Unit} (T:Maps.Tidy D) (d:Maps.size D=1) {c b:Lit} (h:Maps.has D c=true) (a:Maps.has D b=true):c=b:=by
 obtain⟨e,rfl,_⟩:=T;rw [Maps.size_eq] at d;rw [Maps.has_eq] at h a
 match e,d with
 | [p],_=>
  simp only [List.any_cons,List.any_nil,Bool.or_false] at h a;exact (WideAt.sameKey_eq h).symm.trans (WideAt.sameKey_eq a)
def RangeK (b r:Nat) (x:ByteArray) (s:Scroll) (o:Option Obj) (more:Bool):Kn:=fun S w=>S b/\S r/\b≠r/\w.heap[b]?=o/\
 ∃ (D:DataW Unit) (left:Lit->Bool) (cnt:Nat),w.ranges Tryz.prog 9 scR b r 1 D left cnt/\(∀ l,left l=true->l=.string x.data.toList)/\D.atKey (.string x.data.toList) (scD sc0)=scD s/\
  (more=true->left (.string x.data.toList)=true)/\(more=false->∀ l,left l=false)
theorem B29 {P:Program} {t:TypeId} {R:Value->Option (DataW Unit × List MemPlace)} {a w:World} {b r n cnt:Nat} {D:DataW Unit} {left:Lit->Bool} (c:a.ranges P t R b r n D left cnt) (e:w.heap[b]?=a.heap[b]?) (j:w.heap[r]?=a.heap[r]?):w.ranges P t R b r n D left cnt:=by obtain⟨g,l,i,seen,c0,h,F,s,d,f,rest⟩:=c;exact⟨g,l,i,seen,c0,e.trans h,F,s,d,j.trans f,rest⟩
theorem RangeK.stab (e r:Nat) (x:ByteArray) (s:Scroll) (o:Option Obj) (m:Bool):Stab (RangeK e r x s o m):=fun S w j w' d g=>by obtain⟨h,a,b,i,D,left,cnt,c,f⟩:=d;exact⟨g.1 _ h,g.1 _ a,b,(g.2 _ h).trans i,D,left,cnt,B29 c (g.2 _ h) (g.2 _ a),f⟩
theorem yu {b r:Nat} {x:ByteArray} {s:Scroll} {o:Option Obj} {m:Bool}:Stab (RangeK b r x s o m):=RangeK.stab _ _ _ _ _ _
theorem B5b {b:Nat} {f:ByteArray->Option Scroll} {w:World} {x:ByteArray} {s:Scroll} (n:MapC b 1 f w) (p:x.size<=maxLen) (d:f x=some s):
  ∃ w',(Instr.range 117 (.map (some b))).run Tryz.prog w=.ok (.pointer (some ⟨w.heap.size,0,none⟩)) w'/\Below w.heap.size w w'/\RangeK b w.heap.size x s w.heap[b]? true (fun y=>y=b\/y=w.heap.size) w':=by
 obtain⟨D,a,z,m⟩:=n;obtain⟨w',o,q,h,t⟩:=a.range A1P B25;have g:=a.lt;obtain⟨k,c⟩:=m x p;rw [d] at k;have c:=c s d;have r:WideAt.IsKeyLit (.string x.data.toList):=trivial;refine⟨w',o,⟨h.os,h.tape,h.output,h.size,fun y j=>h.block y j (fun e=>by cases e)⟩,.inl rfl,.inr rfl,by omega,h.block b g (fun e=>by cases e),D,_,_,z▸q,fun l i=>?_,c,fun _=>k,fun e=>by cases e⟩;exact B8I (a.tidy A1P) z i k
theorem RangeK.next {d r:Nat} {x:ByteArray} {s:Scroll} {o:Option Obj} {m:Bool} {S:Nat->Prop} {w:World} (H:RangeK d r x s o m S w) (t:TypeId):
  (m=false->(Instr.next (.pointer (some ⟨r,0,none⟩)) false t).run Tryz.prog w=.ok (.tuple #[.bool false]) w)/\
  (m=true->∃ w',(Instr.next (.pointer (some ⟨r,0,none⟩)) false t).run Tryz.prog w=.ok (.tuple #[.bool true,.string x,.agg (scC s).toArray]) w'/\w.grownBy w' (some r)/\w'.heap.size=w.heap.size/\RangeK d r x s o false S w'/\
   (Instr.entry (.pointer (some ⟨r,0,none⟩))).run Tryz.prog w'=.ok (.tuple #[.string x,.agg (scC s).toArray]) w'):=by
 obtain⟨C,O,n,N,D,left,cnt,g,a,i,G,y⟩:=H;have I:WideAt.IsKeyLit (.string x.data.toList):=trivial;obtain⟨p,k,c⟩|⟨R,T,f,J,w',U,p,k,c,F,u,A,V,j,E,M⟩:=g.next A1P t
 ·refine⟨fun _=>c,fun e=>?_⟩;have:=G e;rw [k] at this;cases this
 ·refine⟨fun e=>?_,fun e=>?_⟩
  ·have:=y e f;rw [k] at this;cases this
  have L:=a f k;subst L;obtain⟨z,rfl,b,_⟩:=WideMaps.string_of_keyOf Tryz.underlying9 p;have K:z=x:=by
   injection b with b
   exact C6.1 (beq_iff_eq.2 b.symm)
  subst K;obtain⟨Q,P⟩:=J;obtain⟨s',rfl,B⟩:=A8J c;have v:=(F (scD sc0)).symm.trans i;have q:s'=s:=A8I (B.symm.trans v);subst q;refine⟨w',u,j,E,⟨C,O,n,(j.block d g.owns.lt (fun e=>n (Option.some.inj e))).trans N,D,_,_,A,fun l h=>?_,i,(fun e=>by cases e),fun _ l=>?_⟩,M⟩
  ·simp only [z7] at h;exact a l h.1
  ·cases h:left l with
   | false=>rfl
   | true=>
    have:=a l h;subst this;rw [WideAt.sameKey_self I];rfl
def F6 (s:Scroll) (n:Int):Int:=if 0<n then s.pressed+n.tmod ((s.s.size:Int)-s.pressed+1) else s.pressed
def H4 (C:Chest) (x:ByteArray) (s:Scroll) (n:Int):Chest:=
 ⟨C.room+((s.s.size:Int)-F6 s n),if 0<F6 s n\/s.kept=true then A2f (fun _=>none) x ⟨s.s.extract 0 (F6 s n).toNat,F6 s n,true⟩ else fun _=>none,if 0<F6 s n\/s.kept=true then 1 else 0⟩
theorem A9Y {s:Scroll} (p:0<=s.pressed/\s.pressed<=s.s.size) (n:Int):s.pressed<=F6 s n/\F6 s n<=s.s.size:=by
 unfold F6;split
 ·have a:=Int.tmod_lt_of_pos n (show (0:Int)<(s.s.size:Int)-s.pressed+1 by omega);have h:=Int.tmod_nonneg ((s.s.size:Int)-s.pressed+1) (show 0<=n by omega);omega
 ·omega
def B9w (gc b r b2:Nat) (C:Chest) (x:ByteArray) (s:Scroll) (n:Int) (o:Option Obj) (w2:World) (G:Nat->Prop) (g5:Nat) (more:Bool) (w':World):Prop:=
 ∃ S,CtxF no (bare w2) S w' [(g5,119,chC (if more then C.room else (H4 C x s n).room) b2)] [] (Sep 0 (Sep 0 (Keep w2 G) (RangeK b r x s o more)) (MapK b2 (if more then 0 else (H4 C x s n).k) (if more then fun _=>none else (H4 C x s n).f)))
theorem B5c (m b:Nat) (C:Chest) (x:ByteArray) (s:Scroll) (a:x.size<=9223372036854775807) (hf:C.f x=some s) (a6:C.k=1) (hp:0<=s.pressed/\s.pressed<=s.s.size) (hs:s.s.size<=1000000000000) (c : -1000000000000<=C.room/\C.room<=1000000000000)
  (n:Int) (f:Nat->Prop) (w:World) (hK:ChestK m b C f w):
  Calls Tryz.prog 31 #[.pointer (some ⟨m,0,none⟩),.int .i64 n] w (fun en w'=>∃ Y b',en=.returned (.pointer (some ⟨Y,0,none⟩))/\Below w.heap.size w w'/\ChestK Y b' (H4 C x s n) (ext no w w') w'):=by
 obtain⟨_,_,c1,R,O⟩:=hK;refine vE Tryz.func31 ?_;refine⟨.bool false,fun w=>B28 m _ _ w,_,(R.cell 0).trans rfl,_,_,run_makeMap _ _,?_⟩;have a2:Below w.heap.size w (w.alloc (.map #[] 0)):=(Below.refl _ _).alloc (zc _) _;have Z:(w.alloc (.map #[] 0)).heap.size=w.heap.size+1:=Array.size_push ..;have a0:=MapC.made w;generalize w.alloc (.map #[] 0)=w1 at a2 Z a0;intro g w3 E;have c0:g=w.heap.size+1:=E.1.trans Z;have q:Below w.heap.size w w3:=a2.trans (E.below.mono (by omega));have a5:=E.blk.lt;have a4:=O.lt;have b3:=R.lt;refine⟨_,(((R.of_eq (q.block _ b3)).cell 1)).trans rfl,?_⟩;rw [a6] at O;obtain⟨w2,a9,o,W⟩:=B5b (O.eq (q.block _ a4)) a hf;refine⟨_,_,a9,?_⟩;have c3:w.heap.size+2<=w3.heap.size:=by omega
 have c6:=o.size;have c5:w3.heap.size<w2.heap.size:=W.2.2.2.2.elim fun D e=>by obtain⟨left,cnt,e,_⟩:=e;exact e.lt
 have h:B9w m b w3.heap.size w.heap.size C x s n w3.heap[b]? w2 (fun y=>y=b\/y=w3.heap.size\/y=w.heap.size\/y=g) g true w2:=by
  refine⟨fun y=>y<w2.heap.size/\y≠g,CtxF.enter (fun y d=>d.1) ⟨zb _,fun e=>e.2 rfl,E.blk.of_eq (o.block _ a5),(fun y d=>by cases d),t6⟩ trivial
   ⟨fun y=>(y<w2.heap.size/\y≠g)/\y≠w.heap.size,fun y=>y=w.heap.size,fun y d=>⟨d.1,d.2⟩,fun y d=>⟨⟨by omega,by omega⟩,zb _⟩,
    ⟨fun y=>y<w2.heap.size/\¬ (y=b\/y=w3.heap.size\/y=w.heap.size\/y=g),fun y=>y=b\/y=w3.heap.size,fun y d=>⟨⟨⟨d.1,fun e=>d.2 (by omega)⟩,fun e=>d.2 (by omega)⟩,fun e=>d.2 (by omega)⟩,fun y d=>⟨⟨⟨by omega,by omega⟩,by omega⟩,zb _⟩,fun y d Q=>⟨⟨d,Q⟩,rfl⟩,W⟩,rfl,(a0.eq (E.below.block _ (by omega))).eq (o.block _ (by omega))⟩
   (Sep.stab (Sep.stab yq yu) (MapK.stab _ _ _))⟩
 refine⟨Bool,fun _=>[(0,.pointer (some ⟨m,0,none⟩)),(1,.int .i64 n),(5,.pointer (some ⟨g,0,none⟩)),(23,.pointer (some ⟨w3.heap.size,0,none⟩))],
  B9w m b w3.heap.size w.heap.size C x s n w3.heap[b]? w2 (fun y=>y=b\/y=w3.heap.size\/y=w.heap.size\/y=g) g,fun b2 _=>if b2 then 1 else 0,true,⟨rfl,rfl,rfl,rfl,t6⟩,h,?_⟩
 clear h;generalize w3.heap.size=r at*;rintro a8 w4 U ⟨S4,h⟩;cases a8 with
 | false=>
  obtain⟨S1,Sa,_,_,⟨S2,Sb,_,_,b0,F⟩,T⟩:=h.row;refine⟨_,_,(F.next _).1 rfl,?_⟩;have N:=h.leave b0;have V:=h.blk 0 rfl;have b8:=V.lt;refine⟨g,w.heap.size,rfl,⟨N.os.trans (o.os.trans q.os),N.tape.trans (o.tape.trans q.tape),N.output.trans (o.output.trans q.output),by omega,fun k B=>?_⟩,.inr ⟨by omega,b8⟩,.inr ⟨zc _,T.2.lt⟩,by omega,V,T.2⟩;by_cases a7:k=b
  ·rw [a7];exact F.2.2.2.1.trans (q.block b a4)
  ·exact (N.block k (by omega) (by omega)).trans ((o.block k (by omega)).trans (q.block k B))
 | true=>
  have h:CtxF no (bare w2) S4 w4 [(g,119,chC C.room w.heap.size)] [] (Sep 0 (Sep 0 (Keep w2 (fun y=>y=b\/y=r\/y=w.heap.size\/y=g)) (RangeK b r x s w3.heap[b]? true)) (MapK w.heap.size 0 (fun _=>none))):=h;have h:=h.now (X:=Sep 0 (Sep 0 (Keep w2 (fun y=>y=b\/y=r\/y=w.heap.size\/y=g)) (MapK w.heap.size 0 (fun _=>none))) (RangeK b r x s w3.heap[b]? true)) Sep.swap (Sep.stab (Sep.stab yq (MapK.stab _ _ _)) yu);obtain⟨S1,Sa,h1,h2,h3,F⟩:=h.row;obtain⟨w5,b4,M,b6,b1,b5⟩:=(F.next 0).2 rfl;refine⟨_,_,b4,_,_,b5,?_⟩;have h:=h.turnO (Sep.stab yq (MapK.stab _ _ _)) h1 h2 h3 (Sn:=Sa) ⟨M.os,M.tape,M.output,fun y d Q=>M.block y d (fun P=>Q (by rw [Option.some.inj P];exact F.2.1))⟩ (fun y d=>⟨.inl d,by rw [b6];exact h.ctx.lt y (h2 y d).1⟩) b1 yu;have h:=h.now (X:=Sep 0 (Sep 0 (Keep w2 (fun y=>y=b\/y=r\/y=w.heap.size\/y=g)) (RangeK b r x s w3.heap[b]? false)) (MapK w.heap.size 0 (fun _=>none))) Sep.swap (Sep.stab (Sep.stab yq yu) (MapK.stab _ _ _));have c2:=A9Y hp n;have a3:IntKind.i64.wrap ((s.s.size:Int)-s.pressed)=(s.s.size:Int)-s.pressed:=yh _ ⟨by omega,by omega⟩;have a1:IntKind.i64.wrap ((s.s.size:Int)-s.pressed+1)=(s.s.size:Int)-s.pressed+1:=yh _ ⟨by omega,by omega⟩;have b7:IntKind.i64.wrap (F6 s n)=F6 s n:=yh _ ⟨by omega,by omega⟩;have I:IntKind.i64.wrap ((s.s.size:Int)-F6 s n)=(s.s.size:Int)-F6 s n:=yh _ ⟨by omega,by omega⟩;have G:IntKind.i64.wrap (C.room+((s.s.size:Int)-F6 s n))=C.room+((s.s.size:Int)-F6 s n):=yh _ ⟨by omega,by omega⟩;refine h.n fun H b9 c4 h=>?_;refine h.s 0 rfl fun l J h=>?_;refine h.c 0 rfl rfl ?_;refine h.c 0 rfl rfl ?_;refine h.c 0 rfl rfl ?_;by_cases K:0<n
  ·refine dt K ?_;refine Z9 (by rw [a3,a1];omega) ?_;have L:IntKind.i64.wrap (s.pressed+n.tmod (IntKind.i64.wrap (IntKind.i64.wrap ((s.s.size:Int)-s.pressed)+1)))=F6 s n:=by have P:F6 s n=s.pressed+n.tmod ((s.s.size:Int)-s.pressed+1):=yn K;rw [a3,a1,<-P,b7]
   refine Drawn.join (α:=Unit) (fun _=>[(0,.pointer (some ⟨m,0,none⟩)),(1,.int .i64 n),(5,.pointer (some ⟨g,0,none⟩)),(6,.string x),(7,.pointer (some ⟨H,0,none⟩)),(9,.int .i64 (F6 s n)),(23,.pointer (some ⟨r,0,none⟩))])
    (fun _ l=>∃ f,CtxF no (bare w2) f l [(H,121,scC s),(g,119,chC (C.room+((s.s.size:Int)-F6 s n)) w.heap.size)] [] (Sep 0 (Sep 0 (Keep w2 (fun y=>y=b\/y=r\/y=w.heap.size\/y=g)) (RangeK b r x s w3.heap[b]? false)) (MapK w.heap.size 0 (fun _=>none)))) ?_ ?_
   ·refine vD (.Q [0,1,2,4,7] (.n 3 (.n 5 (.Q [6,8,9,10,11] (.n 12 .fin .stop)) .stop) (.n 5 (.Q [6,8] (.n 3 (.Q [9,10,11] (.n 12 .fin .stop)) .stop)) .stop))) (fun _=>True) trivial ?_;have h:=h.drew;refine⟨?_,?_⟩
    ·skip
     refine⟨_,h.cell 1 rfl _ rfl,t6,⟨_,h.cell 0 rfl _ rfl,t6,?_⟩,t6⟩;refine⟨h.s' 1 rfl fun l J h=>?_,t6⟩;rw [L,I,G] at h;exact⟨(),⟨rfl,rfl,rfl,rfl,rfl,yb _ L,rfl,t6⟩,_,h⟩
    refine⟨⟨_,h.cell 0 rfl _ rfl,t6,?_⟩,t6⟩;refine⟨⟨_,h.cell 1 rfl _ rfl,t6,?_⟩,t6⟩;refine⟨h.s' 1 rfl fun l J h=>?_,t6⟩;rw [L,I,G] at h;exact⟨(),⟨rfl,rfl,rfl,rfl,rfl,yb _ L,rfl,t6⟩,_,h⟩
   clear h;rintro⟨⟩ U l ⟨f,h⟩;by_cases z:0<F6 s n
   ·have i:(H4 C x s n).f=A2f (fun _=>none) x ⟨s.s.extract 0 (F6 s n).toNat,F6 s n,true⟩:=yn (.inl z);have j:(H4 C x s n).k=1:=yn (.inl z);refine dt z ?_;have c:=h;refine vD (.Q [0,1,2,3,4,5,6,7,8,9,10] (.z 11)) (Old _) (Old.start _) ?_;have B:=h.old0;have h:=h.drew;refine⟨_,fun x a=>Keeps.cell a (c.blk 1 rfl) (c.blk 1 rfl).lt rfl,_,fun x a=>Keeps.cell a (c.blk 0 rfl) (c.blk 0 rfl).lt rfl,⟨by omega,by omega,by omega⟩,?_⟩;obtain⟨t,u,A,_,v⟩:=h.mapOf.store a (by decide) ⟨s.s.extract 0 (F6 s n).toNat,F6 s n,true⟩;refine⟨t,u,?_⟩;obtain⟨S,h⟩:=h.mapc (Sep.stab yq yu) A v;refine⟨false,⟨rfl,rfl,rfl,rfl,t6⟩,⟨S,?_⟩,by show (0:Nat)<1;decide⟩;show CtxF no (bare w2) S _ [(g,119,chC (H4 C x s n).room w.heap.size)] [] (Sep 0 (Sep 0 _ _) (MapK w.heap.size (H4 C x s n).k (H4 C x s n).f));rw [i,j];exact h.drop
   by_cases p:s.kept=true
   ·have i:(H4 C x s n).f=A2f (fun _=>none) x ⟨s.s.extract 0 (F6 s n).toNat,F6 s n,true⟩:=yn (.inr p);have j:(H4 C x s n).k=1:=yn (.inr p);refine df z ?_;refine h.c 0 rfl rfl ?_;refine B5 p ?_;have c:=h;refine vD (.Q [0,1,2,3,4,5,6,7,8,9,10] (.z 11)) (Old _) (Old.start _) ?_;have B:=h.old0;have h:=h.drew;refine⟨_,fun x a=>Keeps.cell a (c.blk 1 rfl) (c.blk 1 rfl).lt rfl,_,fun x a=>Keeps.cell a (c.blk 0 rfl) (c.blk 0 rfl).lt rfl,⟨by omega,by omega,by omega⟩,?_⟩;obtain⟨t,u,A,_,v⟩:=h.mapOf.store a (by decide) ⟨s.s.extract 0 (F6 s n).toNat,F6 s n,true⟩;refine⟨t,u,?_⟩;obtain⟨S,h⟩:=h.mapc (Sep.stab yq yu) A v;refine⟨false,⟨rfl,rfl,rfl,rfl,t6⟩,⟨S,?_⟩,by show (0:Nat)<1;decide⟩;show CtxF no (bare w2) S _ [(g,119,chC (H4 C x s n).room w.heap.size)] [] (Sep 0 (Sep 0 _ _) (MapK w.heap.size (H4 C x s n).k (H4 C x s n).f));rw [i,j];exact h.drop
   have i:(H4 C x s n).f=fun _=>none:=yo (fun e=>e.elim z p);have j:(H4 C x s n).k=0:=yo (fun e=>e.elim z p);refine df z ?_;refine h.c 0 rfl rfl ?_;refine B4 (by simpa using p) ?_;refine⟨false,⟨rfl,rfl,rfl,rfl,t6⟩,⟨f,?_⟩,by show (0:Nat)<1;decide⟩;show CtxF no (bare w2) f _ [(g,119,chC (H4 C x s n).room w.heap.size)] [] (Sep 0 (Sep 0 _ _) (MapK w.heap.size (H4 C x s n).k (H4 C x s n).f));rw [i,j];exact h.drop
  ·refine df K ?_;have L:s.pressed=F6 s n:=(yo K).symm;refine Drawn.join (α:=Unit) (fun _=>[(0,.pointer (some ⟨m,0,none⟩)),(1,.int .i64 n),(5,.pointer (some ⟨g,0,none⟩)),(6,.string x),(7,.pointer (some ⟨H,0,none⟩)),(9,.int .i64 (F6 s n)),(23,.pointer (some ⟨r,0,none⟩))])
    (fun _ l=>∃ f,CtxF no (bare w2) f l [(H,121,scC s),(g,119,chC (C.room+((s.s.size:Int)-F6 s n)) w.heap.size)] [] (Sep 0 (Sep 0 (Keep w2 (fun y=>y=b\/y=r\/y=w.heap.size\/y=g)) (RangeK b r x s w3.heap[b]? false)) (MapK w.heap.size 0 (fun _=>none)))) ?_ ?_
   ·refine vD (.Q [0,1,2,4,7] (.n 3 (.n 5 (.Q [6,8,9,10,11] (.n 12 .fin .stop)) .stop) (.n 5 (.Q [6,8] (.n 3 (.Q [9,10,11] (.n 12 .fin .stop)) .stop)) .stop))) (fun _=>True) trivial ?_;have h:=h.drew;refine⟨?_,?_⟩
    ·skip
     refine⟨_,h.cell 1 rfl _ rfl,t6,⟨_,h.cell 0 rfl _ rfl,t6,?_⟩,t6⟩;refine⟨h.s' 1 rfl fun l J h=>?_,t6⟩;rw [L,I,G] at h;exact⟨(),⟨rfl,rfl,rfl,rfl,rfl,yb _ L,rfl,t6⟩,_,h⟩
    refine⟨⟨_,h.cell 0 rfl _ rfl,t6,?_⟩,t6⟩;refine⟨⟨_,h.cell 1 rfl _ rfl,t6,?_⟩,t6⟩;refine⟨h.s' 1 rfl fun l J h=>?_,t6⟩;rw [L,I,G] at h;exact⟨(),⟨rfl,rfl,rfl,rfl,rfl,yb _ L,rfl,t6⟩,_,h⟩
   clear h;rintro⟨⟩ U l ⟨f,h⟩;by_cases z:0<F6 s n
   ·have i:(H4 C x s n).f=A2f (fun _=>none) x ⟨s.s.extract 0 (F6 s n).toNat,F6 s n,true⟩:=yn (.inl z);have j:(H4 C x s n).k=1:=yn (.inl z);refine dt z ?_;have c:=h;refine vD (.Q [0,1,2,3,4,5,6,7,8,9,10] (.z 11)) (Old _) (Old.start _) ?_;have B:=h.old0;have h:=h.drew;refine⟨_,fun x a=>Keeps.cell a (c.blk 1 rfl) (c.blk 1 rfl).lt rfl,_,fun x a=>Keeps.cell a (c.blk 0 rfl) (c.blk 0 rfl).lt rfl,⟨by omega,by omega,by omega⟩,?_⟩;obtain⟨t,u,A,_,v⟩:=h.mapOf.store a (by decide) ⟨s.s.extract 0 (F6 s n).toNat,F6 s n,true⟩;refine⟨t,u,?_⟩;obtain⟨S,h⟩:=h.mapc (Sep.stab yq yu) A v;refine⟨false,⟨rfl,rfl,rfl,rfl,t6⟩,⟨S,?_⟩,by show (0:Nat)<1;decide⟩;show CtxF no (bare w2) S _ [(g,119,chC (H4 C x s n).room w.heap.size)] [] (Sep 0 (Sep 0 _ _) (MapK w.heap.size (H4 C x s n).k (H4 C x s n).f));rw [i,j];exact h.drop
   by_cases p:s.kept=true
   ·have i:(H4 C x s n).f=A2f (fun _=>none) x ⟨s.s.extract 0 (F6 s n).toNat,F6 s n,true⟩:=yn (.inr p);have j:(H4 C x s n).k=1:=yn (.inr p);refine df z ?_;refine h.c 0 rfl rfl ?_;refine B5 p ?_;have c:=h;refine vD (.Q [0,1,2,3,4,5,6,7,8,9,10] (.z 11)) (Old _) (Old.start _) ?_;have B:=h.old0;have h:=h.drew;refine⟨_,fun x a=>Keeps.cell a (c.blk 1 rfl) (c.blk 1 rfl).lt rfl,_,fun x a=>Keeps.cell a (c.blk 0 rfl) (c.blk 0 rfl).lt rfl,⟨by omega,by omega,by omega⟩,?_⟩;obtain⟨t,u,A,_,v⟩:=h.mapOf.store a (by decide) ⟨s.s.extract 0 (F6 s n).toNat,F6 s n,true⟩;refine⟨t,u,?_⟩;obtain⟨S,h⟩:=h.mapc (Sep.stab yq yu) A v;refine⟨false,⟨rfl,rfl,rfl,rfl,t6⟩,⟨S,?_⟩,by show (0:Nat)<1;decide⟩;show CtxF no (bare w2) S _ [(g,119,chC (H4 C x s n).room w.heap.size)] [] (Sep 0 (Sep 0 _ _) (MapK w.heap.size (H4 C x s n).k (H4 C x s n).f));rw [i,j];exact h.drop
   have i:(H4 C x s n).f=fun _=>none:=yo (fun e=>e.elim z p);have j:(H4 C x s n).k=0:=yo (fun e=>e.elim z p);refine df z ?_;refine h.c 0 rfl rfl ?_;refine B4 (by simpa using p) ?_;refine⟨false,⟨rfl,rfl,rfl,rfl,t6⟩,⟨f,?_⟩,by show (0:Nat)<1;decide⟩;show CtxF no (bare w2) f _ [(g,119,chC (H4 C x s n).room w.heap.size)] [] (Sep 0 (Sep 0 _ _) (MapK w.heap.size (H4 C x s n).k (H4 C x s n).f));rw [i,j];exact h.drop
def bA:ByteArray:=⟨#[65]⟩
def c3f (x:ByteArray) (s:Scroll):ByteArray->Option Scroll:=A2f (fun _=>none) x s
def s31:Scroll:=⟨⟨#[]⟩++⟨#[120,121,122]⟩,0,false⟩
def c31:Chest:=⟨47,c3f bA s31,1⟩
theorem t1:((H4 c31 bA s31 2).f bA).getD sc0=⟨⟨#[120,121]⟩,2,true⟩/\((H4 c31 bA s31 2).f bA).isSome=true:=⟨by kernel_rfl,by kernel_rfl⟩
def A4K (s:List UInt8):List UInt8:=A0n (zOn (0,1) s)
def L5 (s:ByteArray):List UInt8:=if (400000:Int)<(s.size:Int) then [] else A4K s.data.toList++A6C (vStr s)
theorem B8J (v:V):(A6C v).length<=(L4 v).length:=by
 unfold A6C;split
 ·exact zc _
 ·exact zb _
theorem A9Z (n:Int):(A81 n).length=4:=by simp [A81]
theorem W9 (s:List UInt8):(A4K s).length=8:=by unfold A4K A0n;rw [z6,A9Z,A9Z]
theorem A2h (s:ByteArray) (d:s.size<=9223372036854775807) (w:World) (f:Env w):Calls Tryz.prog 124 #[.string s] w (D4 (.string ⟨(L5 s).toArray⟩) w):=by
 refine vE Tryz.func124 ?_;unfold L5;by_cases h:(400000:Int)<(s.size:Int)
 ·rw [yn h];refine dt h ?_;exact⟨rfl,Below.refl _ _⟩
 rw [yo h];refine df h ?_;refine A20 no Tryz.underlying9 Tryz.underlying207 Tryz.underlying5 d ?_;intro g cap q b R;refine B8 (A24 (W0 s).symm d _ R) ?_;intro o k;refine B8 (A25 (A80 _ _ ⟨by decide,by decide⟩) _) ?_;intro n e;have c:=b.trans (k.mono b.size);have a:=c.trans (e.mono c.size);refine B8 (A2Z (vStr s) ⟨⟨by decide,by decide⟩,t6⟩ (zq (Q8 s (by omega)) (by omega)) _ _ _ _ _ _ no _ (RepC.leaf _ _ _ _ _) (f.below a).tab) ?_;intro r i;have j:=a.trans (i.mono a.size);have l:=B8J (vStr s);have p:=Q8 s (by omega);have m:=W9 s.data.toList;refine⟨?_,?_⟩
 ·show (A4K s.data.toList).toArray.size+(A6C (vStr s)).toArray.size<=_;rw [List.size_toArray,List.size_toArray];omega
 ·refine⟨?_,j⟩;rw [<-A0I];rfl
def A3T (l:List UInt8):Bool:=(A0y (l.take 8++List.replicate (8-l.length) 48)).2
theorem B5d (n:Nat) (h:n<=8):((⟨#[48,48,48,48,48,48,48,48]⟩:ByteArray).extract n 8).data.toList=List.replicate (8-n) 48:=by
 have:∀ n:Fin 9,((⟨#[48,48,48,48,48,48,48,48]⟩:ByteArray).extract n.val 8).data.toList=List.replicate (8-n.val) 48:=by decide +kernel
 exact this ⟨n,by omega⟩
theorem C2B (s:ByteArray) (m:Nat) (b:m=min 8 s.size):(s.extract 0 m++(⟨#[48,48,48,48,48,48,48,48]⟩:ByteArray).extract m 8).data.toList=s.data.toList.take 8++List.replicate (8-s.data.toList.length) 48:=by
 have h:s.data.toList.length=s.size:=W0 s;have e:s.extract 0 m=⟨((s.data.toList.drop 0).take (m-0)).toArray⟩:=W4 s.data.toList 0 m;rw [ByteArray.data_append,Array.toList_append,B5d m (by omega),e,h];show (s.data.toList.drop 0).take (m-0)++_=_;rw [List.drop_zero,Nat.sub_zero,show 8-m=8-s.size from by omega];congr 1;obtain a|a:=zm s.size 8
 ·rw [ym (by omega),ym (by omega)]
 ·rw [show m=8 from by omega]
theorem B0Q (s:ByteArray) (g:s.size<=1000000000000) (w:World):Calls Tryz.prog 179 #[.string s] w (D4 (.bool (A3T s.data.toList)) w):=by
 obtain⟨m,a,c⟩:∃ m:Nat,(if (8:Int)<(s.size:Int) then 8 else (s.size:Int))=(m:Int)/\m=min 8 s.size:=⟨min 8 s.size,by split<;>omega,rfl⟩;have z:(s.extract ((0:Nat):Int).toNat (if (8:Int)<(s.size:Int) then 8 else (s.size:Int)).toNat).size=m:=by rw [a,ByteArray.size_extract];omega
 have h:=fun w=>A27 (s.extract 0 m++(⟨#[48,48,48,48,48,48,48,48]⟩:ByteArray).extract m 8) w;rw [C2B s m c] at h;have f:s.extract 0 m=s.extract ((0:Nat):Int).toNat (if (8:Int)<(s.size:Int) then 8 else (s.size:Int)).toNat:=by rw [a];rfl
 rw [f] at h;have e:((s.extract ((0:Nat):Int).toNat (if (8:Int)<(s.size:Int) then 8 else (s.size:Int)).toNat).size:Int).toNat=m:=by rw [z];exact zi m
 rw [<-e] at h;refine vE Tryz.func179 ?_;refine⟨⟨Int.le_refl _,by rw [a];omega,by rw [a];omega⟩,⟨Int.natCast_nonneg _,by rw [z];show (m:Int)<=8;omega,Int.le_refl _⟩,?_⟩;have b:(⟨#[48,48,48,48,48,48,48,48]⟩:ByteArray).size=8:=rfl;refine⟨by simp only [ByteArray.size_extract,b];omega,?_⟩;refine B8 (h _) ?_;intro i d;exact⟨rfl,d⟩
end Go.Proofs.YtefdfaeieekioaaGreatDoor
section
namespace Go.Vc
open Go Go.RowKit
open Go.Proofs.YtefdfaeieekioaaGreatDoor (no RetOb Env)
def ObjK (g T:Nat) (cs:List Value) (R O:Kn):Kn:=fun S w=>S g/\Blk w g T cs/\Sep 0 R O (fun x=>S x/\x≠g) w
theorem ObjK.stab {g T:Nat} {cs:List Value} {R O:Kn} (c:Stab R) (b:Stab O):Stab (ObjK g T cs R O):=fun S w d w' h f=>
 ⟨f.1 _ h.1,h.2.1.of_eq (f.2 _ h.1),Sep.stab c b _ _ _ _ h.2.2 ⟨fun a x=>⟨f.1 a x.1,x.2⟩,fun a x=>f.2 a x.1⟩⟩
theorem ObjK.right {g T:Nat} {c:List Value} {R O:Kn} (h:Stab O) {S:Nat->Prop} {w:World} (a:ObjK g T c R O S w):O S w:=
 h _ _ _ _ (a.2.2.right h) ⟨fun b x=>x.1,fun _ _=>rfl⟩
theorem ObjK.left {g T:Nat} {c:List Value} {R O:Kn} (h:Stab R) {S:Nat->Prop} {w:World} (a:ObjK g T c R O S w):R S w:=
 h _ _ _ _ (a.2.2.left h) ⟨fun b x=>x.1,fun _ _=>rfl⟩
section
variable {w0 w w':World} {S Sa:Nat->Prop} {l:List LB} {os:List OR} {R O K X Y:Kn} {g T n0:Nat} {cs cs':List Value}
theorem ObjK.enter (a:ObjK g T cs R O Sa w) (l:∀ x,Sa x->x<w.heap.size) (j:Stab R) (f:Stab O):
  CtxF no (bare w) (fun x=>x<w.heap.size/\x≠g) w [(g,T,cs)] [] (Sep 0 (Sep 0 (Keep w Sa) R) O):=by
 obtain⟨i,n,r,S,k,b,c,m⟩:=a;refine CtxF.enter (fun x h=>h.1) ⟨zb _,fun a=>a.2 rfl,n,(fun x h=>by cases h),t6⟩ trivial ⟨fun x=>x<w.heap.size/\¬ S x/\x≠g,S,fun x h=>⟨⟨h.1,h.2.2⟩,h.2.1⟩,fun x h=>⟨⟨l x (b x h).1.1,(b x h).1.2⟩,zb _⟩,⟨fun x=>x<w.heap.size/\¬ Sa x,r,fun x h=>⟨⟨h.1,fun e=>h.2 (b x e).1.1,fun e=>h.2 (e▸i)⟩,fun e=>h.2 (k x e).1.1⟩,fun x h=>⟨⟨l x (k x h).1.1,(k x h).2,(k x h).1.2⟩,zb _⟩,fun x h d=>⟨⟨h,d⟩,rfl⟩,c⟩,m⟩ (Sep.stab (Sep.stab yq j) f)
theorem ObjK.leave (c:CtxF no (bare w) S w' [(g,T,cs')] [] (Sep 0 (Sep 0 (Keep w Sa) R) O)) (v:Value):RetOb Sa w v (ObjK g T cs' R O) (Ending.returned v) w':=by
 obtain⟨y,m,a,n,⟨p,r,b,j,f,u⟩,t⟩:=c.row;have d:¬ S g:=c.ctx.locs.2.1;have i:∀ x,r x->S x:=fun x h=>(a x (j x h).1).1;refine⟨rfl,c.leave f,fun x=>x=g\/r x\/m x,fun x h=>?_,.inl rfl,c.blk 0 rfl,r,m,fun x h=>⟨⟨.inr (.inl h),fun e=>d (e▸i x h)⟩,(a x (j x h).1).2⟩,fun x h=>⟨⟨.inr (.inr h),fun e=>d (e▸(n x h).1)⟩,zb _⟩,u,t⟩;have o:(p x->False)->Sa x\/w.heap.size<=x:=fun q=>by
  obtain l|l:=zm x w.heap.size
  ·obtain s|s:=Classical.em (Sa x)
   ·exact .inl s
   ·exact (q (f x l s).1).elim
  ·exact .inr l
 obtain rfl|h|h:=h
 ·exact⟨o fun k=>d (a _ (b _ k).1).1,(c.blk 0 rfl).lt⟩
 ·exact⟨o fun k=>(b x k).2 h,c.ctx.lt x (i x h)⟩
 ·exact⟨o fun k=>(a x (b x k).1).2 h,c.ctx.lt x (n x h).1⟩
theorem CtxF.again {i:World} (b:CtxF no (bare w) S i [(g,T,cs)] [] (Sep 0 (Sep 0 (Keep w Sa) R) O)):
  ∃ Sm:Nat->Prop,(∀ x,Sm x->x<i.heap.size)/\(∀ x,x<w.heap.size->¬ Sa x->¬ Sm x/\i.heap[x]?=w.heap[x]?)/\ObjK g T cs R O Sm i/\∀ {d:World} {cs':List Value} {s t:Kn} {r:Nat->Prop},Turn Sm i d->(∀ x,r x->(Sm x\/i.heap.size<=x)/\x<d.heap.size)->ObjK g T cs' s t r d->Stab s->Stab t->
   ∃ L,CtxF no (bare w) L d [(g,T,cs')] [] (Sep 0 (Sep 0 (Keep w Sa) s) t):=by
 obtain⟨S1,z,n,D,⟨q,u,y,H,J,P⟩,V⟩:=b.row;have C:¬ S g:=b.ctx.locs.2.1;have G:∀ x,u x->S x:=fun x h=>(n x (H x h).1).1;have f:∀ x,q x->S x/\¬ u x/\¬ z x/\x≠g:=fun x h=>⟨(n x (y x h).1).1,(y x h).2,(n x (y x h).1).2,fun e=>C (e▸(n x (y x h).1).1)⟩;refine⟨fun x=>x=g\/u x\/z x,fun x h=>?_,fun x h B=>?_,⟨.inl rfl,b.blk 0 rfl,u,z,fun x h=>⟨⟨.inr (.inl h),fun e=>C (e▸G x h)⟩,(n x (H x h).1).2⟩,fun x h=>⟨⟨.inr (.inr h),fun e=>C (e▸(D x h).1)⟩,zb _⟩,P,V⟩,?_⟩
 ·obtain rfl|h|h:=h
  ·exact (b.blk 0 rfl).lt
  ·exact b.ctx.lt x (G x h)
  ·exact b.ctx.lt x (D x h).1
 ·obtain⟨l,o⟩:=J x h B;obtain⟨a,j,c,m⟩:=f x l;exact⟨fun e=>e.elim m (fun e=>e.elim j c),o⟩
 ·intro d cs' s t r v A M Y U;obtain⟨Z,W,Q,E,l,o,X,K⟩:=M;have I:∀ x,q x->¬ r x:=fun x h B=>by
   obtain⟨a,j,c,m⟩:=f x h;have hl:=b.ctx.lt x a;obtain (e|e|e)|e:=(A x B).1
   ·exact m e
   ·exact j e
   ·exact c e
   ·omega
  have F:∀ x,q x->d.heap[x]?=i.heap[x]?:=fun x h=>by obtain⟨a,j,c,m⟩:=f x h;exact v.block x (b.ctx.lt x a) (fun e=>e.elim m (fun e=>e.elim j c))
  have N:∀ x,q x->x<d.heap.size:=fun x h=>heap_lt (F x h) (b.ctx.lt x (f x h).1);refine⟨fun x=>x<d.heap.size/\x≠g,⟨⟨⟨v.os.trans b.below.os,v.tape.trans b.below.tape,v.output.trans b.below.output,zb _,fun k f=>absurd f (Nat.not_lt_zero _)⟩,fun _ p=>p.elim,fun j _=>.inr (zb _),fun x h=>h.1,⟨zb _,fun p=>p.2 rfl,W,(fun x h=>by cases h),t6⟩⟩,t6,?_,Sep.stab (Sep.stab yq Y) U⟩⟩;refine⟨fun x=>x<d.heap.size/\¬ E x/\x≠g,E,fun x h=>⟨⟨h.1,h.2.2⟩,h.2.1⟩,fun x h=>⟨⟨(A x (o x h).1.1).2,(o x h).1.2⟩,zb _⟩,⟨q,Q,fun x h=>⟨⟨N x h,fun e=>I x h (o x e).1.1,(f x h).2.2.2⟩,fun e=>I x h (l x e).1.1⟩,fun x h=>⟨⟨(A x (l x h).1.1).2,(l x h).2,(l x h).1.2⟩,zb _⟩,Keep.stab _ _ _ _ _ _ J ⟨fun _ p=>p,F⟩,X⟩,K⟩
theorem CtxF.mid (g:CtxF no w0 S w l os (Sep w0.heap.size (Sep n0 K R) O)) (C:n0<=w0.heap.size) (q:Stab K) (n:Stab R) (j:Stab O):
  ∃ r:Nat->Prop,R r w/\(∀ x,r x->S x)/\∀ {w':World} {e:List LB} {i:Kn},CtxF no w0 (ext S w w') w' e os i/\Fut S w (ext S w w') w'->∀ {X:Kn},Stab X->X (ext r w w') w'->CtxF no w0 (ext S w w') w' e os (Sep w0.heap.size (Sep n0 K (fun S w=>R S w/\X S w)) O):=by
 obtain⟨B,t,b,c,⟨A,r,k,d,z,m⟩,D⟩:=g.row;have v:∀ x,S x->x<w.heap.size:=g.ctx.lt;have o:∀ x,r x->S x:=fun x h=>(b x (d x h).1).1;refine⟨r,m,o,fun {w' e i} u {X} y h=>?_⟩;obtain⟨s,f⟩:=u;have p:∀ x,w.heap.size<=x->S x->False:=fun x b c=>absurd (v x c) (by omega);refine s.now (fun _=>⟨ext B w w',t,fun x h=>?_,fun x h=>⟨.inl (c x h).1,(c x h).2⟩,⟨A,ext r w w',fun x h=>⟨.inl (k x h).1,fun a=>?_⟩,fun x h=>⟨?_,?_⟩,?_,?_,h⟩,?_⟩) (Sep.stab (Sep.stab q (n.and y)) j)
 ·obtain h|h:=h
  ·exact⟨.inl (b x h).1,(b x h).2⟩
  ·exact⟨.inr h,fun a=>p x h.1 (c x a).1⟩
 ·obtain a|a:=a
  ·exact (k x h).2 a
  ·exact p x a.1 (b x (k x h).1).1
 ·obtain h|h:=h
  ·exact .inl (d x h).1
  ·exact .inr h
 ·obtain h|h:=h
  ·exact (d x h).2
  ·exact zq C (zq g.ctx.below.size h.1)
 ·exact q _ _ _ _ z ⟨fun _ a=>a,fun x h=>f.2 x (b x (k x h).1).1⟩
 ·exact n _ _ _ _ m ⟨fun _ a=>.inl a,fun x h=>f.2 x (o x h)⟩
 ·exact j _ _ _ _ D ⟨fun _ a=>a,fun x h=>f.2 x (c x h).1⟩
theorem CtxF.turnL (c:CtxF no w0 S w l os R) (k:Nat) (i:l[k]?=some (g,T,cs)) (b:Turn (fun x=>x=g) w w') (B:Blk w' g T cs'):
  CtxF no w0 (ext S w w') w' (I2 l k cs') os R/\Fut S w (ext S w w') w':=by
 have v:g<w.heap.size:=(c.blk k i).lt;have z:w.heap.size<=w'.heap.size:=by
  by_cases e:g=w.heap.size-1
  ·have:=B.lt;omega
  ·have:=heap_lt (b.block (w.heap.size-1) (by omega) (fun j=>e j.symm)) (by omega);omega
 have o:w.grownBy w' (some g):=⟨b.os,b.tape,b.output,z,fun x h t=>b.block x h (fun e=>t (by rw [e]))⟩;obtain⟨f,u⟩:=c.ctx.turned k i o B;have r:∀ x∈I2 l k cs',x.1<w.heap.size:=fun x h=>by obtain⟨m,y,e⟩:=O1 h;rw [<-e];exact c.ctx.locs.lt m y
 have n:Fut S w (ext S w w') w':=⟨fun x h=>.inl h,u.2⟩;refine⟨⟨⟨f.below,fun _ j=>j.elim,fun x h=>?_,fun x h=>?_,f.locs.mono (fun _ _=>rfl) (fun x h s=>?_)⟩,c.own.step fun q p a d=>?_,c.stab _ _ _ _ c.row n,c.stab⟩,n⟩
 ·obtain h|h:=h
  ·exact f.new x h
  ·exact .inr (zq c.ctx.below.size h.1)
 ·obtain h|h:=h
  ·exact f.lt x h
  ·exact h.2
 ·obtain s|s:=s
  ·exact s
  ·have:=r x h;omega
 ·have O:=c.own.mem q p;refine⟨b.block _ (O.lt d).2 (fun e=>(O.out a d).2 _ (List.mem_of_getElem? i) e.symm),fun s=>?_,fun x h=>?_⟩
  ·obtain s|s:=s
   ·exact (O.out a d).1 s
   ·have:=(O.lt d).2;omega
  ·obtain⟨m,y,e⟩:=O1 h;rw [<-e];exact (O.out a d).2 m y
end
def isG (x:Nat):Prop:=Go.Proofs.Tryz.prog.globalNamed "internal/strconv.uint64pow10"=some x\/Go.Proofs.Tryz.prog.globalNamed "strconv.ErrSyntax"=some x\/Go.Proofs.Tryz.prog.globalNamed "strconv.ErrRange"=some x
theorem B3A {w:World} {n:String} {v:Array Value} (h:w.var? Go.Proofs.Tryz.prog n=some v) {x:Nat} (a:Go.Proofs.Tryz.prog.globalNamed n=some x):x<w.heap.size:=by
 unfold World.var? at h;rw [a,Option.bind_some] at h;obtain l|l:=zm x w.heap.size
 ·exact l
 ·rw [Array.getElem?_eq_none l] at h;cases h
theorem B3B {b w:World} {n:String} {v:Array Value} (a:b.var? Go.Proofs.Tryz.prog n=some v) (k:∀ x,Go.Proofs.Tryz.prog.globalNamed n=some x->w.heap[x]?=b.heap[x]?):w.var? Go.Proofs.Tryz.prog n=some v:=by
 unfold World.var? at*;cases h:Go.Proofs.Tryz.prog.globalNamed n with
 | none=>simp [h] at a
 | some g=>
  simp only [h,Option.bind_some] at a ⊢;rw [k g h];exact a
theorem _root_.Go.Proofs.YtefdfaeieekioaaGreatDoor.Env.lt {w:World} (b:Env w) (x:Nat) (h:isG x):x<w.heap.size:=by
 obtain h|h|h:=h
 ·exact B3A b.tab h
 ·obtain⟨a,d,c⟩:=b.syn;exact B3A c h
 ·obtain⟨a,d,c⟩:=b.rng;exact B3A c h
theorem _root_.Go.Proofs.YtefdfaeieekioaaGreatDoor.Env.of {w w':World} (a:Env w) (k:∀ x,isG x->w'.heap[x]?=w.heap[x]?):Env w':=by obtain⟨d,c,f⟩:=a.syn;obtain⟨e,b,g⟩:=a.rng;exact⟨B3B a.tab fun x h=>k x (.inl h),⟨d,c,B3B f fun x h=>k x (.inr (.inl h))⟩,⟨e,b,B3B g fun x h=>k x (.inr (.inr h))⟩⟩
def EnvFree (G:Nat->Prop) (w:World):Prop:=Env w/\∀ x,isG x->¬ G x
theorem _root_.Go.Proofs.YtefdfaeieekioaaGreatDoor.Env.free {a w:World} {G:Nat->Prop} {X:Nat->Prop} (h:Env a) (b:Below a.heap.size a w) (d:∀ x,G x->X x/\a.heap.size<=x):EnvFree G w:=
 ⟨h.below b,fun x c g=>absurd (h.lt x c) (Nat.not_lt.2 (d x g).2)⟩
theorem EnvFree.kept {G G':Nat->Prop} {w w':World} (h:EnvFree G w) (k:∀ x,x<w.heap.size->¬ G x->¬ G' x/\w'.heap[x]?=w.heap[x]?):EnvFree G' w':=
 ⟨h.1.of fun x a=>(k x (h.1.lt x a) (h.2 x a)).2,fun x a=>(k x (h.1.lt x a) (h.2 x a)).1⟩
theorem EnvFree.sub {G a e S:Nat->Prop} {w w1:World} {R:Kn} (d:EnvFree G w) (c:Sep 0 (Keep w G) R a w1) (f:∀ x,a x->e x/\¬ S x):EnvFree S w1:=by obtain⟨i,r,g,j,k,l⟩:=c;exact d.kept fun x b h=>⟨(f x (g x (k x b h).1).1).2,(k x b h).2⟩
theorem EnvFree.now {G S:Nat->Prop} {w w1:World} {l:List LB} {o:List OR} {R O:Kn} (a:EnvFree G w) (c:CtxF no (bare w) S w1 l o (Sep 0 (Sep 0 (Keep w G) R) O)):Env w1:=by obtain⟨d,e,b,g,h,f⟩:=c.row;exact (a.sub h b).1
def RecK (e:Nat) (A:Option Addr) (n cap:Nat) (xs:List Value):Kn:=fun S w=>xs.length=n/\n<=cap/\cap<=maxLen/\(A=none/\cap=0\/∃ g o cur,A=some ⟨g,o,none⟩/\S g/\Blk w g e cur/\o+cap<=cur.length/\(cur.drop o).take n=xs)
theorem RecK.stab (e:Nat) (A:Option Addr) (n p:Nat) (x:List Value):Stab (RecK e A n p x):=fun S w j w' h f=>⟨h.1,h.2.1,h.2.2.1,h.2.2.2.elim .inl fun ⟨g,o,c,d,a,b,i⟩=>.inr ⟨g,o,c,d,f.1 _ a,b.of_eq (f.2 _ a),i⟩⟩
theorem yr {e:Nat} {A:Option Addr} {n c:Nat} {x:List Value}:Stab (RecK e A n c x):=RecK.stab _ _ _ _ _
theorem RecK.nil (e:Nat) (S:Nat->Prop) (w:World):RecK e none 0 0 [] S w:=⟨rfl,zc _,zb _,.inl ⟨rfl,rfl⟩⟩
theorem RecK.row {e n c:Nat} {A:Option Addr} {xs:List Value} {S:Nat->Prop} {w:World} (d:RecK e A n c xs S w):Row S w A n c xs:=by
 obtain⟨j,f,b,a⟩:=d;refine⟨f,b,fun x=>?_⟩;obtain⟨_,a⟩|⟨g,o,u,rfl,s,B,l,t⟩:=a
 ·exact absurd (zo (by omega)) x
 ·refine⟨_,rfl,s,fun k i h=>?_⟩;rw [yi,B.cell];rw [<-t,List.getElem?_take] at h;split at h
  ·rw [List.getElem?_drop] at h;exact h
  ·cases h
theorem cells_of {w:World} {a:Addr}:∀ (y:List Value) (i:Nat),cellsAt w a y i->∀ j u,y[j]?=some u->w.cell? (a.add (i+j))=some u
 | [],_,_,j,u,h=>by cases h
 | v::r,i,h,j,u,hu=>by
  cases j with
  | zero=>cases hu;exact h.1
  | succ j=>rw [show i+(j+1)=i+1+j from by omega];exact cells_of r (i+1) h.2 j u hu
theorem B8K {P:Program} {B w:World} {a7:Nat->Prop} {a1:List LB} {U:List OR} {R:Kn} {e t T n c m b a3:Nat} {p:Option Addr} {X:Array Bool} {s y:List Value} {z:Value} {K:Value->World->Prop}
  (H:P.underlying t=some (.slice e)) (hi:(P.info? e).map (fun i=>(i.zero,i.size,i.bytes))=some (some z,1,a3)) (a8:z.cells.size=1)
  (L:CtxF no B a7 w a1 U (Sep B.heap.size R (RecK e p n c s))) (hR:Stab R) {d:Addr} (hy:cellsAt w d y 0) (q:y.length=m) (hm:0<m) (h1:F4 y=true) (a2:n+m<=34359738368) (b2:a3<=4096)
  (b4:∀ A cap' w' S',CtxF no B S' w' a1 U (Sep B.heap.size R (RecK e A (n+m) cap' (s++y)))->K (.slice A (n+m) cap') w'):
  ∃ v w',(builtin .append #[t,t] T X #[.slice p n c,.slice (some d) m b]).run P w=.ok (.value v) w'/\K v w':=by
 obtain⟨i,M,V,C,h5⟩:=info_parts hi;have F:∀ j u,y[j]?=some u->w.cell? (d.add j)=some u:=fun j u f=>by have:=cells_of y 0 hy j u f;rwa [zn] at this
 have I:y.length=m*i.size:=by rw [C,q,Nat.mul_one]
 have O:n+m<=maxLen:=zq a2 (by decide);have Z:(n+m)*i.bytes<=140737488355328:=by rw [h5];exact zq (Nat.mul_le_mul a2 b2) (by decide)
 obtain⟨S1,Sa,r1,r2,r3,k,b5,a5,b3⟩:=L.row;have D:∀ v w',(Builtin.append_ #[t,t] T #[.slice p n c,.slice (some d) m b]).run P w=.ok v w'->(∃ A cap' S,v=.slice A (n+m) cap'/\Turn Sa w w'/\(∀ x,S x->(Sa x\/w.heap.size<=x)/\x<w'.heap.size)/\RecK e A (n+m) cap' (s++y) S w')->∃ v w',(builtin .append #[t,t] T X #[.slice p n c,.slice (some d) m b]).run P w=.ok (.value v) w'/\K v w':=by intro v w' r hh;obtain⟨A,cap',S,rfl,hT,a6,hO⟩:=hh;refine⟨_,w',?_,b4 A cap' w' _ (L.turnO hR r1 r2 r3 hT a6 hO yr)⟩;show (do pure (Next.value (<-Builtin.append_ #[t,t] T #[.slice p n c,.slice (some d) m b])):Sem Next).run P w=_;simp only [yf,r,ye,yg]
 have Q:∀ (old:Nat),old<n+m->∃ A cap' S,(Value.slice (some ⟨w.heap.size,0,none⟩) (n+m) (grownCap w (n+m) old e))=.slice A (n+m) cap'/\Turn Sa w (w.drew.alloc (.cells (s.toArray++y.toArray++Builtin.zeroCells z.cells (grownCap w (n+m) old e-(n+m))) e))/\(∀ x,S x->(Sa x\/w.heap.size<=x)/\x<(w.drew.alloc (.cells (s.toArray++y.toArray++Builtin.zeroCells z.cells (grownCap w (n+m) old e-(n+m))) e)).heap.size)/\RecK e A (n+m) cap' (s++y) S (w.drew.alloc (.cells (s.toArray++y.toArray++Builtin.zeroCells z.cells (grownCap w (n+m) old e-(n+m))) e)):=by
  intro old ho;have a9:=grownCap_ge w (n+m) old e;have b1:grownCap w (n+m) old e<=maxLen:=grownCap_le_maxLen w (n+m) old e O;have a4:(w.drew.alloc (.cells (s.toArray++y.toArray++Builtin.zeroCells z.cells (grownCap w (n+m) old e-(n+m))) e)).heap.size=w.heap.size+1:=by simp
  have N:(s++y).length=n+m:=by rw [z6,k,q]
  refine⟨_,_,fun x=>x=w.heap.size,rfl,⟨rfl,rfl,rfl,fun x h _=>heap_alloc_old w.drew _ h⟩,fun x h=>⟨.inr (Nat.le_of_eq h.symm),by rw [a4];show x<_;rw [show x=w.heap.size from h];omega⟩,N,a9,b1,.inr ⟨w.heap.size,0,(s.toArray++y.toArray++Builtin.zeroCells z.cells (grownCap w (n+m) old e-(n+m))).toList,rfl,rfl,heap_alloc_new w.drew _,?_,?_⟩⟩
  ·have e1:(s.toArray++y.toArray++Builtin.zeroCells z.cells (grownCap w (n+m) old e-(n+m))).toList.length=n+m+(grownCap w (n+m) old e-(n+m))*1:=by rw [Array.length_toList,Array.size_append,Array.size_append,List.size_toArray,List.size_toArray,size_zeroCells,a8,k,q]
   rw [e1];omega
  ·simp only [Array.toList_append,zw,List.drop_zero];rw [<-zw,<-N];exact List.take_left
 obtain⟨rfl,rfl⟩|⟨g,o,l,rfl,hs,J,b6,W⟩:=b3
 ·have G:n=0:=by omega
  subst G;have h:s=[]:=zo k;subst h;have r:=run_append_nil (P:=P) w t T e i z H M V d m b y I F (by omega) (by omega) (by have hb:=Z;simp only [zn] at hb;omega);have Y:=Q 0 (by omega);simp only [zn,List.nil_append,Array.empty_append] at Y D ⊢;exact D _ _ r Y
 ·by_cases a0:n+m<=c
  ·have E:=run_storeCells_at P g (o+n) e y 0 l.toArray w J (by simp only [List.size_toArray];omega) (L8 h1);have hf:=run_firstCells_some (P:=P) w i.size m d m b y I F;rw [C] at hf;have r:(Builtin.append_ #[t,t] T #[.slice (some ⟨g,o,none⟩) n c,.slice (some d) m b]).run P w=.ok (.slice (some ⟨g,o,none⟩) (n+m) c) (w.setRow g (l.take (o+n)++y++l.drop (o+n+y.length)).toArray):=by simp only [Nat.add_zero] at E;simp [Builtin.append_,run_underlying H,sizeOf,typeInfo,M,Builtin.lenOf,a0,hf,yi,C] at E ⊢;show ((Sem.run P (storeCells ⟨g,o+n,none⟩ y 0) w).andThen fun a w'=>Result.ok (Value.slice (some ⟨g,o,none⟩) (n+m) c) w')=_;rw [E];rfl
   refine D _ _ r ⟨_,_,Sa,rfl,⟨rfl,rfl,rfl,fun x h G=>setRow_other w g x _ (fun e=>G (e▸hs))⟩,fun x h=>⟨.inl h,?_⟩,by rw [z6,k,q],a0,a5,.inr ⟨g,o,l.take (o+n)++y++l.drop (o+n+y.length),rfl,hs,setRow_heap w g l.toArray _ e (0,0) J,?_,?_⟩⟩
   ·have:=L.ctx.lt x (r2 x h).1;simpa using this
   ·simp only [z6,zg,zh];omega
   ·rw [zw,List.drop_append_of_le_length (by rw [zg];omega),List.drop_take,show o+n-o=n from by omega,W,<-zw,show n+m=(s++y).length from by rw [z6,k,q]];exact List.take_left
  ·have b0:∀ j u,s[j]?=some u->w.cell? ((⟨g,o,none⟩:Addr).add j)=some u:=fun j u f=>by
    rw [yi,J.cell];rw [<-W,List.getElem?_take] at f;split at f
    ·rw [List.getElem?_drop] at f;exact f
    ·cases f
   have r:=run_append_grow (P:=P) w t T e i z H M V ⟨g,o,none⟩ n c s (by rw [C,Nat.mul_one];exact k) b0 d m b y I F (by omega) (by simp only [maxLen] at O;omega) (growslice_fits (by omega) Z);exact D _ _ r (Q c (by omega))
end Go.Vc
end
namespace Go.Proofs.YtefdfaeieekioaaGreatDoor
open Go.Vc Go.RowKit Go.Fl
theorem A6v:(Tryz.prog.info? 45).map (fun i=>(i.zero,i.size,i.bytes))=some (some (.agg #[.int .i64 0,.string ⟨#[]⟩,.string ⟨#[]⟩,.int .i64 0,.int .i64 0,.string ⟨#[]⟩,.int .i64 0,.int .i64 0]),8,88):=by kernel_rfl
theorem B8L (a:Option Addr) (n c:Nat) (o y:Operand) (w:World):(do eqGuard .eql 22 o y (.slice a n c) (.slice none 0 0);Go.binOp .eql 22 (.slice a n c) (.slice none 0 0):Sem Value).run Tryz.prog w=.ok (.bool a.isNone) w:=by have h:=Lib.run_eql_slice_nil (P:=Tryz.prog) w 22 45 a n c 0 0 Tryz.underlying22;simp only [eqGuard];simpa using h
theorem X0 (A:Option Addr) (n p:Nat) (s:List (List Value)) (F:Flat 8 s) (b:s.length=n) (i:n<=1000000) (S:Nat->Prop) (w:World) (R:Row S w A n p s.flatten):
  Calls Tryz.prog 62 #[.slice A n p] w (B5G 45 8 n s.flatten w):=by
 refine vE Tryz.func62 ?_;refine⟨_,fun w=>B8L A n p _ _ w,?_⟩;cases A with
 | none=>
  obtain⟨h0,a⟩:=Row.cut R F (by decide) b rfl;subst h0;rw [a];exact⟨none,0,rfl,Below.refl _ _,World.ownsRow_nil _ _ _ _⟩
 | some l=>
  intro g k a;have c:=Ctx.start w no (fun _ d=>d.elim);obtain⟨c,f,h⟩:=Own.made c a 8 0 rfl (zb _);refine A01 Tryz.underlying22 A6v rfl (by decide) c h (R.below a.below) (by rw [F.len,b]) F.ones (by omega) (by decide) ?_;intro e cap' j c f h _;rw [zn] at h ⊢;rw [List.nil_append] at h;exact⟨e,cap',rfl,c.below,h.row⟩
theorem B3C:(Tryz.prog.info? 9).map (fun i=>(i.zero,i.size,i.bytes))=some (some (.string ⟨#[]⟩),1,16):=by kernel_rfl
theorem B8M (a:Option Addr) (n c:Nat) (o y:Operand) (w:World):(do eqGuard .eql 114 o y (.slice a n c) (.slice none 0 0);Go.binOp .eql 114 (.slice a n c) (.slice none 0 0):Sem Value).run Tryz.prog w=.ok (.bool a.isNone) w:=by have h:=Lib.run_eql_slice_nil (P:=Tryz.prog) w 114 9 a n c 0 0 Tryz.underlying114;simp only [eqGuard];simpa using h
theorem B0R (A:Option Addr) (n p:Nat) (s:List (List Value)) (F:Flat 1 s) (b:s.length=n) (i:n<=1000000) (S:Nat->Prop) (w:World) (R:Row S w A n p s.flatten):
  Calls Tryz.prog 132 #[.slice A n p] w (B5G 9 1 n s.flatten w):=by
 refine vE Tryz.func132 ?_;refine⟨_,fun w=>B8M A n p _ _ w,?_⟩;cases A with
 | none=>
  obtain⟨h0,a⟩:=Row.cut R F (by decide) b rfl;subst h0;rw [a];exact⟨none,0,rfl,Below.refl _ _,World.ownsRow_nil _ _ _ _⟩
 | some l=>
  intro g k a;have c:=Ctx.start w no (fun _ d=>d.elim);obtain⟨c,f,h⟩:=Own.made c a 1 0 rfl (zb _);refine A01 Tryz.underlying114 B3C rfl (by decide) c h (R.below a.below) (by rw [F.len,b]) F.ones (by omega) (by decide) ?_;intro e cap' j c f h _;rw [zn] at h ⊢;rw [List.nil_append] at h;exact⟨e,cap',rfl,c.below,h.row⟩
theorem B9x:(Tryz.prog.info? 3).map (fun i=>(i.zero,i.size,i.bytes))=some (some (.int .i64 0),1,8):=by kernel_rfl
theorem B8N (a:Option Addr) (n c:Nat) (o y:Operand) (w:World):(do eqGuard .eql 29 o y (.slice a n c) (.slice none 0 0);Go.binOp .eql 29 (.slice a n c) (.slice none 0 0):Sem Value).run Tryz.prog w=.ok (.bool a.isNone) w:=by have h:=Lib.run_eql_slice_nil (P:=Tryz.prog) w 29 3 a n c 0 0 Tryz.underlying29;simp only [eqGuard];simpa using h
theorem B0S (A:Option Addr) (n p:Nat) (s:List (List Value)) (F:Flat 1 s) (b:s.length=n) (i:n<=1000000) (S:Nat->Prop) (w:World) (R:Row S w A n p s.flatten):
  Calls Tryz.prog 84 #[.slice A n p] w (B5G 3 1 n s.flatten w):=by
 refine vE Tryz.func84 ?_;refine⟨_,fun w=>B8N A n p _ _ w,?_⟩;cases A with
 | none=>
  obtain⟨h0,a⟩:=Row.cut R F (by decide) b rfl;subst h0;rw [a];exact⟨none,0,rfl,Below.refl _ _,World.ownsRow_nil _ _ _ _⟩
 | some l=>
  intro g k a;have c:=Ctx.start w no (fun _ d=>d.elim);obtain⟨c,f,h⟩:=Own.made c a 1 0 rfl (zb _);refine A01 Tryz.underlying29 B9x rfl (by decide) c h (R.below a.below) (by rw [F.len,b]) F.ones (by omega) (by decide) ?_;intro e cap' j c f h _;rw [zn] at h ⊢;rw [List.nil_append] at h;exact⟨e,cap',rfl,c.below,h.row⟩
theorem A5W {d:Nat} (a:d<16):hv (B9l d)=d:=by
 unfold hv;rw [A1l d a];by_cases h:d<10
 ·rw [yn h,yn (by omega)];push_cast;omega
 ·rw [yo h,yo (by omega)];push_cast;omega
theorem B0T {d:Nat} (a:d<16):A0A (B9l d)=true:=by
 unfold A0A;rw [A1l d a,Bool.or_eq_true,z7,z7];simp only [y9];by_cases h:d<10
 ·rw [yn h];omega
 ·rw [yo h];omega
theorem A6w (a:Int) (q:Nat):(a / 2 ^ (12-4*q) % 16).toNat<16:=by omega
theorem A6x {a:Int} (h:0<=a) (f:a<65536):A36 (A81 a)=a:=by
 show (((0*16+hv (dig a 0))*16+hv (dig a 1))*16+hv (dig a 2))*16+hv (dig a 3)=a;unfold dig;rw [A5W (A6w a 0),A5W (A6w a 1),A5W (A6w a 2),A5W (A6w a 3)];have e:(2:Int) ^ (12-4*0)=4096:=by decide
 have d:(2:Int) ^ (12-4*1)=256:=by decide
 have c:(2:Int) ^ (12-4*2)=16:=by decide
 have b:(2:Int) ^ (12-4*3)=1:=by decide
 rw [e,d,c,b];omega
theorem B0U {z:Int × Int} (c:zOk z):A0y (A0n z)=(z,true):=by
 obtain⟨⟨e,a⟩,d,b⟩:=c;have p:pp (A0n z) 8=z:=by show (A36 (A81 z.1),A36 (A81 z.2))=z;rw [A6x e (by omega),A6x d (by omega)]
 have h:(A0n z).all A0A=true:=by show ([dig z.1 0,dig z.1 1,dig z.1 2,dig z.1 3,dig z.2 0,dig z.2 1,dig z.2 2,dig z.2 3]:List UInt8).all A0A=true;unfold dig;simp only [List.all_cons,List.all_nil,B0T (A6w _ _),Bool.and_true]
 unfold A0y;rw [p,yn ⟨rfl,h,a,b⟩]
def A2U (t:List UInt8):ByteArray × Nat × Int:=
 if A3T t=false then (⟨#[]⟩,0,3) else if t.length<8 then (⟨#[]⟩,0,2)
 else if (A0D (t.drop 8)).2.2=2 then (⟨#[]⟩,0,2)
 else if (A0D (t.drop 8)).2.2≠0\/vK (A0D (t.drop 8)).1≠2\/L5 (vS (A0D (t.drop 8)).1)≠t.take (8+(A0D (t.drop 8)).2.1) then (⟨#[]⟩,0,3)
 else (vS (A0D (t.drop 8)).1,8+(A0D (t.drop 8)).2.1,0)
theorem B5e (s:ByteArray) (a:s.size<=400000):A6C (vStr s)=L4 (vStr s):=by
 have h:(Lib.decDigits (K0 (vStr s)).length).length<=7:=I9 (show s.data.toList.length<_ by rw [Array.length_toList];show s.size<_;omega);have m:A2D (vStr s)=true:=by kernel_rfl
 unfold A6C;rw [m,zz h];rfl
theorem A1U (s:ByteArray) (h:s.size<=400000):L5 s=A4K s.data.toList++L4 (vStr s):=by unfold L5;rw [yo (by omega),B5e s h]
theorem A2i (s:ByteArray) (h:s.size<=400000):10<=(L5 s).length:=by rw [A1U s h,z6,W9];have b:=E8 (vStr s);have a:=List.length_pos_iff.2 (W2 (K0 (vStr s)).length).1;omega
theorem A6y (s:List UInt8) (r:List UInt8):A3T (A4K s++r)=true:=by have h:=W9 s;unfold A3T;rw [List.take_append_of_le_length (by omega),ym (by omega),z6,show 8-((A4K s).length+r.length)=0 from by omega];show (A0y (A4K s++[])).2=true;rw [zx];unfold A4K;rw [B0U (A80 _ _ ⟨by decide,by decide⟩)]
theorem C1E (s r:List UInt8):(A4K s++r).drop 8=r:=by have h:=W9 s;rw [List.drop_append_of_le_length (by omega),zr (by omega),List.nil_append]
theorem B0V (s:ByteArray) (a:s.size<=400000) (r:List UInt8):A2U (L5 s++r)=(s,(L5 s).length,0):=by
 have h:=W9 s.data.toList;have t:(K0 (vStr s)).length<10000000:=show s.data.toList.length<_ by rw [Array.length_toList];show s.size<_;omega
 have m:A2D (vStr s)=true:=by kernel_rfl
 have g:A0D (L4 (vStr s)++r)=(vStr s,(L4 (vStr s)).length,0):=by unfold A0D;rw [A9A 6 (vStr s) (by unfold A2D at m;exact of_decide_eq_true m) ⟨⟨by decide,by decide⟩,t6⟩ t r];simp only [m];rfl
 have l:(L5 s).length=8+(L4 (vStr s)).length:=by rw [A1U s a,z6,h]
 unfold A2U;rw [A1U s a,zw,A6y,C1E,g,yo (by decide),yo (by rw [z6];omega)];simp only;rw [yo (by decide),yo]
 ·show (s,8+_,_)=_;rw [z6,h]
 ·rintro (e | e | e)
  ·exact e rfl
  ·exact e rfl
  ·apply e;show L5 s=_;rw [A1U s a,<-zw,List.take_left' (by rw [z6,h])]
def C9:List ByteArray->List UInt8
 | []=>[]
 | s::r=>L5 s++C9 r
theorem U9:∀ a b:List ByteArray,C9 (a++b)=C9 a++C9 b
 | [],b=>rfl
 | s::r,b=>by rw [List.cons_append,C9,C9,U9 r b,zw]
def Splits:List UInt8->List ByteArray->Nat->Prop
 | t,[],at_=>at_=0/\(t=[]\/(A2U t).2.2=2)
 | t,x::xs,at_=>∃ n a,A2U t=(x,n,0)/\0<n/\n<=t.length/\at_=n+a/\Splits (t.drop n) xs a
theorem Splits.leaves:∀ (l:List ByteArray) (p:List UInt8),(∀ x∈l,x.size<=400000)->(p=[]\/(A2U p).2.2=2)->Splits (C9 l++p) l (C9 l).length
 | [],p,_,hp=>⟨rfl,hp⟩
 | s::r,p,hl,hp=>by
  have h:=hl s (zv ..);have b:=A2i s h;refine⟨(L5 s).length,(C9 r).length,?_,by omega,?_,?_,?_⟩
  ·rw [C9,zw];exact B0V s h _
  ·rw [C9,zw,z6];omega
  ·rw [C9,z6]
  ·rw [C9,zw,List.drop_left' rfl];exact Splits.leaves r p (fun x a=>hl x (zu _ a)) hp
theorem B5f {s:Stt} {d:D} (h:P6 s=true) (a:M0 d=true) (q:s.seq<G5):(doS s d).1.seq=s.seq+1:=by
 rw [C1C h a q];unfold doF;split
 ·rfl
 split
 ·rfl
 split
 ·rfl
 simp only;split<;>rfl
theorem A0c:∀ (l:List D) {s:Stt},P6 s=true->s.lows.length=5->(∀ d∈l,M0 d=true)->s.seq+l.length<=G5->(W8 s l).seq=s.seq+l.length
 | [],s,h,h5,hd,hq=>by show s.seq=s.seq+((0:Nat):Int);omega
 | d::r,s,h,h5,hd,hq=>by rw [zj] at hq;have e:=B5f h (hd d (zv ..)) (by omega);have i:=A0c r (A9K (d:=d) h5 h) (A6r d h5) (fun x a=>hd x (zu _ a)) (by omega);show (W8 (doS s d).1 r).seq=_;rw [i,e,zj];omega
def A5X:Stt->List D->List Res
 | _,[]=>[]
 | s,d::r=>(doS s d).2::A5X (doS s d).1 r
theorem A2j:∀ (s:Stt) (l:List D),(A5X s l).length=l.length
 | _,[]=>rfl
 | s,d::r=>by rw [A5X,zj,zj,A2j]
theorem A6z (s:Stt) (a b:List D):W8 s (a++b)=W8 (W8 s a) b:=by unfold W8;rw [List.foldl_append]
structure Known where
 b:Stt
 pend:List D
 ep:Int
 ln:Int
def Known0:Known:=⟨Stt0,[],0,0⟩
def Known.seq (k:Known):Int:=k.b.seq+k.pend.length
structure Known.Ok (k:Known):Prop where
 may:P6 k.b=true
 lows:k.b.lows.length=5
 pend:∀ d∈k.pend,M0 d=true/\d.Ok
 len:k.pend.length<=60
 seq:k.b.seq+k.pend.length<=G5
 ep:B9 k.ep
 ln:B9 k.ln
theorem Known0.ok:Known0.Ok:=⟨by kernel_rfl,rfl,(fun d h=>by cases h),zb _,by decide,by unfold B9;decide,by unfold B9;decide⟩
def X1 (k:Known):V:=M8 [vStr ⟨(F5 k.b).toArray⟩,M8 (k.pend.map M3),N9 k.ep,N9 k.ln]
def J8 (k:Known):List UInt8:=A6C (X1 k)
theorem U3 {d:D} (h:M0 d=true):M3 d=P4 d:=by rw [M3,yn h]
theorem A9a (f:Nat) (d:D):cnt (f+2) (P4 d)=9:=by simp [P4,M9,P9,A5J,A1m]
theorem A4e {k:Known} (h:k.Ok):A2D (X1 k)=true:=by have l:=h.len;have b:=R5 (cnt 4) (fun v=>(M5 4 v).1) 9 (k.pend.map M3) 1 (fun c x=>by obtain⟨d,a,rfl⟩:=List.mem_map.1 x;rw [U3 (h.pend d a).1,A9a];decide) (by rw [zl];omega);rw [zl] at b;rw [A2D,y9,X1,M9,E1,A5J,yo (by decide),E1,M9,yo (by omega),E1,P9,yo (by omega),E1,P9,yo (by omega),A1m];omega
theorem A8L {s:Stt} (a:s.lows.length=5) (h:P6 s=true):(F5 s).length<=200009:=by have b:=A1L s a h;have c:=I9 (u:=(K0 (A4U s)).length) (by omega);rw [A1t s a h,E8];omega
theorem A60 {d:D} (k:d.Ok) (h:M0 d=true):(L4 (P4 d)).length<=1009:=by have a:=B14 d k h;have b:=I9 (u:=(K0 (P4 d)).length) (by omega);rw [E8];omega
theorem A3U {k:Known} (h:k.Ok):(K0 (X1 k)).length<=270000:=by
 have b:=R6 1009 (k.pend.map M3) fun e x=>by obtain⟨d,a,rfl⟩:=List.mem_map.1 x;rw [U3 (h.pend d a).1];exact A60 (h.pend d a).2 (h.pend d a).1
 rw [zl] at b;have l:=h.len;have j:=U2 (k.pend.map M3) 60540 (by omega) (by decide);have m:=A8L h.lows h.may;have c:=Q8 ⟨(F5 k.b).toArray⟩ (by show (F5 k.b).toArray.size<_;rw [List.size_toArray];omega);have f:(⟨(F5 k.b).toArray⟩:ByteArray).size=(F5 k.b).length:=List.size_toArray ..;have g:=E9 k.ep h.ep;have i:=E9 k.ln h.ln;rw [X1,A1s];simp only [Q1,z6,List.length_nil];omega
theorem A9b {d:D} (k:d.Ok) (h:M0 d=true):okV (M3 d):=by rw [U3 h];exact B15 d k
theorem A61 {k:Known} (h:k.Ok):okV (X1 k):=by refine O2 _ ?_;simp only [okL];exact⟨A71 _,O2 _ (A3H _ _ fun a d=>A9b (h.pend a d).2 (h.pend a d).1),N0 _ h.ep,N0 _ h.ln,t6⟩
theorem A9c {v:V} (h:A2D v=true) (l:(K0 v).length<10000000):A6C v=L4 v:=by have:=I9 l;rw [A6C,h];simp [this]
theorem A2k {k:Known} (h:k.Ok):J8 k=L4 (X1 k):=A9c (A4e h) (by have:=A3U h;omega)
theorem X2 {k:Known} (h:k.Ok):(J8 k).length<=270009:=by have a:=A3U h;have b:=I9 (u:=(K0 (X1 k)).length) (by omega);rw [A2k h,E8];omega
theorem B5g {k:Known} (h:k.Ok):J8 k≠[]:=by rw [A2k h];exact B16 _
theorem B0W {k:Known} (h:k.Ok):A1o (J8 k)=(X1 k,0):=by rw [A2k h];exact A9B _ (A4e h) (A61 h) (by have:=A3U h;omega)
def FirstOk (s:ByteArray) (k:Known):Prop:=(s=⟨#[]⟩/\k=Known0)\/(s=⟨(J8 k).toArray⟩/\k.Ok)
theorem FirstOk.ok {s:ByteArray} {k:Known} (h:FirstOk s k):k.Ok:=by
 obtain⟨_,rfl⟩|⟨_,h⟩:=h
 ·exact Known0.ok
 ·exact h
theorem FirstOk.size {s:ByteArray} {k:Known} (h:FirstOk s k):s.size<=270009:=by
 obtain⟨rfl,_⟩|⟨rfl,h⟩:=h
 ·decide
 ·show (J8 k).toArray.size<=_;rw [List.size_toArray];exact X2 h
inductive Rc where
 | add (d:D)
 | done (n:Int)
 | enter (n:Int)
def vRc:Rc->V
 | .add d=>M8 [N9 1,M3 d]
 | .done n=>M8 [N9 2,N9 n]
 | .enter n=>M8 [N9 3,N9 n]
def Q9 (r:Rc):ByteArray:=⟨(A6C (vRc r)).toArray⟩
def Rc.Ok:Rc->Prop
 | .add d=>M0 d=true/\d.Ok
 | .done n=>B9 n
 | .enter n=>B9 n
theorem A3V {r:Rc} (h:r.Ok):A2D (vRc r)=true/\(K0 (vRc r)).length<=1100/\okV (vRc r):=by
 have f:=E9 1 (by unfold B9;decide);have j:=E9 2 (by unfold B9;decide);have g:=E9 3 (by unfold B9;decide);have c:B9 1:=by unfold B9;decide
 have o:B9 2:=by unfold B9;decide
 have e:B9 3:=by unfold B9;decide
 cases r with
 | add i=>
  obtain⟨a,b⟩:=h;have d:=A60 b a;refine⟨?_,?_,O2 _ ?_⟩
  ·rw [A2D,y9,vRc,U3 a,M9,E1,P9,yo (by decide),E1,A9a,yo (by decide),A1m];decide
  ·rw [vRc,U3 a,A1s];simp only [Q1,z6,List.length_nil];omega
  ·simp only [okL];exact⟨N0 _ c,A9b b a,t6⟩
 | done n=>
  have h:B9 n:=h;have d:=E9 n h;refine⟨?_,?_,O2 _ ?_⟩
  ·rw [A2D,y9,vRc,M9,E1,P9,yo (by decide),E1,P9,yo (by decide),A1m];decide
  ·rw [vRc,A1s];simp only [Q1,z6,List.length_nil];omega
  ·simp only [okL];exact⟨N0 _ o,N0 _ h,t6⟩
 | enter n=>
  have h:B9 n:=h;have d:=E9 n h;refine⟨?_,?_,O2 _ ?_⟩
  ·rw [A2D,y9,vRc,M9,E1,P9,yo (by decide),E1,P9,yo (by decide),A1m];decide
  ·rw [vRc,A1s];simp only [Q1,z6,List.length_nil];omega
  ·simp only [okL];exact⟨N0 _ e,N0 _ h,t6⟩
theorem B8O {r:Rc} (h:r.Ok):A6C (vRc r)=L4 (vRc r):=by obtain⟨a,b,_⟩:=A3V h;exact A9c a (by omega)
theorem B3D {r:Rc} (h:r.Ok):(L4 (vRc r)).length<=1109:=by obtain⟨b,c,_⟩:=A3V h;have a:=I9 (u:=(K0 (vRc r)).length) (by omega);rw [E8];omega
theorem A1V {r:Rc} (h:r.Ok):(Q9 r).size<=1109:=by show (A6C (vRc r)).toArray.size<=_;rw [List.size_toArray,B8O h];exact B3D h
def D8 (k:Known) (n:Int):Known × List Res:=
 (⟨W8 k.b (k.pend.take (n-k.b.seq).toNat),k.pend.drop (n-k.b.seq).toNat,k.ep,k.ln⟩,A5X k.b (k.pend.take (n-k.b.seq).toNat))
def A1W (k:Known):Rc->Known
 | .add d=>⟨k.b,k.pend++[d],k.ep,k.ln⟩
 | .done n=>(D8 k n).1
 | .enter n=>⟨k.b,k.pend,max k.ep n,k.ln⟩
def B5h (k:Known):Rc->Prop
 | .add d=>k.pend.length<60/\k.seq<G5
 | .done n=>n<=k.seq
 | .enter n=>True
theorem Known.Ok.commit {k:Known} (h:k.Ok) (n:Int):(D8 k n).1.Ok:=by
 have p:∀ d∈k.pend.take (n-k.b.seq).toNat,M0 d=true:=fun d b=>(h.pend d (List.mem_of_mem_take b)).1;obtain⟨a,c,_⟩:=A9V (k.pend.take (n-k.b.seq).toNat) h.may h.lows;have s:=h.seq;have l:(k.pend.take (n-k.b.seq).toNat).length+(k.pend.drop (n-k.b.seq).toNat).length=k.pend.length:=by rw [<-z6,List.take_append_drop]
 have e:=A0c (k.pend.take (n-k.b.seq).toNat) h.may h.lows p (by omega);refine⟨a,c,fun d b=>h.pend d (List.mem_of_mem_drop b),?_,?_,h.ep,h.ln⟩
 ·have:=h.len;show (k.pend.drop _).length<=60;omega
 ·show (W8 k.b (k.pend.take (n-k.b.seq).toNat)).seq+((k.pend.drop (n-k.b.seq).toNat).length:Int)<=G5;rw [e];omega
theorem Known.Ok.step {k:Known} (h:k.Ok) {r:Rc} (c:r.Ok) (f:B5h k r):(A1W k r).Ok:=by
 cases r with
 | add d=>
  obtain⟨a,b⟩:=f;unfold Known.seq at b;refine⟨h.may,h.lows,fun e x=>?_,?_,?_,h.ep,h.ln⟩
  ·obtain x|x:=List.mem_append.1 x
   ·exact h.pend e x
   ·rw [List.mem_singleton.1 x];exact c
  ·show (k.pend++[d]).length<=60;rw [z6];exact a
  ·show k.b.seq+((k.pend++[d]).length:Int)<=G5;rw [z6];simp only [zj,List.length_nil];omega
 | done n=>exact h.commit n
 | enter n=>
  refine⟨h.may,h.lows,h.pend,h.len,h.seq,?_,h.ln⟩;have a:=h.ep;have b:B9 n:=c;unfold B9 at*;show -_<=max k.ep n/\max k.ep n<=_;omega
def B0X (k:Known) (l:List Rc):Known:=l.foldl A1W k
theorem B0Y (k:Known) (l:List Rc) (r:Rc):B0X k (l++[r])=A1W (B0X k l) r:=by unfold B0X;rw [List.foldl_append];rfl
def Can:Known->List Rc->Prop
 | _,[]=>True
 | k,r::l=>r.Ok/\B5h k r/\Can (A1W k r) l
theorem Can.ok:∀ {l:List Rc} {k:Known},k.Ok->Can k l->(B0X k l).Ok
 | [],k,hk,_=>hk
 | r::l,k,hk,⟨h1,h2,h3⟩=>Can.ok (l:=l) (hk.step h1 h2) h3
theorem Can.snoc:∀ {l:List Rc} {k:Known} {r:Rc},Can k l->r.Ok->B5h (B0X k l) r->Can k (l++[r])
 | [],k,r,_,h1,h2=>⟨h1,h2,t6⟩
 | x::l,k,r,⟨a,b,c⟩,h1,h2=>⟨a,b,Can.snoc c h1 h2⟩
theorem Can.take:∀ {l:List Rc} {k:Known} (i:Nat),Can k l->Can k (l.take i)
 | [],k,i,_=>by rw [List.take_nil];trivial
 | x::l,k,0,_=>trivial
 | x::l,k,i+1,⟨a,b,c⟩=>⟨a,b,Can.take i c⟩
theorem Can.mem:∀ {l:List Rc} {k:Known},Can k l->∀ r∈l,r.Ok
 | x::l,k,⟨a,b,c⟩,r,hr=>by
  cases hr with
  | head=>exact a
  | tail _ h=>exact Can.mem c r h
structure Ros where
 ep:Int
 l:List Int
 new:Int
def Ros0:Ros:=⟨0,[],0⟩
structure Ros.Ok (r:Ros):Prop where
 ep:B9 r.ep
 l:∀ n∈r.l,B9 n
 new:B9 r.new
def eqI (a b:Int):Bool:=a==b
theorem eqI_iff (a b:Int):eqI a b=true↔a=b:=beq_iff_eq
def eqR (a b:Ros):Bool:=a.ep==b.ep&&(a.new==b.new&&J7 eqI a.l b.l)
theorem B8P {a b:Ros}:eqR a b=true↔a=b:=by
 constructor
 ·intro h;unfold eqR at h;rw [z7,z7,beq_iff_eq,beq_iff_eq,W5 eqI_iff] at h;obtain⟨i,l,f⟩:=a;obtain⟨g,l2,n⟩:=b;obtain⟨d,e,c⟩:=h;simp only at d e c;rw [d,e,c]
 ·rintro rfl;unfold eqR;rw [beq_self_eq_true,beq_self_eq_true,(W5 eqI_iff).2 rfl];rfl
def inR (n:Int):Bool:=decide (1<=n)&&decide (n<=5)
def A7i (r:Ros):Bool:=decide (1<=r.ep)&&(decide (r.ep<=G5)&&(decide (1<=r.l.length)&&(decide (r.l.length<=5)&&(r.l.all inR&&(decide r.l.Nodup&&(r.new==0||(decide (1<r.l.length)&&r.l.getLastD 0==r.new)))))))
theorem A0d {r:Ros}:A7i r=true↔(1<=r.ep/\r.ep<=G5)/\(1<=r.l.length/\r.l.length<=5)/\(∀ n∈r.l,1<=n/\n<=5)/\r.l.Nodup/\(r.new=0\/(1<r.l.length/\r.l.getLastD 0=r.new)):=by
 unfold A7i;rw [z7,z7,z7,z7,z7,z7,Bool.or_eq_true,z7,y9,y9,y9,y9,y9,y9,beq_iff_eq,beq_iff_eq,List.all_eq_true];have:∀ n,inR n=true↔1<=n/\n<=5:=fun n=>by unfold inR;rw [z7,y9,y9]
 constructor
 ·rintro⟨a,b,c,d,e,f,g⟩;exact⟨⟨a,b⟩,⟨c,d⟩,fun n h=>(this n).1 (e n h),f,g⟩
 ·rintro⟨⟨a,b⟩,⟨c,d⟩,e,f,g⟩;exact⟨a,b,c,d,fun n h=>(this n).2 (e n h),f,g⟩
theorem A62 {l:List Int} (h:1<=l.length):l.getLastD 0∈l:=by
 cases l with
 | nil=>exact absurd h (by decide)
 | cons a r=>rw [List.getLastD_cons,List.getLastD_eq_getLast?];cases r with
  | nil=>simp
  | cons b t=>simp [List.getLast?_eq_some_getLast]
theorem B3E {r:Ros} (b:A7i r=true):r.Ok:=by
 obtain⟨⟨a,d⟩,⟨c,i⟩,e,f,g⟩:=A0d.1 b;have m:G5=1099511627776:=rfl;refine⟨by unfold B9;omega,fun n h=>by have:=e n h;unfold B9;omega,?_⟩;obtain g|⟨_,g⟩:=g
 ·rw [g];unfold B9;decide
 ·rw [<-g];have:=e _ (A62 c);unfold B9;omega
structure Wd where
 kind:Int
 frm:Int
 to:Int
 ep:Int
 seq:Int
 req:Int
 til:Int
 res:Res
 ros:Ros
 deeds:List D
 st:Stt
def Wd0:Wd:=⟨0,0,0,0,0,0,0,⟨0,0⟩,Ros0,[],Stt0⟩
structure Wd.Ok (w:Wd):Prop where
 kind:B9 w.kind
 frm:B9 w.frm
 to:B9 w.to
 ep:B9 w.ep
 seq:B9 w.seq
 req:B9 w.req
 til:B9 w.til
 err:B9 w.res.err
 ver:B9 w.res.ver
 ros:w.ros.Ok
 deeds:∀ d∈w.deeds,d.Ok
 st:w.st.Ok
 five:w.st.lows.length=5
def B5i (n:Int):Bool:=decide (0<=n)&&decide (n<=G5)
def A63 (n:Int):Bool:=decide (0<=n)&&decide (n<=5)
theorem N4 {n:Int}:B5i n=true↔0<=n/\n<=G5:=by unfold B5i;rw [z7,y9,y9]
theorem A0R {n:Int}:A63 n=true↔0<=n/\n<=5:=by unfold A63;rw [z7,y9,y9]
def B3F (w:Wd):Bool:=(decide (1<=w.kind)&&decide (w.kind<=11))&&(A63 w.frm&&(A63 w.to&&(!(w.frm==w.to)&&(B5i w.ep&&(B5i w.seq&&(B5i w.req&&(B5i w.til&&(B5i w.res.ver&&(decide (0<=w.res.err)&&decide (w.res.err<=13))))))))))
def A64 (w:Wd):Bool:=B3F w&&((eqR w.ros Ros0||A7i w.ros)&&(decide (w.deeds.length<=60)&&(w.deeds.all M0&&P6 w.st)))
theorem O4 {w:Wd}:B3F w=true↔(1<=w.kind/\w.kind<=11)/\(0<=w.frm/\w.frm<=5)/\(0<=w.to/\w.to<=5)/\w.frm≠w.to/\(0<=w.ep/\w.ep<=G5)/\(0<=w.seq/\w.seq<=G5)/\(0<=w.req/\w.req<=G5)/\(0<=w.til/\w.til<=G5)/\(0<=w.res.ver/\w.res.ver<=G5)/\(0<=w.res.err/\w.res.err<=13):=by unfold B3F;simp only [z7,y9,N4,A0R,Bool.not_eq_true',ya,ne_eq]
theorem X3 {w:Wd}:A64 w=true↔B3F w=true/\(w.ros=Ros0\/A7i w.ros=true)/\w.deeds.length<=60/\(∀ d∈w.deeds,M0 d=true)/\P6 w.st=true:=by unfold A64;simp only [z7,Bool.or_eq_true,y9,List.all_eq_true,B8P]
end Go.Proofs.YtefdfaeieekioaaGreatDoor
section
namespace Go.Proofs.YtefdfaeieekioaaGreatDoor
open Go.Vc Go.RowKit Go.Fl Go.ChangeShapes Go.WideShapes Go.ChangeAt
def iC (n:Int):List Value:=[.int .i64 n]
theorem B8Q {a:Type} {l:List a} {d:a} {i:Nat} (h:i<l.length):l.getD i d=l[i]:=by rw [List.getD_eq_getElem?_getD,yc h];rfl
def A0p (l:List Int):List Value:=(l.map iC).flatten
theorem B3G (l:List Int):Flat 1 (l.map iC):=Flat.map iC (fun a=>⟨rfl,rfl⟩) l
theorem RowI'.elem {S:Nat->Prop} {w:World} {A:Option Addr} {n c:Nat} {l:List Int} (R:Row S w A n c (A0p l)) (i:Nat) (b:i<l.length):∃ a,A=some a/\w.cell? (a.add (i*1))=some (.int .i64 l[i]):=by obtain⟨a,e,h⟩:=Row.elemF R (k:=1) (by decide) (B3G l) i (by rw [zl];exact b);rw [List.getElem_map] at h;refine⟨a,e,?_⟩;have:=h.1;rw [show (a.add (i*1)).add 0=a.add (i*1) from by rw [add_add,Nat.add_zero]] at this;exact this
def A1X (l:List Int) (x:Int):Option Nat:=l.findIdx? (eqI x)
def Q0 (l:List Int) (x:Int):Int:=match A1X l x with | some i=>i | none => -1
theorem A4f {l:List Int} {x:Int} {i:Nat} (a:i<l.length) (e:l[i]=x) (c:∀ j (h:j<l.length),j<i->l[j]≠x):A1X l x=some i:=by unfold A1X;rw [List.findIdx?_eq_some_iff_getElem];refine⟨a,by rw [e];exact (eqI_iff _ _).2 rfl,fun j h=>?_⟩;rw [Bool.not_eq_true,Bool.eq_false_iff];intro b;exact c j (by omega) h ((eqI_iff _ _).1 b).symm
theorem B0Z {l:List Int} {x:Int} (b:∀ j (h:j<l.length),l[j]≠x):A1X l x=none:=by unfold A1X;rw [List.findIdx?_eq_none_iff];intro c y;obtain⟨j,h,rfl⟩:=List.getElem_of_mem y;rw [Bool.eq_false_iff];intro a;exact b j h ((eqI_iff _ _).1 a).symm
theorem A1Y {l:List Int} {x:Int} {i:Nat} (h:A1X l x=some i):∃ a:i<l.length,l[i]=x/\∀ j (b:j<l.length),j<i->l[j]≠x:=by unfold A1X at h;rw [List.findIdx?_eq_some_iff_getElem] at h;obtain⟨a,c,d⟩:=h;refine⟨a,((eqI_iff _ _).1 c).symm,fun j b t e=>?_⟩;have:=d j t;rw [e] at this;exact this ((eqI_iff _ _).2 rfl)
theorem B3H {l:List Int} {x:Int}:(A1X l x).isSome=decide (x∈l):=by
 cases h:A1X l x with
 | some a=>
  obtain⟨i,e,_⟩:=A1Y h;rw [zz (e▸List.getElem_mem i)];rfl
 | none=>
  unfold A1X at h;rw [List.findIdx?_eq_none_iff] at h;rw [y8 fun m=>by have:=h x m;rw [(eqI_iff _ _).2 rfl] at this;cases this];rfl
theorem B5j (l:List Int) (x:Int):decide (0<=Q0 l x)=decide (x∈l):=by
 unfold Q0;rw [<-B3H];cases A1X l x with
 | some i=>exact zz (by show (0:Int)<=(i:Int);omega)
 | none=>exact y8 (by decide)
def atI (l:List Int) (i:Int):Int:=if i<0\/(l.length:Int)<=i then 0 else l.getD i.toNat 0
def A1w (l:List Int):Int:=atI l 0
def A3W (l:List Int):Int:=atI l (l.length-1)
def A5Y (l:List Int) (n:Int):Int:=if 0<=Q0 l n then atI l (Q0 l n+1) else 0
def A2J (l:List Int) (n:Int):Int:=atI l (Q0 l n-1)
theorem A3X (l:List Int) (x:Int) : -1<=Q0 l x/\Q0 l x<l.length:=by
 unfold Q0;cases h:A1X l x with
 | some i=>
  obtain⟨a,_⟩:=A1Y h;show -1<=(i:Int)/\(i:Int)<l.length;omega
 | none=>
  show (-1:Int) <= -1/\(-1:Int)<l.length;omega
section
variable {S:Nat->Prop} {w:World} {A B:Option Addr} {cap cap':Nat}
theorem A1x (l:List Int) (x:Int) (R:Row S w A l.length cap (A0p l)):Calls Tryz.prog 167 #[.slice A l.length cap,.int .i64 x] w (D4 (.int .i64 (Q0 l x)) w):=by
 have M:=E2 R;refine vE Tryz.func167 ?_;refine⟨Nat,fun i=>[(0,.slice A l.length cap),(1,.int .i64 x),(7,.int .i64 (l.length:Int)),(8,.int .i64 (i:Int))],fun i w'=>i<=l.length/\(∀ j (h:j<l.length),j<i->l[j]≠x)/\Below w.heap.size w w',fun i _=>l.length-i,0,⟨rfl,rfl,rfl,rfl,t6⟩,⟨zb _,(fun j h d=>absurd d (Nat.not_lt_zero _)),Below.refl _ _⟩,?_⟩;rintro i w' u ⟨g,n,b⟩;by_cases t:i<l.length
 ·refine dt (by omega) ?_;obtain⟨m,rfl,e⟩:=RowI'.elem (R.below b) i t;refine⟨⟨by omega,by omega⟩,_,by rw [zi];exact e,?_⟩;by_cases a:x=l[i]
  ·refine B5 (by show (x==l[i])=true;rw [beq_iff_eq];exact a) ?_;refine⟨?_,b⟩;unfold Q0;rw [A4f t a.symm n];rfl
  ·refine B4 (by show (x==l[i])=false;rw [ya];exact a) ?_;refine⟨i+1,⟨rfl,rfl,rfl,yb _ (C4 (by omega)),t6⟩,⟨t,fun j h k=>?_,b⟩,by show l.length-(i+1)<l.length-i;omega⟩;by_cases c:j=i
   ·subst c;exact fun f=>a f.symm
   ·exact n j h (by omega)
 ·refine df (by omega) ?_;refine⟨?_,b⟩;unfold Q0;rw [B0Z fun j h=>n j h (by omega)];rfl
theorem A5Z (l:List Int) (x:Int) (R:Row S w A l.length cap (A0p l)):Calls Tryz.prog 110 #[.slice A l.length cap,.int .i64 x] w (D4 (.bool (decide (x∈l))) w):=by refine vE Tryz.func110 ?_;refine B8 (A1x l x R) ?_;intro a h;refine⟨?_,h⟩;show Ending.returned (.bool (decide (0<=Q0 l x)))=_;rw [B5j]
theorem B0a (a b:List Int) (R:Row S w A a.length cap (A0p a)) {g:Nat->Prop} (j:Row g w B b.length cap' (A0p b)):Calls Tryz.prog 158 #[.slice A a.length cap,.slice B b.length cap'] w (D4 (.bool (J7 eqI a b)) w):=by
 have M:=E2 R;refine vE Tryz.func158 ?_;by_cases d:a.length=b.length;rotate_left
 ·refine B5 (by show ((a.length:Int) != (b.length:Int))=true;rw [bne_iff_ne];omega) ?_;rw [A0K _ _ _ d];exact⟨rfl,Below.refl _ _⟩
 refine B4 (by show ((a.length:Int) != (b.length:Int))=false;rw [d];simp) ?_;refine⟨Nat,fun i=>[(0,.slice A a.length cap),(1,.slice B b.length cap'),(12,.int .i64 a.length),(13,.int .i64 i)],
  fun i w'=>i<=a.length/\J7 eqI (a.drop i) (b.drop i)=J7 eqI a b/\Below w.heap.size w w',fun i _=>a.length-i,0,⟨rfl,rfl,rfl,rfl,t6⟩,⟨zb _,rfl,Below.refl _ _⟩,?_⟩
 rintro i w' u ⟨r,h,c⟩;by_cases l:i<a.length
 ·refine dt (by omega) ?_;obtain⟨s,rfl,f⟩:=RowI'.elem (R.below c) i l;obtain⟨q,rfl,e⟩:=RowI'.elem (j.below c) i (by omega);rw [yl l,yl (show i<b.length by omega),J7] at h;obtain⟨x,p⟩:∃ x,x=a[i]:=⟨_,rfl⟩;obtain⟨y,n⟩:∃ y,y=b[i]'(by omega):=⟨_,rfl⟩;rw [<-p] at f h;rw [<-n] at e h;refine vD (.Q [0,1,2,3,4,5,6,7,8] .fin) (Keeps (fun b=>b<w'.heap.size) w') (Keeps.start _ _) ?_;refine⟨⟨by omega,by omega⟩,_,fun m z=>z.look (by rw [zi];exact f),⟨by omega,by omega⟩,_,fun m z=>z.look (by rw [zi];exact e),?_⟩;have c:=c.drew;by_cases hv:x=y
  ·rw [(eqI_iff x y).2 hv,Bool.true_and] at h;refine B4 (by show (x != y)=false;rw [bne_eq_false_iff_eq];exact hv) ?_;exact⟨i+1,⟨rfl,rfl,rfl,yb _ (C4 (by omega)),t6⟩,⟨l,h,c⟩,by show a.length-(i+1)<a.length-i;omega⟩
  ·have o:eqI x y=false:=by rw [Bool.eq_false_iff];exact fun k=>hv ((eqI_iff x y).1 k)
   rw [o] at h;refine B5 (by show (x != y)=true;rw [bne_iff_ne];exact hv) ?_;refine⟨?_,c⟩;rw [<-h];rfl
 ·refine df (by omega) ?_;rw [zr (by omega),zr (by omega),J7] at h;rw [<-h];exact⟨rfl,c⟩
end
theorem G4 {S b:Nat->Prop} {w a:World} {l l':List LB} {o:List OR} {R:Kn} (h:CtxF S w b a l o R) (c:l=l'):CtxF S w b a l' o R:=c▸h
def M1 (r:Ros) (A:Option Addr) (cap:Nat):List Value:=[.int .i64 r.ep,.slice A r.l.length cap,.int .i64 r.new]
def RosR (r:Ros) (A:Option Addr) (cap:Nat):Kn:=fun S w=>Row S w A r.l.length cap (A0p r.l)
theorem RosR.stab (r:Ros) (A:Option Addr) (c:Nat):Stab (RosR r A c):=fun _ _ _ _ h f=>Row.fut h f
theorem RosR.below {r:Ros} {A:Option Addr} {c:Nat} {S:Nat->Prop} {w w':World} (a:RosR r A c S w) (h:Below w.heap.size w w'):RosR r A c S w':=Row.below a h
theorem Ros0.rep (S:Nat->Prop) (w:World):RosR Ros0 none 0 S w:=A39 _ _
section
variable {r q:Ros} {S:Nat->Prop} {w:World} {A B:Option Addr} {cap cap':Nat}
theorem B8R (i:RosR r A cap S w) {f:Nat->Prop} (Q:RosR q B cap' f w):Calls Tryz.prog 90 #[.agg (M1 r A cap).toArray,.agg (M1 q B cap').toArray] w (D4 (.bool (eqR r q)) w):=by
 refine vE Tryz.func90 ?_;have h:=CtxF.start w no (fun _ g=>g.elim) (R:=fun _ _=>True) trivial Stab.true;refine h.n fun o p n h=>?_;refine h.n fun j k m h=>?_;refine h.c 1 rfl rfl ?_;refine h.c 0 rfl rfl ?_;unfold eqR;by_cases c:r.ep=q.ep;rotate_left
 ·have e:(r.ep==q.ep)=false:=by rw [ya];exact c
  rw [e];refine B4 e ?_;exact⟨rfl,h.below⟩
 rw [(beq_iff_eq (a:=r.ep) (b:=q.ep)).2 c];refine B5 (by rw [beq_iff_eq];exact c) ?_;refine h.c 1 rfl rfl ?_;refine h.c 0 rfl rfl ?_;by_cases d:r.new=q.new;rotate_left
 ·have e:(r.new==q.new)=false:=by rw [ya];exact d
  rw [e];refine B4 e ?_;exact⟨rfl,h.below⟩
 rw [(beq_iff_eq (a:=r.new) (b:=q.new)).2 d];refine B5 (by rw [beq_iff_eq];exact d) ?_;refine h.c 1 rfl rfl ?_;refine h.c 0 rfl rfl ?_;refine h.q (B0a r.l q.l (i.below h.below) (Q.below h.below)) fun l Q h=>?_;exact⟨rfl,h.below⟩
theorem A5a (n:Int) (b:RosR r A cap S w):Calls Tryz.prog 56 #[.agg (M1 r A cap).toArray,.int .i64 n] w (D4 (.bool (decide (n∈r.l))) w):=by refine vE Tryz.func56 ?_;have h:=CtxF.start w no (fun _ a=>a.elim) (R:=fun _ _=>True) trivial Stab.true;refine h.n fun c d g h=>?_;refine h.c 0 rfl rfl ?_;refine h.q (A5Z r.l n (b.below h.below)) fun e Q h=>?_;exact⟨rfl,h.below⟩
theorem A2l (i:Int) (d:RosR r A cap S w):Calls Tryz.prog 106 #[.agg (M1 r A cap).toArray,.int .i64 i] w (D4 (.int .i64 (atI r.l i)) w):=by
 have M:=E2 d;refine vE Tryz.func106 ?_;have h:=CtxF.start w no (fun _ b=>b.elim) (R:=fun _ _=>True) trivial Stab.true;refine h.n fun j k g h=>?_;unfold atI;by_cases h0:i<0
 ·rw [yn (.inl h0)];refine dt h0 ?_;exact⟨rfl,h.below⟩
 refine df h0 ?_;refine h.c 0 rfl rfl ?_;by_cases a:(r.l.length:Int)<=i
 ·rw [yn (.inr a)];refine dt a ?_;exact⟨rfl,h.below⟩
 refine df a ?_;rw [yo (fun b=>b.elim h0 a)];refine h.c 0 rfl rfl ?_;have c:i.toNat<r.l.length:=by omega
 obtain⟨f,rfl,e⟩:=RowI'.elem (d.below h.below) i.toNat c;refine⟨⟨by omega,by omega⟩,_,e,?_⟩;rw [B8Q c];exact⟨rfl,h.below⟩
theorem F7 (b:RosR r A cap S w):Calls Tryz.prog 52 #[.agg (M1 r A cap).toArray] w (D4 (.int .i64 (A1w r.l)) w):=by refine vE Tryz.func52 ?_;have h:=CtxF.start w no (fun _ a=>a.elim) (R:=fun _ _=>True) trivial Stab.true;refine h.n fun c d g h=>?_;refine h.a 0 rfl rfl ?_;refine h.q (A2l 0 (b.below h.below)) fun e Q h=>?_;exact⟨rfl,h.below⟩
theorem A65 (c:RosR r A cap S w):Calls Tryz.prog 83 #[.agg (M1 r A cap).toArray] w (D4 (.int .i64 (A3W r.l)) w):=by have M:=E2 c;refine vE Tryz.func83 ?_;have h:=CtxF.start w no (fun _ a=>a.elim) (R:=fun _ _=>True) trivial Stab.true;refine h.n fun d e g h=>?_;refine h.a 0 rfl rfl ?_;refine h.c 0 rfl rfl ?_;have b:IntKind.i64.wrap ((r.l.length:Int)-1)=(r.l.length:Int)-1:=yh _ ⟨by omega,by omega⟩;have a:=A2l ((r.l.length:Int)-1) (c.below h.below);rw [<-b] at a;refine h.q (a) fun f Q h=>?_;refine⟨?_,h.below⟩;show Ending.returned (.int .i64 (atI r.l (IntKind.i64.wrap ((r.l.length:Int)-1))))=_;rw [b];rfl
theorem A3Y (n:Int) (b:RosR r A cap S w):Calls Tryz.prog 113 #[.agg (M1 r A cap).toArray,.int .i64 n] w (D4 (.int .i64 (A5Y r.l n)) w):=by
 have M:=E2 b;have s:=A3X r.l n;refine vE Tryz.func113 ?_;have h:=CtxF.start w no (fun _ a=>a.elim) (R:=fun _ _=>True) trivial Stab.true;refine h.n fun e f g h=>?_;refine h.c 0 rfl rfl ?_;refine h.q (A1x r.l n (b.below h.below)) fun d Q h=>?_;unfold A5Y;by_cases h0:0<=Q0 r.l n
 ·rw [yn h0];refine dt h0 ?_;refine h.a 0 rfl rfl ?_;have c:IntKind.i64.wrap (Q0 r.l n+1)=Q0 r.l n+1:=yh _ ⟨by omega,by omega⟩;have a:=A2l (IntKind.i64.wrap (Q0 r.l n+1)) (b.below h.below);refine h.q (a) fun d Q h=>?_;exact⟨by rw [c];rfl,h.below⟩
 ·rw [yo h0];refine df h0 ?_;exact⟨rfl,h.below⟩
theorem A4g (n:Int) (c:RosR r A cap S w):Calls Tryz.prog 112 #[.agg (M1 r A cap).toArray,.int .i64 n] w (D4 (.int .i64 (A2J r.l n)) w):=by
 have M:=E2 c;have s:=A3X r.l n;refine vE Tryz.func112 ?_;have h:=CtxF.start w no (fun _ a=>a.elim) (R:=fun _ _=>True) trivial Stab.true;refine h.n fun i j g h=>?_;have f:IntKind.i64.wrap (Q0 r.l n-1)=Q0 r.l n-1:=yh _ ⟨by omega,by omega⟩;have b:=h;refine vD (.Q [0,1,2,3] (.n 4 (.q 5 (.n 6 (.q 7 .fin) .stop)) .stop)) (Old _) (Old.start _) ?_;have k:=h.old0;have h:=h.drew;refine⟨_,?_,fun e x=>Keeps.cells x (b.blk 0 rfl) (b.blk 0 rfl).lt,?_⟩
 ·rfl
 refine⟨_,fun e x=>Keeps.cell x (b.blk 0 rfl) (b.blk 0 rfl).lt rfl,h.q (A1x r.l n (c.below h.below)) fun wA d h=>?_,t6⟩;have k:=Keeps.below k (fun _ a=>a) d;refine⟨k,?_,t6⟩;have a:=A2l (IntKind.i64.wrap (Q0 r.l n-1)) (c.below h.below);refine h.q (a) fun wA d h=>?_;have k:=Keeps.below k (fun _ a=>a) d;refine⟨k,?_,h.below⟩;unfold A2J;rw [f];rfl
end
def A5b (l:List Int):List Value:=(List.range 6).map fun (n:Nat)=>.bool (decide ((n:Int)∈l))
theorem B3I (l:List Int) (i:Nat) (h:i<6):(A5b l)[i]?=some (.bool (decide ((i:Int)∈l))):=by unfold A5b;rw [List.getElem?_map,List.getElem?_range h];rfl
theorem B3J (l:List Int) (i:Nat) (a:i<6):(A5b l).set i (.bool true)=A5b (l++[(i:Int)]):=by
 unfold A5b;apply List.ext_getElem?;intro j;by_cases h:j<6
 ·rw [List.getElem?_map,List.getElem?_range h];by_cases e:i=j
  ·subst e;rw [List.getElem?_set_self (by simpa using a)];simp
  ·rw [List.getElem?_set_ne e,List.getElem?_map,List.getElem?_range h];simp only [Option.map_some,List.mem_append,zy];congr 3;have:¬ ((j:Int)=(i:Int)):=by omega
   simp [this]
 ·rw [List.getElem?_eq_none (by simp;omega),List.getElem?_eq_none (by simp;omega)]
theorem A4h {l:List Int} {x:Int}:(l++[x]).Nodup↔l.Nodup/\x ∉ l:=by
 rw [List.nodup_append];constructor
 ·rintro⟨h,_,d⟩;exact⟨h,fun f=>d x f x (List.mem_singleton.2 rfl) rfl⟩
 ·rintro⟨h,g⟩;refine⟨h,by simp,fun a c i b e=>?_⟩;rw [zy] at b;subst b e;exact g c
theorem B0b (l:List Int):A3W l=l.getLastD 0:=by
 unfold A3W atI;cases l with
 | nil=>rfl
 | cons a r=>
  rw [yo (by simp only [zj];omega),show (((a::r).length:Int)-1).toNat=(a::r).length-1 from by omega,List.getD_eq_getElem?_getD,<-List.getLast?_eq_getElem?,List.getLast?_cons,List.getLastD_cons,List.getLastD_eq_getLast?];rfl
theorem B3K (r:Ros):A7i r=(if r.ep<1 then false else if G5<r.ep then false else if r.l.length<1 then false else if 5<r.l.length then false else (r.l.all inR&&(decide r.l.Nodup&&(r.new==0||(decide (1<r.l.length)&&r.new==A3W r.l))))):=by
 unfold A7i;rw [B0b];by_cases c:r.ep<1
 ·rw [yn c,y8 (by omega)];rfl
 rw [yo c,zz (show (1:Int)<=r.ep by omega)];by_cases d:G5<r.ep
 ·rw [yn d,y8 (show ¬ r.ep<=G5 by omega)];rfl
 rw [yo d,zz (show r.ep<=G5 by omega)];by_cases a:r.l.length<1
 ·rw [yn a,y8 (show ¬ 1<=r.l.length by omega)];rfl
 rw [yo a,zz (show 1<=r.l.length by omega)];by_cases b:5<r.l.length
 ·rw [yn b,y8 (show ¬ r.l.length<=5 by omega)];rfl
 rw [yo b,zz (show r.l.length<=5 by omega)];simp only [Bool.true_and];congr 3;rw [Bool.eq_iff_iff,z7,z7,beq_iff_eq,beq_iff_eq];exact⟨fun h=>⟨h.1,h.2.symm⟩,fun h=>⟨h.1,h.2.symm⟩⟩
theorem B3L {r:Ros} {S:Nat->Prop} {w:World} {A:Option Addr} {cap:Nat} (z:RosR r A cap S w):Calls Tryz.prog 92 #[.agg (M1 r A cap).toArray] w (D4 (.bool (A7i r)) w):=by
 have hM:=E2 z;have a2:G5=1099511627776:=rfl;rw [B3K];refine vE Tryz.func92 ?_;have h:=CtxF.start w no (fun _ f=>f.elim) (R:=fun _ _=>True) trivial Stab.true;refine h.n fun v Z W h=>?_;refine h.c 0 rfl rfl ?_;by_cases o:r.ep<1
 ·rw [yn o];refine dt o ?_;exact⟨rfl,h.below⟩
 rw [yo o];refine df o ?_;refine h.c 0 rfl rfl ?_;by_cases l:G5<r.ep
 ·rw [yn l];refine dt l ?_;exact⟨rfl,h.below⟩
 rw [yo l];refine df l ?_;refine h.c 0 rfl rfl ?_;by_cases G:r.l.length<1
 ·rw [yn G];refine dt (by omega) ?_;exact⟨rfl,h.below⟩
 rw [yo G];refine df (by omega) ?_;refine h.c 0 rfl rfl ?_;by_cases I:5<r.l.length
 ·rw [yn I];refine dt (by omega) ?_;exact⟨rfl,h.below⟩
 rw [yo I];refine df (by omega) ?_;refine h.n fun g a0 a1 h=>?_;refine h.s 0 rfl fun wS p h=>?_;refine h.c 1 rfl rfl ?_;refine⟨Nat,fun i=>[(1,.pointer (some ⟨v,0,none⟩)),(3,.pointer (some ⟨g,0,none⟩)),(28,.slice A r.l.length cap),(29,.int .i64 (r.l.length:Int)),(30,.int .i64 (i:Int))],
  fun i wS=>i<=r.l.length/\(∀ n∈r.l.take i,inR n=true)/\(r.l.take i).Nodup/\∃ S,CtxF no w S wS [(g,190,A5b (r.l.take i)),(v,31,M1 r A cap)] [] (fun _ _=>True),fun i _=>r.l.length-i,0,⟨rfl,rfl,rfl,rfl,rfl,t6⟩,⟨zb _,(fun n e=>by cases e),List.nodup_nil,_,h⟩,?_⟩
 clear h;rintro i V Y ⟨X,y,s,L,h⟩;by_cases u:i<r.l.length
 ·refine dt (by omega) ?_;obtain⟨P,rfl,E⟩:=RowI'.elem (z.below h.below) i u;obtain⟨x,c⟩:∃ x,x=r.l[i]:=⟨_,rfl⟩;rw [<-c] at E;refine⟨⟨by omega,by omega⟩,_,by rw [zi];exact E,?_⟩;have T:x∈r.l:=c▸List.getElem_mem _;have H:inR x=false->(r.l.all inR)=false:=fun f=>by rw [Bool.eq_false_iff];intro N;rw [List.all_eq_true.1 N x T] at f;cases f
  by_cases K:x<1
  ·rw [H (by unfold inR;rw [y8 (show ¬ (1:Int)<=x by omega)];rfl)];refine dt K ?_;exact⟨rfl,h.below⟩
  refine df K ?_;by_cases F:5<x
  ·rw [H (by unfold inR;rw [y8 (show ¬ x<=5 by omega),Bool.and_false])];refine dt F ?_;exact⟨rfl,h.below⟩
  refine df F ?_;obtain⟨m,Q⟩:∃ m:Nat,x=(m:Int):=⟨x.toNat,by omega⟩;subst Q;have C:m<6:=by omega
  refine⟨⟨by omega,by omega⟩,?_⟩;have M:V.cell? ((⟨g,0,none⟩:Addr).add ((m:Int).toNat*1))=some (.bool (decide ((m:Int)∈r.l.take i))):=by rw [yi,zn,zi,Nat.mul_one];exact h.cell 0 rfl m (B3I _ m C)
  refine⟨_,M,?_⟩;have t:r.l.take (i+1)=r.l.take i++[(m:Int)]:=by rw [List.take_succ_eq_append_getElem u,<-c]
  by_cases q:(m:Int)∈r.l.take i
  ·have O:¬ r.l.Nodup:=fun e=>by have D:=e.sublist (List.take_sublist (i+1) r.l);rw [t,A4h] at D;exact D.2 q
   refine dt q ?_;rw [y8 O];simp only [Bool.false_and,Bool.and_false];exact⟨rfl,h.below⟩
  refine df q ?_;refine⟨⟨by omega,by omega⟩,?_⟩;generalize B:((⟨g,0,none⟩:Addr).add ((m:Int).toNat*1))=ae;have B:(⟨g,m,none⟩:Addr)=ae:=by rw [<-B,yi,zn,zi,Nat.mul_one]
  subst B;refine⟨h.may 0 rfl m [.bool true] (by show m+1<=(A5b (r.l.take i)).length;unfold A5b;simp;omega) rfl,?_⟩;intro wS p;have p:E6 _ ⟨g,m,none⟩ [.bool true] wS:=p;have h:=(h.set 0 rfl p).1;have h:CtxF no w L wS [(g,190,(A5b (r.l.take i)).set m (.bool true)),(v,31,M1 r (some P) cap)] [] (fun _ _=>True):=h;rw [B3J _ _ C,<-t] at h;refine⟨i+1,⟨rfl,rfl,rfl,rfl,yb _ (C4 (by omega)),t6⟩,⟨u,fun n e=>?_,?_,_,h⟩,by show r.l.length-(i+1)<r.l.length-i;omega⟩
  ·rw [t,List.mem_append,zy] at e;obtain e|rfl:=e
   ·exact y n e
   ·unfold inR;rw [zz (show (1:Int)<=(m:Int) by omega),zz (show (m:Int)<=5 by omega)];rfl
  ·rw [t,A4h];exact⟨s,q⟩
 refine df (by omega) ?_;obtain rfl:i=r.l.length:=by omega
 rw [List.take_length] at y s;rw [List.all_eq_true.2 y,zz s];simp only [Bool.true_and];by_cases j:r.new=0
 ·rw [(beq_iff_eq (a:=r.new) (b:=0)).2 j,Bool.true_or];have d:=h;refine vD (.Q [0,1,2,3,4,5,6,7,8,9,10,11] (.n 12 (.Q [13,14,15,16] .fin) .stop)) (Old _) (Old.start _) ?_;have k:=h.old0;have h:=h.drew;refine⟨_,fun x c=>Keeps.cell c (d.blk 1 rfl) (d.blk 1 rfl).lt rfl,?_⟩;refine B5 (by show (r.new==0)=true;rw [j];rfl) ?_;refine⟨?_,t6⟩;exact⟨rfl,h.below⟩
 rw [show (r.new==0)=false from by rw [ya];exact j,Bool.false_or];by_cases J:1<r.l.length
 ·rw [zz J,Bool.true_and];have d:=h;refine vD (.Q [0,1,2,3,4,5,6,7,8,9,10,11] (.n 12 (.Q [13,14,15,16] .fin) .stop)) (Old _) (Old.start _) ?_;have k:=h.old0;have h:=h.drew;refine⟨_,fun x c=>Keeps.cell c (d.blk 1 rfl) (d.blk 1 rfl).lt rfl,?_⟩;refine B4 (by show (r.new==0)=false;rw [ya];exact j) ?_;refine⟨_,fun x c=>Keeps.cell c (d.blk 1 rfl) (d.blk 1 rfl).lt rfl,?_⟩;refine dt (by omega) ?_;refine⟨_,fun x c=>Keeps.cell c (d.blk 1 rfl) (d.blk 1 rfl).lt rfl,_,?_,fun x c=>Keeps.cells c (d.blk 1 rfl) (d.blk 1 rfl).lt,?_⟩
  ·rfl
  refine⟨h.q (A65 (z.below h.below)) fun wA U h=>?_,t6⟩;have k:=Keeps.below k (fun _ f=>f) U;exact⟨k,rfl,h.below⟩
 ·rw [y8 J,Bool.false_and];have d:=h;refine vD (.Q [0,1,2,3,4,5,6,7,8,9,10,11] (.n 12 (.Q [13,14,15,16] .fin) .stop)) (Old _) (Old.start _) ?_;have k:=h.old0;have h:=h.drew;refine⟨_,fun x c=>Keeps.cell c (d.blk 1 rfl) (d.blk 1 rfl).lt rfl,?_⟩;refine B4 (by show (r.new==0)=false;rw [ya];exact j) ?_;refine⟨_,fun x c=>Keeps.cell c (d.blk 1 rfl) (d.blk 1 rfl).lt rfl,?_⟩;refine df (by omega) ?_;refine⟨?_,t6⟩;exact⟨rfl,h.below⟩
end Go.Proofs.YtefdfaeieekioaaGreatDoor
end
section
namespace Go.Proofs.YtefdfaeieekioaaGreatDoor
open Go.Vc Go.RowKit Go.Fl Go.ChangeShapes Go.WideShapes Go.ChangeAt
section
variable {r q:Ros} {S:Nat->Prop} {w:World} {A B:Option Addr} {cap cap':Nat}
end
theorem B0c {l:List Int} (b:l.Nodup) (i:Nat) (h:i<l.length):Q0 l l[i]=(i:Int):=by unfold Q0;rw [A4f h rfl fun a j t e=>List.pairwise_iff_getElem.1 (show List.Pairwise (·≠·) l from b) a i j h t e]
end Go.Proofs.YtefdfaeieekioaaGreatDoor
end
