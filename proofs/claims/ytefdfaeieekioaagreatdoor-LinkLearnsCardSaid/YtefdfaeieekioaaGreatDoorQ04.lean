import Derived.Test.YtefdfaeieekioaaGreatDoorQ03
import Derived.Laws.StructEq
set_option maxRecDepth 100000
set_option maxHeartbeats 40000000
set_option linter.unusedVariables false
set_option linter.unusedSimpArgs false
namespace Go.Proofs.YtefdfaeieekioaaGreatDoor
open Go.Vc Go.RowKit Go.Fl
theorem A4T:∀ (s:List UInt8) (i n:Nat),i<=7->n<10 ^ i->(U8 s i n).1<10000000/\(U8 s i n).2.1<=8/\0<=(U8 s i n).2.2/\(U8 s i n).2.2<=2
 | [],i,n,_,_=>by rw [U8];simp
 | c::r,i,n,hi,hn=>by
  rw [U8];split
  ·have:10 ^ i<=10 ^ 7:=Nat.pow_le_pow_right (by decide) hi;simp only;omega
  ·split
   ·simp
   ·rename_i h;have d:dgt c=true:=by
     cases e:dgt c
     ·exact absurd (.inl e) h
     ·rfl
    have d:=P8.1 d;have a:¬ 7<=i:=fun e=>h (.inr (.inl e));exact A4T r (i+1) _ (by omega) (by rw [Nat.pow_succ];omega)
def ResG (q:V × Nat × Int) (w:World) (e:Ending) (w':World):Prop:=∃ cs,e=.returned (.tuple #[.agg cs.toArray,.int .i64 (q.2.1:Nat),.int .i64 q.2.2])/\Below w.heap.size w w'/\RepC (ext no w w') w' q.1 cs
theorem ResG.err {w w':World} (h:Below w.heap.size w w') (e:Int):ResG (V0,0,e) w (.returned (.tuple #[.agg #[.int .i64 0,.int .i64 0,.string ⟨#[]⟩,.slice none 0 0],.int .i64 0,.int .i64 e])) w':=
 ⟨[.int .i64 0,.int .i64 0,.string ⟨#[]⟩,.slice none 0 0],rfl,h,RepC.V0 _ _⟩
theorem B7k:∀ f:Nat,f<=6->C1o f:=by
 intro f;induction f with
 | zero=>
  intro _ t M s W D F;show Calls _ _ _ _ (ResG (N8 0 t) s);refine vE Tryz.func221 ?_;have h:=Ctx.start s no (fun _ c=>c.elim);refine h.n fun gA a2 a0 h=>?_;refine h.q (A6Z t D _) fun w3 U h=>?_;have v:N8 0 t=if (U8 t 0 0).2.2≠0 then (V0,0,(U8 t 0 0).2.2) else (V0,0,1):=by rw [N8]
  rw [v];generalize U8 t 0 0=q at*;obtain⟨n,a,e⟩:=q;simp only;by_cases i:e=0
  ·subst i;refine dt (by omega) ?_;refine h.s 0 rfl fun g S h=>?_;refine h.a 0 rfl rfl ?_;exact ResG.err h.below 1
  ·refine B5 (by show (e != 0)=true;simpa using i) ?_;refine h.s 0 rfl fun g S h=>?_;refine h.a 0 rfl rfl ?_;rw [yn i];exact ResG.err h.below e
 | succ f E=>
  intro hf t M s W D F;have E:=E (by omega);show Calls _ _ _ _ (ResG (N8 (f+1) t) s);refine vE Tryz.func221 ?_;intro g4 w1 X;have h:=((Ctx.start s no (fun _ c=>c.elim)).loc X).1;refine h.q (A6Z t D _) fun w3 U h=>?_;have Z:=A4T t 0 0 (zb _) Nat.one_pos;have v:N8 (f+1) t=if (U8 t 0 0).2.2≠0 then (V0,0,(U8 t 0 0).2.2) else if t.length<=(U8 t 0 0).2.1+(U8 t 0 0).1 then (V0,0,2)
    else match A0o (N8 f) (t.getD ((U8 t 0 0).2.1+(U8 t 0 0).1) 0) ((t.drop (U8 t 0 0).2.1).take (U8 t 0 0).1) with
     | none=>(V0,0,1)
     | some V=>(V,(U8 t 0 0).2.1+(U8 t 0 0).1+1,0):=by first | (rw [N8];done) | (rw [N8];rfl)
  rw [v];clear v;generalize U8 t 0 0=q at*;obtain⟨n,a,e⟩:=q;simp only at Z ⊢;by_cases i:e=0;rotate_left
  ·refine B5 (by show (e != 0)=true;simpa using i) ?_;refine h.s 0 rfl fun g S h=>?_;refine h.a 0 rfl rfl ?_;rw [yn i];exact ResG.err h.below e
  subst i;refine df (by omega) ?_;have w:IntKind.i64.wrap ((a:Int)+(n:Int))=((a+n:Nat):Int):=by rw [G8 _ _ (by omega) (by omega)];rfl
  simp only [ne_eq,not_true_eq_false,if_false];have z:(((⟨t.toArray⟩:ByteArray).size:Nat):Int)=t.length:=by rw [I5]
  by_cases H:t.length<=a+n
  ·refine dt (by rw [z,w];omega) ?_;refine h.s 0 rfl fun g S h=>?_;refine h.a 0 rfl rfl ?_;rw [yn H];exact ResG.err h.below 2
  refine df (by rw [z,w];omega) ?_;rw [yo H];refine⟨⟨by omega,by rw [w];omega,by rw [z,w];omega⟩,?_⟩;have ex:(⟨t.toArray⟩:ByteArray).extract (a:Int).toNat (IntKind.i64.wrap ((a:Int)+(n:Int))).toNat=⟨((t.drop a).take n).toArray⟩:=by rw [W4,w,zi,zi,Nat.add_sub_cancel_left]
  generalize (⟨t.toArray⟩:ByteArray).extract (a:Int).toNat (IntKind.i64.wrap ((a:Int)+(n:Int))).toNat=sub at ex ⊢;subst ex;have G:((t.drop a).take n).length<=1073741824:=by rw [zg,zh];omega
  generalize (t.drop a).take n=b at G ⊢;refine h.n fun a1 w4 h4 h=>?_;refine⟨h.may 0 rfl 0 _ (zc 4) rfl,?_⟩;intro T R;have h:=(h.set 0 rfl R).1;refine⟨⟨by rw [w];omega,by rw [z,w];omega⟩,?_⟩;have B:(⟨t.toArray⟩:ByteArray).data.toList.getD (IntKind.i64.wrap ((a:Int)+(n:Int))).toNat 0=t.getD (a+n) 0:=by rw [w,zi]
  generalize (⟨t.toArray⟩:ByteArray).data.toList.getD (IntKind.i64.wrap ((a:Int)+(n:Int))).toNat 0=x at B ⊢;rw [<-B];clear B;have k:∀ m:Nat,m<256->((x.toNat:Int)==(m:Int))=decide (x=UInt8.ofNat m):=fun m O=>by
   rw [Bool.eq_iff_iff,beq_iff_eq,y9];constructor
   ·intro c;exact UInt8.toNat_inj.1 (by rw [O9 m O];omega)
   ·intro c;rw [c,O9 m O]
  have A:IntKind.i64.wrap (IntKind.i64.wrap ((a:Int)+(n:Int))+1)=((a+n+1:Nat):Int):=by rw [w,C4 (by omega)]
  by_cases j:x=35
  ·refine B5 ((k 35 (by decide)).trans (zz j)) ?_;refine h.c 0 rfl rfl ?_;refine h.q (B0F b G _ (F.below h.below)) fun I N h=>?_;refine⟨h.may 0 rfl 0 _ (zc 4) rfl,?_⟩;intro P o;have h:=(h.set 0 rfl o).1;have d:A0o (N8 f) x b=(A88 b).map fun n=>.mk 1 n ⟨#[]⟩ []:=by rw [A0o,yn j]
   rw [d];clear d;cases K:A88 b with
   | none=>
    have e:A7g b=(0,0,1):=by rw [A7g,K]
    generalize A7g b=q at*;subst e;refine h.s 1 rfl fun g S h=>?_;refine h.a 1 rfl rfl ?_;exact ResG.err h.below 1
   | some m=>
    have e:A7g b=(1,m,0):=by rw [A7g,K]
    generalize A7g b=q at*;subst e;refine h.a 0 rfl rfl ?_;refine h.s 1 rfl fun g S h=>?_;refine h.a 1 rfl rfl ?_;refine⟨[.int .i64 1,.int .i64 m,.string ⟨#[]⟩,.slice none 0 0],?_,h.below,?_⟩
    ·show Ending.returned (.tuple #[_,.int .i64 (IntKind.i64.wrap (IntKind.i64.wrap ((a:Int)+(n:Int))+1)),_])=_;rw [A];rfl
    ·simp only [Option.map_some];rw [RepC];exact⟨none,0,[],rfl,by rw [RepL],zc _,zb _,fun c=>absurd rfl c⟩
  refine B4 ((k 35 (by decide)).trans (y8 j)) ?_;by_cases p:x=93
  ·refine B5 ((k 93 (by decide)).trans (zz p)) ?_;refine h.c 0 rfl rfl ?_;refine⟨(B44 f (by omega) E b M _ (by omega) G (F.below h.below)).mono fun e I hq=>?_⟩;obtain⟨J,Y,N,r⟩:=hq;refine⟨_,Y,?_⟩;have C:=h.call N;have h:=C.1;have r:=r.sub (S':=ext no T I) (fun _ c=>c);have d:A0o (N8 f) x b=(M2 (N8 f) 6000 b).map fun l=>.mk 3 0 ⟨#[]⟩ l:=by rw [A0o,yo j,yn p]
   rw [d];clear d;have L:=r.len;cases Q:M2 (N8 f) 6000 b with
   | none=>
    have e:A1I f b=(V0,1):=by rw [A1I,Q]
    generalize A1I f b=q at*;subst e
    match J,L with
    | [c1,c2,c3,c4],_=>
    have u:F4 [c1,c2,c3,c4]=true:=by rw [V0,RepC] at r;obtain⟨_,_,_,e,_⟩:=r;rw [e];rfl
    refine⟨h.may 0 rfl 0 _ (zc 4) u,?_⟩;intro P o;have h:=(h.set 0 rfl o).1;refine h.s 1 rfl fun g S h=>?_;refine h.a 1 rfl rfl ?_;exact ResG.err h.below 1
   | some l=>
    have e:A1I f b=(.mk 3 0 ⟨#[]⟩ l,0):=by rw [A1I,Q]
    generalize A1I f b=q at*;subst e
    match J,L with
    | [c1,c2,c3,c4],_=>
    have u:F4 [c1,c2,c3,c4]=true:=by rw [RepC] at r;obtain⟨_,_,_,e,_⟩:=r;rw [e];rfl
    refine⟨h.may 0 rfl 0 _ (zc 4) u,?_⟩;intro P o;have C:=h.set 0 rfl o;have h:=C.1;have r:=r.fut C.2;refine h.a 0 rfl rfl ?_;refine⟨h.may 1 rfl 0 _ (zc 4) u,?_⟩;intro w8 h8;have C:=h.set 1 rfl h8;have h:=C.1;have r:=r.fut C.2;refine h.a 1 rfl rfl ?_;refine⟨[c1,c2,c3,c4],?_,h.below,?_⟩
    ·show Ending.returned (.tuple #[_,.int .i64 (IntKind.i64.wrap (IntKind.i64.wrap ((a:Int)+(n:Int))+1)),_])=_;rw [A];rfl
    ·exact r.fut h.out
  refine B4 ((k 93 (by decide)).trans (y8 p)) ?_;by_cases y:x=44
  ·refine B5 ((k 44 (by decide)).trans (zz y)) ?_;have d:A0o (N8 f) x b=some (.mk 2 0 ⟨b.toArray⟩ []):=by rw [A0o,yo j,yo p,yn y]
   rw [d];clear d;refine h.a 0 rfl rfl ?_;refine h.s 1 rfl fun g S h=>?_;refine h.a 1 rfl rfl ?_;refine⟨[.int .i64 2,.int .i64 0,.string ⟨b.toArray⟩,.slice none 0 0],?_,h.below,?_⟩
   ·show Ending.returned (.tuple #[_,.int .i64 (IntKind.i64.wrap (IntKind.i64.wrap ((a:Int)+(n:Int))+1)),_])=_;rw [A];rfl
   ·simp only;rw [RepC];exact⟨none,0,[],rfl,by rw [RepL],zc _,zb _,fun c=>absurd rfl c⟩
  ·refine B4 ((k 44 (by decide)).trans (y8 y)) ?_;have d:A0o (N8 f) x b=none:=by rw [A0o,yo j,yo p,yo y]
   rw [d];clear d;refine h.s 1 rfl fun g S h=>?_;refine h.a 1 rfl rfl ?_;exact ResG.err h.below 1
theorem B1x (t:List UInt8) (w:World) (i:t.length<=1073741824) (D:Env w):Calls Tryz.prog 180 #[.string ⟨t.toArray⟩] w (ResG (A0D t) w):=by
 refine vE Tryz.func180 ?_;intro N O p;have h:=((Ctx.start w no (fun _ a=>a.elim)).loc p).1;refine⟨(B7k 6 (zc _) t 1 _ rfl i (D.below h.below)).mono fun f I x=>?_⟩;obtain⟨z,s,u,r⟩:=x;refine⟨_,s,?_⟩;have C:=h.call u;have h:=C.1;have g:A0D t=if (N8 6 t).2.2=0/\A2D (N8 6 t).1=false then (V0,0,1) else N8 6 t:=by rw [A0D]
 rw [g];clear g;generalize N8 6 t=q at*;obtain⟨v,n,b⟩:=q;simp only at r ⊢;have B:∃ k n' s' A l c,z=[.int .i64 k,.int .i64 n',.string s',.slice A l c]:=by obtain⟨k,n',s',L⟩:=v;rw [RepC] at r;obtain⟨A,c,H,f,_,_⟩:=r;exact⟨_,_,_,_,_,_,f⟩
 obtain⟨k,n',s',A,l,c,rfl⟩:=B;intro K J o;have C:=h.loc o;have h:=C.1;have r:=r.fut C.2;refine⟨h.may 0 rfl 0 _ (zc 4) rfl,?_⟩;intro G y;have C:=h.set 0 rfl y;have h:=C.1;have r:=r.fut C.2;by_cases e:b=0
 ·refine B5 (by show (b==0)=true;simpa using e) ?_;refine h.a 0 rfl rfl ?_;refine B8 (A83 v k n' s' A l c _ _ r) ?_;intro F j;have C:=h.quiet j;have h:=C.1;have r:=r.fut C.2;by_cases m:A2D v=true
  ·refine B4 (by rw [m];rfl) ?_;refine h.a 0 rfl rfl ?_;refine⟨h.may 1 rfl 0 _ (zc 4) rfl,?_⟩;intro E d;have C:=h.set 1 rfl d;have h:=C.1;have r:=r.fut C.2;refine h.a 1 rfl rfl ?_;rw [yo (fun a=>by rw [m] at a;cases a.2)];exact⟨[.int .i64 k,.int .i64 n',.string s',.slice A l c],rfl,h.below,r.fut h.out⟩
  ·have m:A2D v=false:=by simpa using m
   refine B5 (by rw [m];rfl) ?_;refine h.s 1 rfl fun S M h=>?_;refine h.a 1 rfl rfl ?_;rw [yn ⟨e,m⟩];exact ResG.err h.below 1
 ·refine B4 (by show (b==0)=false;simpa using e) ?_;refine h.a 0 rfl rfl ?_;refine⟨h.may 1 rfl 0 _ (zc 4) rfl,?_⟩;intro E d;have C:=h.set 1 rfl d;have h:=C.1;have r:=r.fut C.2;refine h.a 1 rfl rfl ?_;rw [yo (fun a=>e a.1)];exact⟨[.int .i64 k,.int .i64 n',.string s',.slice A l c],rfl,h.below,r.fut h.out⟩
theorem B7l (t:List UInt8) (w:World) (o:t.length<=1073741824) (J:Env w):
  Calls Tryz.prog 128 #[.string ⟨t.toArray⟩] w (fun e c=>∃ k n s i len j,e=.returned (.tuple #[.agg #[.int .i64 k,.int .i64 n,.string s,.slice i len j],.int .i64 (A1o t).2])/\Below w.heap.size w c/\RepC (ext no w c) c (A1o t).1 [.int .i64 k,.int .i64 n,.string s,.slice i len j]):=by
 refine vE Tryz.func128 ?_;intro Q R v;have h:=((Ctx.start w no (fun _ a=>a.elim)).loc v).1;refine⟨(B1x t _ o (J.below h.below)).mono fun e M D=>?_⟩;obtain⟨G,x,B,r⟩:=D;refine⟨_,x,?_⟩;have C:=h.call B;have h:=C.1;have l:A1o t=if (A0D t).2.2≠0\/(A0D t).2.1≠t.length then (V0,1) else ((A0D t).1,0):=by rw [A1o]
 rw [l];clear l;generalize A0D t=q at*;obtain⟨F,n,d⟩:=q;simp only at r ⊢;have I:∃ f n' s' A m p,G=[.int .i64 f,.int .i64 n',.string s',.slice A m p]:=by obtain⟨f,n',s',P⟩:=F;rw [RepC] at r;obtain⟨A,p,L,e,_,_⟩:=r;exact⟨_,_,_,_,_,_,e⟩
 obtain⟨f,n',s',A,m,p,rfl⟩:=I;intro O N u;have C:=h.loc u;have h:=C.1;have r:=r.fut C.2;refine⟨h.may 0 rfl 0 _ (zc 4) rfl,?_⟩;intro K E;have C:=h.set 0 rfl E;have h:=C.1;have r:=r.fut C.2;have z:(((⟨t.toArray⟩:ByteArray).size:Nat):Int)=t.length:=by rw [I5]
 by_cases b:d=0
 ·refine B4 (by show (d != 0)=false;simpa using b) ?_;by_cases g:n=t.length
  ·refine B4 (by show ((n:Int) != ((⟨t.toArray⟩:ByteArray).size:Nat))=false;rw [z,g];simp) ?_;refine h.a 0 rfl rfl ?_;refine⟨h.may 1 rfl 0 _ (zc 4) rfl,?_⟩;intro T y;have C:=h.set 1 rfl y;have h:=C.1;have r:=r.fut C.2;refine h.a 1 rfl rfl ?_;rw [yo (fun a=>by obtain a|a:=a;exact a b;exact a g)];exact⟨_,_,_,_,_,_,rfl,h.below,r.fut h.out⟩
  ·refine B5 (by show ((n:Int) != ((⟨t.toArray⟩:ByteArray).size:Nat))=true;rw [z,bne_iff_ne];omega) ?_;refine h.s 1 rfl fun S H h=>?_;refine h.a 1 rfl rfl ?_;rw [yn (.inr g)];exact⟨0,0,⟨#[]⟩,none,0,0,rfl,h.below,RepC.V0 _ _⟩
 ·refine B5 (by show (d != 0)=true;simpa using b) ?_;refine h.s 1 rfl fun S H h=>?_;refine h.a 1 rfl rfl ?_;rw [yn (.inl b)];exact⟨0,0,⟨#[]⟩,none,0,0,rfl,h.below,RepC.V0 _ _⟩
structure Ver where
 ver:Int
 gone:Bool
 body:ByteArray
structure Ent where
 key:ByteArray
 vs:List Ver
structure Res where
 err:Int
 ver:Int
structure Mem where
 req:Int
 res:Res
structure Stt where
 seq:Int
 l:List Ent
 ms:List Mem
 lows:List Int
def J0 (v:Ver):List Value:=[.int .i64 v.ver,.bool v.gone,.string v.body]
def G0 (m:Mem):List Value:=[.int .i64 m.req,.int .i64 m.res.err,.int .i64 m.res.ver]
def C0l (n:Int):Value:=.int .i64 n
def Flat (k:Nat) (css:List (List Value)):Prop:=∀ c∈css,c.length=k/\F4 c=true
theorem Flat.len {k:Nat}:∀ {s:List (List Value)},Flat k s->s.flatten.length=s.length*k
 | [],_=>by simp
 | c::r,h=>by rw [List.flatten_cons,z6,(h c (by simp)).1,Flat.len (fun a x=>h a (by simp [x])),zj,Nat.succ_mul,Nat.add_comm]
theorem Flat.get {k:Nat}:∀ {s:List (List Value)},Flat k s->∀ (i:Nat) (a:i<s.length) (j:Nat) (u:Value),s[i][j]?=some u->s.flatten[i*k+j]?=some u
 | c::r,h,0,_,j,u,hu=>by
  have d:j<c.length:=by
   obtain h|h:=zm j c.length
   ·exact h
   ·rw [List.getElem_cons_zero,List.getElem?_eq_none h] at hu;cases hu
  rw [List.flatten_cons,Nat.zero_mul,zn,List.getElem?_append_left d];exact hu
 | c::r,h,i+1,a,j,u,hu=>by have b:=(h c (by simp)).1;rw [List.flatten_cons,List.getElem?_append_right (by rw [b,Nat.succ_mul];omega),b,show (i+1)*k+j-k=i*k+j from by rw [Nat.succ_mul];omega];exact Flat.get (fun x e=>h x (by simp [e])) i (Nat.lt_of_succ_lt_succ a) j u hu
theorem Flat.take {k:Nat} {s:List (List Value)} (a:Flat k s) (n:Nat):Flat k (s.take n):=fun c h=>a c (List.mem_of_mem_take h)
theorem Flat.drop {k:Nat} {s:List (List Value)} (a:Flat k s) (n:Nat):Flat k (s.drop n):=fun c h=>a c (List.mem_of_mem_drop h)
theorem Flat.append {k:Nat} {d b:List (List Value)} (e:Flat k d) (f:Flat k b):Flat k (d++b):=fun c a=>by
 rw [List.mem_append] at a;obtain h|h:=a
 ·exact e c h
 ·exact f c h
theorem Flat.map {b:Type} {k:Nat} (f:b->List Value) (h:∀ a,(f a).length=k/\F4 (f a)=true) (l:List b):Flat k (l.map f):=fun c d=>by obtain⟨a,_,rfl⟩:=List.mem_map.1 d;exact h a
theorem Flat.flat_take {k:Nat}:∀ {s:List (List Value)},Flat k s->∀ i,(s.take i).flatten=s.flatten.take (i*k)
 | [],_,i=>by simp
 | c::r,h,0=>by simp
 | c::r,h,i+1=>by have a:=(h c (by simp)).1;rw [List.take_succ_cons,List.flatten_cons,List.flatten_cons,Flat.flat_take (fun x b=>h x (by simp [b])) i,Nat.succ_mul,List.take_append,a,ym (l:=c) (by omega),show i*k+k-k=i*k from by omega]
theorem Flat.flat_drop {k:Nat} {c:List (List Value)} (a:Flat k c) (i:Nat):(c.drop i).flatten=c.flatten.drop (i*k):=by
 have e:c.flatten=(c.take i).flatten++(c.drop i).flatten:=by rw [<-zt,List.take_append_drop]
 obtain h|h:=zm i c.length
 ·rw [e,List.drop_left' (by rw [Flat.len (a.take i),zg,Nat.min_eq_left (Nat.le_of_lt h)])]
 ·rw [zr h,zr (by rw [a.len];exact Nat.mul_le_mul_right _ h)];rfl
theorem Flat.ones {k:Nat}:∀ {css:List (List Value)},Flat k css->F4 css.flatten=true
 | [],_=>rfl
 | c::r,h=>by
  refine A21 fun v hv=>?_;rw [List.flatten_cons,List.mem_append] at hv;obtain hv|hv:=hv
  ·exact L8 (h c (by simp)).2 v hv
  ·exact L8 (Flat.ones (css:=r) fun x a=>h x (by simp [a])) v hv
theorem Row.elemF {S:Nat->Prop} {w:World} {A:Option Addr} {n p k:Nat} {c:List (List Value)} (R:Row S w A n p c.flatten) (g:0<k) (F:Flat k c) (i:Nat) (h:i<c.length):
  ∃ a,A=some a/\Go.Vc.cellsAt w (a.add (i*k)) c[i] 0:=by
 have x:=F.len;have b:(i+1)*k<=c.length*k:=Nat.mul_le_mul_right _ h;rw [Nat.succ_mul] at b;obtain⟨a,e,d⟩:=R.get (i:=i*k) (by omega);refine⟨a,e,?_⟩;exact A1A d (i*k) c[i] 0 (fun j u f=>by rw [Nat.add_zero];exact F.get i h j u f)
def RepE (S:Nat->Prop) (w:World) (e:Ent) (cs:List Value):Prop:=∃ A cap,cs=[.string e.key,.slice A e.vs.length cap]/\Row S w A e.vs.length cap (e.vs.map J0).flatten
def RepEs (S:Nat->Prop) (w:World):List Ent->List (List Value)->Prop
 | [],css=>css=[]
 | e::r,css=>∃ c t,css=c::t/\RepE S w e c/\RepEs S w r t
theorem RepE.map {b S:Nat->Prop} {a w:World} (d:∀ {A:Option Addr} {n c:Nat} {x:List Value},Row b a A n c x->Row S w A n c x) {e:Ent} {cs:List Value} (h:RepE b a e cs):RepE S w e cs:=by obtain⟨A,c,g,f⟩:=h;exact⟨A,c,g,d f⟩
theorem RepEs.map {b S:Nat->Prop} {a w:World} (h:∀ {A:Option Addr} {n p:Nat} {x:List Value},Row b a A n p x->Row S w A n p x):∀ {l:List Ent} {s:List (List Value)},RepEs b a l s->RepEs S w l s
 | [],_,hr=>hr
 | e::r,_,⟨c,t,e1,e2,e3⟩=>⟨c,t,e1,e2.map h,RepEs.map h e3⟩
theorem RepEs.below {S:Nat->Prop} {w a:World} {l:List Ent} {css:List (List Value)} (h:RepEs S w l css) (b:Below w.heap.size w a):RepEs S a l css:=h.map (fun h=>h.below b)
theorem RepEs.len {S:Nat->Prop} {w:World}:∀ {l:List Ent} {s:List (List Value)},RepEs S w l s->s.length=l.length
 | [],_,h=>by rw [show _=[] from h];rfl
 | e::r,_,⟨c,t,e1,e2,e3⟩=>by rw [e1,zj,e3.len,zj]
theorem RepEs.flat {S:Nat->Prop} {w:World}:∀ {l:List Ent} {s:List (List Value)},RepEs S w l s->Flat 2 s
 | [],_,h=>by rw [show _=[] from h];intro c b;cases b
 | e::r,_,⟨c,t,e1,⟨A,cap,e2,_⟩,e3⟩=>by
  rw [e1];intro a x;cases x with
  | head=>rw [e2];exact⟨rfl,rfl⟩
  | tail _ x=>exact e3.flat a x
theorem RepEs.get {S:Nat->Prop} {w:World}:∀ {l:List Ent} {s:List (List Value)},RepEs S w l s->∀ (i:Nat) (a:i<l.length) (h:i<s.length),RepE S w l[i] s[i]
 | e::r,_,⟨c,t,e1,e2,e3⟩,0,_,_=>by subst e1;exact e2
 | e::r,_,⟨c,t,e1,e2,e3⟩,i+1,a,h=>by subst e1;exact e3.get i (Nat.lt_of_succ_lt_succ a) (Nat.lt_of_succ_lt_succ h)
theorem RepEs.append {S:Nat->Prop} {w:World}:∀ {l m:List Ent} {a b:List (List Value)},RepEs S w l a->RepEs S w m b->RepEs S w (l++m) (a++b)
 | [],_,_,_,h,hb=>by rw [show _=[] from h];exact hb
 | e::r,_,_,_,⟨c,t,e1,e2,e3⟩,hb=>by subst e1;exact⟨c,_,rfl,e2,e3.append hb⟩
theorem RepEs.take {S:Nat->Prop} {w:World}:∀ {l:List Ent} {s:List (List Value)} (i:Nat),RepEs S w l s->RepEs S w (l.take i) (s.take i)
 | _,_,0,_=>by simp [RepEs]
 | [],_,i+1,h=>by rw [show _=[] from h];simp [RepEs]
 | e::r,_,i+1,⟨c,t,e1,e2,e3⟩=>by subst e1;exact⟨c,_,rfl,e2,e3.take i⟩
theorem RepEs.drop {S:Nat->Prop} {w:World}:∀ {l:List Ent} {s:List (List Value)} (i:Nat),RepEs S w l s->RepEs S w (l.drop i) (s.drop i)
 | _,_,0,h=>h
 | [],_,i+1,h=>by rw [show _=[] from h];simp [RepEs]
 | e::r,_,i+1,⟨c,t,e1,e2,e3⟩=>by subst e1;exact e3.drop i
def RepS (S:Nat->Prop) (w:World) (s:Stt) (cs:List Value):Prop:=
 ∃ A cap css B cap',cs=[.int .i64 s.seq,.slice A s.l.length cap,.slice B s.ms.length cap']++s.lows.map C0l/\s.lows.length=5/\RepEs S w s.l css/\Row S w A s.l.length cap css.flatten/\Row S w B s.ms.length cap' (s.ms.map G0).flatten
theorem RepS.map {b S:Nat->Prop} {a w:World} (h:∀ {A:Option Addr} {n c:Nat} {x:List Value},Row b a A n c x->Row S w A n c x) {s:Stt} {cs:List Value} (r:RepS b a s cs):RepS S w s cs:=by obtain⟨A,c,d,B,p,i,j,f,e,g⟩:=r;exact⟨A,c,d,B,p,i,j,f.map h,h e,h g⟩
theorem RepS.below {S:Nat->Prop} {w a:World} {s:Stt} {cs:List Value} (h:RepS S w s cs) (b:Below w.heap.size w a):RepS S a s cs:=h.map (fun h=>h.below b)
def C1p:Ver:=⟨0,false,⟨#[]⟩⟩
def A5H (a b:Ver):Bool:=a.ver==b.ver&&a.gone==b.gone&&D7 a.body b.body
theorem C6 {a b:ByteArray}:D7 a b=true↔a=b:=by
 unfold D7;rw [beq_iff_eq];constructor
 ·intro h;cases a;cases b;simpa using h
 ·intro h;rw [h]
theorem B1y {a b:Ver}:A5H a b=true↔a=b:=by obtain⟨f,g,h⟩:=a;obtain⟨d,c,e⟩:=b;simp [A5H,C6,and_assoc]
def A3A (a b:Mem):Bool:=a.req==b.req&&a.res.err==b.res.err&&a.res.ver==b.res.ver
theorem B1z {a b:Mem}:A3A a b=true↔a=b:=by obtain⟨f,g,h⟩:=a;obtain⟨d,c,e⟩:=b;simp [A3A,and_assoc]
def J7 {α:Type} (p:α->α->Bool):List α->List α->Bool
 | [],[]=>true
 | a::r,b::t=>p a b&&J7 p r t
 | [],_::_=>false
 | _::_,[]=>false
theorem W5 {c:Type} {p:c->c->Bool} (h:∀ a b,p a b=true↔a=b):∀ {a b:List c},J7 p a b=true↔a=b
 | [],[]=>by simp [J7]
 | a::r,b::t=>by simp [J7,h,W5 h (a:=r) (b:=t)]
 | [],_::_=>by simp [J7]
 | _::_,[]=>by simp [J7]
theorem A0K {c:Type} (p:c->c->Bool):∀ (a b:List c),a.length≠b.length->J7 p a b=false
 | [],[],h=>absurd rfl h
 | a::r,b::t,h=>by rw [J7,A0K p r t (fun e=>h (by rw [zj,zj,e])),Bool.and_false]
 | [],_::_,_=>by rw [J7]
 | _::_,[],_=>by rw [J7]
def eqE (a b:Ent):Bool:=D7 a.key b.key&&J7 A5H a.vs b.vs
theorem B7m {a b:Ent}:eqE a b=true↔a=b:=by obtain⟨e,f⟩:=a;obtain⟨d,c⟩:=b;simp [eqE,C6,W5 (fun a b=>B1y)]
def eqS (a b:Stt):Bool:=a.seq==b.seq&&a.lows==b.lows&&J7 A3A a.ms b.ms&&J7 eqE a.l b.l
theorem B10 {a b:Stt}:eqS a b=true↔a=b:=by
 obtain⟨j,k,l,n⟩:=a;obtain⟨g,f,i,m⟩:=b;simp [eqS,W5 (fun a b=>B1z),W5 (fun a b=>B7m)];constructor
 ·rintro⟨⟨⟨d,e⟩,h⟩,c⟩;exact⟨d,c,h,e⟩
 ·rintro⟨d,c,h,e⟩;exact⟨⟨⟨d,e⟩,h⟩,c⟩
def A1q (v:Ver):Bool:=decide (1<=v.ver)&&decide (v.ver<=1099511627776)&&decide ((v.body.size:Int)<=300)&&(!v.gone||mt v.body)
def B11:Int->List Ver->Bool
 | _,[]=>true
 | a,v::r=>A1q v&&decide (a<v.ver)&&B11 v.ver r
def A7h (e:Ent):Bool:=B11 0 e.vs&&B1d e.key&&decide (1<=e.vs.length)&&decide (e.vs.length<=12)
def K1 (l:List Ver):Ver:=l.getLastD C1p
def A6d (e:Ent):Ver × Bool:=if e.vs.length=0 then (C1p,false) else (K1 e.vs,!(K1 e.vs).gone)
def A3B:List Ver->Int->Option Nat
 | [],_=>none
 | v::r,n=>if v.ver==n then some 0 else (A3B r n).map (·+1)
def A7y (e:Ent) (v:Ver):Ent × Bool:=if (e.vs.length≠0/\v.ver<=(K1 e.vs).ver)\/12<=e.vs.length then (e,false) else (⟨e.key,e.vs++[v]⟩,true)
def B12 (e:Ent) (n:Int):Ent × Bool:=
 match A3B e.vs n with
 | none=>(e,false)
 | some i=>(⟨e.key,e.vs.take i++e.vs.drop (i+1)⟩,true)
def C05 (s:ByteArray):ByteArray:=⟨(A0n (zOn (0,1) s.data.toList)).toArray⟩
def M6 (e:Ent) (c:Int) (tag:ByteArray):Bool:=if c==0 then true else if c==1 then !(A6d e).2 else if c==2 then (A6d e).2&&D7 (C05 (A6d e).1.body) tag else false
theorem Z6:∀ a:List UInt8,Op.bytesLess a a=false
 | []=>rfl
 | x::r=>by simp [Op.bytesLess,Z6 r]
theorem A1J:∀ a d:List UInt8,(!Op.bytesLess a d)=(Op.bytesLess d a||d==a)
 | [],[]=>by simp [Op.bytesLess]
 | [],y::t=>by simp [Op.bytesLess]
 | x::r,[]=>by simp [Op.bytesLess]
 | x::r,y::t=>by
  have i:=A1J r t;simp only [Op.bytesLess];by_cases b:x<y
  ·have c:¬ y<x:=UInt8.not_lt.2 (UInt8.le_of_lt b);have h:y≠x:=fun e=>by subst e;exact UInt8.lt_irrefl _ b
   simp [b,c,h]
  ·by_cases c:y<x
   ·have h:y≠x:=fun e=>by subst e;exact UInt8.lt_irrefl _ c
    have f:x≠y:=fun e=>h e.symm;simp [b,c,h,f]
   ·have h:x=y:=UInt8.le_antisymm (UInt8.not_lt.1 c) (UInt8.not_lt.1 b);subst h;simpa using i
theorem A0L:∀ a f c:List UInt8,Op.bytesLess a f=true->Op.bytesLess f c=true->Op.bytesLess a c=true
 | a,[],c,h1,h2=>by cases a<;>simp [Op.bytesLess] at h1
 | a,y::t,[],h1,h2=>by simp [Op.bytesLess] at h2
 | [],y::t,z::u,h1,h2=>by simp [Op.bytesLess]
 | x::r,y::t,z::u,h1,h2=>by
  simp only [Op.bytesLess] at*;have i:=A0L r t u;by_cases d:x<y
  ·by_cases b:y<z
   ·simp [UInt8.lt_trans d b]
   ·by_cases e:y=z
    ·subst e;simp [d]
    ·simp [b,e] at h2
  ·by_cases g:x=y
   ·subst g;simp [UInt8.lt_irrefl] at h1;by_cases b:x<z
    ·simp [b]
    ·by_cases e:x=z
     ·subst e;simp [UInt8.lt_irrefl] at h2;simp [UInt8.lt_irrefl,i h1 h2]
     ·simp [b,e] at h2
   ·simp [d,g] at h1
theorem A2F (a:ByteArray):E4 a a=false:=Z6 _
theorem A3C (a b:ByteArray):(!E4 a b)=(E4 b a||D7 b a):=A1J _ _
theorem Y3 {a b c:ByteArray} (h:E4 a b=true) (k:E4 b c=true):E4 a c=true:=A0L _ _ _ h k
theorem B45 {a b:ByteArray} (h:E4 a b=true):D7 a b=false:=by
 cases e:D7 a b
 ·rfl
 ·rw [C6] at e;subst e;rw [A2F] at h;cases h
def G5:Int:=1099511627776
def A2a (seq:Int):Option ByteArray->List Ent->Bool
 | _,[]=>true
 | p,e::r=>A7h e&&decide ((K1 e.vs).ver<=seq)&&(match p with | none=>true | some k=>E4 k e.key)&&A2a seq (some e.key) r
def A1r:Nat->List Int->Bool
 | _,[]=>true
 | i,x::r=>(x==0||B7 x==(i:Int)+1)&&A1r (i+1) r
def M7 (lows:List Int) (h:Int):Int:=lows.getD (h-1).toNat 0
def A2T (lows:List Int) (seq:Int):Option Int->List Mem->Bool
 | _,[]=>true
 | p,m::r=>!(B7 m.req==0)&&decide (M7 lows (B7 m.req)<=m.req)&&(match p with | none=>true | some q=>decide (q<m.req))&&
   decide (0<=m.res.err)&&decide (m.res.err<=13)&&decide (0<=m.res.ver)&&decide (m.res.ver<=seq)&&A2T lows seq (some m.req) r
def P6 (s:Stt):Bool:=
 decide (0<=s.seq)&&decide (s.seq<=G5)&&decide (s.l.length<=40)&&decide (s.ms.length<=100)&&A2a s.seq none s.l&&A1r 0 s.lows&&A2T s.lows s.seq none s.ms
def posK:List Ent->ByteArray->Nat
 | [],_=>0
 | e::r,k=>if E4 e.key k then posK r k+1 else 0
def T2:List Mem->Int->Nat
 | [],_=>0
 | m::r,n=>if m.req<n then T2 r n+1 else 0
def I0 (l:List Ent) (k:ByteArray):Option Ent:=
 match l[posK l k]? with
 | some e=>if D7 e.key k then some e else none
 | none=>none
def A0M (l:List Mem) (n:Int):Option Mem:=
 match l[T2 l n]? with
 | some m=>if m.req==n then some m else none
 | none=>none
def A3D (l:List Ent) (k:ByteArray) (has:Bool) (e:List Ent):List Ent:=l.take (posK l k)++e++l.drop (if has then posK l k+1 else posK l k)
def doK (l:List Ent) (seq:Int) (d:D):List Ent × Res:=
 let has:=(I0 l d.key).isSome;let e:=(I0 l d.key).getD ⟨d.key,[]⟩
 if d.kind==3 then
  match A3B e.vs d.ver with
  | none=>(l,⟨6,0⟩)
  | some j=>(A3D l d.key has (if (e.vs.take j++e.vs.drop (j+1)).length=0 then [] else [⟨e.key,e.vs.take j++e.vs.drop (j+1)⟩]),⟨0,d.ver⟩)
 else if d.kind==1&&!M6 e d.cond d.tag then (l,⟨9,0⟩)
 else if d.kind==2&&!has then (l,⟨6,0⟩)
 else if 12<=e.vs.length||(!has&&decide (40<=l.length)) then (l,⟨5,0⟩)
 else (A3D l d.key has [⟨e.key,e.vs++[⟨seq,d.kind==2,d.body⟩]⟩],⟨0,seq⟩)
def T9 (low:Int) (h:Int) (l:List Mem):List Mem:=l.filter fun m=>!(decide (m.req<low)&&B7 m.req==h)
def doS (s:Stt) (d:D):Stt × Res:=
 if !P6 s||!M0 d then (s,⟨1,0⟩)
 else if G5<=s.seq then (s,⟨5,0⟩)
 else if d.req<M7 s.lows (B7 d.req) then (⟨s.seq+1,s.l,s.ms,s.lows⟩,⟨12,0⟩)
 else match A0M s.ms d.req with
  | some m=>(⟨s.seq+1,s.l,s.ms,s.lows⟩,m.res)
  | none=>
   if 100<=s.ms.length then (⟨s.seq+1,s.l,s.ms,s.lows⟩,⟨5,0⟩)
   else
    let q:=doK s.l (s.seq+1) d;let ms:=s.ms.take (T2 s.ms d.req)++⟨d.req,q.2⟩::s.ms.drop (T2 s.ms d.req)
    if M7 s.lows (B7 d.req)<d.low/\B7 d.low=B7 d.req then
     (⟨s.seq+1,q.1,T9 d.low (B7 d.req) ms,s.lows.set (B7 d.req-1).toNat d.low⟩,q.2)
    else (⟨s.seq+1,q.1,ms,s.lows⟩,q.2)
def B63:List Mem->Int->Option Nat
 | [],_=>none
 | m::r,n=>if m.req==n then some 0 else (B63 r n).map (·+1)
def A1K (s:Stt) (n:Int):Res × Bool:=
 match (B63 s.ms n).bind fun i=>s.ms[i]? with
 | none=>(⟨0,0⟩,false)
 | some m=>(m.res,true)
def N9 (n:Int):V:=.mk 1 n ⟨#[]⟩ []
def vStr (s:ByteArray):V:=.mk 2 0 s []
def M8 (l:List V):V:=.mk 3 0 ⟨#[]⟩ l
def A4C (v:Ver):V:=M8 [N9 v.ver,N9 (if v.gone then 1 else 0),vStr v.body]
def A4D (e:Ent):V:=M8 [vStr e.key,M8 (e.vs.map A4C)]
def A4E (m:Mem):V:=M8 [N9 m.req,N9 m.res.err,N9 m.res.ver]
def A4U (s:Stt):V:=M8 [N9 s.seq,M8 (s.l.map A4D),M8 (s.ms.map A4E),M8 (s.lows.map N9)]
def F5 (s:Stt):List UInt8:=if P6 s then A6C (A4U s) else []
def vN:V->Int | .mk _ n _ _=>n
def vS:V->ByteArray | .mk _ _ s _=>s
def vL:V->List V | .mk _ _ _ l=>l
def atV (v:V) (i:Nat):V:=(vL v).getD i V0
def B0G (v:V):Ver:=⟨vN (atV v 0),vN (atV v 1)==1,vS (atV v 2)⟩
def A0B (v:V):Ent:=⟨vS (atV v 0),(vL (atV v 1)).map B0G⟩
def A37 (v:V):Mem:=⟨vN (atV v 0),⟨vN (atV v 1),vN (atV v 2)⟩⟩
def A38 (v:V):Stt:=⟨vN (atV v 0),(vL (atV v 1)).map A0B,(vL (atV v 2)).map A37,(List.range 5).map fun i=>vN (atV (atV v 3) i)⟩
def Stt0:Stt:=⟨0,[],[],[0,0,0,0,0]⟩
def A5I (t:List UInt8):Stt × Int:=
 if (A1o t).2≠0 then (Stt0,1)
 else if F5 (A38 (A1o t).1)=[]\/F5 (A38 (A1o t).1)≠t then (Stt0,1)
 else (A38 (A1o t).1,0)
mutual
theorem A9E:∀ (a:V),eqV a a=true
 | .mk k n s l=>by rw [eqV,A9F l];simp [C6]
theorem A9F:∀ (a:List V),eqL a a=true
 | []=>by rw [eqL]
 | x::r=>by rw [eqL,A9E x,A9F r];rfl
end
def D0:D:=⟨0,⟨#[]⟩,⟨#[]⟩,0,0,⟨#[]⟩,0,0⟩
def P4 (d:D):V:=M8 [N9 d.kind,vStr d.key,vStr d.body,N9 d.ver,N9 d.cond,vStr d.tag,N9 d.req,N9 d.low]
def M3 (d:D):V:=if M0 d then P4 d else V0
def Q7 (v:V):D:=⟨vN (atV v 0),vS (atV v 1),vS (atV v 2),vN (atV v 3),vN (atV v 4),vS (atV v 5),vN (atV v 6),vN (atV v 7)⟩
def vK:V->Int | .mk k _ _ _=>k
def ofD (v:V):D × Bool:=
 if vK v≠3\/(vL v).length≠8 then (D0,false)
 else if M0 (Q7 v)=false\/eqV (M3 (Q7 v)) v=false then (D0,false)
 else (Q7 v,true)
theorem B13 (d:D) (h:M0 d=true):ofD (P4 d)=(d,true):=by have e:Q7 (P4 d)=d:=rfl;unfold ofD;rw [e,M3,yn h,A9E];simp [P4,vK,vL,M8,h]
theorem B46 (n:Int) (h:B9 n):(Lib.itoa n).length<=21:=Lib.itoa_length_le n h.1 h.2
theorem E9 (n:Int) (h:B9 n):(L4 (N9 n)).length<=30:=by have a:=B46 n h;rw [E8];have e:K0 (N9 n)=Lib.itoa n:=rfl;have:=I9 (u:=(Lib.itoa n).length) (by omega);rw [e];omega
theorem Q8 (s:ByteArray) (h:s.size<10000000):(L4 (vStr s)).length<=s.size+9:=by rw [E8];have e:(K0 (vStr s)).length=s.size:=W0 s;have:=I9 h;rw [e];omega
theorem A2b {s:ByteArray} (h:B1d s=true):s.size<=40:=by simp only [B1d,C0k,z7,y9] at h;rw [<-W0 s];exact h.2
theorem B47 {s:ByteArray} (h:(B9m s||mt s)=true):s.size<=8:=by
 rw [Bool.or_eq_true] at h;obtain h|h:=h
 ·obtain a|a:=Nat.decEq s.data.toList.length 8
  ·rw [B9m,A26 _ (.inl a)] at h;cases h
  ·rw [<-W0 s,a];exact zc _
 ·rw [Q6 h];decide
theorem A4V {d:D} (a:M0 d=true):d.key.size<=40/\d.body.size<=300/\d.tag.size<=8:=by
 unfold M0 at a;rw [z7] at a;obtain⟨h0,h⟩:=a;simp only [z7] at h0;refine⟨A2b h0.1.1.1,?_⟩;split at h
 ·simp only [z7,y9] at h;exact⟨by omega,B47 h.2⟩
 ·split at h
  ·simp only [z7] at h;rw [Q6 h.1.1.1,Q6 h.1.2];exact⟨by decide,by decide⟩
  ·split at h
   ·simp only [z7] at h;rw [Q6 h.1.1.1.1,Q6 h.1.1.2];exact⟨by decide,by decide⟩
   ·cases h
theorem B14 (d:D) (h:d.Ok) (a:M0 d=true):(K0 (P4 d)).length<=1000:=by
 obtain⟨n,o,c⟩:=A4V a;have e:K0 (P4 d)=L4 (N9 d.kind)++(L4 (vStr d.key)++(L4 (vStr d.body)++(L4 (N9 d.ver)++(L4 (N9 d.cond)++(L4 (vStr d.tag)++(L4 (N9 d.req)++(L4 (N9 d.low)++[]))))))):=by simp [K0,P4,M8,Q1]
 have f:=E9 d.kind h.kind;have g:=E9 d.ver h.ver;have l:=E9 d.cond h.cond;have m:=E9 d.req h.req;have k:=E9 d.low h.low;have b:=Q8 d.key (by omega);have j:=Q8 d.body (by omega);have i:=Q8 d.tag (by omega);rw [e];simp only [z6,List.length_nil];omega
theorem B15 (d:D) (h:d.Ok):okV (P4 d):=by
 have z:B9 0:=by unfold B9;omega
 simp [okV,okL,P4,M8,N9,vStr,h.kind,h.ver,h.cond,h.req,h.low,z]
theorem B16 (v:V):L4 v≠[]:=fun h=>by have:=E8 v;rw [h] at this;simp at this
theorem A3E (n:Int) (w:World):Calls Tryz.prog 120 #[.int .i64 n] w (D4 (.agg #[.int .i64 1,.int .i64 n,.string ⟨#[]⟩,.slice none 0 0]) w):=by refine vE Tryz.func120 ?_;have h:=Ctx.start w no (fun _ a=>a.elim);refine h.n fun A b g h=>?_;refine h.s 0 rfl fun c S h=>?_;refine h.a 0 rfl rfl ?_;exact⟨rfl,h.below⟩
theorem A7z (s:ByteArray) (w:World):Calls Tryz.prog 121 #[.string s] w (D4 (.agg #[.int .i64 2,.int .i64 0,.string s,.slice none 0 0]) w):=by refine vE Tryz.func121 ?_;have h:=Ctx.start w no (fun _ a=>a.elim);refine h.n fun A b g h=>?_;refine h.s 0 rfl fun c S h=>?_;refine h.a 0 rfl rfl ?_;exact⟨rfl,h.below⟩
theorem RepL.cons {S:Nat->Prop} {w:World} {v:V} {r:List V} {c x:List Value} (h:RepC S w v c) (a:RepL S w r x):RepL S w (v::r) (c++x):=by rw [RepL];exact⟨c,x,h,a,rfl⟩
theorem RepL.nil (S:Nat->Prop) (w:World):RepL S w [] []:=by rw [RepL]
theorem RepC.leaf (S:Nat->Prop) (w:World) (k n:Int) (s:ByteArray):RepC S w (.mk k n s []) [.int .i64 k,.int .i64 n,.string s,.slice none 0 0]:=by rw [RepC];exact⟨none,0,[],rfl,by rw [RepL],zc _,zb _,fun h=>absurd rfl h⟩
def leaf (k n:Int) (s:ByteArray):List Value:=[.int .i64 k,.int .i64 n,.string s,.slice none 0 0]
def B7n (d:D):List Value:=leaf 1 d.kind ⟨#[]⟩++(leaf 2 0 d.key++(leaf 2 0 d.body++(leaf 1 d.ver ⟨#[]⟩++(leaf 1 d.cond ⟨#[]⟩++(leaf 2 0 d.tag++(leaf 1 d.req ⟨#[]⟩++(leaf 1 d.low ⟨#[]⟩++[])))))))
theorem B17 (S:Nat->Prop) (w:World) (d:D):RepL S w (vL (P4 d)) (B7n d):=
 .cons (.leaf ..) (.cons (.leaf ..) (.cons (.leaf ..) (.cons (.leaf ..) (.cons (.leaf ..) (.cons (.leaf ..) (.cons (.leaf ..) (.cons (.leaf ..) (.nil _ _))))))))
def B64 (v:V) (w:World) (e:Ending) (w':World):Prop:=
 ∃ k n s A len cap,e=.returned (.agg #[.int .i64 k,.int .i64 n,.string s,.slice A len cap])/\Below w.heap.size w w'/\RepC (ext no w w') w' v [.int .i64 k,.int .i64 n,.string s,.slice A len cap]
theorem A3F (d:D) (i:d.Ok) (c:World):Calls Tryz.prog 67 #[.agg #[.int .i64 d.kind,.string d.key,.string d.body,.int .i64 d.ver,.int .i64 d.cond,.string d.tag,.int .i64 d.req,.int .i64 d.low]] c (B64 (M3 d) c):=by
 refine vE Tryz.func67 ?_;intro g B r;have h:=((Ctx.start c no (fun _ i=>i.elim)).loc r).1;refine h.n fun A y E h=>?_;refine h.a 1 rfl rfl ?_;refine h.q (A0z d i _) fun j v h=>?_;by_cases m:M0 d=true;rotate_left
 ·have m:M0 d=false:=by simpa using m
  refine B5 (by rw [m];rfl) ?_;refine h.s 0 rfl fun S z h=>?_;refine h.a 0 rfl rfl ?_;rw [M3,yo (by rw [m];exact Bool.false_ne_true)];exact⟨0,0,⟨#[]⟩,none,0,0,rfl,h.below,RepC.V0 _ _⟩
 refine B4 (by rw [m];rfl) ?_;have o:=h.blk 1 rfl;have l:∀ b,(fun b=>b=g) b->b<j.heap.size:=fun b e=>by subst e;exact o.lt
 refine vD (.Q [0,1,3,4,6,7,9,10,12,13,15,16,18,19,21,22] (.n 2 (.n 5 (.n 8 (.n 11 (.n 14 (.n 17 (.n 20 (.n 23 (.n 24 (.q 25 .fin) .stop) .stop) .stop) .stop) .stop) .stop) .stop) .stop) .stop)) (Keeps (fun b=>b=g) j) (Keeps.start _ _) ?_;have k:=Keeps.start (fun b=>b=g) j;have h:=h.drew
 iterate 8 refine⟨_,fun u x=>x.cell o rfl rfl,?_⟩
 refine⟨h.q (A3E d.kind _) fun w q h=>?_,t6⟩;have k:=k.below l q;refine⟨k,h.q (A7z d.key _) fun w q h=>?_,t6⟩;have k:=k.below l q;refine⟨k,h.q (A7z d.body _) fun w q h=>?_,t6⟩;have k:=k.below l q;refine⟨k,h.q (A3E d.ver _) fun w q h=>?_,t6⟩;have k:=k.below l q;refine⟨k,h.q (A3E d.cond _) fun w q h=>?_,t6⟩;have k:=k.below l q;refine⟨k,h.q (A7z d.tag _) fun w q h=>?_,t6⟩;have k:=k.below l q;refine⟨k,h.q (A3E d.req _) fun w q h=>?_,t6⟩;have k:=k.below l q;refine⟨k,h.q (A3E d.low _) fun w q h=>?_,t6⟩;have k:=k.below l q;refine⟨k,fun f n a=>?_,t6⟩;refine⟨k.below l a.below,?_⟩;have C:=h.call a.below;have h:=C.1;have s:Row (ext no _ n) n (some ⟨f,0,none⟩) 8 8 (B7n d):=(a.row 8 (by decide)).sub fun b e=>by subst e;exact .inr ⟨Nat.le_of_eq a.1.symm,a.blk.lt⟩
 refine⟨h.may 0 rfl 0 _ (zc 4) rfl,?_⟩;intro t p;have C:=h.set 0 rfl p;have h:=C.1;refine h.a 0 rfl rfl ?_;rw [M3,yn m];refine⟨3,0,⟨#[]⟩,some ⟨f,0,none⟩,8,8,rfl,h.below,?_⟩;rw [P4,M8,RepC];exact⟨some ⟨f,0,none⟩,8,B7n d,rfl,B17 _ _ d,(s.fut C.2).fut h.out⟩
def dC (d:D):List Value:=[.int .i64 d.kind,.string d.key,.string d.body,.int .i64 d.ver,.int .i64 d.cond,.string d.tag,.int .i64 d.req,.int .i64 d.low]
theorem B9n (v:V) (k n:Int) (s:ByteArray) (I:Option Addr) (G K:Nat) (J:Nat->Prop) (o:World) (B:RepC J o v [.int .i64 k,.int .i64 n,.string s,.slice I G K]) (r:(Q7 v).Ok):
  Calls Tryz.prog 129 #[.agg #[.int .i64 k,.int .i64 n,.string s,.slice I G K]] o (D4 (.tuple #[.agg (dC (ofD v).1).toArray,.bool (ofD v).2]) o):=by
 have N:=B;obtain⟨E,i,C,l⟩:=v;rw [RepC] at B;obtain⟨A',a3,xs,e,L,Z⟩:=B;cases e;refine vE Tryz.func129 ?_;intro u w1 h1;have h:=((Ctx.start o no (fun _ a=>a.elim)).loc h1).1;refine h.n fun g2 w h2 h=>?_;refine h.c 1 rfl rfl ?_;have F:(vK (.mk k n s l)≠3\/(vL (.mk k n s l)).length≠8)->ofD (.mk k n s l)=(D0,false):=fun a=>by rw [ofD,yn a]
 by_cases q:k=3;rotate_left
 ·refine B5 (by show (k != 3)=true;simpa using q) ?_;refine h.s 0 rfl fun p S h=>?_;refine h.a 0 rfl rfl ?_;rw [F (.inl q)];exact⟨rfl,h.below⟩
 refine B4 (by show (k != 3)=false;simpa using q) ?_;refine h.c 1 rfl rfl ?_;by_cases D:l.length=8;rotate_left
 ·refine B5 (by show ((l.length:Int) != 8)=true;rw [bne_iff_ne];omega) ?_;refine h.s 0 rfl fun p S h=>?_;refine h.a 0 rfl rfl ?_;rw [F (.inr D)];exact⟨rfl,h.below⟩
 have a1:ofD (.mk k n s l)=if M0 (Q7 (.mk k n s l))=false\/eqV (M3 (Q7 (.mk k n s l))) (.mk k n s l)=false then (D0,false) else (Q7 (.mk k n s l),true):=by
  rw [ofD,yo];rintro (a | a)
  ·exact a q
  ·exact a D
 clear F
 match l,D with
 | [.mk E i C l0,.mk k1 n1 s1 l1,.mk k2 n2 s2 l2,.mk k3' n3 s3 l3,.mk k4 n4 s4 l4,.mk k5 n5 s5 l5,.mk k6 n6 s6 l6,.mk k7 n7 s7 l7],_=>
 simp only [RepL,RepC] at L;obtain⟨c0,y0,⟨A0,a7,x0,rfl,_⟩,⟨c1,y1,⟨A1,b1,x1,rfl,_⟩,⟨c2,y2,⟨A2,b0,x2,rfl,_⟩,⟨c3,y3,⟨A3,a2,x3,rfl,_⟩,⟨c4,y4,⟨A4,a5,x4,rfl,_⟩,⟨c5,y5,⟨A5,a8,x5,rfl,_⟩,⟨c6,y6,⟨A6,a4,x6,rfl,_⟩,⟨c7,y7,⟨A7,a6,x7,rfl,_⟩,rfl,rfl⟩,rfl⟩,rfl⟩,rfl⟩,rfl⟩,rfl⟩,rfl⟩,rfl⟩:=L;obtain⟨Y,rfl,S,f⟩:=(Z.below h.below).2.2 (by simp);obtain⟨j,a9,sub⟩:=Y;refine h.c 1 rfl rfl ?_;have a0:j<w.heap.size:=World.block_lt_of_cell? w _ (f 0 _ rfl);have t:∀ b,(fun b=>b=j) b->b<w.heap.size:=fun b e=>by subst e;exact a0
 refine vD (.Q [0,1,2,3,4,5,6,7,8,9,10,11,12,13,14,15,16,17,18,19,20,21,22,23,24,25,26,27,28,29,30,31,32] (.n 33 (.z 34) .stop)) (Keeps (fun b=>b=j) w) (Keeps.start _ _) ?_;have X:=Keeps.start (fun b=>b=j) w;have h:=h.drew;refine⟨⟨by decide,(show (0:Int)<8 by decide)⟩,_,fun c x=>x.at (f 1 _ rfl) rfl,⟨by decide,(show (1:Int)<8 by decide)⟩,_,fun c x=>x.at (f 6 _ rfl) rfl,⟨by decide,(show (2:Int)<8 by decide)⟩,_,fun c x=>x.at (f 10 _ rfl) rfl,⟨by decide,(show (3:Int)<8 by decide)⟩,_,fun c x=>x.at (f 13 _ rfl) rfl,⟨by decide,(show (4:Int)<8 by decide)⟩,_,fun c x=>x.at (f 17 _ rfl) rfl,⟨by decide,(show (5:Int)<8 by decide)⟩,_,fun c x=>x.at (f 22 _ rfl) rfl,⟨by decide,(show (6:Int)<8 by decide)⟩,_,fun c x=>x.at (f 25 _ rfl) rfl,⟨by decide,(show (7:Int)<8 by decide)⟩,_,fun c x=>x.at (f 29 _ rfl) rfl,fun z w5 H=>?_,t6⟩;refine⟨X.below t H.below,?_⟩;have h:=(h.loc H).1;refine⟨h.may 0 rfl 0 _ (zc 8) rfl,?_⟩;intro y h6;have h:=(h.set 0 rfl h6).1;have A:=h.blk 0 rfl;have P:=h.blk 2 rfl;have t:∀ b,(fun b=>b=z\/b=u) b->b<y.heap.size:=fun b e=>by
  obtain e|e:=e
  ·subst e;exact A.lt
  ·subst e;exact P.lt
 refine vD (.q 0 (.n 1 (.Q [2,3,4,6] (.n 5 (.n 7 (.Q [8,9] .fin) .stop) .stop)) .stop)) (Keeps (fun b=>b=z\/b=u) y) (Keeps.start _ _) ?_;have d:=Keeps.start (fun b=>b=z\/b=u) y;have h:=h.drew;refine⟨_,?_,fun c x=>x.cells A (.inl rfl),?_⟩
 ·rfl
 refine⟨h.q (A0z (Q7 (.mk k n s [.mk E i C l0,.mk k1 n1 s1 l1,.mk k2 n2 s2 l2,.mk k3' n3 s3 l3,.mk k4 n4 s4 l4,.mk k5 n5 s5 l5,.mk k6 n6 s6 l6,.mk k7 n7 s7 l7])) r _) fun O U h=>?_,t6⟩;have d:=d.below t U;refine⟨d,?_⟩;rw [a1];generalize hv:V.mk k n s [.mk E i C l0,.mk k1 n1 s1 l1,.mk k2 n2 s2 l2,.mk k3' n3 s3 l3,.mk k4 n4 s4 l4,.mk k5 n5 s5 l5,.mk k6 n6 s6 l6,.mk k7 n7 s7 l7]=v at N r ⊢;by_cases m:M0 (Q7 v)=true;rotate_left
 ·have m:M0 (Q7 v)=false:=by simpa using m
  refine B5 (by rw [m];rfl) ?_;refine⟨?_,t6⟩;refine⟨h.s 1 rfl fun p S h=>?_,t6⟩;refine h.a 1 rfl rfl ?_;rw [yn (.inl m)];exact⟨rfl,h.below⟩
 refine B4 (by rw [m];rfl) ?_;refine⟨_,?_,fun c x=>x.cells A (.inl rfl),?_⟩
 ·rfl
 refine⟨_,?_,fun c x=>x.cells P (.inr rfl),?_⟩
 ·rfl
 refine⟨?_,t6⟩;have Q:=A3F (Q7 v) r O;have T:#[Value.agg #[.int .i64 (Q7 v).kind,.string (Q7 v).key,.string (Q7 v).body,.int .i64 (Q7 v).ver,.int .i64 (Q7 v).cond,.string (Q7 v).tag,.int .i64 (Q7 v).req,.int .i64 (Q7 v).low]]=#[Value.agg #[.int .i64 i,.string s1,.string s2,.int .i64 n3,.int .i64 n4,.string s5,.int .i64 n6,.int .i64 n7]]:=by subst hv;rfl
 rw [T] at Q;refine⟨Q.mono fun e M hq=>?_⟩;obtain⟨kk,nn,ss,AA,ll,cc,e1,R,W⟩:=hq;have d:=d.below t R;refine⟨_,e1,d,?_⟩;have h:=(h.quiet R).1;refine⟨h.q (B7i _ (M3 (Q7 v)) (Nat.lt_succ_self _) v _ _ (fun b=>ext no O M b\/J b) M (W.sub fun b a=>.inl a) ((N.below h.below).sub fun b a=>.inr a)) fun w9 h9 h=>?_,t6⟩;have d:=d.below t h9;refine⟨d,?_⟩;by_cases g:eqV (M3 (Q7 v)) v=true
 ·refine B4 (by rw [g];rfl) ?_;refine h.a 0 rfl rfl ?_;refine h.s 1 rfl fun p S h=>?_;refine h.a 1 rfl rfl ?_;rw [yo (by rw [m,g];simp)];refine⟨?_,h.below⟩;subst hv;rfl
 ·have g:eqV (M3 (Q7 v)) v=false:=by simpa using g
  refine B5 (by rw [g];rfl) ?_;refine h.s 1 rfl fun p S h=>?_;refine h.a 1 rfl rfl ?_;rw [yn (.inr g)];exact⟨rfl,h.below⟩
theorem B0H {f:Nat} {x:V} (b:cnt f x<=6000):(vS x).size<=(L4 x).length:=by
 obtain⟨k,n,s,l⟩:=x;cases f with
 | zero=>rw [cnt] at b;omega
 | succ f=>
  rw [cnt] at b;show s.size<=_;rw [E8];by_cases a:(k==1&&mt s&&((l.length:Int)==0))||(k==2&&n==0&&((l.length:Int)==0))
  ·simp only [Bool.or_eq_true,z7,beq_iff_eq] at a;obtain⟨⟨a,h⟩,c⟩|⟨⟨a,h⟩,c⟩:=a
   ·rw [Q6 h];exact zb _
   ·subst a;have e:(K0 (.mk 2 n s l)).length=s.size:=W0 s;rw [e];omega
  ·rw [yo a] at b;by_cases h:(k != 3||!(n==0)||!mt s)=true
   ·rw [yn h] at b;omega
   ·simp only [Bool.or_eq_true,not_or,Bool.not_eq_true] at h;have d:mt s=true:=by simpa using h.2
    rw [Q6 d];exact zb _
def okM (lows:List Int) (seq:Int) (m:Mem):Bool:=!(B7 m.req==0)&&decide (M7 lows (B7 m.req)<=m.req)&&decide (0<=m.res.err)&&decide (m.res.err<=13)&&decide (0<=m.res.ver)&&decide (m.res.ver<=seq)
theorem U1 (l:List Int) (s:Int):∀ (k:List Mem) (p:Option Int),A2T l s p k=true↔(∀ m∈k,okM l s m=true)/\k.Pairwise (fun a v=>a.req<v.req)/\∀ q,p=some q->∀ m∈k,q<m.req
 | [],p=>by simp [A2T]
 | m::r,p=>by
  have u:A2T l s p (m::r)=(okM l s m&&(match p with | none=>true | some q=>decide (q<m.req))&&A2T l s (some m.req) r):=by
   have t:A2T l s p (m::r)=(!(B7 m.req==0)&&decide (M7 l (B7 m.req)<=m.req)&&(match p with | none=>true | some q=>decide (q<m.req))&&
     decide (0<=m.res.err)&&decide (m.res.err<=13)&&decide (0<=m.res.ver)&&decide (m.res.ver<=s)&&A2T l s (some m.req) r):=by
    cases p<;>simp only [A2T]
   rw [t,okM,Bool.eq_iff_iff];simp only [z7];constructor
   ·rintro⟨⟨⟨⟨⟨⟨⟨b,d⟩,h⟩,c⟩,e⟩,j⟩,i⟩,n⟩;exact⟨⟨⟨⟨⟨⟨⟨b,d⟩,c⟩,e⟩,j⟩,i⟩,h⟩,n⟩
   ·rintro⟨⟨⟨⟨⟨⟨⟨b,d⟩,c⟩,e⟩,j⟩,i⟩,h⟩,n⟩;exact⟨⟨⟨⟨⟨⟨⟨b,d⟩,h⟩,c⟩,e⟩,j⟩,i⟩,n⟩
  rw [u,z7,z7,U1 l s r];simp only [List.mem_cons,forall_eq_or_imp,List.pairwise_cons];constructor
  ·rintro⟨⟨b,d⟩,h,c,e⟩;refine⟨⟨b,h⟩,⟨fun f g=>e _ rfl f g,c⟩,fun q o=>?_⟩;subst o;simp only [y9] at d;exact⟨d,fun f g=>Int.lt_trans d (e _ rfl f g)⟩
  ·rintro⟨⟨b,h⟩,⟨j,c⟩,i⟩;refine⟨⟨b,?_⟩,h,c,fun q o f g=>by cases o;exact j f g⟩;cases p with
   | none=>rfl
   | some q=>simpa using (i q rfl).1
theorem A6e:∀ (l:List Mem) (n:Int),∀ m∈l.take (T2 l n),m.req<n
 | [],n,m,h=>by simp at h
 | x::r,n,m,h=>by
  by_cases c:x.req<n
  ·rw [T2,yn c,List.take_succ_cons] at h;cases h with
   | head=>exact c
   | tail _ h=>exact A6e r n m h
  ·rw [T2,yo c] at h;simp at h
theorem A6f:∀ (l:List Mem) (n:Int),l.Pairwise (fun a b=>a.req<b.req)->A0M l n=none->∀ m∈l.drop (T2 l n),n<m.req
 | [],n,_,_,m,h=>by simp at h
 | x::r,n,hp,hn,m,h=>by
  rw [List.pairwise_cons] at hp;by_cases c:x.req<n
  ·rw [T2,yn c,List.drop_succ_cons] at h;refine A6f r n hp.2 ?_ m h;simpa [A0M,T2,c] using hn
  ·rw [T2,yo c,List.drop_zero] at h;have d:x.req≠n:=fun e=>by simp [A0M,T2,c,e] at hn
   cases h with
   | head=>omega
   | tail _ h=>have:=hp.1 m h;omega
theorem A6g {a:Type} {l:List a} {i:Nat} {x:a} (h:x∈l.take i\/x∈l.drop i):x∈l:=by
 obtain h|h:=h
 ·exact List.mem_of_mem_take h
 ·exact List.mem_of_mem_drop h
theorem A2G {d:Type} {R:d->d->Prop} {l:List d} {i j:Nat} {es:List d} (o:i<=j) (p:l.Pairwise R) (g:es.Pairwise R) (m:∀ a∈l.take i,∀ e∈es,R a e) (n:∀ e∈es,∀ b∈l.drop j,R e b):
  (l.take i++es++l.drop j).Pairwise R:=by
 have k:∀ a∈l.take i,∀ b∈l.drop j,R a b:=by
  have f:(l.take i++l.drop i).Pairwise R:=by rw [List.take_append_drop];exact p
  rw [List.pairwise_append] at f;intro a h b c;refine f.2.2 a h b ?_;have e:l.drop j=(l.drop i).drop (j-i):=by rw [List.drop_drop];congr 1;omega
  rw [e] at c;exact List.mem_of_mem_drop c
 rw [List.pairwise_append,List.pairwise_append];refine⟨⟨p.sublist (List.take_sublist ..),g,m⟩,p.sublist (List.drop_sublist ..),fun a h b c=>?_⟩;rw [List.mem_append] at h;obtain h|h:=h
 ·exact k a h b c
 ·exact n a h b c
theorem B48 {o:List Int} {s:Int} {l:List Mem} {m:Mem} (b:A2T o s none l=true) (n:A0M l m.req=none) (p:okM o s m=true):
  A2T o s none (l.take (T2 l m.req)++m::l.drop (T2 l m.req))=true:=by
 rw [U1] at b ⊢;obtain⟨c,d,_⟩:=b;refine⟨fun x h=>?_,?_,fun q k=>by cases k⟩
 ·rw [List.mem_append,List.mem_cons] at h;obtain h|h|h:=h
  ·exact c x (A6g (.inl h))
  ·rw [h];exact p
  ·exact c x (A6g (.inr h))
 ·have:=A2G (es:=[m]) (zc (T2 l m.req)) d (List.pairwise_singleton ..) (fun a f i e=>by
   rw [zy] at e;subst e;exact A6e l _ a f) (fun i e j g=>by
   rw [zy] at e;subst e;exact A6f l _ d n j g)
  simpa using this
theorem B7o {l:List Int} {e s:Int} {m:Mem} (h:okM l e m=true) (a:e<=s):okM l s m=true:=by unfold okM at*;simp only [z7,y9] at*;exact⟨h.1,by omega⟩
theorem A9G {l:List Int} {e s:Int} {p:Option Int} {a:List Mem} (h:A2T l e p a=true) (b:e<=s):A2T l s p a=true:=by rw [U1] at h ⊢;exact⟨fun m c=>B7o (h.1 m c) b,h.2⟩
theorem Y4 (n:Int):0<=B7 n/\B7 n<=5:=by unfold B7;split<;>omega
theorem B18 (l:List Int) (h h' x:Int) (a:l.length=5) (b:1<=h/\h<=5) (r:1<=h'/\h'<=5):M7 (l.set (h-1).toNat x) h'=if h'=h then x else M7 l h':=by
 unfold M7;rw [List.getD_eq_getElem?_getD,List.getElem?_set];by_cases e:h'=h
 ·subst e;rw [yn rfl,yn rfl,yn (by omega)];rfl
 ·rw [yo (by omega),yo e,List.getD_eq_getElem?_getD]
theorem B19 {l:List Int} {s o a:Int} {c:List Mem} (i:l.length=5) (r:1<=a/\a<=5) (f:A2T l s none c=true):A2T (l.set (a-1).toNat o) s none (T9 o a c)=true:=by
 rw [U1] at f ⊢;obtain⟨j,n,_⟩:=f;refine⟨fun m d=>?_,n.sublist (List.filter_sublist ..),fun q k=>by cases k⟩;rw [T9,List.mem_filter] at d;obtain⟨g,b⟩:=d;have h:=j m g;unfold okM at h ⊢;simp only [z7,y9,Bool.not_eq_true',ya,ne_eq] at h ⊢;have p:=Y4 m.req;refine⟨⟨⟨⟨⟨h.1.1.1.1.1,?_⟩,h.1.1.1.2⟩,h.1.1.2⟩,h.1.2⟩,h.2⟩;rw [B18 l a _ o i r (by omega)];by_cases e:B7 m.req=a
 ·rw [yn e];simp [e] at b;exact b
 ·rw [yo e];exact h.1.1.1.1.2
theorem A0N:∀ (l:List Int) (i:Nat),A1r i l=true↔∀ (j:Nat) (x:Int),l[j]?=some x->x=0\/B7 x=(i:Int)+j+1
 | [],i=>by simp [A1r]
 | x::r,i=>by
  rw [A1r,z7,A0N r (i+1),Bool.or_eq_true,beq_iff_eq,beq_iff_eq];constructor
  ·rintro⟨a,c⟩ j b y;cases j with
   | zero=>
    simp at y;subst y;obtain a|a:=a
    ·exact .inl a
    ·right;rw [a];simp
   | succ j=>
    rcases c j b (by simpa using y) with h | h
    ·exact .inl h
    ·right;rw [h];push_cast;omega
  ·intro h;refine⟨?_,fun j b y=>?_⟩
   ·obtain h|h:=h 0 x rfl
    ·exact .inl h
    ·right;rw [h];simp
   ·rcases h (j+1) b (by simpa using y) with h | h
    ·exact .inl h
    ·right;rw [h];push_cast;omega
theorem B2A {l:List Int} {a x:Int} (b:A1r 0 l=true) (r:1<=a/\a<=5) (c:B7 x=a):A1r 0 (l.set (a-1).toNat x)=true:=by
 rw [A0N] at b ⊢;intro j y h;rw [List.getElem?_set] at h;by_cases e:(a-1).toNat=j
 ·rw [yn e] at h;split at h
  ·cases h;right;rw [c];have:(j:Int)=a-1:=by omega
   rw [this];simp<;>omega
  ·cases h
 ·rw [yo e] at h;exact b j y h
theorem Y5:∀ (l:List Ver) (a:Int),B11 a l=true↔(∀ v∈l,A1q v=true)/\l.Pairwise (fun x y=>x.ver<y.ver)/\∀ v∈l,a<v.ver
 | [],a=>by simp [B11]
 | v::r,a=>by
  rw [B11,z7,z7,Y5 r v.ver,y9];simp only [List.mem_cons,forall_eq_or_imp,List.pairwise_cons];constructor
  ·rintro⟨⟨e,b⟩,c,d,h⟩;exact⟨⟨e,c⟩,⟨h,d⟩,b,fun x f=>Int.lt_trans b (h x f)⟩
  ·rintro⟨⟨e,c⟩,⟨h,d⟩,b,g⟩;exact⟨⟨e,b⟩,c,d,h⟩
theorem A4W (l:List Ver) (v:Ver):K1 (l++[v])=v:=by simp [K1,List.getLastD_eq_getLast?]
theorem A3G {l:List Ver} (h:l≠[]):K1 l∈l:=by
 obtain rfl|⟨a,c,e⟩:=List.eq_nil_or_concat l
 ·exact absurd rfl h
 ·rw [List.concat_eq_append] at e;subst e;rw [A4W];simp
theorem B49 {l:List Ver} (h:l.Pairwise (fun x y=>x.ver<y.ver)):∀ v∈l,v.ver<=(K1 l).ver:=by
 obtain rfl|⟨b,c,e⟩:=List.eq_nil_or_concat l
 ·intro v a;cases a
 ·rw [List.concat_eq_append] at e;subst e;rw [A4W];rw [List.pairwise_append] at h;intro v hv;rw [List.mem_append,zy] at hv;obtain hv|hv:=hv
  ·exact Int.le_of_lt (h.2.2 v hv c (by simp))
  ·rw [hv];exact Int.le_refl _
def A4F (seq:Int) (e:Ent):Prop:=A7h e=true/\∀ v∈e.vs,v.ver<=seq
theorem B2B {s:Int} {e:Ent}:(A7h e&&decide ((K1 e.vs).ver<=s))=true↔A4F s e:=by
 rw [z7,y9];unfold A4F;constructor
 ·rintro⟨h,a⟩;refine⟨h,fun v hv=>?_⟩;unfold A7h at h;simp only [z7] at h;have:=B49 ((Y5 _ _).1 h.1.1.1).2.1 v hv;omega
 ·rintro⟨h,a⟩;refine⟨h,a _ (A3G fun b=>?_)⟩;unfold A7h at h;rw [b] at h;simp at h
theorem K3 (s:Int):∀ (l:List Ent) (p:Option ByteArray),A2a s p l=true↔(∀ e∈l,A4F s e)/\l.Pairwise (fun a o=>E4 a.key o.key=true)/\∀ q,p=some q->∀ e∈l,E4 q e.key=true
 | [],p=>by simp [A2a]
 | e::r,p=>by
  have j:A2a s p (e::r)=((A7h e&&decide ((K1 e.vs).ver<=s))&&(match p with | none=>true | some k=>E4 k e.key)&&A2a s (some e.key) r):=by cases p<;>simp only [A2a]
  rw [j,z7,z7,B2B,K3 s r];simp only [List.mem_cons,forall_eq_or_imp,List.pairwise_cons];constructor
  ·rintro⟨⟨c,i⟩,b,d,g⟩;refine⟨⟨c,b⟩,⟨fun m h=>g _ rfl m h,d⟩,fun q f=>?_⟩;subst f;exact⟨i,fun m h=>Y3 i (g _ rfl m h)⟩
  ·rintro⟨⟨c,b⟩,⟨t,d⟩,n⟩;refine⟨⟨c,?_⟩,b,d,fun q f m h=>by cases f;exact t m h⟩;cases p with
   | none=>rfl
   | some q=>exact (n q rfl).1
theorem A9H {e s:Int} {p:Option ByteArray} {l:List Ent} (h:A2a e p l=true) (b:e<=s):A2a s p l=true:=by rw [K3] at h ⊢;exact⟨fun m a=>⟨(h.1 m a).1,fun v hv=>Int.le_trans ((h.1 m a).2 v hv) b⟩,h.2⟩
theorem A6h:∀ (l:List Ent) (n:ByteArray),∀ m∈l.take (posK l n),E4 m.key n=true
 | [],n,m,h=>by simp at h
 | x::r,n,m,h=>by
  by_cases c:E4 x.key n=true
  ·rw [posK,yn c,List.take_succ_cons] at h;cases h with
   | head=>exact c
   | tail _ h=>exact A6h r n m h
  ·rw [posK,yo c] at h;simp at h
theorem W6 {l:List Ent} {k:ByteArray} {e:Ent} (h:I0 l k=some e):l[posK l k]?=some e/\e.key=k:=by
 unfold I0 at h;cases a:l[posK l k]? with
 | none=>rw [a] at h;cases h
 | some x=>
  rw [a] at h;simp only at h;by_cases c:D7 x.key k=true
  ·rw [yn c] at h;cases h;exact⟨rfl,C6.1 c⟩
  ·rw [yo c] at h;cases h
theorem A6i:∀ (l:List Ent) (n:ByteArray),l.Pairwise (fun a i=>E4 a.key i.key=true)->∀ m∈l.drop (if (I0 l n).isSome then posK l n+1 else posK l n),E4 n m.key=true
 | [],n,_,m,h=>by simp at h
 | x::r,n,hp,m,h=>by
  rw [List.pairwise_cons] at hp;by_cases c:E4 x.key n=true
  ·have e:I0 (x::r) n=I0 r n:=by simp [I0,posK,c]
   have o:(if (I0 (x::r) n).isSome then posK (x::r) n+1 else posK (x::r) n)=(if (I0 r n).isSome then posK r n+1 else posK r n)+1:=by rw [e,posK,yn c];split<;>rfl
   rw [o,List.drop_succ_cons] at h;exact A6i r n hp.2 m h
  ·have d:posK (x::r) n=0:=by rw [posK,yo c]
   have e:I0 (x::r) n=if D7 x.key n then some x else none:=by simp [I0,d]
   rw [d,e] at h;by_cases b:D7 x.key n=true
   ·rw [yn b] at h;rw [C6] at b;simp at h;rw [<-b];exact hp.1 m h
   ·rw [yo b] at h;simp only [Option.isSome_none,Bool.false_eq_true,if_false,List.drop_zero] at h;have g:E4 n x.key=true:=by
     have:=A3C x.key n;have j:E4 x.key n=false:=by simpa using c
     rw [j] at this;have k:D7 n x.key=false:=by
      cases f:D7 n x.key
      ·rfl
      ·rw [C6] at f;rw [f] at b;exact absurd (C6.2 rfl) b
     rw [k] at this;simpa using this.symm
    cases h with
    | head=>exact g
    | tail _ h=>exact Y3 g (hp.1 m h)
theorem A9I {c:Int} {l:List Ent} {k:ByteArray} {s:List Ent} (g:A2a c none l=true) (b:∀ e∈s,A4F c e/\e.key=k) (n:s.length<=1):A2a c none (A3D l k (I0 l k).isSome s)=true:=by
 rw [K3] at g ⊢;obtain⟨d,f,_⟩:=g;refine⟨fun x h=>?_,?_,fun q p=>by cases p⟩
 ·rw [A3D,List.mem_append,List.mem_append] at h;obtain (h|h)|h:=h
  ·exact d x (List.mem_of_mem_take h)
  ·exact (b x h).1
  ·exact d x (List.mem_of_mem_drop h)
 ·refine A2G (by split<;>omega) f ?_ (fun a i e m=>by rw [(b e m).2];exact A6h l k a i) (fun e m o j=>by rw [(b e m).2];exact A6i l k f o j)
  match s,n with
  | [],_=>exact List.Pairwise.nil
  | [x],_=>exact List.pairwise_singleton ..
theorem A9J {l:List Ent} {k:ByteArray} {s:List Ent} (b:s.length<=1) (h:l.length<40\/(I0 l k).isSome=true) (a:l.length<=40):(A3D l k (I0 l k).isSome s).length<=40:=by
 rw [A3D,z6,z6,zg,zh];cases e:I0 l k with
 | none=>
  rw [e] at h;simp at h ⊢;omega
 | some x=>
  have:=(W6 e).1;have t:posK l k<l.length:=by
   obtain h|h:=zm (posK l k) l.length
   ·exact h
   ·rw [List.getElem?_eq_none h] at this;cases this
  simp;omega
theorem A6j {l:List Ent} {k:ByteArray} {e:Ent} (h:I0 l k=some e):e∈l:=List.mem_of_getElem? (W6 h).1
theorem A70:∀ {l:List Ver} {n:Int} {i:Nat},A3B l n=some i->∃ h:i<l.length,l[i].ver=n
 | v::r,n,i,h=>by
  rw [A3B] at h;by_cases c:(v.ver==n)=true
  ·rw [yn c] at h;cases h;exact⟨Nat.succ_pos _,by simpa using c⟩
  ·rw [yo c] at h;cases e:A3B r n with
   | none=>rw [e] at h;cases h
   | some j=>
    rw [e] at h;cases h;obtain⟨b,a⟩:=A70 e;exact⟨Nat.succ_lt_succ b,a⟩
 | [],n,i,h=>by rw [A3B] at h;cases h
theorem G2 {e:Ent}:A7h e=true↔B11 0 e.vs=true/\B1d e.key=true/\1<=e.vs.length/\e.vs.length<=12:=by simp [A7h,and_assoc]
theorem B7p (l:List Ent) (s:Int) (d:D):0<=(doK l s d).2.err/\(doK l s d).2.err<=13/\((doK l s d).2.ver=0\/(doK l s d).2.ver=s\/((doK l s d).2.ver=d.ver/\d.kind=3/\(A3B ((I0 l d.key).getD ⟨d.key,[]⟩).vs d.ver).isSome=true)):=by
 unfold doK;simp only;split
 ·rename_i h;cases e:A3B ((I0 l d.key).getD ⟨d.key,[]⟩).vs d.ver with
  | none=>simp
  | some j=>simp;right;right;simpa using h
 ·split
  ·simp
  ·split
   ·simp
   ·split<;>simp
theorem B9o {l:List Ent} {seq:Int} {d:D} (R:0<=seq) (hs:seq<G5) (f:M0 d=true) (u:A2a seq none l=true) (g:l.length<=40):
  A2a (seq+1) none (doK l (seq+1) d).1=true/\(doK l (seq+1) d).1.length<=40/\0<=(doK l (seq+1) d).2.ver/\(doK l (seq+1) d).2.ver<=seq+1:=by
 have r:=A9H u (show seq<=seq+1 by omega);have old:∀ e:Ent,I0 l d.key=some e->A4F seq e:=fun e h=>((K3 seq l none).1 u).1 e (A6j h);have E:B1d d.key=true:=by unfold M0 at f;simp only [z7] at f;exact f.1.1.1.1
 have S:=(A4V f).2.1;unfold doK;simp only;split
 ·rename_i O;cases b:I0 l d.key with
  | none=>
   simp only [Option.getD_none,A3B];exact⟨r,g,by simp;omega⟩
  | some x=>
   simp only [Option.getD_some,Option.isSome_some];cases e:A3B x.vs d.ver with
   | none=>exact⟨r,g,by simp;omega⟩
   | some j=>
    obtain⟨J,hv⟩:=A70 e;have o:=old x b;have K:=(W6 b).2;have s:(x.vs.take j++x.vs.drop (j+1)).Sublist x.vs:=by have:=(List.Sublist.refl (x.vs.take j)).append (List.drop_sublist_drop_left x.vs (Nat.le_succ j));rwa [List.take_append_drop] at this
    obtain⟨p,G,Q,P⟩:=G2.1 o.1;rw [Y5] at p;have N:(x.vs.take j++x.vs.drop (j+1)).length=x.vs.length-1:=by rw [z6,zg,zh];omega
    have a1:1<=d.ver/\d.ver<=seq:=by rw [<-hv];have w:=List.getElem_mem J;have W:=p.2.2 _ w;have X:=o.2 _ w;omega
    have I:∀ n:List Ent,n=(if (x.vs.take j++x.vs.drop (j+1)).length=0 then [] else [⟨x.key,x.vs.take j++x.vs.drop (j+1)⟩])->n.length<=1/\∀ e∈n,A4F (seq+1) e/\e.key=d.key:=by
     intro n F;subst F;split
     ·exact⟨by simp,fun e h=>by cases h⟩
     ·refine⟨by simp,fun e h=>?_⟩;rw [zy] at h;subst h;refine⟨⟨G2.2 ⟨(Y5 _ _).2 ⟨fun v hv=>p.1 v (s.subset hv),p.2.1.sublist s,fun v hv=>p.2.2 v (s.subset hv)⟩,G,by simp only;omega,by simp only;omega⟩,fun v hv=>?_⟩,K⟩;have:=o.2 v (s.subset hv);omega
    obtain⟨z,i⟩:=I _ rfl;have A:=A9I r i z;have B:=A9J (l:=l) (k:=d.key) z (.inr (by rw [b];rfl)) g;rw [b] at A B;exact⟨A,B,by simp only;omega,by simp only;omega⟩
 ·rename_i V;split
  ·exact⟨r,g,by simp;omega⟩
  ·split
   ·exact⟨r,g,by simp;omega⟩
   ·rename_i Y;split
    ·exact⟨r,g,by simp;omega⟩
    ·rename_i t;simp only [Bool.or_eq_true,z7,y9,not_or,Bool.not_eq_true'] at t;have H:=t.2;have T:((I0 l d.key).getD ⟨d.key,[]⟩).vs.length<12:=by simpa using t.1
     have M:A1q ⟨seq+1,d.kind==2,d.body⟩=true:=by
      have U:G5=1099511627776:=rfl;unfold A1q;simp only [z7,y9,Bool.or_eq_true,Bool.not_eq_true'];refine⟨⟨⟨by omega,by omega⟩,by omega⟩,?_⟩;by_cases i:d.kind=2
      ·right;unfold M0 at f;rw [i] at f;simp only [z7] at f;have:=f.2;simp only [show ((2:Int)==1)=false by decide,show ((2:Int)==2)=true by decide,Bool.false_eq_true,if_false,if_true,z7] at this;exact this.1.1.1
      ·left;simpa using i
     have hold:∀ x:Ent,x=(I0 l d.key).getD ⟨d.key,[]⟩->B11 0 x.vs=true/\x.key=d.key/\∀ v∈x.vs,v.ver<=seq:=by
      intro x m;cases b:I0 l d.key with
      | none=>rw [b] at m;subst m;exact⟨rfl,rfl,fun v hv=>by cases hv⟩
      | some Z=>
       rw [b] at m;subst m;have o:=old _ b;exact⟨(G2.1 o.1).1,(W6 b).2,o.2⟩
     obtain⟨q1,q2,C⟩:=hold _ rfl;generalize (I0 l d.key).getD ⟨d.key,[]⟩=x at*;rw [Y5] at q1;have i:∀ e∈([⟨x.key,x.vs++[⟨seq+1,d.kind==2,d.body⟩]⟩]:List Ent),A4F (seq+1) e/\e.key=d.key:=by
      intro e h;rw [zy] at h;subst h;refine⟨⟨G2.2 ⟨(Y5 _ _).2 ⟨fun v hv=>?_,?_,fun v hv=>?_⟩,by simp only;rw [q2];exact E,by simp,by simp;omega⟩,fun v hv=>?_⟩,q2⟩
      ·simp only [List.mem_append,zy] at hv;obtain hv|hv:=hv
       ·exact q1.1 v hv
       ·rw [hv];exact M
      ·rw [List.pairwise_append];refine⟨q1.2.1,List.pairwise_singleton ..,fun a L a0 y=>?_⟩;rw [zy] at y;subst y;have:=C a L;simp only;omega
      ·simp only [List.mem_append,zy] at hv;obtain hv|hv:=hv
       ·exact q1.2.2 v hv
       ·rw [hv];simp only;omega
      ·simp only [List.mem_append,zy] at hv;obtain hv|hv:=hv
       ·have:=C v hv;omega
       ·rw [hv];simp only;omega
     refine⟨A9I r i (by simp),A9J (by simp) ?_ g,by simp only;omega,by simp only;omega⟩;by_cases c:(I0 l d.key).isSome=true
     ·exact .inr c
     ·left;obtain q|q:=zm l.length 40
      ·exact q
      ·exact absurd ⟨by simpa using c,q⟩ H
theorem D5 {s:Stt}:P6 s=true↔(0<=s.seq/\s.seq<=G5)/\(s.l.length<=40/\s.ms.length<=100)/\A2a s.seq none s.l=true/\A1r 0 s.lows=true/\A2T s.lows s.seq none s.ms=true:=by simp [P6,and_assoc]
theorem A9K {s:Stt} {d:D} (B:s.lows.length=5) (b:P6 s=true):P6 (doS s d).1=true:=by
 obtain⟨⟨y,G⟩,⟨f,q⟩,k,a,e⟩:=D5.1 b;have o:G5<=s.seq\/P6 ⟨s.seq+1,s.l,s.ms,s.lows⟩=true:=by
  obtain c|c:=Int.lt_or_le s.seq G5
  ·exact .inr (D5.2 ⟨⟨by simp only;omega,by simp only;omega⟩,⟨f,q⟩,A9H k (by simp only;omega),a,A9G e (by simp only;omega)⟩)
  ·exact .inl c
 unfold doS;split
 ·exact b
 rename_i A;have h:M0 d=true:=by
  cases u:M0 d
  ·simp [u] at A
  ·rfl
 split
 ·exact b
 rename_i r;have o:P6 ⟨s.seq+1,s.l,s.ms,s.lows⟩=true:=o.resolve_left r;split
 ·exact o
 rename_i F;split
 ·exact o
 rename_i v;split
 ·exact o
 rename_i C;obtain⟨j,i,p,z⟩:=B9o (d:=d) y (by omega) h k f;obtain⟨t,x,_⟩:=B7p s.l (s.seq+1) d;have E:=Y4 d.req;have n:B7 d.req≠0:=by unfold M0 at h;simp only [z7,Bool.not_eq_true',ya,ne_eq] at h;exact h.1.1.1.2
 have g:A2T s.lows (s.seq+1) none (s.ms.take (T2 s.ms d.req)++⟨d.req,(doK s.l (s.seq+1) d).2⟩::s.ms.drop (T2 s.ms d.req))=true:=by refine B48 (m:=⟨d.req,_⟩) (A9G e (by omega)) v ?_;unfold okM;simp only [z7,y9,Bool.not_eq_true',ya,ne_eq];exact⟨⟨⟨⟨⟨n,by omega⟩,t⟩,x⟩,p⟩,z⟩
 have l:(s.ms.take (T2 s.ms d.req)++⟨d.req,(doK s.l (s.seq+1) d).2⟩::s.ms.drop (T2 s.ms d.req)).length<=100:=by rw [z6,zj,zg,zh];omega
 simp only;split
 ·rename_i w;refine D5.2 ⟨⟨by simp only;omega,by simp only;omega⟩,⟨i,zq (List.length_filter_le ..) l⟩,j,B2A a (by omega) w.2,B19 B (by omega) g⟩
 ·exact D5.2 ⟨⟨by simp only;omega,by simp only;omega⟩,⟨i,l⟩,j,a,g⟩
theorem R5 (g:V->Int) (a:∀ v,1<=g v) (b:Nat):∀ (l:List V) (n:Int),(∀ x∈l,g x<=b)->n+(b*l.length:Nat)<=6000->A1m g l n<=n+(b*l.length:Nat)
 | [],n,h,hn=>by rw [A1m];simp
 | x::r,n,h,hn=>by
  have d:=h x (by simp);have e:b*(x::r).length=b+b*r.length:=by rw [zj,Nat.mul_succ,Nat.add_comm]
  rw [e] at hn ⊢;rw [E1,yo (by omega)];have:=R5 g a b r (n+g x) (fun c y=>h c (by simp [y])) (by omega);omega
theorem M9 (f:Nat) (l:List V):cnt (f+1) (M8 l)=A1m (cnt f) l 1:=by simp [M8,cnt,mt,D7]
theorem P9 (f:Nat) (n:Int):cnt (f+1) (N9 n)=1:=by simp [N9,cnt,mt,D7]
theorem A5J (f:Nat) (s:ByteArray):cnt (f+1) (vStr s)=1:=by simp [vStr,cnt]
theorem B7q (v:Ver):cnt 2 (A4C v)=4:=by simp [A4C,M9,P9,A5J,A1m]
theorem B7r (f:Nat) (m:Mem):cnt (f+2) (A4E m)=4:=by simp [A4E,M9,P9,A1m]
theorem B7s (e:Ent) (b:e.vs.length<=12):cnt 4 (A4D e)<=51:=by have a:=R5 (cnt 2) (fun v=>(M5 2 v).1) 4 (e.vs.map A4C) 1 (fun x h=>by obtain⟨v,_,rfl⟩:=List.mem_map.1 h;rw [B7q];decide) (by rw [zl];omega);rw [zl] at a;rw [A4D,M9,E1,A5J,yo (by decide),E1,M9,yo (by omega),A1m];omega
theorem A6k (s:Stt) (i:s.lows.length=5) (c:P6 s=true):A2D (A4U s)=true:=by obtain⟨_,⟨j,k⟩,f,_,_⟩:=D5.1 c;have a:=((K3 _ _ _).1 f).1;have d:=R5 (cnt 4) (fun v=>(M5 4 v).1) 51 (s.l.map A4D) 1 (fun x h=>by obtain⟨e,m,rfl⟩:=List.mem_map.1 h;exact B7s e (G2.1 (a e m).1).2.2.2) (by rw [zl];omega);have g:=R5 (cnt 4) (fun v=>(M5 4 v).1) 4 (s.ms.map A4E) 1 (fun x h=>by obtain⟨e,m,rfl⟩:=List.mem_map.1 h;rw [B7r];decide) (by rw [zl];omega);have b:=R5 (cnt 4) (fun v=>(M5 4 v).1) 1 (s.lows.map N9) 1 (fun x h=>by obtain⟨e,m,rfl⟩:=List.mem_map.1 h;rw [P9];decide) (by rw [zl];omega);rw [zl] at d g b;rw [A2D,y9,A4U,M9,E1,P9,yo (by decide),E1,M9,yo (by omega),E1,M9,yo (by omega),E1,M9,yo (by omega),A1m];omega
theorem R6 (b:Nat):∀ l:List V,(∀ x∈l,(L4 x).length<=b)->(Q1 l).length<=b*l.length
 | [],_=>by rw [Q1];simp
 | x::r,h=>by have c:=h x (by simp);have d:=R6 b r fun a y=>h a (by simp [y]);rw [Q1,z6,zj,Nat.mul_succ];omega
theorem A1s (l:List V):K0 (M8 l)=Q1 l:=by simp [M8,K0]
theorem U2 (l:List V) (b:Nat) (h:(Q1 l).length<=b) (a:b<10000000):(L4 (M8 l)).length<=b+9:=by rw [E8,A1s];have:=I9 (u:=(Q1 l).length) (by omega);omega
theorem A2c {n:Int} (h:B7 n≠0):4294967296<=n/\n<25769803776:=by unfold B7 at h;split at h<;>omega
theorem A5K {l:List Int} {s:Int} {m:Mem} (a:s<=G5) (h:okM l s m=true):B9 m.req/\B9 m.res.err/\B9 m.res.ver:=by unfold okM at h;simp only [z7,y9,Bool.not_eq_true',ya,ne_eq] at h;have:=A2c h.1.1.1.1.1;have b:G5=1099511627776:=rfl;unfold B9;omega
theorem B5A (m:Mem) (h:B9 m.req/\B9 m.res.err/\B9 m.res.ver):(L4 (A4E m)).length<=99:=by have a:=E9 _ h.1;have b:=E9 _ h.2.1;have c:=E9 _ h.2.2;refine U2 _ 90 ?_ (by decide);simp only [Q1,z6,List.length_nil];omega
theorem A0a {v:Ver} (h:A1q v=true):B9 v.ver/\v.body.size<=300:=by unfold A1q at h;simp only [z7,y9] at h;unfold B9;omega
theorem B5B (v:Ver) (h:A1q v=true):(L4 (A4C v)).length<=378:=by obtain⟨a,e⟩:=A0a h;have b:=E9 _ a;have c:=E9 (if v.gone then 1 else 0) (by unfold B9;split<;>omega);have d:=Q8 v.body (by omega);refine U2 _ 369 ?_ (by decide);simp only [Q1,z6,List.length_nil];omega
theorem A0b {s:Int} {e:Ent} (h:A4F s e):∀ v∈e.vs,A1q v=true:=((Y5 _ _).1 (G2.1 h.1).1).1
theorem B5C {s:Int} (e:Ent) (h:A4F s e):(L4 (A4D e)).length<=4603:=by
 obtain⟨_,a,_,f⟩:=G2.1 h.1;have d:=Q8 e.key (by have:=A2b a;omega);have b:=R6 378 (e.vs.map A4C) fun c x=>by obtain⟨v,hv,rfl⟩:=List.mem_map.1 x;exact B5B v (A0b h v hv)
 rw [zl] at b;have g:=U2 (e.vs.map A4C) 4536 (by omega) (by decide);have:=A2b a;refine U2 _ 4594 ?_ (by decide);simp only [Q1,z6,List.length_nil];omega
theorem A1L (s:Stt) (p:s.lows.length=5) (a:P6 s=true):(K0 (A4U s)).length<=200000:=by
 obtain⟨⟨o,f⟩,⟨q,r⟩,l,k,g⟩:=D5.1 a;have w:G5=1099511627776:=rfl;have e:=((K3 _ _ _).1 l).1;have M:=((U1 _ _ _ _).1 g).1;have c:=R6 4603 (s.l.map A4D) fun x h=>by obtain⟨v,hv,rfl⟩:=List.mem_map.1 h;exact B5C v (e v hv)
 have b:=R6 99 (s.ms.map A4E) fun x h=>by obtain⟨v,hv,rfl⟩:=List.mem_map.1 h;exact B5A v (A5K f (M v hv))
 have d:=R6 30 (s.lows.map N9) fun x h=>by
  obtain⟨v,hv,rfl⟩:=List.mem_map.1 h;obtain⟨i,j⟩:=List.getElem?_of_mem hv;refine E9 v ?_;obtain a|a:=(A0N _ _).1 k i v j
  ·subst a;unfold B9;omega
  ·have:=A2c (n:=v) (by omega);unfold B9;omega
 rw [zl] at c b d;have c0:=E9 s.seq (by unfold B9;omega);have u:=U2 (s.l.map A4D) 184120 (by omega) (by decide);have t:=U2 (s.ms.map A4E) 9900 (by omega) (by decide);have m:=U2 (s.lows.map N9) 150 (by omega) (by decide);rw [A4U,A1s];simp only [Q1,z6,List.length_nil];omega
theorem A3H {b:Type} (f:b->V) (l:List b) (h:∀ x∈l,okV (f x)):okL (l.map f):=by
 induction l with
 | nil=>rw [List.map_nil,okL];trivial
 | cons a r i=>rw [List.map_cons,okL];exact⟨h a (by simp),i fun x c=>h x (by simp [c])⟩
theorem O2 (l:List V) (h:okL l):okV (M8 l):=by rw [M8,okV];exact⟨by unfold B9;omega,h⟩
theorem N0 (n:Int) (h:B9 n):okV (N9 n):=by rw [N9,okV,okL];exact⟨h,t6⟩
theorem A71 (s:ByteArray):okV (vStr s):=by rw [vStr,okV,okL];exact⟨by unfold B9;omega,t6⟩
theorem B7t (v:Ver) (h:A1q v=true):okV (A4C v):=
 O2 _ (by simp only [okL];exact⟨N0 _ (A0a h).1,N0 _ (by unfold B9;split<;>omega),A71 _,t6⟩)
theorem B7u {s:Int} (e:Ent) (h:A4F s e):okV (A4D e):=
 O2 _ (by simp only [okL];exact⟨A71 _,O2 _ (A3H _ _ fun v hv=>B7t v (A0b h v hv)),t6⟩)
theorem B7v (m:Mem) (h:B9 m.req/\B9 m.res.err/\B9 m.res.ver):okV (A4E m):=
 O2 _ (by simp only [okL];exact⟨N0 _ h.1,N0 _ h.2.1,N0 _ h.2.2,t6⟩)
theorem A9L (s:Stt) (h:P6 s=true):okV (A4U s):=by
 obtain⟨⟨i,b⟩,⟨k,l⟩,g,f,c⟩:=D5.1 h;have o:G5=1099511627776:=rfl;have a:=((K3 _ _ _).1 g).1;have M:=((U1 _ _ _ _).1 c).1;refine O2 _ ?_;simp only [okL];refine⟨N0 _ (by unfold B9;omega),O2 _ (A3H _ _ fun e hv=>B7u e (a e hv)),O2 _ (A3H _ _ fun m hv=>B7v m (A5K b (M m hv))),O2 _ (A3H _ _ fun x hv=>N0 x ?_),t6⟩;obtain⟨d,j⟩:=List.getElem?_of_mem hv;obtain h|h:=(A0N _ _).1 f d x j
 ·subst h;unfold B9;omega
 ·have:=A2c (n:=x) (by omega);unfold B9;omega
theorem B2C (v:Ver):B0G (A4C v)=v:=by obtain⟨a,b,c⟩:=v;cases b<;>rfl
theorem B2D (e:Ent):A0B (A4D e)=e:=by obtain⟨k,v⟩:=e;have a:A0B (A4D ⟨k,v⟩)=⟨k,(v.map A4C).map B0G⟩:=rfl;rw [a,List.map_map];have:(B0G ∘ A4C)=id:=funext B2C;rw [this,List.map_id]
theorem B2E (m:Mem):A37 (A4E m)=m:=rfl
theorem B2F (s:Stt) (h:s.lows.length=5):A38 (A4U s)=s:=by
 obtain⟨seq,f,m,l⟩:=s;have k:A38 (A4U ⟨seq,f,m,l⟩)=⟨seq,(f.map A4D).map A0B,(m.map A4E).map A37,(List.range 5).map fun i=>vN ((l.map N9).getD i V0)⟩:=rfl;have j:(A0B ∘ A4D)=id:=funext B2D;have g:(A37 ∘ A4E)=id:=funext B2E;rw [k,List.map_map,List.map_map,j,g,List.map_id,List.map_id];congr 1;simp only at h
 match l,h with
 | [a,b,c,d,e],_=>rfl
theorem A1t (s:Stt) (a:s.lows.length=5) (h:P6 s=true):F5 s=L4 (A4U s):=by have b:=A1L s a h;have:=I9 (u:=(K0 (A4U s)).length) (by omega);rw [F5,yn h,A6C,A6k s a h];simp [this]
theorem A72 (s:Stt) (a:s.lows.length=5) (h:P6 s=true):A5I (F5 s)=(s,0):=by
 have b:=A1L s a h;have p:=A1t s a h;have e:=A9B (A4U s) (A6k s a h) (A9L s h) (by omega);rw [<-p] at e;unfold A5I;rw [e];simp only [ne_eq,not_true_eq_false,if_false];rw [B2F s a,yo];rintro (h | h)
 ·rw [p] at h;exact B16 _ h
 ·exact h rfl
theorem A2H (a b:ByteArray):(a.toList==b.toList)=D7 a b:=by rw [ByteArray.toList_eq,ByteArray.toList_eq];rfl
theorem A5L (d:Nat) (w:World) (a b:Ver):(Op.equalIn (d+2) 147 (.agg (J0 a).toArray) (.agg (J0 b).toArray)).run Tryz.prog w=.ok (A5H a b) w:=by
 have e:=run_equalIn_struct (P:=Tryz.prog) w (d+1) 147 (J0 a).toArray (J0 b).toArray (by kernel_rfl) (by kernel_rfl);rw [e];have h:(Tryz.prog.fieldsOf 147).toList=(match Tryz.prog.underlying 147 with | some (.struct fs)=>fs.toList | _=>[]):=by kernel_rfl
 rw [h,Tryz.underlying147];simp [J0,A5H,<-A2H,Op.eqFields,run_equalIn_int _ _ _ _ _ _ _ Tryz.underlying2,run_equalIn_bool' _ _ _ _ _ Tryz.underlying4,run_equalIn_string _ _ _ _ _ Tryz.underlying9,part,isAgg,run_underlying Tryz.underlying2,run_underlying Tryz.underlying4,run_underlying Tryz.underlying9];by_cases f:a.ver=b.ver<;>by_cases g:a.gone=b.gone<;>by_cases c:a.body.toList=b.body.toList<;>simp [f,g,c]
theorem A5M (d:Nat) (w:World) (a b:Res):(Op.equalIn (d+2) 36 (.agg #[.int .i64 a.err,.int .i64 a.ver]) (.agg #[.int .i64 b.err,.int .i64 b.ver])).run Tryz.prog w=.ok (a.err==b.err&&a.ver==b.ver) w:=by
 have e:=run_equalIn_struct (P:=Tryz.prog) w (d+1) 36 #[.int .i64 a.err,.int .i64 a.ver] #[.int .i64 b.err,.int .i64 b.ver] (by kernel_rfl) (by kernel_rfl);rw [e];have h:(Tryz.prog.fieldsOf 36).toList=(match Tryz.prog.underlying 36 with | some (.struct fs)=>fs.toList | _=>[]):=by kernel_rfl
 rw [h,Tryz.underlying36];simp [Op.eqFields,run_equalIn_int _ _ _ _ _ _ _ Tryz.underlying2,run_equalIn_int _ _ _ _ _ _ _ Tryz.underlying34,part,isAgg,run_underlying Tryz.underlying2,run_underlying Tryz.underlying34];by_cases c:a.err=b.err<;>by_cases f:a.ver=b.ver<;>simp [c,f]
theorem B5D (w:World):(Go.sizeOf 36).run Tryz.prog w=.ok 2 w:=by kernel_rfl
theorem A5N (d:Nat) (w:World) (a b:Mem):(Op.equalIn (d+3) 101 (.agg (G0 a).toArray) (.agg (G0 b).toArray)).run Tryz.prog w=.ok (A3A a b) w:=by
 have e:=run_equalIn_struct (P:=Tryz.prog) w (d+2) 101 (G0 a).toArray (G0 b).toArray (by kernel_rfl) (by kernel_rfl);rw [e];have h:(Tryz.prog.fieldsOf 101).toList=(match Tryz.prog.underlying 101 with | some (.struct fs)=>fs.toList | _=>[]):=by kernel_rfl
 rw [h,Tryz.underlying101];have r:∀ w,(Op.equalIn (d+2) 36 (.agg #[.int .i64 a.res.err,.int .i64 a.res.ver]) (.agg #[.int .i64 b.res.err,.int .i64 b.res.ver])).run Tryz.prog w=.ok (a.res.err==b.res.err&&a.res.ver==b.res.ver) w:=fun w=>A5M d w a.res b.res;simp [G0,A3A,Op.eqFields,run_equalIn_int _ _ _ _ _ _ _ Tryz.underlying2,part,isAgg,run_underlying Tryz.underlying2,run_underlying Tryz.underlying36,B5D,r];by_cases f:a.req=b.req<;>by_cases g:a.res.err=b.res.err<;>by_cases c:a.res.ver=b.res.ver<;>simp [f,g,c]
def eqD (a b:D):Bool:=a.kind==b.kind&&(D7 a.key b.key&&(D7 a.body b.body&&(a.ver==b.ver&&(a.cond==b.cond&&(D7 a.tag b.tag&&(a.req==b.req&&a.low==b.low))))))
theorem B65 (g:Nat) (w:World) (a b:D):(Op.equalIn (g+2) 45 (.agg (dC a).toArray) (.agg (dC b).toArray)).run Tryz.prog w=.ok (eqD a b) w:=by
 have j:=run_equalIn_struct (P:=Tryz.prog) w (g+1) 45 (dC a).toArray (dC b).toArray (by kernel_rfl) (by kernel_rfl);rw [j];have k:(Tryz.prog.fieldsOf 45).toList=(match Tryz.prog.underlying 45 with | some (.struct fs)=>fs.toList | _=>[]):=by kernel_rfl
 rw [k,Tryz.underlying45];simp [dC,eqD,<-A2H,Op.eqFields,run_equalIn_int _ _ _ _ _ _ _ Tryz.underlying2,run_equalIn_int _ _ _ _ _ _ _ Tryz.underlying3,run_equalIn_string _ _ _ _ _ Tryz.underlying9,part,isAgg,run_underlying Tryz.underlying2,run_underlying Tryz.underlying3,run_underlying Tryz.underlying9];by_cases h:a.kind=b.kind;rotate_left
 ·simp [h]
 by_cases c:a.key.toList=b.key.toList;rotate_left
 ·simp [h,c]
 by_cases d:a.body.toList=b.body.toList;rotate_left
 ·simp [h,c,d]
 by_cases e:a.ver=b.ver;rotate_left
 ·simp [h,c,d,e]
 by_cases f:a.cond=b.cond;rotate_left
 ·simp [h,c,d,e,f]
 by_cases i:a.tag.toList=b.tag.toList;rotate_left
 ·simp [h,c,d,e,f,i]
 by_cases m:a.req=b.req<;>by_cases l:a.low=b.low<;>simp [h,c,d,e,f,i,m,l]
theorem A3I {T:TypeId} {x y:Array Value} {r:Bool} (m:Tryz.prog.eqGuardType Tryz.prog.depth T=false) (h:∀ w,(Op.equalIn 10000 T (.agg x) (.agg y)).run Tryz.prog w=.ok r w) (a o:Operand) (w:World):
  (do eqGuard .eql T a o (.agg x) (.agg y);Go.binOp .eql T (.agg x) (.agg y):Sem Value).run Tryz.prog w=.ok (.bool r) w:=by
 simp only [yf,run_eqGuard_agg w .eql T a o x y m,ye,run_eql_struct,h]
theorem A0O {T:TypeId} {x y:Array Value} {r:Bool} (m:Tryz.prog.eqGuardType Tryz.prog.depth T=false) (h:∀ w,(Op.equalIn 10000 T (.agg x) (.agg y)).run Tryz.prog w=.ok r w) (a o:Operand) (w:World):
  (do eqGuard .neq T a o (.agg x) (.agg y);Go.binOp .neq T (.agg x) (.agg y):Sem Value).run Tryz.prog w=.ok (.bool (!r)) w:=by
 simp only [yf,run_eqGuard_agg w .neq T a o x y m,ye,run_neq_struct,h]
theorem B2G:Tryz.prog.eqGuardType Tryz.prog.depth 147=false:=by kernel_rfl
theorem B66:Tryz.prog.eqGuardType Tryz.prog.depth 36=false:=by kernel_rfl
theorem B2H:Tryz.prog.eqGuardType Tryz.prog.depth 101=false:=by kernel_rfl
theorem B2I:Tryz.prog.eqGuardType Tryz.prog.depth 45=false:=by kernel_rfl
theorem N1 (l:List Ver):Flat 3 (l.map J0):=Flat.map J0 (fun _=>⟨rfl,rfl⟩) l
theorem RowV.elem {S:Nat->Prop} {w:World} {A:Option Addr} {n c:Nat} {l:List Ver} (R:Row S w A n c (l.map J0).flatten) (i:Nat) (b:i<l.length):∃ a,A=some a/\Go.Vc.cellsAt w (a.add (i*3)) (J0 l[i]) 0:=by obtain⟨a,e,h⟩:=Row.elemF R (by decide) (N1 l) i (by rw [zl];exact b);rw [List.getElem_map] at h;exact⟨a,e,h⟩
theorem E2 {S:Nat->Prop} {w:World} {A:Option Addr} {n c:Nat} {x:List Value} (h:Row S w A n c x):n<=9223372036854775807:=zq (zq h.1 h.2.1) (by decide)
theorem A6l {l:List Ver} (h:l.length-1<l.length):K1 l=l[l.length-1]:=by unfold K1;rw [List.getLastD_eq_getLast?,List.getLast?_eq_getElem?,yc h];rfl
theorem A73 (v:Ver) (w:World):Calls Tryz.prog 206 #[.agg (J0 v).toArray] w (D4 (.bool (A1q v)) w):=by
 refine vE Tryz.func206 ?_;intro g c a;have h:=((Ctx.start w no (fun _ b=>b.elim)).loc a).1
 repeat' (first | refine B5 (by assumption) ?_ | refine B4 (by assumption) ?_ | refine Z9 (by decide) ?_ | refine h.c 0 rfl rfl ?_ | refine A09 (fun _=>?_) (fun _=>?_))
 all_goals (refine⟨C1 ?_,h.below⟩)
 all_goals clear h a
 all_goals try simp only [Bool.not_eq_true',Bool.not_eq_false'] at*
 all_goals simp only [A1q,mt, *]
 all_goals first | rfl | (simp;done) | skip
theorem B2J (e:Ent) (c:Option Addr) (p:Nat) (S:Nat->Prop) (w:World) (R:Row S w c e.vs.length p (e.vs.map J0).flatten):
  Calls Tryz.prog 293 #[.agg #[.string e.key,.slice c e.vs.length p]] w (D4 (.tuple #[.agg (J0 (A6d e).1).toArray,.bool (A6d e).2]) w):=by
 refine vE Tryz.func293 ?_;intro n y f;have h:=((Ctx.start w no (fun _ k=>k.elim)).loc f).1;refine h.n fun u t z h=>?_;refine h.c 1 rfl rfl ?_;have M:=E2 R;by_cases h0:e.vs.length=0
 ·refine B5 (by show ((e.vs.length:Int)==0)=true;rw [h0];rfl) ?_
  repeat (first | (intro s wA A;have h:=(h.loc A).1) | refine h.c 0 rfl rfl ?_ | (refine⟨_,?_,h.cells 0 rfl,?_⟩;(· rfl)) | (refine⟨h.may 0 rfl _ _ (nle rfl) rfl,?_⟩;intro wA A;have h:=(h.set 0 rfl A).1) | refine h.c 1 rfl rfl ?_ | (refine⟨_,?_,h.cells 1 rfl,?_⟩;(· rfl)) | (refine⟨h.may 1 rfl _ _ (nle rfl) rfl,?_⟩;intro wA A;have h:=(h.set 1 rfl A).1) | refine h.c 2 rfl rfl ?_ | (refine⟨_,?_,h.cells 2 rfl,?_⟩;(· rfl)) | (refine⟨h.may 2 rfl _ _ (nle rfl) rfl,?_⟩;intro wA A;have h:=(h.set 2 rfl A).1) | refine h.c 3 rfl rfl ?_ | (refine⟨_,?_,h.cells 3 rfl,?_⟩;(· rfl)) | (refine⟨h.may 3 rfl _ _ (nle rfl) rfl,?_⟩;intro wA A;have h:=(h.set 3 rfl A).1) | refine h.c 4 rfl rfl ?_ | (refine⟨_,?_,h.cells 4 rfl,?_⟩;(· rfl)) | (refine⟨h.may 4 rfl _ _ (nle rfl) rfl,?_⟩;intro wA A;have h:=(h.set 4 rfl A).1))
  rw [A6d,yn h0];exact⟨rfl,h.below⟩
 refine B4 (by show ((e.vs.length:Int)==0)=false;rw [ya];omega) ?_;have l:e.vs.length-1<e.vs.length:=by omega
 obtain⟨o,rfl,i⟩:=RowV.elem (R.below h.below) (e.vs.length-1) l;have b:IntKind.i64.wrap ((e.vs.length:Int)-1)=((e.vs.length-1:Nat):Int):=by rw [yh _ ⟨by omega,by omega⟩];omega
 refine h.c 1 rfl rfl ?_;refine h.c 1 rfl rfl ?_;refine⟨⟨by rw [b];omega,by rw [b];omega⟩,J0 e.vs[e.vs.length-1],rfl,by rw [b,zi];exact i,?_⟩;refine h.n fun g q v h=>?_;refine⟨h.may 0 rfl 0 _ (zc 3) rfl,?_⟩;intro m d;have h:=(h.set 0 rfl d).1;refine vD (.Q [0,1,2,3] (.n 4 (.q 5 .fin) .stop)) (fun x=>x.cell? ⟨g,0,none⟩=some (.int .i64 e.vs[e.vs.length-1].ver)/\x.cell? ⟨g,1,none⟩=some (.bool e.vs[e.vs.length-1].gone)/\x.cell? ⟨g,2,none⟩=some (.string e.vs[e.vs.length-1].body)) ⟨h.cell 0 rfl _ rfl,h.cell 0 rfl _ rfl,h.cell 0 rfl _ rfl⟩ ?_;have h:=h.drew;refine⟨J0 e.vs[e.vs.length-1],rfl,fun x a=>⟨a.1,a.2.1,a.2.2,t6⟩,_,fun x a=>a.2.1,⟨h.may 1 rfl 0 _ (zc 3) rfl,?_⟩,t6⟩;intro r j;have h:=(h.set 1 rfl j).1;refine⟨⟨h.cell 0 rfl _ rfl,h.cell 0 rfl _ rfl,h.cell 0 rfl _ rfl⟩,?_⟩;refine h.a 1 rfl rfl ?_;refine⟨?_,h.below⟩;rw [A6d,yo h0,A6l l];rfl
theorem A3J (e:Ent) (c:Int) (t:ByteArray) (A:Option Addr) (a:Nat) (S:Nat->Prop) (w:World) (R:Row S w A e.vs.length a (e.vs.map J0).flatten) (b:(A6d e).1.body.size<=maxLen):
  Calls Tryz.prog 270 #[.agg #[.string e.key,.slice A e.vs.length a],.int .i64 c,.string t] w (D4 (.bool (M6 e c t)) w):=by
 refine vE Tryz.func270 ?_;intro p k j;have h:=((Ctx.start w no (fun _ i=>i.elim)).loc j).1;refine h.a 0 rfl rfl ?_;refine h.q (B2J e A a S k (R.below h.below)) fun l y h=>?_;refine h.n fun o u r h=>?_;unfold M6;generalize A6d e=q at*;obtain⟨v,s⟩:=q;simp only at b ⊢;refine⟨h.may 0 rfl 0 _ (zc 3) rfl,?_⟩;intro n g;have h:=(h.set 0 rfl g).1;cases c0:(c==0);rotate_left
 ·refine B5 c0 ?_;exact⟨rfl,h.below⟩
 refine B4 c0 ?_;cases d:(c==1);rotate_left
 ·refine B5 d ?_;exact⟨rfl,h.below⟩
 refine B4 d ?_;cases f:(c==2)
 ·refine B4 f ?_;exact⟨rfl,h.below⟩
 refine B5 f ?_;cases s
 ·exact⟨rfl,h.below⟩
 refine h.c 0 rfl rfl ?_;refine h.q (B7f v.body b _) fun x m h=>?_;exact⟨rfl,h.below⟩
def B2K (o:Option Nat):Int:=match o with | some i=>(i:Int) | none => -1
theorem B0I (v:Ver) (a:Addr) (n:Int) (w:World) (b:w.cell? a=some (.int .i64 n)):Calls Tryz.prog 338 #[.agg (J0 v).toArray,.pointer (some a)] w (D4 (.bool (v.ver==n)) w):=by obtain⟨e,o,s⟩:=a;refine vE Tryz.func338 ?_;intro g f d;have h:=((Ctx.start w no (fun _ c=>c.elim)).loc d).1;refine h.c 0 rfl rfl ?_;exact⟨_,cell_later h.below b,rfl,h.below⟩
theorem A6m (l:List Ver) (n:Int):∀ i,i<=l.length->(∀ j (h:j<l.length),j<i->(l[j].ver==n)=false)->A3B l n=(A3B (l.drop i) n).map (·+i):=by
 intro i;induction i with
 | zero=>intro _ _;simp
 | succ i b=>
  intro c a;have t:i<l.length:=by omega
  rw [b (by omega) fun j h d=>a j h (by omega),yl t,A3B,a i t (by omega)];simp only [Bool.false_eq_true,if_false,Option.map_map];congr 1;funext x;simp only [Function.comp_apply];omega
theorem A4G (l:List Ver) (n:Int) (a:Addr) (A:Option Addr) (p:Nat) (S:Nat->Prop) (w:World) (R:Row S w A l.length p (l.map J0).flatten) (k:w.cell? a=some (.int .i64 n)):
  Calls Tryz.prog 337 #[.slice A l.length p,.func (.func 338) #[] #[.pointer (some a)]] w (D4 (.int .i64 (B2K (A3B l n))) w):=by
 refine vE Tryz.func337 ?_;have M:=E2 R;refine⟨Nat,fun i=>[(0,.slice A l.length p),(1,.func (.func 338) #[] #[.pointer (some a)]),(7,.int .i64 l.length),(8,.int .i64 i)],
  fun i d=>i<=l.length/\(∀ j (c:j<l.length),j<i->(l[j].ver==n)=false)/\Below w.heap.size w d,fun i _=>l.length-i,0,
  ⟨rfl,rfl,rfl,rfl,t6⟩,⟨zb _,fun j c h=>absurd h (Nat.not_lt_zero _),Below.refl _ _⟩,?_⟩
 rintro i d u ⟨g,e,b⟩;by_cases t:i<l.length
 ·refine dt (by omega) ?_;obtain⟨r,rfl,m⟩:=RowV.elem (R.below b) i t;refine⟨⟨by omega,by omega⟩,J0 l[i],rfl,m,?_⟩;refine B8 (B0I l[i] a n d (cell_later b k)) ?_;intro q o;have f:=b.trans (o.mono b.size);cases hv:(l[i].ver==n)
  ·refine⟨i+1,⟨rfl,rfl,rfl,yb _ (C4 (by omega)),t6⟩,⟨t,fun j c h=>?_,f⟩,by show l.length-(i+1)<l.length-i;omega⟩;obtain h|h:=Nat.lt_succ_iff_lt_or_eq.1 h
   ·exact e j c h
   ·subst h;exact hv
  ·refine⟨?_,f⟩;rw [A6m l n i g e,yl t,A3B,hv];show Ending.returned (.int .i64 (i:Int))=Ending.returned (.int .i64 ((0+i:Nat):Int));rw [zn]
 ·refine df (by omega) ?_;refine⟨?_,b⟩;rw [A6m l n i g e,zr (by omega),A3B];rfl
theorem B2L (e:Ent) (n:Int) (A:Option Addr) (c:Nat) (S:Nat->Prop) (w:World) (R:Row S w A e.vs.length c (e.vs.map J0).flatten):
  Calls Tryz.prog 320 #[.agg #[.string e.key,.slice A e.vs.length c],.int .i64 n] w (D4 (.int .i64 (B2K (A3B e.vs n))) w):=by
 refine vE Tryz.func320 ?_;intro j k d;have h:=((Ctx.start w no (fun _ b=>b.elim)).loc d).1;refine h.n fun g f l h=>?_;refine h.c 1 rfl rfl ?_;refine B8 (A4G e.vs n ⟨g,0,none⟩ A c S f (R.below h.below) (h.cell 0 rfl _ rfl)) ?_;intro i a;exact⟨rfl,(h.quiet a).1.below⟩
theorem B5E (e:Ent) (n:U7 e.key) (A:Option Addr) (c:Nat) (S:Nat->Prop) (w:World) (R:Row S w A e.vs.length c (e.vs.map J0).flatten):
  Calls Tryz.prog 159 #[.agg #[.string e.key,.slice A e.vs.length c]] w (D4 (.bool (A7h e)) w):=by
 refine vE Tryz.func159 ?_;intro g G b;have h:=((Ctx.start w no (fun _ d=>d.elim)).loc b).1;refine h.c 0 rfl rfl ?_;have M:=E2 R;refine⟨Nat × Int,fun x=>[(1,.pointer (some ⟨g,0,none⟩)),(3,.int .i64 x.2),(7,.slice A e.vs.length c),(8,.int .i64 e.vs.length),(9,.int .i64 x.1)],
  fun x f=>x.1<=e.vs.length/\B11 x.2 (e.vs.drop x.1)=B11 0 e.vs/\Ctx no w no f [(g,99,[.string e.key,.slice A e.vs.length c])],fun x _=>e.vs.length-x.1,(0,0),
  ⟨rfl,rfl,rfl,rfl,rfl,t6⟩,⟨zb _,rfl,h⟩,?_⟩
 rintro⟨i,l⟩ f u ⟨m,a,h⟩;simp only at m a;by_cases t:i<e.vs.length
 ·refine dt (by show (i:Int)<(e.vs.length:Int);omega) ?_;obtain⟨B,rfl,o⟩:=RowV.elem (R.below h.below) i t;rw [yl t,B11] at a;generalize e.vs[i]=v at*;refine⟨⟨by omega,by omega⟩,J0 v,rfl,o,?_⟩;refine h.n fun E z r h=>?_;refine⟨h.may 0 rfl 0 _ (zc 3) rfl,?_⟩;intro C p;have h:=(h.set 0 rfl p).1;refine⟨J0 v,rfl,h.cells 0 rfl,?_⟩;refine h.q (A73 v _) fun w7 y h=>?_;have out:(A1q v&&decide (l<v.ver))=false->D4 (.bool (A7h e)) w (.returned (.bool false)) w7:=fun d=>⟨by rw [d] at a;rw [A7h,<-a];rfl,h.below⟩;cases hv:A1q v
  ·refine out ?_;rw [hv];rfl
  ·refine h.c 0 rfl rfl ?_;by_cases j:l<v.ver
   ·refine df (by show ¬ v.ver<=l;omega) ?_;refine h.c 0 rfl rfl ?_;refine⟨(i+1,v.ver),⟨rfl,rfl,rfl,rfl,yb _ (C4 (by omega)),t6⟩,⟨t,?_,h.drop⟩,by show e.vs.length-(i+1)<e.vs.length-i;omega⟩;rw [<-a,hv,zz j];rfl
   ·refine dt (by show v.ver<=l;omega) ?_;refine out ?_;rw [y8 j,Bool.and_false]
 ·refine df (by show ¬ (i:Int)<(e.vs.length:Int);omega) ?_;rw [zr (by omega),B11] at a;have q:A7h e=(B1d e.key&&decide (1<=e.vs.length)&&decide (e.vs.length<=12)):=by rw [A7h,<-a];rfl
  rw [q];refine h.c 0 rfl rfl ?_;refine h.q (B1e e.key n _) fun F D h=>?_;cases s:B1d e.key
  ·exact⟨rfl,h.below⟩
  refine h.c 0 rfl rfl ?_;by_cases b:1<=e.vs.length
  ·refine dt (by show (1:Int)<=(e.vs.length:Int);omega) ?_;refine h.c 0 rfl rfl ?_;refine⟨C1 ?_,h.below⟩;rw [zz b,Bool.true_and,Bool.true_and];by_cases k:e.vs.length<=12
   ·rw [zz k];exact zz (by omega)
   ·rw [y8 k];exact y8 (by omega)
  ·refine df (by show ¬ (1:Int)<=(e.vs.length:Int);omega) ?_;refine⟨C1 ?_,h.below⟩;rw [y8 b];rfl
theorem B5F (a b:Ent) (A B:Option Addr) (p f:Nat) (S:Nat->Prop) (w:World) (R:Row S w A a.vs.length p (a.vs.map J0).flatten) (r:Row S w B b.vs.length f (b.vs.map J0).flatten):
  Calls Tryz.prog 61 #[.agg #[.string a.key,.slice A a.vs.length p],.agg #[.string b.key,.slice B b.vs.length f]] w (D4 (.bool (eqE a b)) w):=by
 refine vE Tryz.func61 ?_;intro g E n;have h:=((Ctx.start w no (fun _ s=>s.elim)).loc n).1;refine h.n fun m D F h=>?_;have M:=E2 R;refine h.c 1 rfl rfl ?_;refine h.c 0 rfl rfl ?_;unfold eqE;cases k:D7 a.key b.key
 ·refine B5 (by show (!D7 a.key b.key)=true;rw [k];rfl) ?_;exact⟨rfl,h.below⟩
 refine B4 (by show (!D7 a.key b.key)=false;rw [k];rfl) ?_;refine h.c 1 rfl rfl ?_;refine h.c 0 rfl rfl ?_;by_cases j:a.vs.length=b.vs.length;rotate_left
 ·refine B5 (by show ((a.vs.length:Int) != (b.vs.length:Int))=true;rw [bne_iff_ne];omega) ?_;rw [A0K _ _ _ j];exact⟨rfl,h.below⟩
 refine B4 (by show ((a.vs.length:Int) != (b.vs.length:Int))=false;rw [j];simp) ?_;refine⟨Nat,fun i=>[(2,.pointer (some ⟨g,0,none⟩)),(3,.pointer (some ⟨m,0,none⟩)),(5,.int .i64 i)],
  fun i c=>i<=a.vs.length/\J7 A5H (a.vs.drop i) (b.vs.drop i)=J7 A5H a.vs b.vs/\Ctx no w no c [(m,99,[.string b.key,.slice B b.vs.length f]),(g,99,[.string a.key,.slice A a.vs.length p])],fun i _=>a.vs.length-i,0,
  ⟨rfl,rfl,rfl,t6⟩,⟨zb _,rfl,h⟩,?_⟩
 rintro i c v ⟨u,e,h⟩;refine h.c 1 rfl rfl ?_;by_cases l:i<a.vs.length
 ·refine dt (by omega) ?_;obtain⟨C,rfl,q⟩:=RowV.elem (R.below h.below) i l;obtain⟨t,rfl,o⟩:=RowV.elem (r.below h.below) i (by omega);rw [yl l,yl (show i<b.vs.length by omega),J7] at e;generalize a.vs[i]=x at*;generalize b.vs[i]'(by omega)=y at*;refine vD (.Q [0,1,2,3,4,5,6,7,8,9,10] .fin) (Keeps (fun b=>b<c.heap.size) c) (Keeps.start _ _) ?_;refine⟨_,fun d z=>z.look (h.cell 1 rfl _ rfl),⟨by omega,by omega⟩,J0 x,rfl,fun d z=>z.looks _ _ q,_,fun d z=>z.look (h.cell 0 rfl _ rfl),⟨by omega,by omega⟩,J0 y,rfl,fun d z=>z.looks _ _ o,_,fun w=>A0O B2G (A5L 9998 · x y) _ _ w,?_⟩;have h:=h.drew;cases hv:A5H x y
  ·rw [hv] at e;refine⟨?_,h.below⟩;rw [<-e];rfl
  ·rw [hv] at e;refine⟨i+1,⟨rfl,rfl,yb _ (C4 (by omega)),t6⟩,⟨l,e,h⟩,by show a.vs.length-(i+1)<a.vs.length-i;omega⟩
 ·refine df (by omega) ?_;rw [zr (by omega),zr (by omega),J7] at e;rw [<-e];exact⟨rfl,h.below⟩
end Go.Proofs.YtefdfaeieekioaaGreatDoor
