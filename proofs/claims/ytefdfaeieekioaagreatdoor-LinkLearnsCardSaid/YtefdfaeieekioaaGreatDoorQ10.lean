import Derived.Test.YtefdfaeieekioaaGreatDoorQ09
set_option maxRecDepth 100000
set_option maxHeartbeats 40000000
set_option linter.unusedVariables false
set_option linter.unusedSimpArgs false
namespace Go.Proofs.YtefdfaeieekioaaGreatDoor
open Go.Vc Go.RowKit Go.Fl Go.ChangeShapes Go.WideShapes Go.ChangeAt
theorem A0g (H:Sh):(H.scr.s.size:Int)=H.txt.length:=by show (H.txt.toArray.size:Int)=_;rw [List.size_toArray]
theorem B92 {H:Sh} (f:H.Ok) (i:H.down=false) {r:Rc} (k:r.Ok) (e:Bool):
  B9M H.room H.scr H.first (H.l.map Q9) false (Q9 r) e=if H.room<D2 (Q9 r) then (H.fell.jour,5) else ((H.write r e).jour,0):=by
 have m:=A1V k;unfold B9M;rw [yo (by decide),yo (by omega)];by_cases h:H.room<D2 (Q9 r)
 ·rw [yn h,yn h];rfl
 rw [yo h,yo h];have b:(H.write r e).l.map Q9=H.l.map Q9++[Q9 r]:=by show (H.l++[r]).map Q9=_;rw [List.map_append];rfl
 have s:(H.write r e).scr.s=H.scr.s++G6 (Q9 r):=by show (⟨(H.write r e).txt.toArray⟩:ByteArray)=⟨H.txt.toArray⟩++⟨(L5 (Q9 r)).toArray⟩;rw [Sh.write_txt,A0I]
 have a:=Sh.write_pressed f r e;have c:=Sh.write_room H r e;have z:((H.scr.s++G6 (Q9 r)).size:Int)=((H.txt++L5 (Q9 r)).length:Int):=by rw [<-s,A0g,Sh.write_txt]
 have d:(H.write r e).down=false:=i;have l:(H.write r e).scr.kept=(H.kept||e):=rfl;have g:∀ p:Bool,p=e->(H.write r e).jour=JL (H.room-D2 (Q9 r)) ⟨H.scr.s++G6 (Q9 r),(H.write r e).scr.pressed,H.kept||p⟩ H.first (H.l.map Q9++[Q9 r]) false:=fun p j=>by subst j;unfold Sh.jour;rw [b,c,d,<-s];rfl
 cases e with
 | true=>
  rw [yn rfl,g true rfl,a,yn rfl,z,Bool.or_true]
 | false=>
  rw [yo (by decide),g false rfl,a,yo (by decide),Bool.or_false];rfl
theorem B93 {H:Sh} (g:H.Ok) (c:H.down=false) {k:Known} (f:k.Ok):
  B9N H.room H.scr H.first (H.l.map Q9) false ⟨(J8 k).toArray⟩=if H.room<D2 ⟨(J8 k).toArray⟩ then (H.fell.jour,5) else ((H.lay k).jour,0):=by
 have s:(⟨(J8 k).toArray⟩:ByteArray).size<=270009:=by show (J8 k).toArray.size<=_;rw [List.size_toArray];exact X2 f
 unfold B9N;rw [yo (by decide),yo (by omega)];by_cases h:H.room<D2 ⟨(J8 k).toArray⟩
 ·rw [yn h,yn h];rfl
 rw [yo h,yo h];have e:H.room-D2 ⟨(J8 k).toArray⟩+(H.scr.s.size:Int)=(H.lay k).room:=by rw [A0g];show H.tot-(H.txt.length:Int)-D2 _+_=H.tot-((H.lay k).txt.length:Int);rw [Sh.lay_txt];unfold D2;omega
 have a:(H.lay k).scr=⟨G6 ⟨(J8 k).toArray⟩,D2 ⟨(J8 k).toArray⟩,true⟩:=by have b:(H.lay k).texts.take (1+(H.lay k).np)=(H.lay k).texts:=rfl;show Scroll.mk ⟨(H.lay k).txt.toArray⟩ ((C9 ((H.lay k).texts.take (1+(H.lay k).np))).length:Nat) true=_;rw [b,show C9 (H.lay k).texts=(H.lay k).txt from rfl,Sh.lay_txt];rfl
 have d:(H.lay k).down=false:=c;rw [e];unfold Sh.jour;rw [a,d];rfl
theorem B0g (g:Nat) (o y:Operand) (w:World):(do eqGuard BinOp.eql 50 o y (.pointer (some ⟨g,0,none⟩)) (.pointer none);Go.binOp BinOp.eql 50 (.pointer (some ⟨g,0,none⟩)) (.pointer none):Sem Value).run Tryz.prog w=.ok (.bool false) w:=by kernel_rfl
theorem A1b (g j:Nat) (k:Known) (x:SX) (A:Option Addr) (c:Nat) (d:Bool) (w:World) (h:Blk w g 92 (shC j k x A c d)):Calls Tryz.prog 55 #[.pointer (some ⟨g,0,none⟩)] w (D4 (.bool d) w):=by refine vE Tryz.func55 ?_;exact⟨.bool false,fun w=>B0g g _ _ w,_,(h.cell 12).trans rfl,rfl,Below.refl _ _⟩
theorem A9h (g j c b:Nat) (H:Sh) (S:Nat->Prop) (w:World) (h:ShelfK g j c b H S w):Calls Tryz.prog 55 #[.pointer (some ⟨g,0,none⟩)] w (D4 (.bool H.down) w):=by obtain⟨x,A,cap,O⟩:=h;exact A1b g j _ _ _ _ _ w O.2.1
theorem A0U (g b d c:Nat) (H:Sh) (h:H.Ok) (S:Nat->Prop) (w:World) (K:ShelfK g b d c H S w):Calls Tryz.prog 22 #[.pointer (some ⟨g,0,none⟩)] w (D4 (.int .i64 H.k.seq) w):=by
 obtain⟨x,A,cap,O⟩:=K;have l:Go.Vc.cellsAt w ⟨g,1,none⟩ (knC H.k x A cap) 0:=C0 O.2.1 1 _ 0 (fun j v a=>by
  have e:(shC (b) H.k x A cap H.down)[1+0+j]?=(knC H.k x A cap++[.bool H.down])[j]?:=by rw [show 1+0+j=j+1 from by omega];rfl
  rw [e,List.getElem?_append_left]
  ·exact a
  ·obtain h|h:=zm j (knC H.k x A cap).length
   ·exact h
   ·rw [List.getElem?_eq_none h] at a;cases a)
 refine vE Tryz.func22 ?_;refine⟨.bool false,fun w=>B0g g _ _ w,knC H.k x A cap,rfl,l,?_⟩;refine B8 (A5c H.k h.k x A cap w) ?_;intro w1 f;exact⟨rfl,f⟩
theorem A3b (g j c b:Nat) (H:Sh) (S:Nat->Prop) (w:World) (h:ShelfK g j c b H S w):Calls Tryz.prog 68 #[.pointer (some ⟨g,0,none⟩)] w (D4 (.int .i64 H.k.ep) w):=by obtain⟨x,A,cap,O⟩:=h;refine vE Tryz.func68 ?_;exact⟨.bool false,fun w=>B0g g _ _ w,_,(O.2.1.cell 10).trans rfl,rfl,Below.refl _ _⟩
theorem B0h (g j c b:Nat) (H:Sh) (S:Nat->Prop) (w:World) (h:ShelfK g j c b H S w):Calls Tryz.prog 111 #[.pointer (some ⟨g,0,none⟩)] w (D4 (.int .i64 H.k.ln) w):=by obtain⟨x,A,cap,O⟩:=h;refine vE Tryz.func111 ?_;exact⟨.bool false,fun w=>B0g g _ _ w,_,(O.2.1.cell 11).trans rfl,rfl,Below.refl _ _⟩
theorem A0h (g j d b:Nat) (H:Sh) (f:H.Ok) (S:Nat->Prop) (w:World) (K:ShelfK g j d b H S w):Calls Tryz.prog 26 #[.pointer (some ⟨g,0,none⟩)] w (B5G 45 8 H.k.pend.length (H.k.pend.map dC).flatten w):=by obtain⟨x,A,cap,h⟩:=K;have R:=(h.left yy).2;have l:=f.k.len;refine vE Tryz.func26 ?_;refine⟨.bool false,fun w=>B0g g _ _ w,_,(h.2.1.cell 9).trans rfl,?_⟩;refine⟨(X0 A H.k.pend.length cap _ (T4 _) (zl _) (by omega) S w R).mono fun n k q=>?_⟩;obtain⟨a,c,e,i,o⟩:=q;exact⟨_,e,a,c,rfl,i,o⟩
theorem F8 (g j:Nat) (k:Known) (x:SX) (A:Option Addr) (c:Nat) (e:Int) (w:World) (B:Blk w g 92 (shC j k x A c false)):
  Calls Tryz.prog 115 #[.pointer (some ⟨g,0,none⟩),.int .i64 e] w (fun n w'=>n=.returned (.int .i64 (if e=0 then 0 else 7))/\Turn (fun x=>x=g) w w'/\Blk w' g 92 (shC j k x A c (e != 0))):=by
 have h:=CtxF.enterL B (S:=no) (fun _ d=>d.elim) (R:=fun _ _=>True) trivial Stab.true;refine vE Tryz.func115 ?_;by_cases h0:e=0
 ·subst h0;obtain⟨a,b,_⟩:=h.leaveL Stab.true;exact⟨rfl,a,b⟩
 ·refine B4 (by rw [ya];exact h0) ?_;refine h.s 0 rfl fun i f h=>?_;obtain⟨a,b,_⟩:=h.leaveL Stab.true;refine⟨?_,a,?_⟩
  ·rw [yo h0];rfl
  ·rw [show (e != 0)=true from by simpa using h0];exact b
theorem rowOf {w:World} {g T:Nat} {cs:List Value} {S:Nat->Prop} (h:Blk w g T cs) (a:S g) (n:Nat) (b:n<=1000):Row S w (some ⟨g,0,none⟩) n n cs:=
 ⟨zc _,zq b (by decide),fun _=>⟨_,rfl,a,fun j c u=>by rw [yi,zn,h.cell];exact u⟩⟩
theorem RetOb.sh {d g a b:Nat} {H:Sh} {k:Known} {x:SX} {A:Option Addr} {c:Nat} {dn:Bool} {J:Jour} {S e:Nat->Prop} {w w':World} {s:List Value}
  (q:CtxF no (bare w) e w' [(d,92,s)] [] (Sep 0 (Sep 0 (Keep w S) (KnR k x A c)) (JourK g a b J))) (f:s=shC g k x A c dn) (i:H.k=k) (h:H.down=dn) (j:H.jour=J) (v:Value):RetOb S w v (ShelfK d g a b H) (.returned v) w':=by
 subst i h j f;obtain⟨l,m,n,o,p⟩:=ObjK.leave q v;exact⟨l,m,n,o,x,A,c,p⟩
def B4m (H:Sh) (r:Rc):Int:=if H.room<D2 (Q9 r) then 7 else 0
def A2m (H:Sh) (r:Rc) (press:Bool):Sh:=if H.room<D2 (Q9 r) then H.fell else H.write r press
theorem L6 (D z gc E:Nat) (H:Sh) (Y:H.Ok) (hd:H.down=false) (F:Rc) (hr:F.Ok) (a0:Bool) (t:Int) (u:V) (ev:vRc F=M8 [N9 t,u]) (x x':SX) (A A':Option Addr) (C a3:Nat)
  (Sx:Nat->Prop) (f:World) (a7:∀ x,Sx x->x<f.heap.size) (i:EnvFree Sx f) (hK:ObjK D 92 (shC z H.k x A C false) (fun S f=>KnR H.k x A C S f/\KnR (A1W H.k F) x' A' a3 S f) (JourK z gc E H.jour) Sx f)
  (Sv:Nat->Prop) (a5:Option Addr) (a6:Nat) (J:RepC Sv f u (D3 u a5 a6)) (K:∀ y,Sv y->y<f.heap.size/\¬ Sx y):
  Calls Tryz.prog 66 #[.pointer (some ⟨D,0,none⟩),.agg (knC (A1W H.k F) x' A' a3).toArray,.bool a0,.int .i64 t,.agg (D3 u a5 a6).toArray] f (RetOb Sx f (.int .i64 (B4m H F)) (ShelfK D z gc E (A2m H F a0))):=by
 have R:Stab (fun S f=>KnR H.k x A C S f/\KnR (A1W H.k F) x' A' a3 S f):=yy.and yy;have b5:=Y.len;have h:=hK.enter a7 R yx;obtain⟨q,a4⟩:∃ q:Jour × Int,q=if H.room<D2 (Q9 F) then (H.fell.jour,5) else ((H.write F a0).jour,0):=⟨_,rfl⟩
 have b8:=A1V hr;have b6:=Y.size;have b1:=Y.room;have b7:=Y.tot;have G:=fun Sa f a7 i O=>B5q z gc E H.room H.scr H.first (H.l.map Q9) H.down (Q9 F) a0 (by omega) ⟨b1,by unfold Sh.room;omega⟩ (by have:=A0g H;omega) (by rw [zl];omega) Sa f a7 i O;rw [hd,B92 Y hd hr a0,<-a4] at G;have ej:H.jour=JL H.room H.scr H.first (H.l.map Q9) false:=by unfold Sh.jour;rw [hd]
 have a8:=(A3V hr).2.2;have b2:=B3D hr;rw [ev] at a8 b2;have I:∀ (S:Nat->Prop) (f:World) (g:Nat),RepC S f (M8 [N9 t,u]) [.int .i64 3,.int .i64 0,.string ⟨#[]⟩,.slice (some ⟨g,0,none⟩) 2 2]->Tab f->Calls Tryz.prog 117 #[.agg #[.int .i64 3,.int .i64 0,.string ⟨#[]⟩,.slice (some ⟨g,0,none⟩) 2 2]] f (D4 (.string (Q9 F)) f):=fun S f g b0 ht=>by have hp:=A2Z (M8 [N9 t,u]) a8 (by omega) 3 0 ⟨#[]⟩ (some ⟨g,0,none⟩) 2 2 S f b0 ht;rw [<-ev] at hp;exact hp
 refine vE Tryz.func66 ?_;refine h.n fun g6 b9 b3 h=>?_;refine h.n fun g9 c0 b4 h=>?_;rw [ej] at h;refine Drawn.join (α:=Nat) (fun a9=>[(0,.pointer (some ⟨D,0,none⟩)),(6,.pointer (some ⟨g6,0,none⟩)),(11,.int .i64 (if q.2=0 then 0 else 7))])
  (fun a9 wS=>∃ S2,CtxF no (bare f) S2 wS [(a9,107,[.int .i64 1,.int .i64 t,.string ⟨#[]⟩,.slice none 0 0]++D3 u a5 a6),(g9,107,D3 u a5 a6),(g6,90,knC (A1W H.k F) x' A' a3),(D,92,shC z H.k x A C (q.2 != 0))] [] (Sep 0 (Sep 0 (Keep f Sx) (fun S f=>KnR H.k x A C S f/\KnR (A1W H.k F) x' A' a3 S f)) (JourK z gc E q.1))) ?_ ?_
 ·refine vD (.Q [0,1,2,3,5,11] (.n 4 (.n 6 (.n 7 (.n 8 (.n 9 (.n 10 (.n 12 (.n 13 (.q 14 .fin) .stop) .stop) .stop) .stop) .stop) .stop) (.n 7 (.n 6 (.n 8 (.n 9 (.n 10 (.n 12 (.n 13 (.q 14 .fin) .stop) .stop) .stop) .stop) .stop) .stop) .stop)) (.n 6 (.n 4 (.n 7 (.n 8 (.n 9 (.n 10 (.n 12 (.n 13 (.q 14 .fin) .stop) .stop) .stop) .stop) .stop) .stop) (.n 7 (.n 4 (.n 8 (.n 9 (.n 10 (.n 12 (.n 13 (.q 14 .fin) .stop) .stop) .stop) .stop) .stop) (.n 8 (.n 4 (.n 9 (.n 10 (.n 12 (.n 13 (.q 14 .fin) .stop) .stop) .stop) .stop) (.n 9 (.n 4 (.n 10 (.n 12 (.n 13 (.q 14 .fin) .stop) .stop) .stop) (.n 10 (.n 4 (.n 12 (.n 13 (.q 14 .fin) .stop) .stop) .stop) .stop)) .stop)) .stop)) .stop)) (.n 7 (.n 4 (.n 6 (.n 8 (.n 9 (.n 10 (.n 12 (.n 13 (.q 14 .fin) .stop) .stop) .stop) .stop) .stop) .stop) (.n 6 (.n 4 (.n 8 (.n 9 (.n 10 (.n 12 (.n 13 (.q 14 .fin) .stop) .stop) .stop) .stop) .stop) (.n 8 (.n 4 (.n 9 (.n 10 (.n 12 (.n 13 (.q 14 .fin) .stop) .stop) .stop) .stop) (.n 9 (.n 4 (.n 10 (.n 12 (.n 13 (.q 14 .fin) .stop) .stop) .stop) (.n 10 (.n 4 (.n 12 (.n 13 (.q 14 .fin) .stop) .stop) .stop) .stop)) .stop)) .stop)) .stop)) .stop)))) (fun _=>True) trivial ?_;have h:=h.drew;refine⟨?_,?_⟩
  ·skip
   refine⟨_,h.cell 2 rfl _ rfl,t6,?_,?_⟩
   ·skip
    refine h.q' (N5 t _) fun j Q h=>?_;refine⟨h.a' 0 rfl rfl ?_,t6⟩;refine⟨h.n' fun w a1 Z h=>?_,t6⟩;refine⟨h.q' (K4 (some ⟨w,0,none⟩) 2 2 _) fun j Q h=>?_,t6⟩;refine⟨?_,t6⟩;obtain⟨k,M,a,b,⟨l,N,U,W,r,X⟩,P⟩:=h.row;have v:=Keep.of r (G3 u _) J K;refine B8 (I (fun y=>y=w\/l y) _ w (by rw [M8,RepC];exact⟨some ⟨w,0,none⟩,2,_,rfl,.cons (.leaf _ _ 1 t ⟨#[]⟩) (.cons (v.sub fun E o=>.inr o) (.nil _ _)),rowOf (h.blk 0 rfl) (.inl rfl) 2 (by decide)⟩) (i.now h).tab) ?_;intro j Q;have h:=(h.quiet Q).1;refine⟨t6,?_,t6⟩;obtain⟨k,Sa,a,b,d,O⟩:=h.row;refine⟨(G Sa _ (fun x p=>h.ctx.lt x (b x p).1) (i.sub d a) O).mono fun n s c=>?_⟩;obtain⟨e,T,L,m,O⟩:=c;have h:=h.turnO (Sep.stab yq R) a b d T m O yx;refine⟨_,e,t6,⟨(F8 D z H.k x A C q.2 _ (h.blk 3 rfl)).mono fun n s c=>?_⟩,t6⟩;obtain⟨e,T,B⟩:=c;have h:=(h.turnL 3 rfl T B).1;exact⟨_,e,t6,w,⟨rfl,rfl,rfl,t6⟩,_,h⟩
   refine⟨h.a' 0 rfl rfl ?_,t6⟩;refine⟨h.q' (N5 t _) fun j Q h=>?_,t6⟩;refine⟨h.n' fun w a1 Z h=>?_,t6⟩;refine⟨h.q' (K4 (some ⟨w,0,none⟩) 2 2 _) fun j Q h=>?_,t6⟩;refine⟨?_,t6⟩;obtain⟨k,M,a,b,⟨l,N,U,W,r,X⟩,P⟩:=h.row;have v:=Keep.of r (G3 u _) J K;refine B8 (I (fun y=>y=w\/l y) _ w (by rw [M8,RepC];exact⟨some ⟨w,0,none⟩,2,_,rfl,.cons (.leaf _ _ 1 t ⟨#[]⟩) (.cons (v.sub fun E o=>.inr o) (.nil _ _)),rowOf (h.blk 0 rfl) (.inl rfl) 2 (by decide)⟩) (i.now h).tab) ?_;intro j Q;have h:=(h.quiet Q).1;refine⟨t6,?_,t6⟩;obtain⟨k,Sa,a,b,d,O⟩:=h.row;refine⟨(G Sa _ (fun x p=>h.ctx.lt x (b x p).1) (i.sub d a) O).mono fun n s c=>?_⟩;obtain⟨e,T,L,m,O⟩:=c;have h:=h.turnO (Sep.stab yq R) a b d T m O yx;refine⟨_,e,t6,⟨(F8 D z H.k x A C q.2 _ (h.blk 3 rfl)).mono fun n s c=>?_⟩,t6⟩;obtain⟨e,T,B⟩:=c;have h:=(h.turnL 3 rfl T B).1;exact⟨_,e,t6,w,⟨rfl,rfl,rfl,t6⟩,_,h⟩
  refine⟨?_,?_⟩
  ·skip
   refine h.q' (N5 t _) fun j Q h=>?_;refine⟨?_,?_⟩
   ·skip
    refine⟨_,h.cell 2 rfl _ rfl,t6,h.a' 0 rfl rfl ?_,t6⟩;refine⟨h.n' fun w a1 Z h=>?_,t6⟩;refine⟨h.q' (K4 (some ⟨w,0,none⟩) 2 2 _) fun j Q h=>?_,t6⟩;refine⟨?_,t6⟩;obtain⟨k,M,a,b,⟨l,N,U,W,r,X⟩,P⟩:=h.row;have v:=Keep.of r (G3 u _) J K;refine B8 (I (fun y=>y=w\/l y) _ w (by rw [M8,RepC];exact⟨some ⟨w,0,none⟩,2,_,rfl,.cons (.leaf _ _ 1 t ⟨#[]⟩) (.cons (v.sub fun E o=>.inr o) (.nil _ _)),rowOf (h.blk 0 rfl) (.inl rfl) 2 (by decide)⟩) (i.now h).tab) ?_;intro j Q;have h:=(h.quiet Q).1;refine⟨t6,?_,t6⟩;obtain⟨k,Sa,a,b,d,O⟩:=h.row;refine⟨(G Sa _ (fun x p=>h.ctx.lt x (b x p).1) (i.sub d a) O).mono fun n s c=>?_⟩;obtain⟨e,T,L,m,O⟩:=c;have h:=h.turnO (Sep.stab yq R) a b d T m O yx;refine⟨_,e,t6,⟨(F8 D z H.k x A C q.2 _ (h.blk 3 rfl)).mono fun n s c=>?_⟩,t6⟩;obtain⟨e,T,B⟩:=c;have h:=(h.turnL 3 rfl T B).1;exact⟨_,e,t6,w,⟨rfl,rfl,rfl,t6⟩,_,h⟩
   refine⟨h.a' 0 rfl rfl ?_,t6⟩;refine⟨?_,?_⟩
   ·skip
    refine⟨_,h.cell 2 rfl _ rfl,t6,h.n' fun w a1 Z h=>?_,t6⟩;refine⟨h.q' (K4 (some ⟨w,0,none⟩) 2 2 _) fun j Q h=>?_,t6⟩;refine⟨?_,t6⟩;obtain⟨k,M,a,b,⟨l,N,U,W,r,X⟩,P⟩:=h.row;have v:=Keep.of r (G3 u _) J K;refine B8 (I (fun y=>y=w\/l y) _ w (by rw [M8,RepC];exact⟨some ⟨w,0,none⟩,2,_,rfl,.cons (.leaf _ _ 1 t ⟨#[]⟩) (.cons (v.sub fun E o=>.inr o) (.nil _ _)),rowOf (h.blk 0 rfl) (.inl rfl) 2 (by decide)⟩) (i.now h).tab) ?_;intro j Q;have h:=(h.quiet Q).1;refine⟨t6,?_,t6⟩;obtain⟨k,Sa,a,b,d,O⟩:=h.row;refine⟨(G Sa _ (fun x p=>h.ctx.lt x (b x p).1) (i.sub d a) O).mono fun n s c=>?_⟩;obtain⟨e,T,L,m,O⟩:=c;have h:=h.turnO (Sep.stab yq R) a b d T m O yx;refine⟨_,e,t6,⟨(F8 D z H.k x A C q.2 _ (h.blk 3 rfl)).mono fun n s c=>?_⟩,t6⟩;obtain⟨e,T,B⟩:=c;have h:=(h.turnL 3 rfl T B).1;exact⟨_,e,t6,w,⟨rfl,rfl,rfl,t6⟩,_,h⟩
   refine⟨h.n' fun w a1 Z h=>?_,t6⟩;refine⟨?_,?_⟩
   ·skip
    refine⟨_,h.cell 3 rfl _ rfl,t6,h.q' (K4 (some ⟨w,0,none⟩) 2 2 _) fun j Q h=>?_,t6⟩;refine⟨?_,t6⟩;obtain⟨k,M,a,b,⟨l,N,U,W,r,X⟩,P⟩:=h.row;have v:=Keep.of r (G3 u _) J K;refine B8 (I (fun y=>y=w\/l y) _ w (by rw [M8,RepC];exact⟨some ⟨w,0,none⟩,2,_,rfl,.cons (.leaf _ _ 1 t ⟨#[]⟩) (.cons (v.sub fun E o=>.inr o) (.nil _ _)),rowOf (h.blk 0 rfl) (.inl rfl) 2 (by decide)⟩) (i.now h).tab) ?_;intro j Q;have h:=(h.quiet Q).1;refine⟨t6,?_,t6⟩;obtain⟨k,Sa,a,b,d,O⟩:=h.row;refine⟨(G Sa _ (fun x p=>h.ctx.lt x (b x p).1) (i.sub d a) O).mono fun n s c=>?_⟩;obtain⟨e,T,L,m,O⟩:=c;have h:=h.turnO (Sep.stab yq R) a b d T m O yx;refine⟨_,e,t6,⟨(F8 D z H.k x A C q.2 _ (h.blk 3 rfl)).mono fun n s c=>?_⟩,t6⟩;obtain⟨e,T,B⟩:=c;have h:=(h.turnL 3 rfl T B).1;exact⟨_,e,t6,w,⟨rfl,rfl,rfl,t6⟩,_,h⟩
   refine⟨h.q' (K4 (some ⟨w,0,none⟩) 2 2 _) fun j Q h=>?_,t6⟩;refine⟨?_,?_⟩
   ·skip
    refine⟨_,h.cell 3 rfl _ rfl,t6,?_,t6⟩;obtain⟨k,M,a,b,⟨l,N,U,W,r,X⟩,P⟩:=h.row;have v:=Keep.of r (G3 u _) J K;refine B8 (I (fun y=>y=w\/l y) _ w (by rw [M8,RepC];exact⟨some ⟨w,0,none⟩,2,_,rfl,.cons (.leaf _ _ 1 t ⟨#[]⟩) (.cons (v.sub fun E o=>.inr o) (.nil _ _)),rowOf (h.blk 0 rfl) (.inl rfl) 2 (by decide)⟩) (i.now h).tab) ?_;intro j Q;have h:=(h.quiet Q).1;refine⟨t6,?_,t6⟩;obtain⟨k,Sa,a,b,d,O⟩:=h.row;refine⟨(G Sa _ (fun x p=>h.ctx.lt x (b x p).1) (i.sub d a) O).mono fun n s c=>?_⟩;obtain⟨e,T,L,m,O⟩:=c;have h:=h.turnO (Sep.stab yq R) a b d T m O yx;refine⟨_,e,t6,⟨(F8 D z H.k x A C q.2 _ (h.blk 3 rfl)).mono fun n s c=>?_⟩,t6⟩;obtain⟨e,T,B⟩:=c;have h:=(h.turnL 3 rfl T B).1;exact⟨_,e,t6,w,⟨rfl,rfl,rfl,t6⟩,_,h⟩
   refine⟨?_,t6⟩;obtain⟨k,M,a,b,⟨l,N,U,W,r,X⟩,P⟩:=h.row;have v:=Keep.of r (G3 u _) J K;refine B8 (I (fun y=>y=w\/l y) _ w (by rw [M8,RepC];exact⟨some ⟨w,0,none⟩,2,_,rfl,.cons (.leaf _ _ 1 t ⟨#[]⟩) (.cons (v.sub fun E o=>.inr o) (.nil _ _)),rowOf (h.blk 0 rfl) (.inl rfl) 2 (by decide)⟩) (i.now h).tab) ?_;intro j Q;have h:=(h.quiet Q).1;refine⟨t6,⟨_,h.cell 3 rfl _ rfl,t6,?_⟩,t6⟩;refine⟨?_,t6⟩;obtain⟨k,Sa,a,b,d,O⟩:=h.row;refine⟨(G Sa _ (fun x p=>h.ctx.lt x (b x p).1) (i.sub d a) O).mono fun n s c=>?_⟩;obtain⟨e,T,L,m,O⟩:=c;have h:=h.turnO (Sep.stab yq R) a b d T m O yx;refine⟨_,e,t6,⟨(F8 D z H.k x A C q.2 _ (h.blk 3 rfl)).mono fun n s c=>?_⟩,t6⟩;obtain⟨e,T,B⟩:=c;have h:=(h.turnL 3 rfl T B).1;exact⟨_,e,t6,w,⟨rfl,rfl,rfl,t6⟩,_,h⟩
  refine⟨h.a' 0 rfl rfl ?_,t6⟩;refine⟨?_,?_⟩
  ·skip
   refine⟨_,h.cell 2 rfl _ rfl,t6,h.q' (N5 t _) fun j Q h=>?_,t6⟩;refine⟨h.n' fun w a1 Z h=>?_,t6⟩;refine⟨h.q' (K4 (some ⟨w,0,none⟩) 2 2 _) fun j Q h=>?_,t6⟩;refine⟨?_,t6⟩;obtain⟨k,M,a,b,⟨l,N,U,W,r,X⟩,P⟩:=h.row;have v:=Keep.of r (G3 u _) J K;refine B8 (I (fun y=>y=w\/l y) _ w (by rw [M8,RepC];exact⟨some ⟨w,0,none⟩,2,_,rfl,.cons (.leaf _ _ 1 t ⟨#[]⟩) (.cons (v.sub fun E o=>.inr o) (.nil _ _)),rowOf (h.blk 0 rfl) (.inl rfl) 2 (by decide)⟩) (i.now h).tab) ?_;intro j Q;have h:=(h.quiet Q).1;refine⟨t6,?_,t6⟩;obtain⟨k,Sa,a,b,d,O⟩:=h.row;refine⟨(G Sa _ (fun x p=>h.ctx.lt x (b x p).1) (i.sub d a) O).mono fun n s c=>?_⟩;obtain⟨e,T,L,m,O⟩:=c;have h:=h.turnO (Sep.stab yq R) a b d T m O yx;refine⟨_,e,t6,⟨(F8 D z H.k x A C q.2 _ (h.blk 3 rfl)).mono fun n s c=>?_⟩,t6⟩;obtain⟨e,T,B⟩:=c;have h:=(h.turnL 3 rfl T B).1;exact⟨_,e,t6,w,⟨rfl,rfl,rfl,t6⟩,_,h⟩
  refine⟨h.q' (N5 t _) fun j Q h=>?_,t6⟩;refine⟨?_,?_⟩
  ·skip
   refine⟨_,h.cell 2 rfl _ rfl,t6,h.n' fun w a1 Z h=>?_,t6⟩;refine⟨h.q' (K4 (some ⟨w,0,none⟩) 2 2 _) fun j Q h=>?_,t6⟩;refine⟨?_,t6⟩;obtain⟨k,M,a,b,⟨l,N,U,W,r,X⟩,P⟩:=h.row;have v:=Keep.of r (G3 u _) J K;refine B8 (I (fun y=>y=w\/l y) _ w (by rw [M8,RepC];exact⟨some ⟨w,0,none⟩,2,_,rfl,.cons (.leaf _ _ 1 t ⟨#[]⟩) (.cons (v.sub fun E o=>.inr o) (.nil _ _)),rowOf (h.blk 0 rfl) (.inl rfl) 2 (by decide)⟩) (i.now h).tab) ?_;intro j Q;have h:=(h.quiet Q).1;refine⟨t6,?_,t6⟩;obtain⟨k,Sa,a,b,d,O⟩:=h.row;refine⟨(G Sa _ (fun x p=>h.ctx.lt x (b x p).1) (i.sub d a) O).mono fun n s c=>?_⟩;obtain⟨e,T,L,m,O⟩:=c;have h:=h.turnO (Sep.stab yq R) a b d T m O yx;refine⟨_,e,t6,⟨(F8 D z H.k x A C q.2 _ (h.blk 3 rfl)).mono fun n s c=>?_⟩,t6⟩;obtain⟨e,T,B⟩:=c;have h:=(h.turnL 3 rfl T B).1;exact⟨_,e,t6,w,⟨rfl,rfl,rfl,t6⟩,_,h⟩
  refine⟨h.n' fun w a1 Z h=>?_,t6⟩;refine⟨?_,?_⟩
  ·skip
   refine⟨_,h.cell 3 rfl _ rfl,t6,h.q' (K4 (some ⟨w,0,none⟩) 2 2 _) fun j Q h=>?_,t6⟩;refine⟨?_,t6⟩;obtain⟨k,M,a,b,⟨l,N,U,W,r,X⟩,P⟩:=h.row;have v:=Keep.of r (G3 u _) J K;refine B8 (I (fun y=>y=w\/l y) _ w (by rw [M8,RepC];exact⟨some ⟨w,0,none⟩,2,_,rfl,.cons (.leaf _ _ 1 t ⟨#[]⟩) (.cons (v.sub fun E o=>.inr o) (.nil _ _)),rowOf (h.blk 0 rfl) (.inl rfl) 2 (by decide)⟩) (i.now h).tab) ?_;intro j Q;have h:=(h.quiet Q).1;refine⟨t6,?_,t6⟩;obtain⟨k,Sa,a,b,d,O⟩:=h.row;refine⟨(G Sa _ (fun x p=>h.ctx.lt x (b x p).1) (i.sub d a) O).mono fun n s c=>?_⟩;obtain⟨e,T,L,m,O⟩:=c;have h:=h.turnO (Sep.stab yq R) a b d T m O yx;refine⟨_,e,t6,⟨(F8 D z H.k x A C q.2 _ (h.blk 3 rfl)).mono fun n s c=>?_⟩,t6⟩;obtain⟨e,T,B⟩:=c;have h:=(h.turnL 3 rfl T B).1;exact⟨_,e,t6,w,⟨rfl,rfl,rfl,t6⟩,_,h⟩
  refine⟨h.q' (K4 (some ⟨w,0,none⟩) 2 2 _) fun j Q h=>?_,t6⟩;refine⟨?_,?_⟩
  ·skip
   refine⟨_,h.cell 3 rfl _ rfl,t6,?_,t6⟩;obtain⟨k,M,a,b,⟨l,N,U,W,r,X⟩,P⟩:=h.row;have v:=Keep.of r (G3 u _) J K;refine B8 (I (fun y=>y=w\/l y) _ w (by rw [M8,RepC];exact⟨some ⟨w,0,none⟩,2,_,rfl,.cons (.leaf _ _ 1 t ⟨#[]⟩) (.cons (v.sub fun E o=>.inr o) (.nil _ _)),rowOf (h.blk 0 rfl) (.inl rfl) 2 (by decide)⟩) (i.now h).tab) ?_;intro j Q;have h:=(h.quiet Q).1;refine⟨t6,?_,t6⟩;obtain⟨k,Sa,a,b,d,O⟩:=h.row;refine⟨(G Sa _ (fun x p=>h.ctx.lt x (b x p).1) (i.sub d a) O).mono fun n s c=>?_⟩;obtain⟨e,T,L,m,O⟩:=c;have h:=h.turnO (Sep.stab yq R) a b d T m O yx;refine⟨_,e,t6,⟨(F8 D z H.k x A C q.2 _ (h.blk 3 rfl)).mono fun n s c=>?_⟩,t6⟩;obtain⟨e,T,B⟩:=c;have h:=(h.turnL 3 rfl T B).1;exact⟨_,e,t6,w,⟨rfl,rfl,rfl,t6⟩,_,h⟩
  refine⟨?_,t6⟩;obtain⟨k,M,a,b,⟨l,N,U,W,r,X⟩,P⟩:=h.row;have v:=Keep.of r (G3 u _) J K;refine B8 (I (fun y=>y=w\/l y) _ w (by rw [M8,RepC];exact⟨some ⟨w,0,none⟩,2,_,rfl,.cons (.leaf _ _ 1 t ⟨#[]⟩) (.cons (v.sub fun E o=>.inr o) (.nil _ _)),rowOf (h.blk 0 rfl) (.inl rfl) 2 (by decide)⟩) (i.now h).tab) ?_;intro j Q;have h:=(h.quiet Q).1;refine⟨t6,⟨_,h.cell 3 rfl _ rfl,t6,?_⟩,t6⟩;refine⟨?_,t6⟩;obtain⟨k,Sa,a,b,d,O⟩:=h.row;refine⟨(G Sa _ (fun x p=>h.ctx.lt x (b x p).1) (i.sub d a) O).mono fun n s c=>?_⟩;obtain⟨e,T,L,m,O⟩:=c;have h:=h.turnO (Sep.stab yq R) a b d T m O yx;refine⟨_,e,t6,⟨(F8 D z H.k x A C q.2 _ (h.blk 3 rfl)).mono fun n s c=>?_⟩,t6⟩;obtain⟨e,T,B⟩:=c;have h:=(h.turnL 3 rfl T B).1;exact⟨_,e,t6,w,⟨rfl,rfl,rfl,t6⟩,_,h⟩
 clear h;rintro w u2 w2 ⟨S2,h⟩;unfold B4m A2m;by_cases a2:H.room<D2 (Q9 F)
 ·rw [yn a2] at a4;rw [yn a2,yn a2];subst a4;exact RetOb.sh (H:=H.fell) (dn:=true) (h.drop.drop.drop.midNow (fun S f Y=>Y.1) yq yy yx) rfl rfl rfl rfl _
 ·rw [yo a2] at a4;rw [yo a2,yo a2];subst a4;refine h.a 2 rfl rfl ?_;refine h.s 3 rfl fun wS hS h=>?_;exact RetOb.sh (H:=H.write F a0) (dn:=false) (h.drop.drop.drop.midNow (fun S f Y=>Y.2) yq yy yx) rfl (Sh.write_k H F a0) hd rfl _
def A2M (H:Sh) (d:D):Sh × Int:=if H.down then (H,7) else if A0C H.k d=0 then (A2m H (.add d) true,B4m H (.add d)) else (H,A0C H.k d)
theorem A9i {k:Known} {d:D} (h:A0C k d=0):M0 d=true/\B5h k (.add d):=by
 unfold A0C at h;split at h
 ·rename_i m;split at h
  ·cases h
  ·rename_i c;exact⟨m,by omega,by omega⟩
 ·cases h
theorem A9j (i j t o:Nat) (H:Sh) (a:H.Ok) (d:D) (M:d.Ok) (I:Nat->Prop) (w:World) (a5:∀ x,I x->x<w.heap.size) (N:EnvFree I w) (hK:ShelfK i j t o H I w):
  Calls Tryz.prog 28 #[.pointer (some ⟨i,0,none⟩),.agg (dC d).toArray] w (RetOb I w (.int .i64 (A2M H d).2) (ShelfK i j t o (A2M H d).1)):=by
 have a4:=a.k;obtain⟨x,A,cap,O⟩:=hK;have h:=O.enter a5 yy yx;obtain⟨q,g⟩:∃ q,q=A2M H d:=⟨_,rfl⟩;rw [<-g];unfold A2M at g;refine vE Tryz.func28 ?_;refine h.n fun g3 a9 a7 h=>?_;refine h.q (A1b i j H.k x A cap H.down _ (h.blk 1 rfl)) fun wQ hQ h=>?_;cases hd:H.down with
 | true=>
  rw [hd] at h g;rw [yn rfl] at g;subst g;exact RetOb.sh (H:=H) (dn:=true) h.drop rfl rfl hd rfl _
 | false=>
 rw [hd] at h g;rw [yo (by decide)] at g;refine⟨knC H.k x A cap,rfl,h.cellsAt 1 rfl 1 (knC H.k x A cap) rfl,?_⟩;refine h.n fun g5 b0 a8 h=>?_;refine h.s 0 rfl fun wS hS h=>?_;refine h.a 1 rfl rfl ?_;obtain⟨Sr,hR,Z,a6⟩:=h.mid (zb _) yq yy yx;refine⟨(B3N H.k a4 d M x A cap g5 Sr _ (h.blk 0 rfl) (fun f y=>⟨h.ctx.lt f (Z f y),fun e=>(h.ctx.locs.notS (k:=0) rfl).1 (e▸Z f y)⟩) hR).mono fun n P c=>?_⟩;obtain⟨b,T,Q,K,L,a1,a2⟩:=c;have h:=a6 (h.turnL 0 rfl T a1) yy a2;refine⟨_,b,?_⟩;by_cases h0:A0C H.k d=0;rotate_left
 ·rw [yo h0] at g;subst g;refine B5 (by simpa using h0) ?_;exact RetOb.sh (H:=H) (dn:=false) (h.drop.drop.midNow (fun S w a=>a.1) yq yy yx) rfl rfl hd rfl _
 rw [yn h0] at g;subst g;obtain⟨m,a3⟩:=A9i h0;have J:(Rc.add d).Ok:=⟨m,M⟩;have ek:B8S H.k d=A1W H.k (.add d):=(B8U J a3).2;rw [ek] at h;refine B4 (by rw [h0];rfl) ?_;have A36:=A3F d M;rw [U3 m] at A36;have ev:vRc (.add d)=M8 [N9 1,P4 d]:=by show M8 [N9 1,M3 d]=_;rw [U3 m]
 refine vD (.q 0 (.n 1 (.n 2 (.n 3 (.n 4 (.q 5 .fin) .stop) .stop) .stop) (.n 2 (.n 1 (.n 3 (.n 4 (.q 5 .fin) .stop) .stop) (.n 3 (.n 1 (.n 4 (.q 5 .fin) .stop) .stop) .stop)) .stop))) (fun _=>True) trivial ?_;have h:=h.drew;refine⟨?_,?_⟩
 ·skip
  refine h.a' 0 rfl rfl ?_;refine⟨h.a' 1 rfl rfl ?_,t6⟩;refine⟨?_,t6⟩;have C:=h.ctx.lt;have a0:=(h.blk 2 rfl).lt;refine⟨(A36 _).mono fun n P c=>?_⟩;obtain⟨k1,n1,s1,l,l1,p,b,z,r⟩:=c;obtain⟨U,X,s⟩:=r.cells;unfold D3 at s;cases s;have h:=(h.quiet z).1;refine⟨_,b,t6,?_,t6⟩;have h:=h.drop.drop;obtain⟨Sm,E,B,F,G,v⟩:=h.againK (fun _ _ a=>a) yq;refine⟨(L6 i j t o H a hd (.add d) J true 1 (P4 d) ev x Q A K cap L Sm _ E (N.kept B) F _ l p r (fun f y=>y.elim (fun a=>a.elim) (fun y=>⟨y.2,fun m=>by
   obtain e|e:=G f m
   ·omega
   ·have:=C f e;omega⟩))).mono fun n wr c=>?_⟩
  obtain⟨b,T,W,u,x2,R,Y,O⟩:=c;obtain⟨V,h⟩:=v T u O yy yx;refine⟨_,b,t6,?_⟩;exact RetOb.sh (H:=A2m H (.add d) true) h rfl rfl rfl rfl _
 refine⟨h.a' 1 rfl rfl ?_,t6⟩;refine⟨?_,?_⟩
 ·skip
  refine h.a' 0 rfl rfl ?_;refine⟨?_,t6⟩;have C:=h.ctx.lt;have a0:=(h.blk 2 rfl).lt;refine⟨(A36 _).mono fun n P c=>?_⟩;obtain⟨k1,n1,s1,l,l1,p,b,z,r⟩:=c;obtain⟨U,X,s⟩:=r.cells;unfold D3 at s;cases s;have h:=(h.quiet z).1;refine⟨_,b,t6,?_,t6⟩;have h:=h.drop.drop;obtain⟨Sm,E,B,F,G,v⟩:=h.againK (fun _ _ a=>a) yq;refine⟨(L6 i j t o H a hd (.add d) J true 1 (P4 d) ev x Q A K cap L Sm _ E (N.kept B) F _ l p r (fun f y=>y.elim (fun a=>a.elim) (fun y=>⟨y.2,fun m=>by
   obtain e|e:=G f m
   ·omega
   ·have:=C f e;omega⟩))).mono fun n wr c=>?_⟩
  obtain⟨b,T,W,u,x2,R,Y,O⟩:=c;obtain⟨V,h⟩:=v T u O yy yx;refine⟨_,b,t6,?_⟩;exact RetOb.sh (H:=A2m H (.add d) true) h rfl rfl rfl rfl _
 refine⟨?_,t6⟩;have C:=h.ctx.lt;have a0:=(h.blk 2 rfl).lt;refine⟨(A36 _).mono fun n P c=>?_⟩;obtain⟨k1,n1,s1,l,l1,p,b,z,r⟩:=c;obtain⟨U,X,s⟩:=r.cells;unfold D3 at s;cases s;have h:=(h.quiet z).1;refine⟨_,b,t6,h.a' 0 rfl rfl ?_,t6⟩;refine⟨?_,t6⟩;have h:=h.drop.drop;obtain⟨Sm,E,B,F,G,v⟩:=h.againK (fun _ _ a=>a) yq;refine⟨(L6 i j t o H a hd (.add d) J true 1 (P4 d) ev x Q A K cap L Sm _ E (N.kept B) F _ l p r (fun f y=>y.elim (fun a=>a.elim) (fun y=>⟨y.2,fun m=>by
  obtain e|e:=G f m
  ·omega
  ·have:=C f e;omega⟩))).mono fun n wr c=>?_⟩
 obtain⟨b,T,W,u,x2,R,Y,O⟩:=c;obtain⟨V,h⟩:=v T u O yy yx;refine⟨_,b,t6,?_⟩;exact RetOb.sh (H:=A2m H (.add d) true) h rfl rfl rfl rfl _
end Go.Proofs.YtefdfaeieekioaaGreatDoor
section
namespace Go.Vc
open Go Go.RowKit
open Go.Proofs.YtefdfaeieekioaaGreatDoor (no)
section
variable {w0 w w' w1:World} {S Sa:Nat->Prop} {l:List LB} {os:List OR} {R O K X Y:Kn} {g T n0 n1 e sz n cap:Nat} {cs cs' xs:List Value} {A:Option Addr}
theorem CtxF.turnLO (c:CtxF no w0 S w l os R) (k:Nat) (G:l[k]?=some (g,T,cs)) (C:Turn (fun x=>x=g) w w') (B:Blk w' g T cs') (j:w'.ownsRow w.heap.size e sz (.slice A n cap) n xs):
  CtxF no w0 (fun x=>ext S w w' x/\∀ a,A=some a->x≠a.block) w' (I2 l k cs') (⟨e,sz,A,n,cap,xs⟩::os) R/\Fut S w (fun x=>ext S w w' x/\∀ a,A=some a->x≠a.block) w':=by
 obtain⟨d,y⟩:=c.turnL k G C B;have i:∀ a,A=some a->w.heap.size<=a.block/\a.block<w'.heap.size:=fun a h=>by subst h;exact j.lt a.block rfl
 have m:Fut S w (fun x=>ext S w w' x/\∀ a,A=some a->x≠a.block) w':=⟨fun x b=>⟨.inl b,fun a h e=>by have:=(i a h).1;have:=c.ctx.lt x b;omega⟩,y.2⟩;have H:∀ x∈I2 l k cs',x.1<w.heap.size:=fun x b=>by obtain⟨K,J,e⟩:=O1 b;rw [<-e];exact c.ctx.locs.lt K J
 have E:CtxF no w0 (fun x=>ext S w w' x/\∀ a,A=some a->x≠a.block) w' (I2 l k cs') os R:=
  ⟨⟨d.ctx.below,fun _ f=>f.elim,fun x b=>d.ctx.new x b.1,fun x b=>d.ctx.lt x b.1,d.ctx.locs.mono (fun _ _=>rfl) (fun x b s=>s.1)⟩,d.own.step fun o q a h=>⟨rfl,fun s=>((d.own.mem o q).out a h).1 s.1,((d.own.mem o q).out a h).2⟩,c.stab _ _ _ _ c.row m,c.stab⟩
 refine⟨E.hold ⟨⟨j.1,?_⟩,fun a h=>⟨fun s=>s.2 a h rfl,fun x b=>?_⟩⟩ (fun p I a L h D e=>?_),m⟩
 ·obtain f|⟨v,r,u,t,F,z⟩:=j.2
  ·exact .inl f
  ·exact .inr ⟨v,r,u,t,zq c.ctx.below.size F,z⟩
 ·have:=H x b;have:=(i a h).1;omega
 ·have:=((c.own.mem p I).lt D).2;have:=(i a h).1;omega
theorem CtxF.mid2 (d:CtxF no w0 S w l os (Sep w0.heap.size (Sep n0 K R) O)) (D:n0<=w0.heap.size) (m:Stab K) (p:Stab R) (n:Stab O):
  ∃ r:Nat->Prop,R r w/\(∀ x,r x->S x)/\∀ {w':World} {i:List LB} {o:List OR} {j:Kn} {E:Nat->Prop},CtxF no w0 E w' i o j/\Fut S w E w'->(∀ x,E x->ext S w w' x)->∀ {X:Kn},Stab X->X (fun x=>ext r w w' x/\E x) w'->CtxF no w0 E w' i o (Sep w0.heap.size (Sep n0 K (fun S w=>R S w/\X S w)) O):=by
 obtain⟨t,v,b,c,⟨u,r,k,g,F,s⟩,y⟩:=d.row;have C:∀ x,S x->x<w.heap.size:=d.ctx.lt;have e:∀ x,r x->S x:=fun x h=>(b x (g x h).1).1;refine⟨r,s,e,fun {w' i o j E} B G {X} z h=>?_⟩;obtain⟨A,f⟩:=B;have q:∀ x,w.heap.size<=x->S x->False:=fun x b c=>absurd (C x c) (by omega);refine A.now (fun _=>⟨fun x=>ext t w w' x/\E x,v,fun x h=>⟨h.2,?_⟩,fun x h=>⟨f.1 x (c x h).1,(c x h).2⟩,⟨u,fun x=>ext r w w' x/\E x,fun x h=>⟨⟨.inl (k x h).1,f.1 x (b x (k x h).1).1⟩,fun a=>?_⟩,fun x h=>⟨⟨?_,h.2⟩,?_⟩,?_,?_,h⟩,?_⟩) (Sep.stab (Sep.stab m (p.and z)) n)
 ·obtain h|h:=h.1
  ·exact (b x h).2
  ·exact fun a=>q x h.1 (c x a).1
 ·obtain a|a:=a.1
  ·exact (k x h).2 a
  ·exact q x a.1 (b x (k x h).1).1
 ·obtain h|h:=h.1
  ·exact .inl (g x h).1
  ·exact .inr h
 ·obtain h|h:=h.1
  ·exact (g x h).2
  ·exact zq D (zq d.ctx.below.size h.1)
 ·exact m _ _ _ _ F ⟨fun _ a=>a,fun x h=>f.2 x (b x (k x h).1).1⟩
 ·exact p _ _ _ _ s ⟨fun x h=>⟨.inl h,f.1 x (e x h)⟩,fun x h=>f.2 x (e x h)⟩
 ·exact n _ _ _ _ y ⟨fun _ a=>a,fun x h=>f.2 x (c x h).1⟩
end
end Go.Vc
namespace Go.Proofs.YtefdfaeieekioaaGreatDoor
open Go.Vc Go.RowKit Go.Fl Go.ChangeShapes Go.WideShapes Go.ChangeAt
def enterH (H:Sh) (n:Int):Sh × Int:=if H.down then (H,7) else if n<=H.k.ep then (H,12) else (A2m H (.enter n) true,B4m H (.enter n))
theorem B0i (g j e d:Nat) (H:Sh) (b:H.Ok) (n:Int) (I:B9 n) (c:Nat->Prop) (w:World) (E:∀ x,c x->x<w.heap.size) (r:EnvFree c w) (K:ShelfK g j e d H c w):
  Calls Tryz.prog 94 #[.pointer (some ⟨g,0,none⟩),.int .i64 n] w (RetOb c w (.int .i64 (enterH H n).2) (ShelfK g j e d (enterH H n).1)):=by
 obtain⟨x,A,cap,O⟩:=K;have h:=O.enter E yy yx;obtain⟨q,a⟩:∃ q,q=enterH H n:=⟨_,rfl⟩;rw [<-a];unfold enterH at a;refine vE Tryz.func94 ?_;refine h.q (A1b g j H.k x A cap H.down _ (h.blk 0 rfl)) fun t Q h=>?_;cases hd:H.down with
 | true=>
  rw [hd] at h a;rw [yn rfl] at a;subst a;exact RetOb.sh (H:=H) (dn:=true) h rfl rfl hd rfl _
 | false=>
 rw [hd] at h a;rw [yo (by decide)] at a;refine h.c 0 rfl rfl ?_;by_cases h0:n<=H.k.ep
 ·rw [yn h0] at a;subst a;refine dt h0 ?_;exact RetOb.sh (H:=H) (dn:=false) h rfl rfl hd rfl _
 rw [yo h0] at a;subst a;refine df h0 ?_;refine⟨knC H.k x A cap,rfl,h.cellsAt 0 rfl 1 (knC H.k x A cap) rfl,?_⟩;refine h.n fun N R P h=>?_;refine h.s 0 rfl fun J D h=>?_;refine h.s 0 rfl fun J D h=>?_;have s:(Rc.enter n).Ok:=I;have G:max H.k.ep n=n:=by omega
 have h:=(h.midNow (R':=fun S w=>KnR H.k x A cap S w/\KnR (A1W H.k (.enter n)) x A cap S w) (fun S w b=>⟨b,b⟩) yq (yy.and yy) yx).castL (cs':=knC (A1W H.k (.enter n)) x A cap) (by show C5 (knC H.k x A cap) 9 [.int .i64 n]=knC ⟨H.k.b,H.k.pend,max H.k.ep n,H.k.ln⟩ x A cap;rw [G];rfl);refine vD (.Q [0,2] (.n 1 (.n 3 (.n 4 (.q 5 .fin) .stop) .stop) (.n 3 (.n 1 (.n 4 (.q 5 .fin) .stop) .stop) .stop))) (fun _=>True) trivial ?_;have h:=h.drew;refine⟨?_,?_⟩
 ·skip
  refine h.a' 0 rfl rfl ?_;refine⟨h.q' (N5 n _) fun t Q h=>?_,t6⟩;refine⟨?_,t6⟩;have h:=h.drop;obtain⟨Sm,m,p,l,F,k⟩:=h.againK (fun _ _ b=>b) yq;refine⟨(L6 g j e d H b hd (.enter n) s true 3 (N9 n) rfl x x A A cap cap Sm _ m (r.kept p) l no none 0 (RepC.leaf _ _ 1 n ⟨#[]⟩) (fun M y=>y.elim)).mono fun C wr o=>?_⟩;obtain⟨f,T,z,i,L,u,B,O⟩:=o;obtain⟨v,h⟩:=k T i O yy yx;refine⟨_,f,t6,?_⟩;exact RetOb.sh (H:=A2m H (.enter n) true) h rfl rfl rfl rfl _
 refine⟨h.q' (N5 n _) fun t Q h=>?_,t6⟩;refine⟨h.a' 0 rfl rfl ?_,t6⟩;refine⟨?_,t6⟩;have h:=h.drop;obtain⟨Sm,m,p,l,F,k⟩:=h.againK (fun _ _ b=>b) yq;refine⟨(L6 g j e d H b hd (.enter n) s true 3 (N9 n) rfl x x A A cap cap Sm _ m (r.kept p) l no none 0 (RepC.leaf _ _ 1 n ⟨#[]⟩) (fun M y=>y.elim)).mono fun C wr o=>?_⟩;obtain⟨f,T,z,i,L,u,B,O⟩:=o;obtain⟨v,h⟩:=k T i O yy yx;refine⟨_,f,t6,?_⟩;exact RetOb.sh (H:=A2m H (.enter n) true) h rfl rfl rfl rfl _
def RetSc (Sx:Nat->Prop) (w:World) (O:Kn) (l:List Res) (e:Int) (en:Ending) (w':World):Prop:=∃ A c,en=.returned (.tuple #[.slice A l.length c,.int .i64 e])/\Turn Sx w w'/\∃ Sn Sl:Nat->Prop,(∀ x,Sn x->(Sx x\/w.heap.size<=x)/\x<w'.heap.size)/\O Sn w'/\(∀ y,Sl y->w.heap.size<=y/\y<w'.heap.size/\¬ Sn y)/\Row Sl w' A l.length c (l.map Z7).flatten
theorem RetSc.nil {S:Nat->Prop} {w w':World} {O:Kn} {e:Int} {v:Value} {n:Ending} (h:RetOb S w v O n w') (b:v=.tuple #[.slice none 0 0,.int .i64 e]):RetSc S w O [] e n w':=by obtain⟨c,d,a,f,g⟩:=h;subst b;exact⟨none,0,c,d,a,no,f,g,fun i y=>y.elim,A39 _ _⟩
def F9 (H:Sh) (n:Int):Sh × List Res × Int:=
 if H.down then (H,[],7) else if H.k.seq<n then (H,[],4) else if (D8 H.k n).2.length=0 then (H,[],0)
 else if H.room<D2 (Q9 (.done n)) then (H.fell,[],7) else (H.write (.done n) false,(D8 H.k n).2,0)
theorem A3c (g j s p:Nat) (H:Sh) (b:H.Ok) (n:Int) (hn:B9 n) (i:Nat->Prop) (w:World) (a3:∀ x,i x->x<w.heap.size) (he:EnvFree i w) (hK:ShelfK g j s p H i w):
  Calls Tryz.prog 98 #[.pointer (some ⟨g,0,none⟩),.int .i64 n] w (RetSc i w (ShelfK g j s p (F9 H n).1) (F9 H n).2.1 (F9 H n).2.2):=by
 have a9:=b.k;obtain⟨x,A,cap,O⟩:=hK;have h:=O.enter a3 yy yx;obtain⟨q,d⟩:∃ q,q=F9 H n:=⟨_,rfl⟩;rw [<-d];unfold F9 at d;refine vE Tryz.func98 ?_;refine h.q (A1b g j H.k x A cap H.down _ (h.blk 0 rfl)) fun wQ Q h=>?_;cases hd:H.down with
 | true=>
  rw [hd] at h d;rw [yn rfl] at d;subst d;exact RetSc.nil (RetOb.sh (H:=H) (dn:=true) h rfl rfl hd rfl _) rfl
 | false=>
 rw [hd] at h d;rw [yo (by decide)] at d;refine⟨knC H.k x A cap,rfl,h.cellsAt 0 rfl 1 (knC H.k x A cap) rfl,?_⟩;refine h.n fun g6 b6 a8 h=>?_;refine h.s 0 rfl fun l hS h=>?_;have b3:=(h.blk 0 rfl).lt;have b4:=a8.1;have b2:=Q.size;obtain⟨Sr,hR,P,b1⟩:=h.mid2 (zb _) yq yy yx;have a2:=A66 H.k a9 n hn x A cap g6 Sr _ (h.blk 0 rfl) (fun y c=>⟨h.ctx.lt y (P y c),fun e=>(h.ctx.locs.notS (k:=0) rfl).1 (e▸P y c)⟩) hR;obtain⟨q2,t⟩:∃ q2,q2=A3Z H.k n:=⟨_,rfl⟩;rw [<-t] at a2;unfold A3Z at t;refine⟨a2.mono fun en wq C=>?_⟩;obtain⟨z,I,B,T,x',Y,Z,Sk,a6,M,a7,ho⟩:=C;have h:=b1 (h.turnLO 0 rfl T a6 ho) (fun y c=>c.1) yy (KnR.stab _ _ _ _ _ _ _ _ a7 ⟨fun y c=>⟨(M y c).1,(M y c).1.elim (fun b=>.inl (P y b)) .inr,(M y c).2⟩,fun _ _=>rfl⟩);refine⟨_,B,?_⟩;by_cases a1:H.k.seq<n
 ·rw [yn a1] at d t;subst d t;exact RetSc.nil (RetOb.sh (H:=H) (dn:=false) (h.rest.drop.midNow (fun S w b=>b.1) yq yy yx) rfl rfl hd rfl _) rfl
 rw [yo a1] at d t;subst t;by_cases V:(D8 H.k n).2.length=0
 ·rw [yn V] at d;subst d;refine B5 (by show (((D8 H.k n).2.length:Int)==0)=true;rw [V];rfl) ?_;exact RetSc.nil (RetOb.sh (H:=H) (dn:=false) (h.rest.drop.midNow (fun S w b=>b.1) yq yy yx) rfl rfl hd rfl _) rfl
 rw [yo V] at d;refine B4 (by show (((D8 H.k n).2.length:Int)==0)=false;rw [ya];omega) ?_;have a4:(Rc.done n).Ok:=hn;have a0:∀ a,z=some a->¬ i a.block:=fun a ha hs=>by subst ha;have h1:=(ho.lt a.block rfl).1;have h2:=a3 _ hs;omega
 refine Drawn.join (α:=Unit) (fun _=>[(0,.pointer (some ⟨g,0,none⟩)),(7,.slice z (D8 H.k n).2.length I),(9,.int .i64 (B4m H (.done n)))])
  (fun _ l=>∃ G v o r,CtxF no (bare w) G l [(g,92,shC j (A2m H (.done n) false).k v o r (A2m H (.done n) false).down)] [] (Sep 0 (Sep 0 (fun S w1=>Keep w i S w1/\RowF w z (D8 H.k n).2.length I ((D8 H.k n).2.map Z7).flatten S w1) (KnR (A2m H (.done n) false).k v o r)) (JourK j s p (A2m H (.done n) false).jour))) ?_ ?_
 ·refine vD (.Q [0,2] (.n 1 (.n 3 (.n 4 (.q 5 .fin) .stop) .stop) (.n 3 (.n 1 (.n 4 (.q 5 .fin) .stop) .stop) .stop))) (fun _=>True) trivial ?_;have h:=h.drew;refine⟨?_,?_⟩
  ·skip
   refine h.a' 0 rfl rfl ?_;refine⟨h.q' (N5 n _) fun wQ Q h=>?_,t6⟩;refine⟨?_,t6⟩;obtain⟨S3,h⟩:=h.drop.toldK (fun _ _ b=>b) a0 yq (yy.and yy) yx;obtain⟨Sm,W,U,X,b0,R⟩:=h.againK (fun _ _ b=>b.1) (yq.and (RowF.stab _ _ _ _ _));refine⟨(L6 g j s p H b hd (.done n) a4 false 2 (N9 n) rfl x x' A Y cap Z Sm _ W (he.kept U) X no none 0 (RepC.leaf _ _ 1 n ⟨#[]⟩) (fun y c=>c.elim)).mono fun en wr C=>?_⟩;obtain⟨B,T,f,N,v,o,r,O⟩:=C;obtain⟨G,h⟩:=R T N O yy yx;exact⟨_,B,t6,(),⟨rfl,rfl,rfl,t6⟩,_,_,_,_,h⟩
  refine⟨h.q' (N5 n _) fun wQ Q h=>?_,t6⟩;refine⟨h.a' 0 rfl rfl ?_,t6⟩;refine⟨?_,t6⟩;obtain⟨S3,h⟩:=h.drop.toldK (fun _ _ b=>b) a0 yq (yy.and yy) yx;obtain⟨Sm,W,U,X,b0,R⟩:=h.againK (fun _ _ b=>b.1) (yq.and (RowF.stab _ _ _ _ _));refine⟨(L6 g j s p H b hd (.done n) a4 false 2 (N9 n) rfl x x' A Y cap Z Sm _ W (he.kept U) X no none 0 (RepC.leaf _ _ 1 n ⟨#[]⟩) (fun y c=>c.elim)).mono fun en wr C=>?_⟩;obtain⟨B,T,f,N,v,o,r,O⟩:=C;obtain⟨G,h⟩:=R T N O yy yx;exact⟨_,B,t6,(),⟨rfl,rfl,rfl,t6⟩,_,_,_,_,h⟩
 clear h;rintro⟨⟩ b5 l ⟨G,v,o,r,h⟩;have a5:∀ (L:Sh),L=A2m H (.done n) false->Turn i w l/\∃ f m:Nat->Prop,(∀ x,f x->(i x\/w.heap.size<=x)/\x<l.heap.size)/\ShelfK g j s p L f l/\(∀ y,m y->w.heap.size<=y/\y<l.heap.size/\¬ f y)/\Row m l z (D8 H.k n).2.length I ((D8 H.k n).2.map Z7).flatten:=fun L eH=>by subst eH;obtain⟨D,f,Sk,E,F,⟨_,m,u,K⟩,k6⟩:=ObjK.leaveK h (fun _ _ b=>b.1);exact⟨D,f,m,E,⟨v,o,r,F⟩,fun y c=>⟨(u y c).2,(k6 y (u y c).1).1,(k6 y (u y c).1).2⟩,K⟩
 unfold B4m;by_cases J:H.room<D2 (Q9 (.done n))
 ·rw [yn J] at d ⊢;subst d;obtain⟨D,f,m,E,F,u,K⟩:=a5 H.fell (by unfold A2m;rw [yn J]);exact⟨none,0,rfl,D,f,no,E,F,fun y c=>c.elim,A39 _ _⟩
 ·rw [yo J] at d ⊢;subst d;obtain⟨D,f,m,E,F,u,K⟩:=a5 (H.write (.done n) false) (by unfold A2m;rw [yo J]);exact⟨z,I,rfl,D,f,m,E,F,u,K⟩
end Go.Proofs.YtefdfaeieekioaaGreatDoor
end
namespace Go.Proofs.YtefdfaeieekioaaGreatDoor
open Go.Vc Go.RowKit Go.Fl Go.ChangeShapes Go.WideShapes Go.ChangeAt
theorem B8X (done c:List (List Value)) (d:Flat 2 done) (k s v:Value) (r:List (List Value)) (i:Nat) (a:done.length=i) (h:c=[k,s]::r):((done++c).flatten).set (i*2+1) v=((done++[[k,v]])++r).flatten:=by
 subst h;have l:done.flatten.length=i*2:=by rw [d.len,a]
 rw [zt,List.set_append_right _ _ (by omega),l,show i*2+1-i*2=1 from by omega];simp
theorem A7A (s:Stt) (h1:s.l.length<=100000) (h2:s.ms.length<=100000) (h3:∀ e∈s.l,e.vs.length<=100000) (cs:List Value) (r:Nat->Prop) (w:World) (hs:RepS r w s cs):
  Calls Tryz.prog 54 #[.agg cs.toArray] w (B9r s no w):=by
 obtain⟨A,cap,css,P,T,l0,l1,l2,l3,l4,rfl,U,W,hR,Z⟩:=hs.shape;have Y:=W.flat;have a2:=W.len;refine vE Tryz.func54 ?_;have h:=CtxF.start w no (fun _ m=>m.elim) (R:=fun _ _=>True) trivial Stab.true;refine h.n fun G b4 b0 h=>?_;refine h.n fun H b5 b1 h=>?_;refine Drawn.join (α:=Option Addr × Nat × Option Addr × Nat) (fun _=>[(1,.pointer (some ⟨G,0,none⟩)),(2,.pointer (some ⟨H,0,none⟩))])
  (fun z wS=>CtxF no w no wS [(H,41,(lay.ty 41).zero),(G,41,[.int .i64 s.seq,.slice z.1 s.l.length z.2.1,.slice z.2.2.1 s.ms.length z.2.2.2,.int .i64 l0,.int .i64 l1,.int .i64 l2,.int .i64 l3,.int .i64 l4])] [⟨101,3,z.2.2.1,s.ms.length,z.2.2.2,(s.ms.map G0).flatten⟩,⟨99,2,z.1,s.l.length,z.2.1,css.flatten⟩] (fun _ _=>True)) ?_ ?_
 ·refine vD (.Q [0,3] (.n 1 (.n 2 (.n 4 (.q 6 (.n 5 (.n 7 (.q 8 (.z 9)) .stop) .stop)) .stop) (.n 4 (.n 2 (.q 6 (.n 5 (.n 7 (.q 8 (.z 9)) .stop) .stop)) .stop) .stop)) (.n 4 (.n 1 (.n 2 (.q 6 (.n 5 (.n 7 (.q 8 (.z 9)) .stop) .stop)) .stop) .stop) .stop))) (fun _=>True) trivial ?_;have h:=h.drew;refine⟨?_,?_⟩
  ·skip
   refine⟨_,h.cell 1 rfl _ rfl,t6,?_,?_⟩
   ·skip
    refine⟨(J1 A s.l.length cap css Y a2 (by omega) r _ (hR.below h.below)).mono fun x B q=>?_⟩;obtain⟨D,c1,b,n,o⟩:=q;have h:=h.fresh n o;refine⟨_,b,t6,⟨_,h.cell 1 rfl _ rfl,t6,?_⟩,t6⟩;refine⟨⟨(W7 P s.ms.length T (s.ms.map G0) (I6 _) (zl _) (by omega) r _ (Z.below h.below)).mono fun x B q=>?_⟩,t6⟩;obtain⟨p,t,b,n,o⟩:=q;have h:=h.fresh n o;refine⟨_,b,t6,h.s' 1 rfl fun wS d h=>?_,t6⟩;refine h.s 1 rfl fun wS d h=>?_;exact⟨(D,c1,p,t),⟨rfl,rfl,t6⟩,h⟩
   refine⟨⟨_,h.cell 1 rfl _ rfl,t6,?_⟩,t6⟩;refine⟨⟨(J1 A s.l.length cap css Y a2 (by omega) r _ (hR.below h.below)).mono fun x B q=>?_⟩,t6⟩;obtain⟨D,c1,b,n,o⟩:=q;have h:=h.fresh n o;refine⟨_,b,t6,⟨(W7 P s.ms.length T (s.ms.map G0) (I6 _) (zl _) (by omega) r _ (Z.below h.below)).mono fun x B q=>?_⟩,t6⟩;obtain⟨p,t,b,n,o⟩:=q;have h:=h.fresh n o;refine⟨_,b,t6,h.s' 1 rfl fun wS d h=>?_,t6⟩;refine h.s 1 rfl fun wS d h=>?_;exact⟨(D,c1,p,t),⟨rfl,rfl,t6⟩,h⟩
  refine⟨⟨_,h.cell 1 rfl _ rfl,t6,?_⟩,t6⟩;refine⟨⟨_,h.cell 1 rfl _ rfl,t6,?_⟩,t6⟩;refine⟨⟨(J1 A s.l.length cap css Y a2 (by omega) r _ (hR.below h.below)).mono fun x B q=>?_⟩,t6⟩;obtain⟨D,c1,b,n,o⟩:=q;have h:=h.fresh n o;refine⟨_,b,t6,⟨(W7 P s.ms.length T (s.ms.map G0) (I6 _) (zl _) (by omega) r _ (Z.below h.below)).mono fun x B q=>?_⟩,t6⟩;obtain⟨p,t,b,n,o⟩:=q;have h:=h.fresh n o;refine⟨_,b,t6,h.s' 1 rfl fun wS d h=>?_,t6⟩;refine h.s 1 rfl fun wS d h=>?_;exact⟨(D,c1,p,t),⟨rfl,rfl,t6⟩,h⟩
 clear h;rintro⟨D,c1,p,t⟩ a5 wS h;simp only at h;obtain⟨S1,_,h⟩:=h.told;have h:=h.now (X:=fun S w=>RepEs S w (s.l.take 0) []/\Row S w p s.ms.length t (s.ms.map G0).flatten) (fun m=>⟨rfl,m.2⟩) (Stab.and (fun _ _ _ _ m F=>m.map fun m=>m.fut F) (fun _ _ _ _ m F=>m.fut F));refine h.c 1 rfl rfl ?_;cases J:D with
 | none=>
  have h0:s.l.length=0:=(h.fst.none' J).1;refine⟨Unit,fun _=>[(1,.pointer (some ⟨G,0,none⟩)),(2,.pointer (some ⟨H,0,none⟩)),(14,.int .i64 s.l.length),(15,.int .i64 0)],fun _ w'=>w'=_,fun _ _=>0,(),⟨rfl,rfl,rfl,rfl,t6⟩,rfl,?_⟩;rintro _ _ a5 rfl;refine df (show ¬ (0:Int)<(s.l.length:Int) by omega) ?_;refine h.a 1 rfl rfl ?_;refine h.s 0 rfl fun wS d h=>?_;refine h.a 0 rfl rfl ?_;refine⟨_,rfl,h.below,?_⟩;have N:s.l=[]:=zo h0;have I:=h.out;subst J;obtain⟨seq,l,ms,b3⟩:=s;simp only at N U I;subst N;exact RepS.mk' U (css:=[]) rfl ⟨h.fst.fit.1,h.fst.fit.2,fun m=>absurd rfl m⟩ I.2
 | some a=>
 obtain⟨g,u,ea,a3,C,v,a1,a8⟩:=h.opened J;clear h;subst J;cases ea;have h:=a3;have C:u.length=c1*2:=C;have v:u.take (s.l.length*2)=css.flatten:=v;have a1:s.l.length<=c1:=a1;refine⟨Nat × List Value × List (List Value),fun y=>[(1,.pointer (some ⟨G,0,none⟩)),(2,.pointer (some ⟨H,0,none⟩)),(14,.int .i64 s.l.length),(15,.int .i64 y.1)],
  fun y w'=>y.1<=s.l.length/\y.2.1.length=c1*2/\y.2.2.length=y.1/\Flat 2 y.2.2/\y.2.1.take (s.l.length*2)=(y.2.2++css.drop y.1).flatten/\∃ S,CtxF no w S w' [(g,99,y.2.1),(H,41,(lay.ty 41).zero),(G,41,[.int .i64 s.seq,.slice (some ⟨g,0,none⟩) s.l.length c1,.slice p s.ms.length t,.int .i64 l0,.int .i64 l1,.int .i64 l2,.int .i64 l3,.int .i64 l4])] [] (fun S w=>RepEs S w (s.l.take y.1) y.2.2/\Row S w p s.ms.length t (s.ms.map G0).flatten),
  fun y _=>s.l.length-y.1,(0,u,[]),⟨rfl,rfl,rfl,rfl,t6⟩,⟨zb _,C,rfl,(fun c h=>by cases h),v,_,h⟩,?_⟩
 clear h a3 C v;rintro⟨i,u,done⟩ w4 a5 ⟨hi,C,M,L,v,S,h⟩;simp only at hi C M L v h;by_cases O:i<s.l.length
 ·refine dt (by show (i:Int)<(s.l.length:Int);omega) ?_;have a9:=W.get i O (by omega);obtain⟨V,E,a6,K⟩:=a9;have b2:=h3 s.l[i] (List.getElem_mem O);have a4:css.drop i=[.string s.l[i].key,.slice V s.l[i].vs.length E]::css.drop (i+1):=by rw [<-a6];exact yl (by omega)
  have a0:u[i*2+1]?=some (.slice V s.l[i].vs.length E):=by
   have b:(u.take (s.l.length*2))[i*2+1]?=some (.slice V s.l[i].vs.length E):=by
    have N:done.flatten.length=i*2:=by rw [L.len,M]
    rw [v,a4,zt,List.getElem?_append_right (by omega),N,show i*2+1-i*2=1 from by omega];rfl
   rw [List.getElem?_take] at b;split at b
   ·exact b
   ·cases b
  generalize hx:s.l[i]=e at*;refine Drawn.join (α:=Option Addr × Nat) (fun _=>[(1,.pointer (some ⟨G,0,none⟩)),(2,.pointer (some ⟨H,0,none⟩)),(14,.int .i64 s.l.length),(15,.int .i64 i)])
   (fun z wS=>CtxF no w S wS [(g,99,C5 u (i*2+1) [.slice z.1 e.vs.length z.2]),(H,41,(lay.ty 41).zero),(G,41,[.int .i64 s.seq,.slice (some ⟨g,0,none⟩) s.l.length c1,.slice p s.ms.length t,.int .i64 l0,.int .i64 l1,.int .i64 l2,.int .i64 l3,.int .i64 l4])] [⟨147,3,z.1,e.vs.length,z.2,(e.vs.map J0).flatten⟩] (fun S w=>RepEs S w (s.l.take i) done/\Row S w p s.ms.length t (s.ms.map G0).flatten)) ?_ ?_
  ·refine vD (.Q [0,2,3,5] (.n 1 (.n 4 (.Q [6,7] (.n 8 (.n 9 (.Q [10,11] (.n 12 .fin .stop)) .stop) .stop)) .stop) (.n 4 (.Q [6,7] (.n 1 (.n 8 (.n 9 (.Q [10,11] (.n 12 .fin .stop)) .stop) .stop) (.n 8 (.n 1 (.n 9 (.Q [10,11] (.n 12 .fin .stop)) .stop) (.n 9 (.n 1 (.Q [10,11] (.n 12 .fin .stop)) .stop) .stop)) .stop))) .stop))) (fun _=>True) trivial ?_;have h:=h.drew;refine⟨?_,?_⟩
   ·skip
    refine⟨_,h.cell 2 rfl _ rfl,t6,⟨_,h.cell 2 rfl _ rfl,t6,?_⟩,t6⟩;refine⟨⟨by omega,by omega⟩,?_⟩;generalize f:((⟨g,0,none⟩:Addr).add ((i:Int).toNat*2))=ae;have f:(⟨g,i*2,none⟩:Addr)=ae:=by rw [<-f,yi,zn,zi]
    subst f;refine⟨⟨_,(h.blk 0 rfl).cell (i*2+1) |>.trans a0,t6,?_⟩,t6⟩;refine⟨⟨(O3 V e.vs.length E (e.vs.map J0) (N1 _) (zl _) (by omega) r _ (K.below h.below)).mono fun x B q=>?_⟩,t6⟩;obtain⟨j,k,b,n,o⟩:=q;have h:=h.fresh n o;refine⟨_,b,t6,⟨by omega,by omega⟩,?_⟩;generalize f:((⟨g,0,none⟩:Addr).add ((i:Int).toNat*2))=ae;have f:(⟨g,i*2,none⟩:Addr)=ae:=by rw [<-f,yi,zn,zi]
    subst f;refine⟨⟨h.may 0 rfl (i*2+1) [.slice j e.vs.length k] (by show i*2+1+1<=u.length;omega) rfl,?_⟩,t6⟩;intro wS d;have d:E6 _ ⟨g,i*2+1,none⟩ [.slice j e.vs.length k] wS:=d;have h:=(h.set 0 rfl d).1;exact⟨t6,(j,k),⟨rfl,rfl,rfl,rfl,t6⟩,h⟩
   refine⟨⟨_,h.cell 2 rfl _ rfl,t6,?_⟩,t6⟩;refine⟨⟨by omega,by omega⟩,?_⟩;generalize f:((⟨g,0,none⟩:Addr).add ((i:Int).toNat*2))=ae;have f:(⟨g,i*2,none⟩:Addr)=ae:=by rw [<-f,yi,zn,zi]
   subst f;refine⟨?_,?_⟩
   ·skip
    refine⟨_,h.cell 2 rfl _ rfl,t6,⟨_,(h.blk 0 rfl).cell (i*2+1) |>.trans a0,t6,?_⟩,t6⟩;refine⟨⟨(O3 V e.vs.length E (e.vs.map J0) (N1 _) (zl _) (by omega) r _ (K.below h.below)).mono fun x B q=>?_⟩,t6⟩;obtain⟨j,k,b,n,o⟩:=q;have h:=h.fresh n o;refine⟨_,b,t6,⟨by omega,by omega⟩,?_⟩;generalize f:((⟨g,0,none⟩:Addr).add ((i:Int).toNat*2))=ae;have f:(⟨g,i*2,none⟩:Addr)=ae:=by rw [<-f,yi,zn,zi]
    subst f;refine⟨⟨h.may 0 rfl (i*2+1) [.slice j e.vs.length k] (by show i*2+1+1<=u.length;omega) rfl,?_⟩,t6⟩;intro wS d;have d:E6 _ ⟨g,i*2+1,none⟩ [.slice j e.vs.length k] wS:=d;have h:=(h.set 0 rfl d).1;exact⟨t6,(j,k),⟨rfl,rfl,rfl,rfl,t6⟩,h⟩
   refine⟨⟨_,(h.blk 0 rfl).cell (i*2+1) |>.trans a0,t6,?_⟩,t6⟩;refine⟨?_,?_⟩
   ·skip
    refine⟨_,h.cell 2 rfl _ rfl,t6,⟨(O3 V e.vs.length E (e.vs.map J0) (N1 _) (zl _) (by omega) r _ (K.below h.below)).mono fun x B q=>?_⟩,t6⟩;obtain⟨j,k,b,n,o⟩:=q;have h:=h.fresh n o;refine⟨_,b,t6,⟨by omega,by omega⟩,?_⟩;generalize f:((⟨g,0,none⟩:Addr).add ((i:Int).toNat*2))=ae;have f:(⟨g,i*2,none⟩:Addr)=ae:=by rw [<-f,yi,zn,zi]
    subst f;refine⟨⟨h.may 0 rfl (i*2+1) [.slice j e.vs.length k] (by show i*2+1+1<=u.length;omega) rfl,?_⟩,t6⟩;intro wS d;have d:E6 _ ⟨g,i*2+1,none⟩ [.slice j e.vs.length k] wS:=d;have h:=(h.set 0 rfl d).1;exact⟨t6,(j,k),⟨rfl,rfl,rfl,rfl,t6⟩,h⟩
   refine⟨⟨(O3 V e.vs.length E (e.vs.map J0) (N1 _) (zl _) (by omega) r _ (K.below h.below)).mono fun x B q=>?_⟩,t6⟩;obtain⟨j,k,b,n,o⟩:=q;have h:=h.fresh n o;refine⟨_,b,t6,⟨_,h.cell 2 rfl _ rfl,t6,?_⟩,t6⟩;refine⟨⟨by omega,by omega⟩,?_⟩;generalize f:((⟨g,0,none⟩:Addr).add ((i:Int).toNat*2))=ae;have f:(⟨g,i*2,none⟩:Addr)=ae:=by rw [<-f,yi,zn,zi]
   subst f;refine⟨⟨h.may 0 rfl (i*2+1) [.slice j e.vs.length k] (by show i*2+1+1<=u.length;omega) rfl,?_⟩,t6⟩;intro wS d;have d:E6 _ ⟨g,i*2+1,none⟩ [.slice j e.vs.length k] wS:=d;have h:=(h.set 0 rfl d).1;exact⟨t6,(j,k),⟨rfl,rfl,rfl,rfl,t6⟩,h⟩
  clear h;rintro⟨j,k⟩ u2 w5 h;simp only at h;obtain⟨Q,_,h⟩:=h.told;have et:s.l.take (i+1)=s.l.take i++[e]:=by rw [List.take_add_one,yc O,hx];rfl
  refine⟨(i+1,C5 u (i*2+1) [.slice j e.vs.length k],done++[[Value.string e.key,Value.slice j e.vs.length k]]),⟨rfl,rfl,rfl,yb _ (C4 (by omega)),t6⟩,⟨O,?_,?_,?_,?_,Q,?_⟩,by show s.l.length-(i+1)<s.l.length-i;omega⟩
  ·show (C5 u (i*2+1) [.slice j e.vs.length k]).length=c1*2;rw [putAt_len,C]
  ·show (done++[_]).length=i+1;rw [z6,M];rfl
  ·exact L.append (fun c h=>by rw [List.mem_singleton.1 h];exact⟨rfl,rfl⟩)
  ·show (u.set (i*2+1) (.slice j e.vs.length k)).take (s.l.length*2)=((done++[[Value.string e.key,Value.slice j e.vs.length k]])++css.drop (i+1)).flatten;rw [List.take_set,v];exact B8X done (css.drop i) L _ _ _ _ i M a4
  ·show CtxF no w Q w5 _ [] (fun S w=>RepEs S w (s.l.take (i+1)) (done++[_])/\_);rw [et];exact h.now (fun m=>⟨m.1.1.append ⟨_,_,rfl,⟨j,k,rfl,m.2⟩,rfl⟩,m.1.2⟩) (Stab.and (fun _ _ _ _ m F=>m.map fun m=>m.fut F) (fun _ _ _ _ m F=>m.fut F))
 ·refine df (by show ¬ (i:Int)<(s.l.length:Int);omega) ?_;have hi:i=s.l.length:=by omega
  subst hi;have a7:css.drop s.l.length=[]:=zr (by omega);rw [a7,zx] at v;rw [List.take_length] at h;refine h.a 2 rfl rfl ?_;refine h.s 1 rfl fun wS d h=>?_;refine h.a 1 rfl rfl ?_;have h:=h.closed 2 s.l.length c1 a1 a8 C;rw [v] at h;obtain⟨Q,_,h⟩:=h.told;have I:=h.out;refine⟨_,rfl,h.below,?_⟩;exact RepS.mk' U I.1.1 I.2 I.1.2
theorem A9k {s:Stt} (h:P6 s=true):s.l.length<=100000/\s.ms.length<=100000/\∀ e∈s.l,e.vs.length<=100000:=by obtain⟨_,⟨c,d⟩,a,_,_⟩:=D5.1 h;have b:=((K3 _ _ _).1 a).1;exact⟨by omega,by omega,fun e m=>by have:=(G2.1 (b e m).1).2.2.2;omega⟩
theorem K5 (g k j b:Nat) (H:Sh) (a:H.Ok) (S:Nat->Prop) (w:World) (K:ShelfK g k j b H S w):Calls Tryz.prog 23 #[.pointer (some ⟨g,0,none⟩)] w (B9r H.k.b no w):=by
 obtain⟨x,A,cap,O⟩:=K;have l:=(O.left yy).1;obtain⟨f,d,i⟩:=A9k a.k.may;have B:=O.2.1;refine vE Tryz.func23 ?_;have c:=CtxF.start w no (fun _ a=>a.elim) (R:=fun _ _=>True) trivial Stab.true;refine c.n fun t C y c=>?_;refine⟨.bool false,fun w=>B0g g _ _ w,stX H.k.b x,rfl,C0 (B.of_eq (c.below.block _ B.lt)) 1 _ 0 (fun o v h=>?_),?_⟩
 ·match o,h with
  | 0,h=>exact h
  | 1,h=>exact h
  | 2,h=>exact h
  | 3,h=>exact h
  | 4,h=>exact h
  | 5,h=>exact h
  | 6,h=>exact h
  | 7,h=>exact h
 refine⟨(A7A H.k.b f d i (stX H.k.b x) S _ (l.below c.below)).mono fun s D q=>?_⟩;obtain⟨cs,e,m,r⟩:=q;obtain⟨p,rfl⟩:=r.stX;have c:=(c.call m).1.know (X:=fun S w=>RepS S w H.k.b (stX H.k.b p)) (r.map fun a=>a.sub fun b n=>n.elim (fun a=>a.elim) .inr) (A0u _ _);refine⟨_,e,?_⟩;refine c.s 0 rfl fun z u c=>?_;refine c.a 0 rfl rfl ?_;exact⟨_,rfl,c.below,c.out.2⟩
def B94 (H:Sh) (k:Known):Int:=if H.room<D2 ⟨(J8 k).toArray⟩ then 7 else 0
def B4n (H:Sh) (k:Known):Sh:=if H.room<D2 ⟨(J8 k).toArray⟩ then H.fell else H.lay k
theorem _root_.Go.Vc.CtxF.midRow {c w:World} {a:Nat->Prop} {l:List LB} {o:List OR} {K R O:Kn} {n b:Nat} (h:CtxF no c a w l o (Sep b (Sep n K R) O)):∃ S,R S w:=by obtain⟨d,f,g,i,⟨e,S,m,p,q,k⟩,j⟩:=h.row;exact⟨S,k⟩
theorem B3d (s g F E:Nat) (H:Sh) (d:H.Ok) (G:H.down=false) (k:Known) (v:k.Ok) (x m:SX) (A b:Option Addr) (c p:Nat)
  (o:Nat->Prop) (w:World) (J:∀ x,o x->x<w.heap.size) (l:EnvFree o w) (W:ObjK s 92 (shC g H.k x A c false) (fun S w=>KnR H.k x A c S w/\KnR k m b p S w) (JourK g F E H.jour) o w):
  Calls Tryz.prog 208 #[.pointer (some ⟨s,0,none⟩),.agg (knC k m b p).toArray] w (RetOb o w (.int .i64 (B94 H k)) (ShelfK s g F E (B4n H k))):=by
 have R:Stab (fun S w=>KnR H.k x A c S w/\KnR k m b p S w):=yy.and yy;have h:=W.enter J R yx;obtain⟨q,z⟩:∃ q:Jour × Int,q=if H.room<D2 ⟨(J8 k).toArray⟩ then (H.fell.jour,5) else ((H.lay k).jour,0):=⟨_,rfl⟩
 have a2:(⟨(J8 k).toArray⟩:ByteArray).size<=270009:=by show (J8 k).toArray.size<=_;rw [List.size_toArray];exact X2 v
 have a0:=d.size;have X:=d.room;have a1:=d.tot;have I:=fun Sa w J l O=>B5r g F E H.room H.scr H.first (H.l.map Q9) H.down ⟨(J8 k).toArray⟩ (by omega) ⟨X,by unfold Sh.room;omega⟩ (by have:=A0g H;omega) Sa w J l O;rw [G,B93 d G v,<-z] at I;have V:H.jour=JL H.room H.scr H.first (H.l.map Q9) false:=by unfold Sh.jour;rw [G]
 refine vE Tryz.func208 ?_;refine h.n fun N a3 Z h=>?_;rw [V] at h;refine Drawn.join (α:=Unit) (fun _=>[(0,.pointer (some ⟨s,0,none⟩)),(3,.pointer (some ⟨N,0,none⟩)),(5,.int .i64 (if q.2=0 then 0 else 7))])
  (fun _ U=>∃ L,CtxF no (bare w) L U [(N,90,knC k m b p),(s,92,shC g H.k x A c (q.2 != 0))] [] (Sep 0 (Sep 0 (Keep w o) (fun S w=>KnR H.k x A c S w/\KnR k m b p S w)) (JourK g F E q.1))) ?_ ?_
 ·refine vD (.Q [0,1,2,3] (.n 4 (.n 5 (.n 6 (.n 7 (.n 8 (.q 9 .fin) .stop) .stop) .stop) .stop) (.n 5 (.n 4 (.n 6 (.n 7 (.n 8 (.q 9 .fin) .stop) .stop) .stop) (.n 6 (.n 4 (.n 7 (.n 8 (.q 9 .fin) .stop) .stop) .stop) .stop)) .stop))) (fun _=>True) trivial ?_;have h:=h.drew;refine⟨?_,?_⟩
  ·skip
   refine⟨_,h.cell 1 rfl _ rfl,t6,h.a' 0 rfl rfl ?_,t6⟩;refine⟨?_,t6⟩;obtain⟨n,y⟩:=h.midRow;refine h.q' (A0e k v m b p n _ y.2 (l.now h).tab) fun P Q h=>?_;refine⟨?_,t6⟩;obtain⟨K,Sa,f,i,j,O⟩:=h.row;refine⟨(I Sa _ (fun x C=>h.ctx.lt x (i x C).1) (l.sub j f) O).mono fun t D a=>?_⟩;obtain⟨e,T,M,u,O⟩:=a;have h:=h.turnO (Sep.stab yq R) f i j T u O yx;refine⟨_,e,t6,⟨(F8 s g H.k x A c q.2 _ (h.blk 1 rfl)).mono fun t D a=>?_⟩,t6⟩;obtain⟨e,T,B⟩:=a;have h:=(h.turnL 1 rfl T B).1;exact⟨_,e,t6,(),⟨rfl,rfl,rfl,t6⟩,_,h⟩
  refine⟨h.a' 0 rfl rfl ?_,t6⟩;refine⟨?_,?_⟩
  ·skip
   refine⟨_,h.cell 1 rfl _ rfl,t6,?_,t6⟩;obtain⟨n,y⟩:=h.midRow;refine h.q' (A0e k v m b p n _ y.2 (l.now h).tab) fun P Q h=>?_;refine⟨?_,t6⟩;obtain⟨K,Sa,f,i,j,O⟩:=h.row;refine⟨(I Sa _ (fun x C=>h.ctx.lt x (i x C).1) (l.sub j f) O).mono fun t D a=>?_⟩;obtain⟨e,T,M,u,O⟩:=a;have h:=h.turnO (Sep.stab yq R) f i j T u O yx;refine⟨_,e,t6,⟨(F8 s g H.k x A c q.2 _ (h.blk 1 rfl)).mono fun t D a=>?_⟩,t6⟩;obtain⟨e,T,B⟩:=a;have h:=(h.turnL 1 rfl T B).1;exact⟨_,e,t6,(),⟨rfl,rfl,rfl,t6⟩,_,h⟩
  refine⟨?_,t6⟩;obtain⟨n,y⟩:=h.midRow;refine h.q' (A0e k v m b p n _ y.2 (l.now h).tab) fun P Q h=>?_;refine⟨⟨_,h.cell 1 rfl _ rfl,t6,?_⟩,t6⟩;refine⟨?_,t6⟩;obtain⟨K,Sa,f,i,j,O⟩:=h.row;refine⟨(I Sa _ (fun x C=>h.ctx.lt x (i x C).1) (l.sub j f) O).mono fun t D a=>?_⟩;obtain⟨e,T,M,u,O⟩:=a;have h:=h.turnO (Sep.stab yq R) f i j T u O yx;refine⟨_,e,t6,⟨(F8 s g H.k x A c q.2 _ (h.blk 1 rfl)).mono fun t D a=>?_⟩,t6⟩;obtain⟨e,T,B⟩:=a;have h:=(h.turnL 1 rfl T B).1;exact⟨_,e,t6,(),⟨rfl,rfl,rfl,t6⟩,_,h⟩
 clear h;rintro⟨⟩ u2 w2 ⟨L,h⟩;unfold B94 B4n;by_cases r:H.room<D2 ⟨(J8 k).toArray⟩
 ·rw [yn r] at z;rw [yn r,yn r];subst z;exact RetOb.sh (H:=H.fell) (dn:=true) (h.drop.midNow (fun S w d=>d.1) yq yy yx) rfl rfl rfl rfl _
 ·rw [yo r] at z;rw [yo r,yo r];subst z;refine h.a 0 rfl rfl ?_;refine h.s 1 rfl fun U Y h=>?_;exact RetOb.sh (H:=H.lay k) (dn:=false) (h.drop.midNow (fun S w d=>d.2) yq yy yx) rfl rfl G rfl _
theorem B0j (d:D) (b:d.Ok) (w:World):Calls Tryz.prog 207 #[.agg (dC d).toArray] w (D4 (.bool (A9d d)) w):=by refine vE Tryz.func207 ?_;have h:=CtxF.start w no (fun _ a=>a.elim) (R:=fun _ _=>True) trivial Stab.true;refine h.n fun g f c h=>?_;refine h.a 0 rfl rfl ?_;refine h.q (A0z d b _) fun e Q h=>?_;exact⟨rfl,h.below⟩
theorem B5t {b w:World} {d s n c:Nat} {A:Option Addr} {xs:List Value} (o:w.ownsRow b.heap.size d s (.slice A n c) n xs):Row (ext no b w) w A n c xs:=by
 have a:=o;obtain⟨e,h⟩:=o;obtain⟨h,l⟩|⟨g,p,u,f,_,_,j,k,_,_⟩:=h
 ·cases h;rw [Nat.zero_mul] at e;exact⟨zc _,zb _,fun i=>absurd (zo e) i⟩
 ·cases f;exact⟨j,k,fun _=>⟨_,rfl,.inr (a.lt g rfl),a.cells rfl⟩⟩
def T6 (H:Sh) (b:Stt) (p:List D):Sh × Int:=
 if H.down then (H,7) else if p.any A9d=true\/P6 b=false\/60<p.length\/G5-p.length<b.seq then (H,1)
 else (B4n H ⟨b,p,H.k.ep,H.k.ep⟩,B94 H ⟨b,p,H.k.ep,H.k.ep⟩)
theorem A5f {H:Sh} (h:H.Ok) {b:Stt} {p:List D} (a:b.lows.length=5) (f:∀ d∈p,d.Ok) (c:¬ (p.any A9d=true\/P6 b=false\/60<p.length\/G5-p.length<b.seq)):(⟨b,p,H.k.ep,H.k.ep⟩:Known).Ok:=by
 refine⟨?_,a,fun d hd=>⟨?_,f d hd⟩,?_,?_,h.k.ep,h.k.ep⟩
 ·cases e:P6 b with
  | true=>rfl
  | false=>exact absurd (.inr (.inl e)) c
 ·cases e:M0 d with
  | true=>rfl
  | false=>exact absurd (.inl (List.any_eq_true.2 ⟨d,hd,by unfold A9d;rw [e];rfl⟩)) c
 ·show p.length<=60;obtain h|h:=zm 60 p.length
  ·exact absurd (.inr (.inr (.inl h))) c
  ·exact h
 ·show b.seq+(p.length:Int)<=G5;obtain h|h:=Int.lt_or_le (G5-p.length) b.seq
  ·exact absurd (.inr (.inr (.inr h))) c
  ·omega
theorem B8Y (H:Sh) (s:Stt) (p:List D):(B4n H ⟨s,p,H.k.ep,H.k.ep⟩).k.ep=H.k.ep:=by unfold B4n;split<;>rfl
theorem B0k (g m r j:Nat) (H:Sh) (a:H.Ok) (s:Stt) (b8:∀ e∈s.l,U7 e.key) (p:List D) (hp:∀ d∈p,d.Ok) (c1:p.length<=100000) (i:SX) (B:Option Addr) (n:Nat) (x:Nat->Prop) (w:World) (b2:∀ f,x f->f<w.heap.size) (he:EnvFree x w) (hK:ShelfK g m r j H x w)
  (K:Nat->Prop) (a4:∀ W,K W->W<w.heap.size/\¬ x W) (hs:RepS K w s (stX s i)) (hP:Row K w B p.length n (p.map dC).flatten):
  Calls Tryz.prog 161 #[.pointer (some ⟨g,0,none⟩),.agg (stX s i).toArray,.slice B p.length n] w (RetOb x w (.int .i64 (T6 H s p).2) (ShelfK g m r j (T6 H s p).1)):=by
 have h5:s.lows.length=5:=by rw [hs.lowsX];rfl
 obtain⟨f,A,cap,N⟩:=hK;have h:=N.enter b2 yy yx;obtain⟨q,c⟩:∃ q,q=T6 H s p:=⟨_,rfl⟩;rw [<-c];unfold T6 at c;have kept:∀ {S:Nat->Prop} {w1:World} {l:List LB} {os:List OR} {R O:Kn},CtxF no (bare w) S w1 l os (Sep 0 (Sep 0 (Keep w x) R) O)->∃ b:Nat->Prop,RepS b w1 s (stX s i)/\Row b w1 B p.length n (p.map dC).flatten:=fun h=>by obtain⟨S1,So,h1,h2,⟨b,Y,k1,k2,k3,k4⟩,h4⟩:=h.row;exact⟨b,Keep.of k3 (A0u _ _) hs a4,Keep.of k3 (X:=fun S w=>Row S w B p.length n (p.map dC).flatten) (fun _ _ _ _ a M=>a.fut M) hP a4⟩
 have T:G5=1099511627776:=rfl;refine vE Tryz.func161 ?_;refine h.n fun g4 c4 c0 h=>?_;obtain⟨b,t,u⟩:=kept h;refine h.q (A2K A9d 207 (by kernel_rfl) B0j p hp B n b _ u) fun wQ hQ h=>?_;refine h.q (A1b g m H.k f A cap H.down _ (h.blk 1 rfl)) fun wQ hQ h=>?_;cases hd:H.down with
 | true=>
  rw [hd] at h c;rw [yn rfl] at c;subst c;exact RetOb.sh (H:=H) (dn:=true) h.drop rfl rfl hd rfl _
 | false=>
 rw [hd] at h c;rw [yo (by decide)] at c;have E:∀ {S:Nat->Prop} {w1:World},CtxF no (bare w) S w1 [(g4,41,stX s i),(g,92,shC m H.k f A cap false)] [] (Sep 0 (Sep 0 (Keep w x) (KnR H.k f A cap)) (JourK m r j H.jour))->(p.any A9d=true\/P6 s=false\/60<p.length\/G5-p.length<s.seq)->RetOb x w (.int .i64 q.2) (ShelfK g m r j q.1) (.returned (.int .i64 1)) w1:=fun h G=>by rw [yn G] at c;subst c;exact RetOb.sh (H:=H) (dn:=false) h.drop rfl rfl hd rfl _
 cases a2:p.any A9d with
 | true=>exact E h (.inl a2)
 | false=>
 refine h.a 0 rfl rfl ?_;obtain⟨b,t,u⟩:=kept h;refine h.q (A1O s b8 (stX s i) b _ t) fun wQ hQ h=>?_;cases F:P6 s with
 | false=>exact E h (.inr (.inl F))
 | true=>
 by_cases a0:60<p.length
 ·refine dt (by omega) ?_;exact E h (.inr (.inr (.inl a0)))
 refine df (by omega) ?_;refine h.c 0 rfl rfl ?_;have c2:=(D5.1 F).1;have a5:IntKind.i64.wrap (1099511627776-(p.length:Int))=G5-p.length:=by rw [yh _ ⟨by omega,by omega⟩,T]
 by_cases I:G5-(p.length:Int)<s.seq
 ·refine B5 (by rw [a5];exact zz I) ?_;exact E h (.inr (.inr (.inr I)))
 refine B4 (by rw [a5];exact y8 I) ?_;have G:¬ (p.any A9d=true\/P6 s=false\/60<p.length\/G5-p.length<s.seq):=fun a=>by
  obtain a|a|a|a:=a
  ·rw [a2] at a;cases a
  ·rw [F] at a;cases a
  ·exact a0 a
  ·exact I a
 rw [yo G] at c;have b0:=A5f a h5 hp G;subst c;obtain⟨f1,f2,f3⟩:=A9k F;refine vD (.Q [0,1,3,5,6,7,8,9,10,11,12,13,14] (.n 2 (.n 4 (.q 15 (.n 16 (.q 17 .fin) .stop)) .stop) .stop)) (fun C=>Blk C g4 41 (stX s i)/\C.cell? ⟨g,10,none⟩=some (.int .i64 H.k.ep)) ⟨h.blk 0 rfl,h.cell 1 rfl 10 rfl⟩ ?_;have h:=h.drew;refine⟨stX s i,rfl,fun C z=>C0 z.1 0 _ 0 (fun c3 v hj=>by simpa using hj),_,fun C z=>z.2,_,fun C z=>z.2,?_,t6⟩;obtain⟨b,t,u⟩:=kept h;obtain⟨Y,a6,a8,U⟩:=h.mid (zb _) yq yy yx;refine⟨(A7A s f1 f2 f3 (stX s i) b _ t).mono fun Z wq y=>?_⟩;obtain⟨cs,o,P,a3⟩:=y;obtain⟨V,rfl⟩:=a3.stX;have h:=U (h.call P) (X:=fun S w=>RepS S w s (stX s V)) (A0u _ _) (a3.map fun a=>a.sub fun j Q=>Q.elim (fun a=>a.elim) .inr);refine⟨_,o,⟨h.blk 0 rfl,h.cell 1 rfl 10 rfl⟩,?_,t6⟩;obtain⟨b,t,u⟩:=kept h;obtain⟨Y,a6,a8,U⟩:=h.mid (zb _) yq (yy.and (A0u _ _)) yx;refine⟨(X0 B p.length n _ (T4 _) (zl _) (by omega) b _ u).mono fun Z wq y=>?_⟩;obtain⟨J,L,o,P,ho⟩:=y;have h:=U (h.call P) (X:=fun S w=>Row S w J p.length L (p.map dC).flatten) (fun _ _ _ _ a M=>a.fut M) ((B5t ho).sub fun j Q=>Q.elim (fun a=>a.elim) .inr);refine⟨_,o,⟨h.blk 0 rfl,h.cell 1 rfl 10 rfl⟩,?_,t6⟩;have a1:=h.blk 0 rfl;have b6:=(h.ctx.locs.notS (k:=0) rfl).1;have b7:=h.ctx.locs.2.2.2.1 _ (zv ..);have h:=(h.midNow (R':=fun S w=>KnR H.k f A cap S w/\KnR ⟨s,p,H.k.ep,H.k.ep⟩ V J L S w) (fun S w a=>⟨a.1.1,a.1.2,a.2⟩) yq (yy.and yy) yx).drop;obtain⟨Sm,b3,b1,b4,b5,a9⟩:=h.againK (fun _ _ a=>a) yq;refine⟨(B3d g m r j H a hd ⟨s,p,H.k.ep,H.k.ep⟩ b0 f V A J cap L Sm _ b3 (he.kept b1) b4).mono fun Z wr y=>?_⟩;obtain⟨o,hT,Sn,a7,x2,A3,b9,N⟩:=y;obtain⟨S2,h⟩:=a9 hT a7 N yy yx;refine⟨_,o,⟨a1.of_eq (hT.block _ a1.lt fun T=>(b5 _ T).elim (fun e=>b7 e.symm) b6),by have:=h.cell 0 rfl 10 rfl;rw [B8Y] at this;exact this⟩,?_⟩;exact RetOb.sh (H:=B4n H ⟨s,p,H.k.ep,H.k.ep⟩) h rfl rfl rfl rfl _
def H0 (tot:Int):Sh:=⟨tot,bE,Known0,[],0,true,false⟩
theorem H0.txt (t:Int):(H0 t).txt=L5 bE:=by show L5 bE++[]=_;rw [zx]
theorem H0.room (t:Int):(H0 t).room=t-11:=by unfold Sh.room;rw [H0.txt];show t-D2 bE=_;rw [A02]
theorem H0.ok {t:Int} (h:11<=t/\t<=1048576):(H0 t).Ok:=
 ⟨.inl ⟨rfl,rfl⟩,t6,zc _,h.2,by rw [H0.room];omega⟩
theorem H0.jour (t:Int):B8V (t-D2 bE) ⟨G6 bE,D2 bE,true⟩ bE [] 11=(H0 t).jour:=by
 have h:=R7 bE;rw [A02] at h;have e:(H0 t).scr=⟨G6 bE,D2 bE,true⟩:=by have a:(H0 t).texts.take (1+(H0 t).np)=(H0 t).texts:=rfl;show Scroll.mk ⟨(H0 t).txt.toArray⟩ ((C9 ((H0 t).texts.take (1+(H0 t).np))).length:Nat) true=_;rw [a,show C9 (H0 t).texts=(H0 t).txt from rfl,H0.txt];rfl
 unfold B8V;rw [yo (by show ¬ ((11:Nat):Int)<((G6 bE).size:Int);omega)];unfold Sh.jour;rw [e,H0.room,A02];rfl
theorem B8Z {n:Int} (h:0<=n/\n<=1048576):C1D n=c0 n:=by unfold C1D c0;congr 1;split<;>split<;>omega
def B3e (H:Sh) (L:Nat):Chest:=chL (H.tot-L) ⟨⟨(H.txt.take L).toArray⟩,L,true⟩
theorem B8a {H:Sh} (h:H.Ok):0<H.scr.pressed:=by have a:=A2i H.first (by have:=h.first.size;omega);show (0:Int)<((C9 (H.texts.take (1+H.np))).length:Nat);rw [show 1+H.np=H.np+1 from by omega];show (0:Int)<((L5 H.first++C9 ((H.l.map Q9).take H.np)).length:Nat);rw [z6];omega
theorem B95 {H:Sh} (h:H.Ok) (n:Int):∃ L:Nat,H.scr.pressed<=L/\L<=H.txt.length/\H4 (chL H.room H.scr) Q4 H.scr n=B3e H L:=by
 have p:=Sh.scr_le (H:=H);have z:=A0g H;have t:=A9Y (s:=H.scr) ⟨p.1,by omega⟩ n;have h0:=B8a h;refine⟨(F6 H.scr n).toNat,by omega,by omega,?_⟩;have e:((F6 H.scr n).toNat:Int)=F6 H.scr n:=Int.toNat_of_nonneg (by omega);unfold H4 B3e;rw [yn (.inl (by omega)),yn (.inl (by omega)),e];have a:H.scr.s.extract 0 (F6 H.scr n).toNat=⟨(H.txt.take (F6 H.scr n).toNat).toArray⟩:=B3b ⟨H.txt.toArray⟩ _;rw [a];show Chest.mk (H.room+((H.scr.s.size:Int)-F6 H.scr n)) _ 1=_;have b:H.room+((H.scr.s.size:Int)-F6 H.scr n)=H.tot-F6 H.scr n:=by rw [z];unfold Sh.room;omega
 rw [b];rfl
theorem B3f (s j c a:Nat) (H:Sh) (h:H.Ok) (n:Int) (S:Nat->Prop) (w:World) (K:ShelfK s j c a H S w):
  Calls Tryz.prog 31 #[.pointer (some ⟨c,0,none⟩),.int .i64 n] w (fun e w'=>∃ g b L,e=.returned (.pointer (some ⟨g,0,none⟩))/\Below w.heap.size w w'/\ChestK g b (B3e H L) (ext no w w') w'/\H.scr.pressed<=(L:Nat)/\L<=H.txt.length):=by
 have p:=Sh.scr_le (H:=H);have z:=A0g H;have o:=h.size;have r:=h.room;have u:=h.tot;have m:H.room=H.tot-H.txt.length:=rfl;obtain⟨L,f,i,k⟩:=B95 h n;have t:=B5c c a (chL H.room H.scr) Q4 H.scr (by decide) (A4i _ _) rfl ⟨p.1,by omega⟩ (by omega) ⟨by show _<=H.room;omega,by show H.room<=_;omega⟩ n S w K.chest;rw [k] at t;exact t.mono fun e w' q=>by obtain⟨g,b,d,l,O⟩:=q;exact⟨g,b,L,d,l,O,f,i⟩
def C1t:ByteArray:=⟨#[111,110,101]⟩
def C2F:ByteArray:=⟨#[116,119,111]⟩
def q0:Scroll:=⟨G6 bE,11,true⟩
def q1:Scroll:=⟨G6 bE++G6 C1t,25,true⟩
def q2:Scroll:=⟨(G6 bE++G6 C1t)++G6 C2F,25,true⟩
end Go.Proofs.YtefdfaeieekioaaGreatDoor
namespace Go.Proofs.YtefdfaeieekioaaGreatDoor
open Go.Vc Go.RowKit Go.Fl
structure Fit (H:Sh) (n:Nat):Prop where
 ok:H.Ok
 down:H.down=false
 tot:H.tot=1048576
 len:H.txt.length<=271000+1200*n
theorem Fit.mono {H:Sh} {n m:Nat} (h:Fit H n) (a:n<=m):Fit H m:=⟨h.ok,h.down,h.tot,zq h.len (by omega)⟩
theorem Fit.room {H:Sh} {n:Nat} (h:Fit H n) (c:n<=400):290000<=H.room:=by have a:=h.len;have b:=h.tot;unfold Sh.room;omega
theorem Fit.h0:Fit (H0 1048576) 0:=⟨H0.ok (by decide),rfl,rfl,by rw [H0.txt];have h:=A02;unfold D2 at h;omega⟩
theorem A5g {r:Rc} (h:r.Ok):D2 (Q9 r)<=1130:=by have a:=A1V h;have b:=(A1Z (Q9 r) (by omega)).2;omega
theorem A9l {k:Known} (h:k.Ok):D2 ⟨(J8 k).toArray⟩<=270100:=by
 have a:=X2 h;have s:(⟨(J8 k).toArray⟩:ByteArray).size<=270009:=by show (J8 k).toArray.size<=_;rw [List.size_toArray];exact a
 have b:=(A1Z ⟨(J8 k).toArray⟩ (by omega)).2;omega
theorem Fit.write {H:Sh} {n:Nat} (h:Fit H n) (d:n<=400) {r:Rc} (a:r.Ok) (c:B5h H.k r) (p:Bool):Fit (H.write r p) (n+1):=by have b:=A5g a;have e:=h.room d;refine⟨h.ok.write a c p (by omega),h.down,h.tot,?_⟩;rw [Sh.write_txt,z6];have f:=h.len;unfold D2 at b;omega
theorem Fit.lay {H:Sh} {n:Nat} (h:Fit H n) (c:n<=400) {a:Known} (k:a.Ok):Fit (H.lay a) 0:=by have b:=A9l k;have d:=h.room c;refine⟨h.ok.lay k (by omega),h.down,h.tot,?_⟩;rw [Sh.lay_txt];unfold D2 at b;omega
theorem Fit.cut {H:Sh} {n:Nat} (h:Fit H n) (i:Nat) (a:i<=H.l.length):Fit (H.cut i) n:=by refine⟨h.ok.cut i a,rfl,h.tot,?_⟩;have b:=T5 H.texts (i+1);have c:=h.len;unfold Sh.txt at*;rw [Sh.cut_texts];omega
theorem Fit.record {H:Sh} {n:Nat} (h:Fit H n) (a:n<=400) {r:Rc} (b:r.Ok) (p:Bool):B4m H r=0/\A2m H r p=H.write r p:=by have c:=A5g b;have d:=h.room a;unfold B4m A2m;rw [yo (by omega),yo (by omega)];exact⟨rfl,rfl⟩
theorem Fit.lays {H:Sh} {n:Nat} (h:Fit H n) (b:n<=400) {k:Known} (a:k.Ok):B94 H k=0/\B4n H k=H.lay k:=by have c:=A9l a;have d:=h.room b;unfold B94 B4n;rw [yo (by omega),yo (by omega)];exact⟨rfl,rfl⟩
theorem Fit.add {H:Sh} {n:Nat} (b:Fit H n) (k:n<=400) {d:D} (j:d.Ok):
  (M0 d=true/\B5h H.k (.add d)/\A2M H d=(H.write (.add d) true,0))\/(M0 d=true/\¬ B5h H.k (.add d)/\A2M H d=(H,5))\/(M0 d=false/\A2M H d=(H,1)):=by
 unfold A2M;rw [b.down,yo (by decide)];cases h:M0 d with
 | false=>
  refine .inr (.inr ⟨rfl,?_⟩);have e:A0C H.k d=1:=by unfold A0C;rw [h];rfl
  rw [e,yo (by decide)]
 | true=>
  by_cases c:60<=H.k.pend.length\/G5<=H.k.seq
  ·have e:A0C H.k d=5:=by unfold A0C;rw [h,yn rfl,yn c]
   refine .inr (.inl ⟨rfl,fun i=>?_,?_⟩)
   ·obtain⟨a,l⟩:=i;omega
   ·rw [e,yo (by decide)]
  ·have e:A0C H.k d=0:=by unfold A0C;rw [h,yn rfl,yo c]
   obtain⟨f,g⟩:=b.record k (r:=.add d) ⟨h,j⟩ true;refine .inl ⟨rfl,⟨by omega,by omega⟩,?_⟩;rw [yn e,f,g]
theorem A03 (H:Sh) (d:D) (p:Bool):(H.write (.add d) p).k=⟨H.k.b,H.k.pend++[d],H.k.ep,H.k.ln⟩:=Sh.write_k _ _ _
theorem A7B (H:Sh) (n:Int) (p:Bool):(H.write (.done n) p).k=(D8 H.k n).1:=Sh.write_k _ _ _
theorem A5h (H:Sh) (n:Int) (p:Bool):(H.write (.enter n) p).k=⟨H.k.b,H.k.pend,max H.k.ep n,H.k.ln⟩:=Sh.write_k _ _ _
theorem Fit.commit {H:Sh} {n:Nat} (c:Fit H n) (i:n<=400) {m:Int} (g:B9 m):
  (H.k.seq<m/\F9 H m=(H,[],4))\/(m<=H.k.seq/\(D8 H.k m).2=[]/\F9 H m=(H,[],0)/\(D8 H.k m).1=H.k)\/(m<=H.k.seq/\F9 H m=(H.write (.done m) false,(D8 H.k m).2,0)):=by
 unfold F9;rw [c.down,yo (by decide)];by_cases a:H.k.seq<m
 ·rw [yn a];exact .inl ⟨a,rfl⟩
 rw [yo a];by_cases h:(D8 H.k m).2.length=0
 ·rw [yn h];have d:=zo h;refine .inr (.inl ⟨by omega,d,rfl,?_⟩);have e:(A5X H.k.b (H.k.pend.take (m-H.k.b.seq).toNat)).length=0:=h;rw [A2j] at e;have b:=zo e;have f:H.k.pend.drop (m-H.k.b.seq).toNat=H.k.pend:=by have:=List.take_append_drop (m-H.k.b.seq).toNat H.k.pend;rw [b,List.nil_append] at this;exact this
  unfold D8;rw [b,f];rfl
 ·rw [yo h];have d:=A5g (r:=.done m) g;have j:=c.room i;rw [yo (by omega)];exact .inr (.inr ⟨by omega,rfl⟩)
theorem Fit.done {H:Sh} {n:Nat} (h:Fit H n) (d:n<=400) {m:Int} (c:B9 m) (s:m<=H.k.seq):
  ∃ a,F9 H m=(a,(D8 H.k m).2,0)/\a.k=(D8 H.k m).1/\Fit a (n+1)/\(a=H\/a=H.write (.done m) false):=by
 obtain⟨g,_⟩|⟨_,b,e,f⟩|⟨_,b⟩:=h.commit d c
 ·omega
 ·exact⟨H,by rw [e,b],f.symm,h.mono (by omega),.inl rfl⟩
 ·exact⟨_,b,A7B H m false,h.write d (r:=.done m) c s false,.inr rfl⟩
theorem A4m (k:Known) (m:Int):(D8 k m).2.length=min (m-k.b.seq).toNat k.pend.length/\(D8 k m).1.pend.length=k.pend.length-(m-k.b.seq).toNat:=by unfold D8;rw [A2j,zg];exact⟨rfl,zh ..⟩
end Go.Proofs.YtefdfaeieekioaaGreatDoor
section
namespace Go.Proofs.YtefdfaeieekioaaGreatDoor
open Go.Vc Go.RowKit Go.Fl Go.ChangeShapes Go.WideShapes Go.ChangeAt
theorem RowD8.elem {S:Nat->Prop} {w:World} {A:Option Addr} {n c:Nat} {l:List D} (R:Row S w A n c (l.map dC).flatten) (i:Nat) (b:i<l.length):∃ a,A=some a/\Go.Vc.cellsAt w (a.add (i*8)) (dC l[i]) 0:=by obtain⟨a,e,h⟩:=Row.elemF R (k:=8) (by decide) (Flat.map dC (fun d=>⟨rfl,rfl⟩) l) i (by rw [zl];exact b);rw [List.getElem_map] at h;exact⟨a,e,h⟩
theorem RowR8.elem {S:Nat->Prop} {w:World} {A:Option Addr} {n c:Nat} {l:List Res} (R:Row S w A n c (l.map Z7).flatten) (i:Nat) (b:i<l.length):∃ a,A=some a/\Go.Vc.cellsAt w (a.add (i*2)) (Z7 l[i]) 0:=by obtain⟨a,e,h⟩:=Row.elemF R (k:=2) (by decide) (Flat.map Z7 (fun d=>⟨rfl,rfl⟩) l) i (by rw [zl];exact b);rw [List.getElem_map] at h;exact⟨a,e,h⟩
theorem RowD8.drop {S:Nat->Prop} {w:World} {A:Option Addr} {c:Nat} {l:List D} (R:Row S w A l.length c (l.map dC).flatten) (i:Nat) (p:i<=l.length):Row S w (A.map (·.add (i*8))) (l.length-i) (c-i) ((l.drop i).map dC).flatten:=by
 obtain⟨v,y,n⟩:=R;refine⟨by omega,by omega,fun x=>?_⟩;have h:∀ m:List D,((m.map dC).flatten).length=m.length*8:=fun m=>by
  induction m with
  | nil=>rfl
  | cons d z r=>rw [List.map_cons,List.flatten_cons,z6,r,zj];show 8+_=_;omega
 have q:(l.map dC).flatten≠[]:=fun k=>by
  have e:=h l;rw [k] at e;have b:(l.drop i)=[]:=by
   have:l.length=0:=by have e:0=l.length*8:=e;omega
   rw [zo this,List.drop_nil]
  rw [b] at x;exact x rfl
 obtain⟨a,rfl,s,o⟩:=n q;refine⟨a.add (i*8),rfl,by rw [P2];exact s,fun j t u=>?_⟩;have f:(l.map dC).flatten=((l.take i).map dC).flatten++((l.drop i).map dC).flatten:=by rw [<-zt,<-List.map_append,List.take_append_drop]
 have g:=o (i*8+j) t (by rw [f,List.getElem?_append_right (by rw [h,zg];omega),h,zg,show i*8+j-min i l.length*8=j from by rw [Nat.min_eq_left p];omega];exact u);rw [Go.Vc.add_add];exact g
theorem RowD8.sub {S:Nat->Prop} {w:World} {C:Option Addr} {c:Nat} {a:List D} (h:Row S w C a.length c (a.map dC).flatten) (m:Nat) (d:m<=a.length):Row S w (if (c:Int)=(m:Int) then C else C.map (·.add ((m:Int).toNat*8))) (a.drop m).length (c-m) ((a.drop m).map dC).flatten:=by
 have f:=h.1;have g:=h.2.1;by_cases i:c=m
 ·have e:a.drop m=[]:=zr (by omega);rw [e];exact⟨zb _,by omega,fun b=>absurd rfl b⟩
 ·rw [yo (by omega),zi,zh];exact RowD8.drop h m d
section
variable {H:Type} {enc:TypeId × Value->H} {W:World} {sp:Nat->Bool} {hd:Bool} {v:Value} {d:DataW H} {p:List MemPlace} {base:Nat}
end
theorem Fit.enter {H:Sh} {n:Nat} (a:Fit H n) (e:n<=400) {m:Int} (d:B9 m):
  (m<=H.k.ep/\enterH H m=(H,12))\/(H.k.ep<m/\enterH H m=(H.write (.enter m) true,0)):=by
 unfold enterH;rw [a.down,yo (by decide)];by_cases h:m<=H.k.ep
 ·rw [yn h];exact .inl ⟨h,rfl⟩
 rw [yo h];obtain⟨b,c⟩:=a.record e (r:=.enter m) d true;rw [b,c];exact .inr ⟨by omega,rfl⟩
theorem A4n (H:Sh) (r:Rc):(H.write r true).np=(H.write r true).l.length:=by show H.l.length+1=(H.l++[r]).length;rw [z6];rfl
end Go.Proofs.YtefdfaeieekioaaGreatDoor
end
namespace Go.Proofs.YtefdfaeieekioaaGreatDoor
open Go.Vc Go.RowKit Go.Fl Go.ChangeShapes Go.WideShapes Go.ChangeAt
theorem Blk.part {w:World} {g T:Nat} {c:List Value} (a:Blk w g T c) (o:Nat) (x:List Value) (b:(c.drop o).take x.length=x):Go.Vc.cellsAt w ⟨g,o,none⟩ x 0:=C0 a o x 0 fun j u h=>by
 rw [Nat.add_zero,<-List.getElem?_drop];rw [<-b,List.getElem?_take] at h;split at h
 ·exact h
 ·cases h
structure Wd.Bare (v:Wd):Prop where
 deeds:∀ d∈v.deeds,d.Ok
 key:∀ e∈v.st.l,U7 e.key
 five:v.st.lows.length=5
theorem Wd.Ok.bare {v:Wd} (h:v.Ok):v.Bare:=⟨h.deeds,fun e a=>(h.st.l e a).key,h.five⟩
structure WdO (n0:Nat) (v:Wd) (x:WX) (N:Nat->Prop) (w:World):Prop where
 ros:w.ownsRow n0 3 1 (.slice x.A v.ros.l.length x.cA) v.ros.l.length (A0p v.ros.l)
 deeds:w.ownsRow n0 45 8 (.slice x.B v.deeds.length x.cB) v.deeds.length (v.deeds.map dC).flatten
 two:∀ a b,x.A=some a->x.B=some b->a.block≠b.block
 st:RepS N w v.st (stX v.st x.y)
 new:∀ y,N y->n0<=y/\y<w.heap.size
 outA:∀ a,x.A=some a->¬ N a.block
 outB:∀ a,x.B=some a->¬ N a.block
theorem WdO.zero (n:Nat) (w:World):WdO n Wd0 WX0 no w:=⟨World.ownsRow_nil ..,World.ownsRow_nil ..,(fun a b h=>by cases h),(A8M no w).2,fun y h=>h.elim,fun a h=>(by cases h),fun a h=>(by cases h)⟩
end Go.Proofs.YtefdfaeieekioaaGreatDoor
namespace Go.Proofs.YtefdfaeieekioaaGreatDoor
open Go.Vc Go.RowKit Go.Fl
structure Lk where
 id:Int
 H:Sh
 r:Ros
 til:Int
 done:List Wd
def Lk.k (L:Lk):Known:=L.H.k
def B0l (kind to seq req:Int) (res:Res):Wd:=⟨kind,0,to,0,seq,req,0,res,Ros0,[],Stt0⟩
structure Thin (v:Wd):Prop where
 ros:v.ros=Ros0
 deeds:v.deeds=[]
 st:v.st=Stt0
def r00:Res:=⟨0,0⟩
def N7 (L:Lk) (v:Wd):Wd:={ v with frm:=L.id,ep:=L.r.ep }
def A3d (L:Lk) (v:Wd):Lk:=if B7 v.req=L.id then { L with done:=L.done++[v] } else L
def Z0 (L:Lk):Bool:=A3W L.r.l==L.id
def L7 (L:Lk):Bool:=!(L.r.new==L.id)||L.H.k.ln==L.r.ep
def E5 (L:Lk) (now:Int):Bool:=decide (L.id∈L.r.l)&&(L7 L&&(decide (now<=L.til)&&(!L.H.down&&L.H.k.ep==L.r.ep)))
def B3g (req:Int) (r:Res):Wd:=B0l 7 (B7 req) 0 req r
def A7C (L:Lk) (v:Wd):Lk × List Wd:=if v.to=L.id then (A3d L (N7 L v),[]) else (L,[N7 L v])
def toldL (L:Lk) (req:Int) (r:Res):Lk × List Wd:=A7C L (B3g req r)
def C7 (L:Lk):List (Int × Res)->Lk × List Wd
 | []=>(L,[])
 | (q,r)::t=>((C7 (toldL L q r).1 t).1,(toldL L q r).2++(C7 (toldL L q r).1 t).2)
def E3 (L:Lk) (n:Int):Lk:={ L with H:=(F9 L.H n).1 }
def H6 (L:Lk):Lk × List Wd:=C7 (E3 L L.k.seq) ((L.k.pend.map fun d=>d.req).zip (F9 L.H L.k.seq).2.1)
def A2V (L:Lk):Int:=A5Y L.r.l L.id
def A0V (L:Lk):Int:=A2J L.r.l L.id
def A3e (L:Lk) (q:Int):Wd:=⟨4,0,A2V L,0,q,0,0,r00,Ros0,(L.k.pend.drop (q-L.k.b.seq).toNat).take 6,Stt0⟩
def O5 (L:Lk) (q:Int):List Wd:=[N7 L (A3e L q)]
def D9 (L:Lk) (v:Wd):List Wd:=if A0V L=0 then [] else [N7 L { v with to:=A0V L }]
def onL (L:Lk) (q:Int):Lk × List Wd:=if Z0 L=true then H6 L else (L,O5 L q)
def A3f (L:Lk) (v:Wd):Lk × List Wd:=
 if A1w L.r.l≠L.id then (L,[]) else match v.deeds with
 | [d]=>if (A1K L.k.b d.req).2=true then toldL L d.req (A1K L.k.b d.req).1
  else if L.k.pend.any (fun x=>x.req==d.req)=true then (L,[])
  else if (A2M L.H d).2≠0 then ({ L with H:=(A2M L.H d).1 },[]) else onL { L with H:=(A2M L.H d).1 } L.k.seq
 | _=>(L,[])
def B96 (H:Sh):List D->Sh
 | []=>H
 | d::t=>if (A2M H d).2≠0 then (A2M H d).1 else B96 (A2M H d).1 t
def C1J (L:Lk) (l:List D):Lk:={ L with H:=B96 L.H l }
def A3g (q:Int):Wd:=B0l 6 0 q 0 r00
def A1z (q r:Int):Wd:=B0l 5 0 q r r00
def B97 (L:Lk) (was q:Int):List Wd:=if Z0 L=true then D9 L (A3g L.k.seq) else if L.k.seq=was/\q<L.k.b.seq then D9 L (A3g L.k.b.seq) else []
def B98 (L:Lk) (v:Wd):Lk × List Wd:=
 if A0V L=0\/v.frm≠A0V L then (L,[]) else if L.k.seq<v.seq then (L,D9 L (A1z L.k.seq 0)) else
 let L1:=C1J L (v.deeds.drop (min (L.k.seq-v.seq) v.deeds.length).toNat);let p:=if L.k.seq<L1.k.seq then onL L1 L.k.seq else (L1,[])
 (p.1,p.2++B97 p.1 L.k.seq v.seq)
def A2N (L:Lk):Wd:=⟨10,0,A2V L,0,L.k.seq,0,0,r00,Ros0,L.k.pend,L.k.b⟩
def B0m (L:Lk) (v:Wd):List Wd:=
 if A2V L=0\/v.frm≠A2V L then [] else if v.req=1/\A2V L=L.r.new then [N7 L (A2N L)] else if L.k.b.seq<=v.seq/\v.seq<L.k.seq then O5 L v.seq else []
def B8b (L:Lk) (v:Wd):Lk × List Wd:=
 if A2V L=0\/v.frm≠A2V L then (L,[]) else
 let L1:=E3 L (min v.seq L.k.seq)
 (L1,if L.k.b.seq<L1.k.b.seq then D9 L1 (A3g L1.k.b.seq) else [])
def V1:Wd:=B0l 11 0 0 0 r00
def A10 (L:Lk) (v:Wd) (now:Int):Lk × List Wd:=
 if L.r.new≠L.id\/v.frm≠A0V L\/L7 L=true\/L.til<now then (L,[]) else
 let p:=T6 L.H v.st v.deeds
 if p.2≠0 then ({ L with H:=p.1 },[]) else
 let L1:={ L with H:=p.1 };let L2:=E3 L1 L1.k.seq
 (L2,N7 L2 V1::D9 L2 (A3g L2.k.seq))
def B99 (L:Lk) (to req:Int):Wd:=B0l 9 to L.k.b.seq req r00
def H9 (L:Lk) (v:Wd) (now:Int):Lk × List Wd:=
 if v.kind=7 then (A3d L v,[]) else if v.ep≠L.r.ep\/L.r.ep=0 then (L,[]) else if v.kind=10 then A10 L v now
 else if v.kind=9 then (if v.frm=A3W L.r.l then A3d (E3 L (min v.seq L.k.seq)) v else L,[])
 else if E5 L now=false then (L,[]) else if v.kind=3 then A3f L v else if v.kind=4 then B98 L v else if v.kind=5 then (L,B0m L v) else if v.kind=6 then B8b L v
 else if v.kind=8 then (L,if v.frm∈L.r.l/\Z0 L=true then [N7 L (B99 L v.frm v.req)] else []) else (L,[])
def A1c (L:Lk) (v:Wd):Lk:={ L with H:=(enterH L.H v.ros.ep).1,til:=0 }
def A3h (L:Lk) (v:Wd) (now:Int):Lk × List Wd:=
 let L1:={ L with r:=v.ros,til:=max L.til v.til }
 if E5 L1 now=true/\Z0 L1=true then H6 L1 else (L1,[])
def A1d (L:Lk) (v:Wd) (now:Int):Lk × List Wd:=
 if v.frm≠0\/L.id ∉ v.ros.l\/v.ros.ep<L.k.ep then (L,[])
 else if L.k.ep<v.ros.ep then (if (enterH L.H v.ros.ep).2≠0 then ({ L with H:=(enterH L.H v.ros.ep).1 },[]) else A3h (A1c L v) v now)
 else A3h L v now
def V2 (L:Lk) (v:Wd) (now:Int):Lk × List Wd:=
 if v.to≠L.id\/A64 v=false then (L,[]) else if v.kind=2 then A1d L v now else H9 L v now
def H5 (L:Lk) (d:D):Wd:=N7 L ⟨3,0,A1w L.r.l,0,0,0,0,r00,Ros0,[d],Stt0⟩
def T7 (L:Lk) (d:D) (now:Int):Lk × List Wd:=
 if L.r.ep=0\/M0 d=false then (L,[]) else if A1w L.r.l=L.id then H9 L (H5 L d) now else (L,[H5 L d])
def A8S:Wd:=B0l 1 0 0 0 r00
def A5i (L:Lk) (now:Int):Bool:=decide (L.id∈L.r.l)&&decide (now<=L.til)
def B3h (L:Lk) (now:Int):List Wd:=
 if L.H.down=true then [] else
 [N7 L A8S]++(if A5i L now=true/\L7 L=false then D9 L (A1z 0 1) else if A5i L now=true/\L.r.new=L.id then [N7 L V1] else [])
 ++ (if E5 L now=false then [] else (if Z0 L=false/\0<L.k.pend.length then O5 L L.k.b.seq else [])++(if Z0 L=true then D9 L (A3g L.k.seq) else []))
def readyL (L:Lk) (key:ByteArray) (now:Int):Bool:=E5 L now&&!L.k.pend.any fun d=>D7 key ⟨#[]⟩||D7 d.key key
theorem B3i {l:List Int} {n:Int} (h:n≠0):A2J l n≠n:=by
 unfold A2J atI Q0;cases b:A1X l n with
 | none=>
  rw [yn (.inl (by show (-1:Int)-1<0;decide))];exact fun e=>h e.symm
 | some i=>
  obtain⟨g,d,c⟩:=A1Y b;show (if ((i:Nat):Int)-1<0\/(l.length:Int)<=((i:Nat):Int)-1 then 0 else l.getD (((i:Nat):Int)-1).toNat 0)≠n;split
  ·exact fun e=>h e.symm
  ·rename_i f;have a:(((i:Nat):Int)-1).toNat=i-1:=by omega
   rw [a,B8Q (by omega)];exact c (i-1) (by omega) (by omega)
theorem B5u {l:List Int} {n:Int} (b:n≠0) (d:l.Nodup):A5Y l n≠n:=by
 unfold A5Y;split
 ·unfold atI Q0;cases a:A1X l n with
  | none=>
   show (if ((-1:Int)+1<0\/(l.length:Int)<=(-1:Int)+1) then 0 else l.getD ((-1:Int)+1).toNat 0)≠n;rename_i h0;unfold Q0 at h0;rw [a] at h0;exact absurd h0 (by decide)
  | some i=>
   obtain⟨k,f,g⟩:=A1Y a;show (if ((i:Nat):Int)+1<0\/(l.length:Int)<=((i:Nat):Int)+1 then 0 else l.getD (((i:Nat):Int)+1).toNat 0)≠n;split
   ·exact fun e=>b e.symm
   ·rename_i j;have c:(((i:Nat):Int)+1).toNat=i+1:=by omega
    rw [c,B8Q (by omega)];intro e;have t:i+1<l.length:=by omega
    have h:=B0c d (i+1) t;rw [e] at h;unfold Q0 at h;rw [a] at h;have h:((i:Nat):Int)=((i+1:Nat):Int):=h;omega
 ·exact fun e=>b e.symm
structure Lk.Ok (L:Lk):Prop where
 id:1<=L.id/\L.id<=5
 H:L.H.Ok
 r:L.r.Ok
 nd:L.r.l.Nodup
 til:B9 L.til
theorem Lk.Ok.id0 {L:Lk} (h:L.Ok):L.id≠0:=by have:=h.id;omega
theorem Lk.Ok.front {L:Lk} (h:L.Ok):A0V L≠L.id:=B3i h.id0
theorem Lk.Ok.next {L:Lk} (h:L.Ok):A2V L≠L.id:=B5u h.id0 h.nd
theorem B5v (L:Lk) (v:Wd):(A3d L v).done.length<=L.done.length+1:=by
 unfold A3d;split
 ·show (L.done++[v]).length<=_;rw [z6];exact zc _
 ·omega
theorem A0i {v:Wd} (h:Thin v) (S:Nat->Prop) (w:World) {x:WX} {d:Nat->Prop} {y:World} (t:WdR v x d y):WdR v x S w:=by obtain⟨k,C,G,e,s,q,H,D,E,z,F⟩:=v;obtain⟨m,n,o⟩:=h;cases m;cases n;cases o;obtain⟨⟨r,c⟩,u⟩:=t;refine⟨⟨⟨r.1,r.2.1,fun h=>absurd rfl h⟩,⟨c.1,c.2.1,fun h=>absurd rfl h⟩⟩,?_⟩;obtain⟨A,cap,f,B,p,g,i,j,a,b⟩:=u;have l:f=[]:=j;subst l;exact⟨A,cap,[],B,p,g,i,rfl,⟨a.1,a.2.1,fun h=>absurd rfl h⟩,⟨b.1,b.2.1,fun h=>absurd rfl h⟩⟩
end Go.Proofs.YtefdfaeieekioaaGreatDoor
section
namespace Go.Vc
open Go Go.RowKit
open Go.Proofs.YtefdfaeieekioaaGreatDoor (no RetOb)
section
variable {w0 w w':World} {S Sx:Nat->Prop} {l:List LB} {os:List OR} {R O X:Kn} {n0 g T:Nat} {cs:List Value}
theorem CtxF.enterO (l:∀ x,Sx x->x<w.heap.size) (a:O Sx w) (s:Stab O):CtxF no (bare w) (fun x=>x<w.heap.size) w [] [] (Sep 0 (Keep w Sx) O):=
 CtxF.enter (fun x h=>h) trivial trivial ⟨fun x=>x<w.heap.size/\¬ Sx x,Sx,fun x h=>h,fun x h=>⟨l x h,zb _⟩,fun x h g=>⟨⟨h,g⟩,rfl⟩,a⟩ (Sep.stab yq s)
theorem CtxF.leaveO (h:CtxF no (bare w) S w' l os (Sep 0 (Keep w Sx) O)):Turn Sx w w'/\∃ n:Nat->Prop,(∀ x,n x->(Sx x\/w.heap.size<=x)/\x<w'.heap.size)/\O n w'/\(∀ y,n y->S y):=by
 obtain⟨i,Sa,e,b,c,f⟩:=h.row;refine⟨h.leave c,Sa,fun x d=>⟨?_,h.ctx.lt x (b x d).1⟩,f,fun y g=>(b y g).1⟩;obtain a|a:=zm x w.heap.size
 ·obtain s|s:=Classical.em (Sx x)
  ·exact .inl s
  ·exact absurd d (e x (c x a s).1).2
 ·exact .inr a
theorem CtxF.endO (c:CtxF no (bare w) S w' l os (Sep 0 (Keep w Sx) O)) (v:Value):RetOb Sx w v O (.returned v) w':=by obtain⟨h,n,a,b,_⟩:=c.leaveO;exact⟨rfl,h,n,a,b⟩
theorem Sep.inner (f:Sep n0 R (Sep 0 X O) S w):Sep n0 (Sep 0 R X) O S w:=by
 obtain⟨b,Sa,a,c,g,Sx,o,k,d,j,l⟩:=f;refine⟨fun x=>b x\/Sx x,o,fun x h=>?_,fun x h=>c x (d x h).1,⟨b,Sx,fun x h=>⟨.inl h,fun e=>(a x h).2 (k x e).1⟩,fun x h=>⟨.inr h,zb _⟩,g,j⟩,l⟩;obtain h|h:=h
 ·exact⟨(a x h).1,fun i=>(a x h).2 (d x i).1⟩
 ·exact⟨(c x (k x h).1).1,(k x h).2⟩
theorem Sep.outer (c:Sep 0 (Sep 0 R X) O S w):Sep 0 R (Sep 0 X O) S w:=by
 obtain⟨j,o,a,d,⟨r,Sx,k,b,g,i⟩,f⟩:=c;refine⟨r,fun x=>Sx x\/o x,fun x h=>⟨(a x (k x h).1).1,?_⟩,fun x h=>⟨?_,zb _⟩,g,Sx,o,fun x h=>⟨.inl h,(a x (b x h).1).2⟩,fun x h=>⟨.inr h,zb _⟩,i,f⟩
 ·rintro (e | e)
  ·exact (k x h).2 e
  ·exact (a x (k x h).1).2 e
 ·obtain h|h:=h
  ·exact (a x (b x h).1).1
  ·exact (d x h).1
theorem Sep.swapIn (a:Sep 0 R (Sep 0 X O) S w):Sep 0 X (Sep 0 R O) S w:=by obtain⟨c,Sa,b,d,g,Sx,o,k,f,i,j⟩:=a;exact⟨Sx,fun y=>c y\/o y,fun y h=>⟨(d y (k y h).1).1,fun e=>e.elim (fun e=>(b y e).2 (k y h).1) (k y h).2⟩,fun y h=>⟨h.elim (fun a=>(b y a).1) (fun a=>(d y (f y a).1).1),zb _⟩,i,c,o,fun y h=>⟨.inl h,fun e=>(b y h).2 (f y e).1⟩,fun y h=>⟨.inr h,zb _⟩,g,j⟩
theorem A3i (i:CtxF no (bare w0) S w l os R) {a b:Nat->Prop} (e:∀ x,a x->S x/\¬ b x) (h:Keep w0 Sx a w) (f:EnvFree Sx w0):EnvFree b w:=
 f.kept fun x c g=>⟨fun d=>(e x (h x c g).1).2 d,(h x c g).2⟩
def HdK (g T:Nat) (cs:List Value) (R:Kn):Kn:=fun S w=>S g/\Blk w g T cs/\R (fun x=>S x/\x≠g) w
theorem HdK.stab (b:Stab R):Stab (HdK g T cs R):=fun S w c w' h f=>
 ⟨f.1 _ h.1,h.2.1.of_eq (f.2 _ h.1),b _ _ _ _ h.2.2 ⟨fun a x=>⟨f.1 a x.1,x.2⟩,fun a x=>f.2 a x.1⟩⟩
theorem ObjK.sep (i:Stab R) (c:ObjK g T cs R O S w):Sep 0 (HdK g T cs R) O S w:=by
 obtain⟨d,f,b,Sa,k,a,j,l⟩:=c;refine⟨fun x=>x=g\/b x,Sa,fun x h=>?_,fun x h=>⟨(a x h).1.1,zb _⟩,⟨.inl rfl,f,i _ _ _ _ j ⟨fun x h=>⟨.inr h,(k x h).1.2⟩,fun _ _=>rfl⟩⟩,l⟩;obtain rfl|h:=h
 ·exact⟨d,fun e=>(a _ e).1.2 rfl⟩
 ·exact⟨(k x h).1.1,(k x h).2⟩
theorem Sep.obj (c:Sep 0 (HdK g T cs R) O S w):ObjK g T cs R O S w:=by obtain⟨b,Sa,a,d,⟨k,i,j⟩,f⟩:=c;exact⟨(a g k).1,i,fun x=>b x/\x≠g,Sa,fun x h=>⟨⟨(a x h.1).1,h.2⟩,(a x h.1).2⟩,fun x h=>⟨⟨(d x h).1,fun e=>(a g k).2 (e▸h)⟩,zb _⟩,j,f⟩
def OwnK (e sz:Nat) (A:Option Addr) (n cap:Nat) (xs:List Value):Kn:=fun S w=>w.ownsRow 0 e sz (.slice A n cap) n xs/\∀ a,A=some a->S a.block
theorem OwnK.stab (e s:Nat) (A:Option Addr) (n c:Nat) (xs:List Value):Stab (OwnK e s A n c xs):=fun S w d w' h f=>by have h0:Own no 0 w [] e s A n c xs:=⟨h.1,fun a b=>⟨fun h=>h.elim,fun g x=>by cases x⟩⟩;exact⟨h0.kept fun a b=>f.2 _ (h.2 a b),fun a b=>f.1 _ (h.2 a b)⟩
theorem OwnK.nil (e s:Nat) (S:Nat->Prop) (w:World):OwnK e s none 0 0 [] S w:=⟨World.ownsRow_nil ..,fun a h=>by cases h⟩
theorem CtxF.pull {e s q o:Nat} {A:Option Addr} {t:List Value} (d:CtxF no (bare w0) S w l [] (Sep 0 (Sep 0 R (Sep 0 X (OwnK e s A q o t))) O)) (C:Stab R) (D:Stab X) (B:Stab O):∃ u,CtxF no (bare w0) u w l [⟨e,s,A,q,o,t⟩] (Sep 0 (Sep 0 R X) O):=by
 obtain⟨K,v,c,y,⟨r,Sm,k,i,J,Sx,L,j,n,H,I,f⟩,z⟩:=d.row;have G:∀ a,A=some a->S a.block:=fun a b=>(c _ (i _ (n _ (f a b)).1).1).1;refine⟨fun x=>S x/\∀ a,A=some a->a.block≠x,⟨d.ctx.below,fun x h=>h.elim,fun x h=>d.ctx.new x h.1,fun x h=>d.ctx.lt x h.1,d.ctx.locs.mono (fun _ _=>rfl) (fun x h m=>m.1)⟩,⟨⟨I,fun a b=>⟨fun m=>m.2 a b rfl,fun x h e=>?_⟩⟩,(fun p F=>by cases F),t6⟩,?_,Sep.stab (Sep.stab C D) B⟩
 ·obtain⟨M,E⟩:=List.getElem?_of_mem h;obtain⟨g,T,cs⟩:=x;exact (d.ctx.locs.notS E).1 ((show g=a.block from e)▸G a b)
 ·refine⟨fun x=>r x\/Sx x,v,fun x h=>?_,fun x h=>⟨⟨(y x h).1,fun a b e=>?_⟩,zb _⟩,⟨r,Sx,fun x h=>⟨.inl h,fun e=>(k x h).2 (j x e).1⟩,fun x h=>⟨.inr h,zb _⟩,J,H⟩,z⟩
  ·obtain h|h:=h
   ·exact⟨⟨(c x (k x h).1).1,fun a b e=>(k x h).2 (e▸(n _ (f a b)).1)⟩,(c x (k x h).1).2⟩
   ·exact⟨⟨(c x (i x (j x h).1).1).1,fun a b e=>(j x h).2 (e▸f a b)⟩,(c x (i x (j x h).1).1).2⟩
  ·exact (c x (i x (e▸(n _ (f a b)).1)).1).2 h
theorem CtxF.push {o:OR} (c:CtxF no (bare w0) S w l [o] (Sep 0 (Sep 0 R X) O)) (u:Stab R) (z:Stab X) (t:Stab O):∃ m,CtxF no (bare w0) m w l [] (Sep 0 (Sep 0 R (Sep 0 X (OwnK o.e o.sz o.A o.n o.cap o.xs))) O):=by
 obtain⟨p,q,b,i,⟨r,Sx,k,j,C,D⟩,s⟩:=c.row;have A:=c.fst.out;have B:w.ownsRow 0 o.e o.sz (.slice o.A o.n o.cap) o.n o.xs:=c.fst.row;have n:∀ x,(∃ a,o.A=some a/\a.block=x)->¬ S x:=fun x ⟨a,f,e⟩=>e▸(A a f).1;have v:∀ x,r x->S x:=fun x h=>(b x (k x h).1).1;have y:∀ x,Sx x->S x:=fun x h=>(b x (j x h).1).1;refine⟨fun g=>S g\/∃ a,o.A=some a/\a.block=g,(c.fst.told c.ctx).1,t6,⟨fun x=>p x\/∃ a,o.A=some a/\a.block=x,q,fun x h=>?_,fun x h=>⟨.inl (i x h).1,zb _⟩,⟨r,fun x=>Sx x\/∃ a,o.A=some a/\a.block=x,fun x h=>⟨.inl (k x h).1,fun e=>e.elim (k x h).2 fun e=>n x e (v x h)⟩,fun x h=>⟨h.elim (fun d=>.inl (j x d).1) .inr,zb _⟩,C,Sx,fun x=>∃ a,o.A=some a/\a.block=x,fun x h=>⟨.inl h,fun e=>n x e (y x h)⟩,fun x h=>⟨.inr h,zb _⟩,D,B,fun a f=>⟨a,f,rfl⟩⟩,s⟩,Sep.stab (Sep.stab u (Sep.stab z (OwnK.stab _ _ _ _ _ _))) t⟩;obtain h|h:=h
 ·exact⟨.inl (b x h).1,(b x h).2⟩
 ·exact⟨.inr h,fun d=>n x h (i x d).1⟩
end
end Go.Vc
end
namespace Go.Proofs.YtefdfaeieekioaaGreatDoor
open Go.Vc Go.RowKit Go.Fl Go.ChangeShapes Go.WideShapes Go.ChangeAt
def RetWdo (q:Option Wd) (w:World) (en:Ending) (w':World):Prop:=∃ x N,en=.returned (.tuple #[.agg (wdC (q.getD Wd0) x).toArray,.int .i64 (if q.isSome then 0 else 1)])/\Below w.heap.size w w'/\WdO w.heap.size (q.getD Wd0) x N w'
theorem RetWdo.none {w w':World} (h:Below w.heap.size w w'):RetWdo none w (.returned (.tuple #[.agg (wdC Wd0 WX0).toArray,.int .i64 1])) w':=⟨WX0,no,rfl,h,WdO.zero _ _⟩
def RetWd (q:Option Wd) (w:World) (en:Ending) (w':World):Prop:=∃ x,en=.returned (.tuple #[.agg (wdC (q.getD Wd0) x).toArray,.int .i64 (if q.isSome then 0 else 1)])/\Below w.heap.size w w'/\WdR (q.getD Wd0) x (ext no w w') w'
theorem RetWd.none {w w':World} (h:Below w.heap.size w w'):RetWd none w (.returned (.tuple #[.agg (wdC Wd0 WX0).toArray,.int .i64 1])) w':=⟨WX0,rfl,h,A8M _ _⟩
def flC (A:Option Addr) (n cap:Nat):List Value:=[.slice A n cap]
def FlockK (gf:Nat) (F:List ByteArray):Kn:=fun S w=>∃ A cap,ObjK gf 232 (flC A F.length cap) (RecK 9 A F.length cap (F.map Value.string)) (fun _ _=>True) S w
theorem FlockK.stab (g:Nat) (F:List ByteArray):Stab (FlockK g F):=fun S w a w' h f=>by obtain⟨A,cap,h⟩:=h;exact⟨A,cap,ObjK.stab yr Stab.true _ _ _ _ h f⟩
theorem FlockK.later {g:Nat} {F:List ByteArray} {S:Nat->Prop} {w w':World} (h:FlockK g F S w) (l:∀ x,S x->x<w.heap.size) (a:Below w.heap.size w w'):FlockK g F S w':=
 FlockK.stab g F S w S w' h ⟨fun _ h=>h,fun b s=>a.block b (l b s)⟩
def RetPko (q:Option Wd) (w:World) (en:Ending) (w':World):Prop:=∃ x N,en=.returned (.tuple #[.agg (wdC (q.getD Wd0) x).toArray,.bool q.isSome])/\Below w.heap.size w w'/\WdO w.heap.size (q.getD Wd0) x N w'
theorem RetPko.none {w w':World} (h:Below w.heap.size w w'):RetPko none w (.returned (.tuple #[.agg (wdC Wd0 WX0).toArray,.bool false])) w':=⟨WX0,no,rfl,h,WdO.zero _ _⟩
def RetPk (q:Option Wd) (w:World) (en:Ending) (w':World):Prop:=∃ x,en=.returned (.tuple #[.agg (wdC (q.getD Wd0) x).toArray,.bool q.isSome])/\Below w.heap.size w w'/\WdR (q.getD Wd0) x (ext no w w') w'
theorem RetPk.none {w w':World} (h:Below w.heap.size w w'):RetPk none w (.returned (.tuple #[.agg (wdC Wd0 WX0).toArray,.bool false])) w':=⟨WX0,rfl,h,A8M _ _⟩
end Go.Proofs.YtefdfaeieekioaaGreatDoor
section
namespace Go.Vc
open Go Go.RowKit
open Go.Proofs.YtefdfaeieekioaaGreatDoor (no)
def ZA (A:Option Addr):Prop:=∀ a,A=some a->a=⟨a.block,0,none⟩
theorem row_stab {A:Option Addr} {n c:Nat} {x:List Value}:Stab (fun S w=>Row S w A n c x):=fun _ _ _ _ h f=>h.fut f
theorem Own.za {S:Nat->Prop} {f:Nat} {w:World} {l:List LB} {b s n c:Nat} {A:Option Addr} {x:List Value} (d:Own S f w l b s A n c x):ZA A:=fun a h=>by
 obtain⟨e,_⟩|⟨g,p,u,e,_⟩:=d.row.2
 ·subst h;cases e
 ·subst h;cases e;rfl
section
variable {S0 S:Nat->Prop} {w0 w w':World} {l:List LB} {os:List OR} {o:OR} {R O O':Kn}
structure Cel (w:World) (a:Addr):Prop where
 spot:a.spot=none
 blk:∃ T cs,Blk w a.block T cs/\a.off<cs.length
theorem Cel.of {a:Addr} {b:Value} (s:a.spot=none) (h:∃ T cs,Blk w a.block T cs) (v:w.cell? a=some b):Cel w a:=by obtain⟨T,cs,h⟩:=h;refine⟨s,T,cs,h,?_⟩;obtain⟨c,o,sub⟩:=a;cases s;rw [h.cell] at v;exact (List.getElem?_eq_some_iff.1 v).1
end
end Go.Vc
namespace Go.Proofs.YtefdfaeieekioaaGreatDoor
open Go.Vc Go.RowKit Go.Fl Go.ChangeShapes Go.WideShapes Go.ChangeAt
end Go.Proofs.YtefdfaeieekioaaGreatDoor
end
