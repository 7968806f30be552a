import Derived.Test.YtefdfaeieekioaaGreatDoorQ04
import Derived.Lib.Overlaps
set_option maxRecDepth 100000
set_option maxHeartbeats 40000000
set_option linter.unusedVariables false
set_option linter.unusedSimpArgs false
namespace Go.Proofs.YtefdfaeieekioaaGreatDoor
open Go.Vc Go.RowKit Go.Fl
def B5G (e sz n:Nat) (xs:List Value) (w:World) (en:Ending) (w':World):Prop:=∃ A cap,en=.returned (.slice A n cap)/\Below w.heap.size w w'/\w'.ownsRow w.heap.size e sz (.slice A n cap) n xs
theorem Row.cut {S:Nat->Prop} {w:World} {A:Option Addr} {n p k:Nat} {c:List (List Value)} (R:Row S w A n p c.flatten) (F:Flat k c) (a:0<k) (d:c.length=n) (b:A=none):n=0/\c.flatten=[]:=by
 subst b;obtain h|h:=Nat.eq_zero_or_pos n
 ·refine⟨h,zo ?_⟩;rw [F.len,d,h,Nat.zero_mul]
 ·obtain⟨f,e,_⟩:=Row.elemF R a F 0 (by omega);cases e
theorem A6n:(Tryz.prog.info? 147).map (fun i=>(i.zero,i.size,i.bytes))=some (some (.agg #[.int .i64 0,.bool false,.string ⟨#[]⟩]),3,32):=by kernel_rfl
theorem B7w (a:Option Addr) (n c:Nat) (o y:Operand) (w:World):(do eqGuard .eql 97 o y (.slice a n c) (.slice none 0 0);Go.binOp .eql 97 (.slice a n c) (.slice none 0 0):Sem Value).run Tryz.prog w=.ok (.bool a.isNone) w:=by have h:=Lib.run_eql_slice_nil (P:=Tryz.prog) w 97 147 a n c 0 0 Tryz.underlying97;simp only [eqGuard];simpa using h
theorem O3 (A:Option Addr) (n p:Nat) (s:List (List Value)) (F:Flat 3 s) (b:s.length=n) (i:n<=1000000) (S:Nat->Prop) (w:World) (R:Row S w A n p s.flatten):
  Calls Tryz.prog 109 #[.slice A n p] w (B5G 147 3 n s.flatten w):=by
 refine vE Tryz.func109 ?_;refine⟨_,fun w=>B7w A n p _ _ w,?_⟩;cases A with
 | none=>
  obtain⟨h0,a⟩:=Row.cut R F (by decide) b rfl;subst h0;rw [a];exact⟨none,0,rfl,Below.refl _ _,World.ownsRow_nil _ _ _ _⟩
 | some m=>
  intro j l a;have c:=Ctx.start w no (fun _ d=>d.elim);obtain⟨c,g,h⟩:=Own.made c a 3 0 rfl (zb _);refine A01 Tryz.underlying97 A6n rfl (by decide) c h (R.below a.below) (by rw [F.len,b]) F.ones (by omega) (by decide) ?_;intro e f k c g h _;rw [zn] at h ⊢;rw [List.nil_append] at h;exact⟨e,f,rfl,c.below,h.row⟩
theorem A74 {x S:Nat->Prop} {b w:World} {l:List LB} (h:Ctx x b S w l) (s:List (List Value)) (F:Flat 3 s) {A:Option Addr} {cap:Nat} (o:Own S b.heap.size w l 147 3 A s.length cap s.flatten) (i:Nat) (R:i<s.length) (j:Int) (U:j=i+1):
  Calls Tryz.prog 321 #[.slice A s.length cap,.int .i64 i,.int .i64 j] w (fun N f=>∃ v,N=.returned (.slice v (s.length-1) cap)/\Ctx x b S f l/\Fut S w S f/\Own S b.heap.size f l 147 3 v (s.length-1) cap (s.take i++s.drop (i+1)).flatten):=by
 cases q:A with
 | none=>
  obtain⟨h0,_⟩:=o.none' q;omega
 | some a=>
 obtain⟨g,u,e,h,d,B,V,C⟩:=o.opened h q;rw [q] at e;cases e;have T:cap<=9223372036854775807:=zq C (by decide);generalize Q:s.length=n at*;refine vE Tryz.func321 ?_;refine⟨⟨by omega,by omega,by omega,by omega⟩,?_⟩;refine B4 (by show ((i:Int)==j)=false;rw [ya];omega) ?_;refine vD (.Q [0,1,2,3,4,5] (.n 6 (.q 7 .fin) .stop)) (fun _=>True) trivial ?_;have h:=h.drew;refine⟨⟨by omega,by omega,by omega,by omega⟩,⟨by omega,by omega,by omega,by omega⟩,?_,t6⟩;have H:j.toNat=i+1:=by omega
 have y:((s.drop (i+1)).flatten).length=(n-(i+1))*3:=by rw [(F.drop _).len,zh,Q]
 have J:(u.drop ((i+1)*3)).take ((s.drop (i+1)).flatten).length=(s.drop (i+1)).flatten:=by rw [F.flat_drop,<-B,List.drop_take,zg,zh,d];congr 1;omega
 have E:∀ k:Addr,k=(if (cap:Int)=j then (⟨g,0,none⟩:Addr) else (⟨g,0,none⟩:Addr).add (j.toNat*3))->Go.Vc.cellsAt w.drew k (s.drop (i+1)).flatten 0:=by
  intro k t;by_cases I:(cap:Int)=j
  ·have:(s.drop (i+1)).flatten=[]:=zo (by rw [y];omega);rw [this];trivial
  ·rw [yo I,yi,zn,H] at t;rw [t];exact h.cellsAt 0 rfl _ _ J
 refine A9C Tryz.underlying97 A6n h d (n:=i) (m:=n-(i+1)) (c:=((cap:Int)-j).toNat) (by omega) y (E _ rfl) (F.drop _).ones ?_ ?_ ?_
 ·have p:(if (cap:Int)=0 then some (⟨g,0,none⟩:Addr) else (some (⟨g,0,none⟩:Addr)).map (·.add ((0:Int).toNat*3)))=some ⟨g,0,none⟩:=by split<;>rfl
  show Value.slice (if (cap:Int)=0 then some (⟨g,0,none⟩:Addr) else (some (⟨g,0,none⟩:Addr)).map (·.add ((0:Int).toNat*3))) ((i:Int)-0).toNat ((cap:Int)-0).toNat=_;rw [p];congr 1<;>omega
 ·show Value.slice (if (cap:Int)=j then some (⟨g,0,none⟩:Addr) else (some (⟨g,0,none⟩:Addr)).map (·.add (j.toNat*3))) ((n:Int)-j).toNat ((cap:Int)-j).toNat=_;have p:(if (cap:Int)=j then some (⟨g,0,none⟩:Addr) else (some (⟨g,0,none⟩:Addr)).map (·.add (j.toNat*3)))=some (if (cap:Int)=j then (⟨g,0,none⟩:Addr) else (⟨g,0,none⟩:Addr).add (j.toNat*3)):=by split<;>rfl
  rw [p];congr 1;omega
 intro X h P;refine⟨t6,?_⟩;have K:i+(n-(i+1))=n-1:=by omega
 rw [K];have r:(u.take (i*3)++(s.drop (i+1)).flatten++u.drop ((i+(n-(i+1)))*3)).length=cap*3:=by rw [z6,z6,zg,zh,y,d];omega
 have L:(u.take (i*3)++(s.drop (i+1)).flatten++u.drop ((i+(n-(i+1)))*3)).take ((n-1)*3)=(s.take i++s.drop (i+1)).flatten:=by
  have e:(u.take (i*3)++(s.drop (i+1)).flatten).length=(n-1)*3:=by rw [z6,zg,y,d];omega
  rw [List.take_left' e,zt,F.flat_take,<-B,List.take_take];congr 2;omega
 generalize u.take (i*3)++(s.drop (i+1)).flatten++u.drop ((i+(n-(i+1)))*3)=cur2 at*;refine⟨⟨by omega,by omega,by omega,by omega⟩,?_⟩;refine A28 Tryz.underlying97 (z:=.agg #[.int .i64 0,.bool false,.string ⟨#[]⟩]) (fun w=>by kernel_rfl) (a:=⟨g,(n-1)*3,none⟩) (n:=1) (c:=cap-(n-1)) (by decide) ?_ (zs:=[.int .i64 0,.bool false,.string ⟨#[]⟩]) (by kernel_rfl) (h.may 0 rfl ((n-1)*3) [.int .i64 0,.bool false,.string ⟨#[]⟩] (by rw [r];show (n-1)*3+3<=_;omega) rfl) ?_
 ·show Value.slice (if (cap:Int)=((n-1:Nat):Int) then some (⟨g,0,none⟩:Addr) else (some (⟨g,0,none⟩:Addr)).map (·.add (((n-1:Nat):Int).toNat*3))) ((n:Int)-((n-1:Nat):Int)).toNat ((cap:Int)-((n-1:Nat):Int)).toNat=_;rw [yo (by omega),Option.map_some,yi,zn,zi];congr 1<;>omega
 intro W M;have D:=h.set 0 rfl M;have h:=D.1;have O:(C5 cur2 ((n-1)*3) [.int .i64 0,.bool false,.string ⟨#[]⟩]).length=cap*3:=by rw [putAt_len,r]
 obtain⟨h,o⟩:=Ctx.closed h 3 (n-1) cap (by omega) C O;refine⟨some ⟨g,0,none⟩,rfl,h,P.trans D.2,?_⟩;rw [<-L];have G:(C5 cur2 ((n-1)*3) [.int .i64 0,.bool false,.string ⟨#[]⟩]).take ((n-1)*3)=cur2.take ((n-1)*3):=by rw [G9 _ _ _ (by rw [r];show (n-1)*3+3<=_;omega),zw,List.take_left' (by rw [zg,r];omega)]
 rw [<-G];exact o
theorem A1M:(Tryz.prog.info? 99).map (fun i=>(i.zero,i.size,i.bytes))=some (some (.agg #[.string ⟨#[]⟩,.slice none 0 0]),2,40):=by kernel_rfl
theorem B7x (a:Option Addr) (n c:Nat) (o y:Operand) (w:World):(do eqGuard .eql 37 o y (.slice a n c) (.slice none 0 0);Go.binOp .eql 37 (.slice a n c) (.slice none 0 0):Sem Value).run Tryz.prog w=.ok (.bool a.isNone) w:=by have h:=Lib.run_eql_slice_nil (P:=Tryz.prog) w 37 99 a n c 0 0 Tryz.underlying37;simp only [eqGuard];simpa using h
theorem J1 (A:Option Addr) (n p:Nat) (s:List (List Value)) (F:Flat 2 s) (b:s.length=n) (i:n<=1000000) (S:Nat->Prop) (w:World) (R:Row S w A n p s.flatten):
  Calls Tryz.prog 107 #[.slice A n p] w (B5G 99 2 n s.flatten w):=by
 refine vE Tryz.func107 ?_;refine⟨_,fun w=>B7x A n p _ _ w,?_⟩;cases A with
 | none=>
  obtain⟨h0,a⟩:=Row.cut R F (by decide) b rfl;subst h0;rw [a];exact⟨none,0,rfl,Below.refl _ _,World.ownsRow_nil _ _ _ _⟩
 | some m=>
  intro j l a;have c:=Ctx.start w no (fun _ d=>d.elim);obtain⟨c,g,h⟩:=Own.made c a 2 0 rfl (zb _);refine A01 Tryz.underlying37 A1M rfl (by decide) c h (R.below a.below) (by rw [F.len,b]) F.ones (by omega) (by decide) ?_;intro e f k c g h _;rw [zn] at h ⊢;rw [List.nil_append] at h;exact⟨e,f,rfl,c.below,h.row⟩
theorem A75 {x S:Nat->Prop} {b w:World} {l:List LB} (h:Ctx x b S w l) (s:List (List Value)) (F:Flat 2 s) {A:Option Addr} {cap:Nat} (o:Own S b.heap.size w l 99 2 A s.length cap s.flatten) (i:Nat) (R:i<s.length) (j:Int) (U:j=i+1):
  Calls Tryz.prog 292 #[.slice A s.length cap,.int .i64 i,.int .i64 j] w (fun N f=>∃ v,N=.returned (.slice v (s.length-1) cap)/\Ctx x b S f l/\Fut S w S f/\Own S b.heap.size f l 99 2 v (s.length-1) cap (s.take i++s.drop (i+1)).flatten):=by
 cases q:A with
 | none=>
  obtain⟨h0,_⟩:=o.none' q;omega
 | some a=>
 obtain⟨g,u,e,h,d,B,V,C⟩:=o.opened h q;rw [q] at e;cases e;have T:cap<=9223372036854775807:=zq C (by decide);generalize Q:s.length=n at*;refine vE Tryz.func292 ?_;refine⟨⟨by omega,by omega,by omega,by omega⟩,?_⟩;refine B4 (by show ((i:Int)==j)=false;rw [ya];omega) ?_;refine vD (.Q [0,1,2,3,4,5] (.n 6 (.q 7 .fin) .stop)) (fun _=>True) trivial ?_;have h:=h.drew;refine⟨⟨by omega,by omega,by omega,by omega⟩,⟨by omega,by omega,by omega,by omega⟩,?_,t6⟩;have H:j.toNat=i+1:=by omega
 have y:((s.drop (i+1)).flatten).length=(n-(i+1))*2:=by rw [(F.drop _).len,zh,Q]
 have J:(u.drop ((i+1)*2)).take ((s.drop (i+1)).flatten).length=(s.drop (i+1)).flatten:=by rw [F.flat_drop,<-B,List.drop_take,zg,zh,d];congr 1;omega
 have E:∀ k:Addr,k=(if (cap:Int)=j then (⟨g,0,none⟩:Addr) else (⟨g,0,none⟩:Addr).add (j.toNat*2))->Go.Vc.cellsAt w.drew k (s.drop (i+1)).flatten 0:=by
  intro k t;by_cases I:(cap:Int)=j
  ·have:(s.drop (i+1)).flatten=[]:=zo (by rw [y];omega);rw [this];trivial
  ·rw [yo I,yi,zn,H] at t;rw [t];exact h.cellsAt 0 rfl _ _ J
 refine A9C Tryz.underlying37 A1M h d (n:=i) (m:=n-(i+1)) (c:=((cap:Int)-j).toNat) (by omega) y (E _ rfl) (F.drop _).ones ?_ ?_ ?_
 ·have p:(if (cap:Int)=0 then some (⟨g,0,none⟩:Addr) else (some (⟨g,0,none⟩:Addr)).map (·.add ((0:Int).toNat*2)))=some ⟨g,0,none⟩:=by split<;>rfl
  show Value.slice (if (cap:Int)=0 then some (⟨g,0,none⟩:Addr) else (some (⟨g,0,none⟩:Addr)).map (·.add ((0:Int).toNat*2))) ((i:Int)-0).toNat ((cap:Int)-0).toNat=_;rw [p];congr 1<;>omega
 ·show Value.slice (if (cap:Int)=j then some (⟨g,0,none⟩:Addr) else (some (⟨g,0,none⟩:Addr)).map (·.add (j.toNat*2))) ((n:Int)-j).toNat ((cap:Int)-j).toNat=_;have p:(if (cap:Int)=j then some (⟨g,0,none⟩:Addr) else (some (⟨g,0,none⟩:Addr)).map (·.add (j.toNat*2)))=some (if (cap:Int)=j then (⟨g,0,none⟩:Addr) else (⟨g,0,none⟩:Addr).add (j.toNat*2)):=by split<;>rfl
  rw [p];congr 1;omega
 intro X h P;refine⟨t6,?_⟩;have K:i+(n-(i+1))=n-1:=by omega
 rw [K];have r:(u.take (i*2)++(s.drop (i+1)).flatten++u.drop ((i+(n-(i+1)))*2)).length=cap*2:=by rw [z6,z6,zg,zh,y,d];omega
 have L:(u.take (i*2)++(s.drop (i+1)).flatten++u.drop ((i+(n-(i+1)))*2)).take ((n-1)*2)=(s.take i++s.drop (i+1)).flatten:=by
  have e:(u.take (i*2)++(s.drop (i+1)).flatten).length=(n-1)*2:=by rw [z6,zg,y,d];omega
  rw [List.take_left' e,zt,F.flat_take,<-B,List.take_take];congr 2;omega
 generalize u.take (i*2)++(s.drop (i+1)).flatten++u.drop ((i+(n-(i+1)))*2)=cur2 at*;refine⟨⟨by omega,by omega,by omega,by omega⟩,?_⟩;refine A28 Tryz.underlying37 (z:=.agg #[.string ⟨#[]⟩,.slice none 0 0]) (fun w=>by kernel_rfl) (a:=⟨g,(n-1)*2,none⟩) (n:=1) (c:=cap-(n-1)) (by decide) ?_ (zs:=[.string ⟨#[]⟩,.slice none 0 0]) (by kernel_rfl) (h.may 0 rfl ((n-1)*2) [.string ⟨#[]⟩,.slice none 0 0] (by rw [r];show (n-1)*2+2<=_;omega) rfl) ?_
 ·show Value.slice (if (cap:Int)=((n-1:Nat):Int) then some (⟨g,0,none⟩:Addr) else (some (⟨g,0,none⟩:Addr)).map (·.add (((n-1:Nat):Int).toNat*2))) ((n:Int)-((n-1:Nat):Int)).toNat ((cap:Int)-((n-1:Nat):Int)).toNat=_;rw [yo (by omega),Option.map_some,yi,zn,zi];congr 1<;>omega
 intro W M;have D:=h.set 0 rfl M;have h:=D.1;have O:(C5 cur2 ((n-1)*2) [.string ⟨#[]⟩,.slice none 0 0]).length=cap*2:=by rw [putAt_len,r]
 obtain⟨h,o⟩:=Ctx.closed h 2 (n-1) cap (by omega) C O;refine⟨some ⟨g,0,none⟩,rfl,h,P.trans D.2,?_⟩;rw [<-L];have G:(C5 cur2 ((n-1)*2) [.string ⟨#[]⟩,.slice none 0 0]).take ((n-1)*2)=cur2.take ((n-1)*2):=by rw [G9 _ _ _ (by rw [r];show (n-1)*2+2<=_;omega),zw,List.take_left' (by rw [zg,r];omega)]
 rw [<-G];exact o
theorem A2I:(Tryz.prog.info? 101).map (fun i=>(i.zero,i.size,i.bytes))=some (some (.agg #[.int .i64 0,.int .i64 0,.int .i64 0]),3,24):=by kernel_rfl
theorem B7y (a:Option Addr) (n c:Nat) (o y:Operand) (w:World):(do eqGuard .eql 38 o y (.slice a n c) (.slice none 0 0);Go.binOp .eql 38 (.slice a n c) (.slice none 0 0):Sem Value).run Tryz.prog w=.ok (.bool a.isNone) w:=by have h:=Lib.run_eql_slice_nil (P:=Tryz.prog) w 38 101 a n c 0 0 Tryz.underlying38;simp only [eqGuard];simpa using h
theorem W7 (A:Option Addr) (n p:Nat) (s:List (List Value)) (F:Flat 3 s) (b:s.length=n) (i:n<=1000000) (S:Nat->Prop) (w:World) (R:Row S w A n p s.flatten):
  Calls Tryz.prog 108 #[.slice A n p] w (B5G 101 3 n s.flatten w):=by
 refine vE Tryz.func108 ?_;refine⟨_,fun w=>B7y A n p _ _ w,?_⟩;cases A with
 | none=>
  obtain⟨h0,a⟩:=Row.cut R F (by decide) b rfl;subst h0;rw [a];exact⟨none,0,rfl,Below.refl _ _,World.ownsRow_nil _ _ _ _⟩
 | some m=>
  intro j l a;have c:=Ctx.start w no (fun _ d=>d.elim);obtain⟨c,g,h⟩:=Own.made c a 3 0 rfl (zb _);refine A01 Tryz.underlying38 A2I rfl (by decide) c h (R.below a.below) (by rw [F.len,b]) F.ones (by omega) (by decide) ?_;intro e f k c g h _;rw [zn] at h ⊢;rw [List.nil_append] at h;exact⟨e,f,rfl,c.below,h.row⟩
def C06 (A:Option Addr) (cap:Nat) (e:Ent) (q:Ent × Bool) (w:World) (en:Ending) (w':World):Prop:=
 if q.2 then ∃ A' cap',en=.returned (.tuple #[.agg #[.string q.1.key,.slice A' q.1.vs.length cap'],.bool true])/\Below w.heap.size w w'/\w'.ownsRow w.heap.size 147 3 (.slice A' q.1.vs.length cap') q.1.vs.length (q.1.vs.map J0).flatten
 else en=.returned (.tuple #[.agg #[.string e.key,.slice A e.vs.length cap],.bool false])/\Below w.heap.size w w'
theorem B9p (l:List Ver) (v:Ver):(l.map J0).flatten++J0 v=((l++[v]).map J0).flatten:=by simp
theorem C11 (l:List Ver) (i:Nat):((l.map J0).take i++(l.map J0).drop (i+1)).flatten=((l.take i++l.drop (i+1)).map J0).flatten:=by simp
theorem A3K (e:Ent) (v:Ver) (A:Option Addr) (c:Nat) (s:e.vs.length<=1000000) (S:Nat->Prop) (w:World) (R:Row S w A e.vs.length c (e.vs.map J0).flatten):
  Calls Tryz.prog 271 #[.agg #[.string e.key,.slice A e.vs.length c],.agg (J0 v).toArray] w (C06 A c e (A7y e v) w):=by
 refine vE Tryz.func271 ?_;intro F w1 y;have h:=((Ctx.start w no (fun _ a=>a.elim)).loc y).1;refine h.n fun P Z h2 h=>?_;refine h.n fun X L Y h=>?_;refine h.a 2 rfl rfl ?_;refine h.q (B2J e A c S L (R.below h.below)) fun W h4 h=>?_;have U:=E2 R;refine h.n fun J V T h=>?_;refine⟨h.may 0 rfl 0 _ (zc 3) rfl,?_⟩;intro G E;have h:=(h.set 0 rfl E).1;refine h.c 3 rfl rfl ?_;have t:((e.vs.length≠0/\v.ver<=(K1 e.vs).ver)\/12<=e.vs.length)->A7y e v=(e,false):=fun a=>by rw [A7y,yn a]
 have f:∀ a:e.vs.length≠0->¬ v.ver<=(K1 e.vs).ver,12<=e.vs.length\/A7y e v=(⟨e.key,e.vs++[v]⟩,true):=fun a=>by
  obtain g|g:=zm e.vs.length 12
  ·right;rw [A7y,yo];rintro (r | r)
   ·exact a r.1 r.2
   ·omega
  ·exact .inl g
 obtain h0|h0:=Nat.eq_zero_or_pos e.vs.length
 all_goals first
  | (
    refine df (show ¬ (0:Int)<(e.vs.length:Int) by omega) ?_;have f:=f (fun a=>absurd h0 a))
  | (
    refine dt (show (0:Int)<(e.vs.length:Int) by omega) ?_;have O:A6d e=(K1 e.vs,!(K1 e.vs).gone):=by rw [A6d,yo (by omega)]
    rw [O] at h;refine h.c 2 rfl rfl ?_;have H:G.cell? ⟨J,0,none⟩=some (.int .i64 (K1 e.vs).ver):=h.cell 0 rfl _ rfl;refine⟨_,H,?_⟩;obtain k|k:=Int.lt_or_le (K1 e.vs).ver v.ver;rotate_left
    ·refine dt k ?_;refine h.a 3 rfl rfl ?_;refine h.s 1 rfl fun z M h=>?_;refine h.a 1 rfl rfl ?_;rw [t (.inl ⟨by omega,k⟩)];exact⟨rfl,h.below⟩
    refine df (show ¬ v.ver<=(K1 e.vs).ver by omega) ?_;have f:=f (fun _=>by omega))
 all_goals refine h.c 3 rfl rfl ?_
 all_goals obtain g|g:=zm e.vs.length 12
 all_goals first
  | (
    refine dt (show (12:Int)<=(e.vs.length:Int) by omega) ?_;refine h.a 3 rfl rfl ?_;refine h.s 1 rfl fun z M h=>?_;refine h.a 1 rfl rfl ?_;rw [t (.inr g)];exact⟨rfl,h.below⟩)
  | (
    refine df (show ¬ (12:Int)<=(e.vs.length:Int) by omega) ?_;have f:=f.resolve_left (by omega);rw [f];refine vD (.Q [0,1,2,3,5] (.n 4 (.n 6 (.n 7 (.q 8 (.n 9 (.q 10 .fin) .stop)) .stop) .stop) (.n 6 (.n 4 (.n 7 (.q 8 (.n 9 (.q 10 .fin) .stop)) .stop) .stop) .stop))) (fun d=>Blk d F 99 [.string e.key,.slice A e.vs.length c]/\Blk d P 147 (J0 v)) ⟨h.blk 3 rfl,h.blk 2 rfl⟩ ?_;have h:=h.drew;refine⟨_,fun d x=>x.1.cell 0,_,fun d x=>x.1.cell 1,J0 v,rfl,fun d x=>⟨x.2.cell 0,x.2.cell 1,x.2.cell 2,t6⟩,?_,?_,t6⟩
    ·refine⟨(O3 A e.vs.length c (e.vs.map J0) (N1 _) (by rw [zl]) s S _ (R.below h.below)).mono fun K I q=>?_⟩;obtain⟨C,N,j,i,o⟩:=q;obtain⟨h,_,o⟩:=h.fresh i o;refine⟨_,j,⟨h.blk 3 rfl,h.blk 2 rfl⟩,fun D B m=>?_,t6⟩;have o:=o.loc m;have h:=(h.loc m).1;refine⟨⟨h.blk 4 rfl,h.blk 3 rfl⟩,X9 Tryz.underlying97 A6n rfl (by decide) h o (ys:=J0 v) rfl (h.cells 0 rfl) rfl (by omega) (by decide) ?_,t6⟩;intro n p u h _ o _;refine⟨⟨h.blk 4 rfl,h.blk 3 rfl⟩,⟨h.may 2 rfl 0 _ (zc 2) rfl,?_⟩,t6⟩;intro Q b;have o:=o.set h 2 rfl b;have h:=(h.set 2 rfl b).1;refine⟨⟨h.blk 4 rfl,h.blk 3 rfl⟩,?_⟩;refine h.a 2 rfl rfl ?_;have o:=o.row;rw [B9p] at o;have l:(e.vs++[v]).length=e.vs.length+1:=by simp
     refine⟨n,p,?_,h.below,?_⟩
     ·simp only [l];rfl
     ·simp only [l];exact o
    ·refine h.n fun D B m h=>?_;refine⟨⟨h.blk 4 rfl,h.blk 3 rfl⟩,⟨(O3 A e.vs.length c (e.vs.map J0) (N1 _) (by rw [zl]) s S _ (R.below h.below)).mono fun K I q=>?_⟩,t6⟩;obtain⟨C,N,j,i,o⟩:=q;obtain⟨h,_,o⟩:=h.fresh i o;refine⟨_,j,⟨h.blk 4 rfl,h.blk 3 rfl⟩,X9 Tryz.underlying97 A6n rfl (by decide) h o (ys:=J0 v) rfl (h.cells 0 rfl) rfl (by omega) (by decide) ?_,t6⟩;intro n p u h _ o _;refine⟨⟨h.blk 4 rfl,h.blk 3 rfl⟩,⟨h.may 2 rfl 0 _ (zc 2) rfl,?_⟩,t6⟩;intro Q b;have o:=o.set h 2 rfl b;have h:=(h.set 2 rfl b).1;refine⟨⟨h.blk 4 rfl,h.blk 3 rfl⟩,?_⟩;refine h.a 2 rfl rfl ?_;have o:=o.row;rw [B9p] at o;have l:(e.vs++[v]).length=e.vs.length+1:=by simp
     refine⟨n,p,?_,h.below,?_⟩
     ·simp only [l];rfl
     ·simp only [l];exact o)
theorem B2M (e:Ent) (n:Int) (A:Option Addr) (cap:Nat) (u:e.vs.length<=1000000) (S:Nat->Prop) (w:World) (R:Row S w A e.vs.length cap (e.vs.map J0).flatten):
  Calls Tryz.prog 291 #[.agg #[.string e.key,.slice A e.vs.length cap],.int .i64 n] w (C06 A cap e (B12 e n) w):=by
 refine vE Tryz.func291 ?_;intro r J j;have h:=((Ctx.start w no (fun _ v=>v.elim)).loc j).1;refine h.n fun I B L h=>?_;refine h.a 1 rfl rfl ?_;refine h.q (B2L e n A cap S B (R.below h.below)) fun G F h=>?_;have M:=E2 R;unfold B12;cases f:A3B e.vs n with
 | none=>
  refine h.a 1 rfl rfl ?_;refine h.s 0 rfl fun C H h=>?_;refine h.a 0 rfl rfl ?_;exact⟨rfl,h.below⟩
 | some i=>
  obtain⟨t,_⟩:=A70 f;refine vD (.Q [0,1,2,3,5,6,7] (.n 4 (.n 8 (.q 9 (.n 10 (.q 11 .fin) .stop)) .stop) .stop)) (fun x=>Blk x r 99 [.string e.key,.slice A e.vs.length cap]) (h.blk 1 rfl) ?_;have h:=h.drew;refine⟨_,fun x a=>a.cell 0,_,fun x a=>a.cell 1,⟨(O3 A e.vs.length cap (e.vs.map J0) (N1 _) (by rw [zl]) u S _ (R.below h.below)).mono fun y E q=>?_⟩,t6⟩;obtain⟨p,c,k,g,o⟩:=q;obtain⟨h,_,o⟩:=h.fresh g o;refine⟨_,k,h.blk 1 rfl,?_,t6⟩;have m:(e.vs.map J0).length=e.vs.length:=zl ..;have d:=A74 h (e.vs.map J0) (N1 _) (A:=p) (cap:=c) (by rw [m];exact o) i (by rw [m];exact t) (IntKind.i64.wrap ((i:Int)+1)) (by rw [G8 _ _ (by omega) (by omega)]);rw [m] at d;refine⟨d.mono fun y D q=>?_⟩;obtain⟨z,s,h,_,o⟩:=q;refine⟨_,s,h.blk 1 rfl,⟨h.may 0 rfl 0 _ (zc 2) rfl,?_⟩,t6⟩;intro K b;have o:=o.set h 0 rfl b;have h:=(h.set 0 rfl b).1;refine⟨h.blk 1 rfl,?_⟩;refine h.a 0 rfl rfl ?_;have o:=o.row;rw [C11] at o;have l:(e.vs.take i++e.vs.drop (i+1)).length=e.vs.length-1:=by rw [z6,zg,zh];omega
  refine⟨z,c,?_,h.below,?_⟩
  ·simp only [l];rfl
  ·simp only [l];exact o
theorem I6 (l:List Mem):Flat 3 (l.map G0):=Flat.map G0 (fun _=>⟨rfl,rfl⟩) l
theorem RowM.elem {S:Nat->Prop} {w:World} {A:Option Addr} {n c:Nat} {l:List Mem} (R:Row S w A n c (l.map G0).flatten) (i:Nat) (b:i<l.length):∃ a,A=some a/\Go.Vc.cellsAt w (a.add (i*3)) (G0 l[i]) 0:=by obtain⟨a,e,h⟩:=Row.elemF R (by decide) (I6 l) i (by rw [zl];exact b);rw [List.getElem_map] at h;exact⟨a,e,h⟩
theorem RowE.elem {S:Nat->Prop} {w:World} {b:Option Addr} {n p:Nat} {l:List Ent} {s:List (List Value)} (R:Row S w b n p s.flatten) (h:RepEs S w l s) (i:Nat) (e:i<l.length):
  ∃ a A c,b=some a/\Go.Vc.cellsAt w (a.add (i*2)) [.string l[i].key,.slice A l[i].vs.length c] 0/\Row S w A l[i].vs.length c (l[i].vs.map J0).flatten:=by
 have k:=h.len;obtain⟨a,j,d⟩:=Row.elemF R (by decide) h.flat i (by omega);obtain⟨A,c,g,f⟩:=h.get i e (by omega);rw [g] at d;exact⟨a,A,c,j,d,f⟩
theorem RepS.shape {S:Nat->Prop} {w:World} {s:Stt} {f:List Value} (k:RepS S w s f):∃ A p c B a l e l2 b d,f=[.int .i64 s.seq,.slice A s.l.length p,.slice B s.ms.length a,.int .i64 l,.int .i64 e,.int .i64 l2,.int .i64 b,.int .i64 d]/\
  s.lows=[l,e,l2,b,d]/\RepEs S w s.l c/\Row S w A s.l.length p c.flatten/\Row S w B s.ms.length a (s.ms.map G0).flatten:=by
 obtain⟨A,p,c,B,a,g,m,i,h,j⟩:=k
 match hl:s.lows,m with
 | [l,e,l2,b,d],_=>
  rw [hl] at g;exact⟨A,p,c,B,a,l,e,l2,b,d,g,rfl,i,h,j⟩
theorem A76 (d:Nat) (w:World) (l e f h i g a b c k:Int):(Op.equalIn (d+2) 39 (.agg #[.int .i64 l,.int .i64 e,.int .i64 f,.int .i64 h,.int .i64 i]) (.agg #[.int .i64 g,.int .i64 a,.int .i64 b,.int .i64 c,.int .i64 k])).run Tryz.prog w=.ok ([l,e,f,h,i]==[g,a,b,c,k]) w:=by
 have s:∀ w,(Go.sizeOf 2).run Tryz.prog w=.ok 1 w:=fun w=>by kernel_rfl
 have step:∀ (x y:Int) w,(Op.equalIn (d+1) 2 (.int .i64 x) (.int .i64 y)).run Tryz.prog w=.ok (x==y) w:=fun x y w=>run_equalIn_int w d 2 .i64 .i64 x y Tryz.underlying2;rw [Op.equalIn];generalize Op.equalIn (d+1)=F at step ⊢;simp only [yf,run_underlying Tryz.underlying39,ye,s,Std.Legacy.Range.forIn_eq_forIn_range',Std.Legacy.Range.size];simp [List.range',part,isAgg,run_underlying Tryz.underlying2,step];by_cases h0:l=g;rotate_left
 ·simp [h0]
 by_cases j:e=a;rotate_left
 ·simp [h0,j]
 by_cases m:f=b;rotate_left
 ·simp [h0,j,m]
 by_cases n:h=c<;>by_cases o:i=k<;>simp [h0,j,m,n,o]
theorem A77:Tryz.prog.eqGuardType Tryz.prog.depth 39=false:=by kernel_rfl
theorem A9M (a b:Stt) (V W:List Value) (S:Nat->Prop) (w:World) (ha:RepS S w a V) (G:RepS S w b W):Calls Tryz.prog 25 #[.agg V.toArray,.agg W.toArray] w (D4 (.bool (eqS a b)) w):=by
 obtain⟨Q,U,a8,N,O,g,k,l2,j,n,rfl,el,hE,R,M⟩:=ha.shape;obtain⟨J,X,a9,Z,a0,q,s,m,p,o,rfl,ek,a4,a5,a3⟩:=G.shape;have b0:=E2 R;have b1:=E2 M;refine vE Tryz.func25 ?_;intro v w1 h1;have h:=((Ctx.start w no (fun _ a6=>a6.elim)).loc h1).1;refine h.n fun A w2 h2 h=>?_;refine h.c 1 rfl rfl ?_;refine h.c 0 rfl rfl ?_;have e:eqS a b=(a.seq==b.seq&&a.lows==b.lows&&J7 A3A a.ms b.ms&&J7 eqE a.l b.l):=rfl;generalize eqS a b=r at e ⊢;obtain t|t:=yj (a.seq==b.seq);rotate_left
 ·refine B5 (by show (!(a.seq==b.seq))=true;rw [t];rfl) ?_;rw [t] at e;exact⟨C1 e.symm,h.below⟩
 refine B4 (by show (!(a.seq==b.seq))=false;rw [t];rfl) ?_;refine⟨[.int .i64 g,.int .i64 k,.int .i64 l2,.int .i64 j,.int .i64 n],rfl,h.cellsAt 1 rfl (0+3) _ rfl,[.int .i64 q,.int .i64 s,.int .i64 m,.int .i64 p,.int .i64 o],rfl,h.cellsAt 0 rfl (0+3) _ rfl,_,fun w=>A0O A77 (fun w=>A76 9998 w g k l2 j n q s m p o) _ _ w,?_⟩;rw [el,ek] at e;obtain u|u:=yj ([g,k,l2,j,n]==[q,s,m,p,o]);rotate_left
 ·refine B5 (by show (!([g,k,l2,j,n]==[q,s,m,p,o]))=true;rw [u];rfl) ?_;rw [t,u] at e;exact⟨C1 e.symm,h.below⟩
 refine B4 (by show (!([g,k,l2,j,n]==[q,s,m,p,o]))=false;rw [u];rfl) ?_;rw [t,u,Bool.and_self,Bool.true_and] at e;refine h.c 1 rfl rfl ?_;refine h.c 0 rfl rfl ?_;obtain C|C:=Nat.decEq a.l.length b.l.length
 ·refine B5 (by show ((a.l.length:Int) != (b.l.length:Int))=true;rw [bne_iff_ne];omega) ?_;rw [A0K eqE _ _ C,Bool.and_false] at e;exact⟨C1 e.symm,h.below⟩
 refine B4 (by show ((a.l.length:Int) != (b.l.length:Int))=false;rw [C];simp) ?_;refine h.c 1 rfl rfl ?_;refine h.c 0 rfl rfl ?_;obtain H|H:=Nat.decEq a.ms.length b.ms.length
 ·refine B5 (by show ((a.ms.length:Int) != (b.ms.length:Int))=true;rw [bne_iff_ne];omega) ?_;rw [A0K A3A _ _ H,Bool.false_and] at e;exact⟨C1 e.symm,h.below⟩
 refine B4 (by show ((a.ms.length:Int) != (b.ms.length:Int))=false;rw [H];simp) ?_;refine⟨Nat,fun i=>[(2,.pointer (some ⟨v,0,none⟩)),(3,.pointer (some ⟨A,0,none⟩)),(5,.int .i64 i)],
  fun i d=>i<=a.l.length/\J7 eqE (a.l.drop i) (b.l.drop i)=J7 eqE a.l b.l/\Ctx no w no d [(A,41,[.int .i64 b.seq,.slice J b.l.length X,.slice Z b.ms.length a0,.int .i64 q,.int .i64 s,.int .i64 m,.int .i64 p,.int .i64 o]),(v,41,[.int .i64 a.seq,.slice Q a.l.length U,.slice N a.ms.length O,.int .i64 g,.int .i64 k,.int .i64 l2,.int .i64 j,.int .i64 n])],fun i _=>a.l.length-i,0,
  ⟨rfl,rfl,rfl,t6⟩,⟨zb _,rfl,h⟩,?_⟩
 rintro i d a2 ⟨hi,c,h⟩;refine h.c 1 rfl rfl ?_;obtain l|l:=zm i a.l.length
 ·refine dt (by omega) ?_;obtain⟨ad,K,Y,D,E,a7⟩:=RowE.elem (R.below h.below) (hE.below h.below) i l;obtain⟨bd,P,I,F,B,a1⟩:=RowE.elem (a5.below h.below) (a4.below h.below) i (by omega);subst D;subst F;rw [yl l,yl (show i<b.l.length by omega),J7] at c;generalize a.l[i]=x at*;generalize b.l[i]'(by omega)=y at*;refine vD (.Q [0,1,2,3,4,5,6,7,8,9] (.n 10 (.q 11 .fin) .stop)) (Keeps (fun b=>b<d.heap.size) d) (Keeps.start _ _) ?_;refine⟨_,fun f z=>z.look (h.cell 1 rfl _ rfl),⟨by omega,by omega⟩,[.string x.key,.slice K x.vs.length Y],rfl,fun f z=>z.looks _ _ E,_,fun f z=>z.look (h.cell 0 rfl _ rfl),⟨by omega,by omega⟩,[.string y.key,.slice P y.vs.length I],rfl,fun f z=>z.looks _ _ B,B8 (B5F x y K P Y I S _ (a7.below (Below.refl _ _).drew) (a1.below (Below.refl _ _).drew)) ?_,t6⟩;intro w3 L;have T:=(h.drew.quiet L).1;refine⟨(Keeps.start _ _).below (fun b G=>G) L,?_⟩;obtain hv|hv:=yj (eqE x y)
  ·refine B4 (by rw [hv];rfl) ?_;rw [hv,Bool.true_and] at c;refine⟨i+1,⟨rfl,rfl,yb _ (C4 (by omega)),t6⟩,⟨l,c,T⟩,by show a.l.length-(i+1)<a.l.length-i;omega⟩
  ·refine B5 (by rw [hv];rfl) ?_;rw [hv,Bool.false_and] at c;rw [<-c,Bool.and_false] at e;exact⟨C1 e.symm,T.below⟩
 refine df (by omega) ?_;rw [zr (by omega),zr (by omega),J7] at c;rw [<-c,Bool.and_true] at e;refine⟨Nat,fun i=>[(2,.pointer (some ⟨v,0,none⟩)),(3,.pointer (some ⟨A,0,none⟩)),(6,.int .i64 i)],
  fun i d=>i<=a.ms.length/\J7 A3A (a.ms.drop i) (b.ms.drop i)=J7 A3A a.ms b.ms/\Ctx no w no d [(A,41,[.int .i64 b.seq,.slice J b.l.length X,.slice Z b.ms.length a0,.int .i64 q,.int .i64 s,.int .i64 m,.int .i64 p,.int .i64 o]),(v,41,[.int .i64 a.seq,.slice Q a.l.length U,.slice N a.ms.length O,.int .i64 g,.int .i64 k,.int .i64 l2,.int .i64 j,.int .i64 n])],fun i _=>a.ms.length-i,0,
  ⟨rfl,rfl,rfl,t6⟩,⟨zb _,rfl,h⟩,?_⟩
 rintro i d a2 ⟨hi,c,h⟩;refine h.c 1 rfl rfl ?_;obtain l|l:=zm i a.ms.length
 ·refine dt (by omega) ?_;obtain⟨ad,D,E⟩:=RowM.elem (M.below h.below) i l;obtain⟨bd,F,B⟩:=RowM.elem (a3.below h.below) i (by omega);subst D;subst F;rw [yl l,yl (show i<b.ms.length by omega),J7] at c;generalize a.ms[i]=x at*;generalize b.ms[i]'(by omega)=y at*;refine vD (.Q [0,1,2,3,4,5,6,7,8,9,10] .fin) (Keeps (fun b=>b<d.heap.size) d) (Keeps.start _ _) ?_;refine⟨_,fun f z=>z.look (h.cell 1 rfl _ rfl),⟨by omega,by omega⟩,G0 x,rfl,fun f z=>z.looks _ _ E,_,fun f z=>z.look (h.cell 0 rfl _ rfl),⟨by omega,by omega⟩,G0 y,rfl,fun f z=>z.looks _ _ B,_,fun w=>A0O B2H (A5N 9997 · x y) _ _ w,?_⟩;have h:=h.drew;obtain hv|hv:=yj (A3A x y)
  ·refine B4 (by rw [hv];rfl) ?_;rw [hv,Bool.true_and] at c;refine⟨i+1,⟨rfl,rfl,yb _ (C4 (by omega)),t6⟩,⟨l,c,h⟩,by show a.ms.length-(i+1)<a.ms.length-i;omega⟩
  ·refine B5 (by rw [hv];rfl) ?_;rw [hv,Bool.false_and] at c;rw [<-c] at e;exact⟨C1 e.symm,h.below⟩
 ·refine df (by omega) ?_;rw [zr (by omega),zr (by omega),J7] at c;rw [<-c] at e;exact⟨C1 e.symm,h.below⟩
theorem A1N {w:World} {g T:Nat} {f i k:Value} {a d l b c:Int} (B:Blk w g T [f,i,k,.int .i64 a,.int .i64 d,.int .i64 l,.int .i64 b,.int .i64 c]) (h j:Int) (r:1<=h/\h<=5) (e:j=h-1):
  w.cell? ((⟨g,0+3,none⟩:Addr).add (j.toNat*1))=some (.int .i64 (M7 [a,d,l,b,c] h)):=by
 subst e;have m:h=1\/h=2\/h=3\/h=4\/h=5:=by omega
 obtain rfl|rfl|rfl|rfl|rfl:=m
 ·exact B.cell 3
 ·exact B.cell 4
 ·exact B.cell 5
 ·exact B.cell 6
 ·exact B.cell 7
theorem B0J (c b l d a:Int) (i:Nat) (e:i<5) (w:World):(Instr.index 39 (.agg #[.int .i64 c,.int .i64 b,.int .i64 l,.int .i64 d,.int .i64 a]) (.int .i64 i)).run Tryz.prog w=.ok (.int .i64 ([c,b,l,d,a].getD i 0)) w:=by
 obtain⟨t,h,_,s,_⟩:=info_parts (show (Tryz.prog.info? 2).map (fun i=>(i.zero,i.size,i.bytes))=some (some (.int .i64 0),1,8) by kernel_rfl);unfold Instr.index;simp only [yf,asIntOf,yg,ye,run_underlying Tryz.underlying39];rw [yn ⟨by omega,by omega⟩]
 match i,e with
 | 0,_=>simp [part,isAgg,sizeOf,typeInfo,run_underlying Tryz.underlying2,h,s]
 | 1,_=>simp [part,isAgg,sizeOf,typeInfo,run_underlying Tryz.underlying2,h,s]
 | 2,_=>simp [part,isAgg,sizeOf,typeInfo,run_underlying Tryz.underlying2,h,s]
 | 3,_=>simp [part,isAgg,sizeOf,typeInfo,run_underlying Tryz.underlying2,h,s]
 | 4,_=>simp [part,isAgg,sizeOf,typeInfo,run_underlying Tryz.underlying2,h,s]
def A5O (l:List Ent) (i:Nat):Option ByteArray:=if i=0 then none else (l[i-1]?).map (·.key)
def A4H (l:List Mem) (i:Nat):Option Int:=if i=0 then none else (l[i-1]?).map (·.req)
def leK (p:Option ByteArray) (k:ByteArray):Bool:=match p with | none=>true | some q=>E4 q k
def leM (p:Option Int) (n:Int):Bool:=match p with | none=>true | some q=>decide (q<n)
theorem B2N (s:Int) (p:Option ByteArray) (e:Ent) (r:List Ent):A2a s p (e::r)=(A7h e&&decide ((K1 e.vs).ver<=s)&&leK p e.key&&A2a s (some e.key) r):=by cases p<;>simp only [A2a,leK]
theorem B2O (l:List Int) (s:Int) (p:Option Int) (m:Mem) (r:List Mem):A2T l s p (m::r)=(!(B7 m.req==0)&&decide (M7 l (B7 m.req)<=m.req)&&leM p m.req&&
  decide (0<=m.res.err)&&decide (m.res.err<=13)&&decide (0<=m.res.ver)&&decide (m.res.ver<=s)&&A2T l s (some m.req) r):=by
 cases p<;>simp only [A2T,leM]
def stC (s:Stt) (A:Option Addr) (cap:Nat) (B:Option Addr) (cap':Nat) (l0 l1 l2 l3 l4:Int):List Value:=[.int .i64 s.seq,.slice A s.l.length cap,.slice B s.ms.length cap',.int .i64 l0,.int .i64 l1,.int .i64 l2,.int .i64 l3,.int .i64 l4]
theorem A1O (s:Stt) (hk:∀ a∈s.l,U7 a.key) (cs:List Value) (a3:Nat->Prop) (w:World) (hs:RepS a3 w s cs):Calls Tryz.prog 93 #[.agg cs.toArray] w (D4 (.bool (P6 s)) w):=by
 obtain⟨M,N,b2,K,L,f,j,l2,g,k,rfl,el,hE,S,P⟩:=hs.shape;have b7:=E2 S;have c1:=E2 P;refine vE Tryz.func93 ?_;intro y w1 h1;have h:=((Ctx.start w no (fun _ q=>q.elim)).loc h1).1;have c:P6 s=(decide (0<=s.seq)&&decide (s.seq<=G5)&&decide (s.l.length<=40)&&decide (s.ms.length<=100)&&A2a s.seq none s.l&&A1r 0 s.lows&&A2T s.lows s.seq none s.ms):=rfl;have b3:G5=1099511627776:=rfl;rw [el] at c;generalize P6 s=r at c ⊢;refine h.c 0 rfl rfl ?_;obtain n|n:=Int.lt_or_le s.seq 0
 ·refine dt n ?_;rw [y8 (show ¬ 0<=s.seq by omega)] at c;exact⟨C1 c.symm,h.below⟩
 refine df (show ¬ s.seq<0 by omega) ?_;refine h.c 0 rfl rfl ?_;obtain p|p:=Int.lt_or_le 1099511627776 s.seq
 ·refine dt p ?_;rw [zz n,y8 (show ¬ s.seq<=G5 by omega)] at c;exact⟨C1 c.symm,h.below⟩
 refine df (show ¬ 1099511627776<s.seq by omega) ?_;refine h.c 0 rfl rfl ?_;obtain F|F:=zm 40 s.l.length
 ·refine dt (show (40:Int)<(s.l.length:Int) by omega) ?_;rw [y8 (show ¬ s.l.length<=40 by omega),Bool.and_false] at c;exact⟨C1 c.symm,h.below⟩
 refine df (show ¬ (40:Int)<(s.l.length:Int) by omega) ?_;refine h.c 0 rfl rfl ?_;obtain c4|c4:=zm 100 s.ms.length
 ·refine dt (show (100:Int)<(s.ms.length:Int) by omega) ?_;rw [y8 (show ¬ s.ms.length<=100 by omega),Bool.and_false] at c;exact⟨C1 c.symm,h.below⟩
 refine df (show ¬ (100:Int)<(s.ms.length:Int) by omega) ?_;rw [zz n,zz (show s.seq<=G5 by omega),zz F,zz c4,Bool.and_self,Bool.and_self,Bool.and_self,Bool.true_and] at c;refine h.c 0 rfl rfl ?_;refine⟨Nat,fun i=>[(1,.pointer (some ⟨y,0,none⟩)),(31,.slice M s.l.length N),(32,.int .i64 s.l.length),(33,.int .i64 i)],
  fun i v=>i<=s.l.length/\A2a s.seq (A5O s.l i) (s.l.drop i)=A2a s.seq none s.l/\Ctx no w no v [(y,41,stC s M N K L f j l2 g k)],fun i _=>s.l.length-i,0,
  ⟨rfl,rfl,rfl,rfl,t6⟩,⟨zb _,rfl,h⟩,?_⟩
 rintro i v a0 ⟨hi,e,h⟩;obtain l|l:=zm i s.l.length
 ·refine dt (by omega) ?_;obtain⟨B,A1,a6,X,Z,C⟩:=RowE.elem (S.below h.below) (hE.below h.below) i l;subst X;have Q:A5O s.l (i+1)=some s.l[i].key:=by rw [A5O,yo (by omega),Nat.add_sub_cancel,yc l];rfl
  have a8:=hk _ (List.getElem_mem l);rw [yl l,B2N] at e;generalize s.l[i]=a at*;refine⟨⟨by omega,by omega⟩,[.string a.key,.slice A1 a.vs.length a6],rfl,Z,?_⟩;refine h.n fun g4 w4 h4 h=>?_;refine⟨h.may 0 rfl 0 _ (zc 2) rfl,?_⟩;intro A J;have h:=(h.set 0 rfl J).1;have U:=((Ctx.start v no (fun _ q=>q.elim)).loc h4).1;have U:=(U.set 0 rfl J).1;have C:=C.below U.below;have b8:=E2 C;have out:∀ w6:World,Below w.heap.size w w6->(A7h a&&decide ((K1 a.vs).ver<=s.seq)&&leK (A5O s.l i) a.key)=false->D4 (.bool r) w (.returned (.bool false)) w6:=fun w6 G q=>by rw [q,Bool.false_and] at e;rw [<-e,Bool.false_and,Bool.false_and] at c;exact⟨C1 c.symm,G⟩
  refine vD (.q 0 (.n 1 (.Q [2,3,4,5,6,7,8,9,10,11,12,13,14,15,16,17,18,19,20,21,22,23,24,25,26,27,28,29,30,31,32] .fin) .stop)) (Keeps (fun O=>O<A.heap.size) A) (Keeps.start _ _) ?_;refine⟨_,?_,fun b x=>x.looks _ _ (h.cells 0 rfl),?_⟩
  ·rfl
  refine⟨B8 (B5E a a8 A1 a6 a3 _ (C.below (Below.refl _ _).drew)) ?_,t6⟩;intro w6 h6;have D:=(h.drew.quiet h6).1;refine⟨(Keeps.start _ _).below (fun O G=>G) h6,?_⟩;obtain d|d:=yj (A7h a);rotate_left
  ·refine B5 (by rw [d];rfl) ?_;exact out _ D.below (by rw [d];rfl)
  refine B4 (by rw [d];rfl) ?_;have c0:=(G2.1 d).2.2.1;have a4:a.vs.length-1<a.vs.length:=by omega
  have hw:IntKind.i64.wrap ((a.vs.length:Int)-1)=((a.vs.length-1:Nat):Int):=by rw [yh _ ⟨by omega,by omega⟩];omega
  obtain⟨ed,e2,a1⟩:=RowV.elem C (a.vs.length-1) a4;subst e2;rw [<-A6l a4] at a1;refine⟨_,fun b x=>x.look (h.cell 0 rfl _ rfl),_,fun b x=>x.look (h.cell 0 rfl _ rfl),⟨by rw [hw];omega,by rw [hw];omega⟩,?_⟩;have H:A.cell? (ed.add ((IntKind.i64.wrap ((a.vs.length:Int)-1)).toNat*3))=some (.int .i64 (K1 a.vs).ver):=by have:=a1.1;rw [add_add,Nat.add_zero] at this;rw [hw,zi];exact this
  generalize ed.add ((IntKind.i64.wrap ((a.vs.length:Int)-1)).toNat*3)=ae at H ⊢;obtain⟨ab,ao,b4⟩:=ae;refine⟨_,fun b x=>x.look H,_,fun b x=>x.look (h.cell 1 rfl _ rfl),?_⟩;obtain W|W:=Int.lt_or_le s.seq (K1 a.vs).ver
  ·refine dt W ?_;exact out _ D.below (by rw [y8 (show ¬ (K1 a.vs).ver<=s.seq by omega),Bool.and_false];rfl)
  refine df (show ¬ s.seq<(K1 a.vs).ver by omega) ?_;have next:leK (A5O s.l i) a.key=true->A2a s.seq (A5O s.l (i+1)) (s.l.drop (i+1))=A2a s.seq none s.l:=fun q=>by rw [Q,<-e,d,zz W,q];rfl
  obtain c6|c6:=Nat.eq_zero_or_pos i
  ·refine df (show ¬ (0:Int)<(i:Int) by omega) ?_;exact⟨i+1,⟨rfl,rfl,rfl,yb _ (C4 (by omega)),t6⟩,⟨l,next (by rw [A5O,yn c6];rfl),D.drop⟩,by show s.l.length-(i+1)<s.l.length-i;omega⟩
  refine dt (show (0:Int)<(i:Int) by omega) ?_;have E:i-1<s.l.length:=by omega
  have t:IntKind.i64.wrap ((i:Int)-1)=((i-1:Nat):Int):=by rw [yh _ ⟨by omega,by omega⟩];omega
  obtain⟨a7,A2,b9,V,Y,_⟩:=RowE.elem (S.below h.below) (hE.below h.below) (i-1) E;cases V;have I:A5O s.l i=some s.l[i-1].key:=by rw [A5O,yo (by omega),yc E];rfl
  refine⟨_,fun b x=>x.look (h.cell 1 rfl _ rfl),⟨by rw [t];omega,by rw [t];omega⟩,?_⟩;have z:A.cell? (B.add ((IntKind.i64.wrap ((i:Int)-1)).toNat*2))=some (.string s.l[i-1].key):=by have:=Y.1;rw [add_add,Nat.add_zero] at this;rw [t,zi];exact this
  generalize B.add ((IntKind.i64.wrap ((i:Int)-1)).toNat*2)=ap at z ⊢;obtain⟨pb,po,b0⟩:=ap;refine⟨_,fun b x=>x.look z,_,fun b x=>x.look (h.cell 0 rfl _ rfl),?_⟩;obtain u|u:=yj (E4 s.l[i-1].key a.key)
  ·refine B4 (by rw [u];rfl) ?_;exact⟨i+1,⟨rfl,rfl,rfl,yb _ (C4 (by omega)),t6⟩,⟨l,next (by rw [I];exact u),D.drop⟩,by show s.l.length-(i+1)<s.l.length-i;omega⟩
  ·refine B5 (by rw [u];rfl) ?_;exact out _ D.below (by rw [I];show (_&&E4 s.l[i-1].key a.key)=false;rw [u,Bool.and_false])
 refine df (by omega) ?_;rw [zr (by omega),A2a] at e;rw [<-e,Bool.true_and] at c;refine⟨[.int .i64 f,.int .i64 j,.int .i64 l2,.int .i64 g,.int .i64 k],rfl,h.cellsAt 0 rfl (0+3) _ rfl,?_⟩;refine⟨Nat,fun i=>[(1,.pointer (some ⟨y,0,none⟩)),(73,.agg #[.int .i64 f,.int .i64 j,.int .i64 l2,.int .i64 g,.int .i64 k]),(74,.int .i64 i)],
  fun i v=>i<=5/\A1r i ([f,j,l2,g,k].drop i)=A1r 0 [f,j,l2,g,k]/\Ctx no w no v [(y,41,stC s M N K L f j l2 g k)],fun i _=>5-i,0,
  ⟨rfl,rfl,rfl,t6⟩,⟨zb _,rfl,h⟩,?_⟩
 rintro i v a0 ⟨hi,e,h⟩;obtain l|l:=zm i 5
 ·refine dt (by omega) ?_;refine⟨_,fun w=>B0J f j l2 g k i l w,?_⟩;have hd:[f,j,l2,g,k].drop i=[f,j,l2,g,k].getD i 0::[f,j,l2,g,k].drop (i+1):=by
   match i,l with
   | 0,_=>rfl
   | 1,_=>rfl
   | 2,_=>rfl
   | 3,_=>rfl
   | 4,_=>rfl
  rw [hd,A1r] at e;generalize [f,j,l2,g,k].getD i 0=b at*;have t:IntKind.i64.wrap ((i:Int)+1)=(i:Int)+1:=G8 _ _ (by omega) (by omega);obtain n|n:=Int.decEq b 0
  ·refine B5 (by show (b != 0)=true;rw [bne_iff_ne];exact n) ?_;refine h.q (O8 b _) fun w3 h3 h=>?_;have a9:(b==0)=false:=by rw [ya];exact n
   obtain p|p:=Int.decEq (B7 b) ((i:Int)+1)
   ·refine B5 (by show (B7 b != IntKind.i64.wrap ((i:Int)+1))=true;rw [t,bne_iff_ne];exact p) ?_;have:(B7 b==(i:Int)+1)=false:=by rw [ya];exact p
    rw [a9,this] at e;rw [<-e] at c;exact⟨C1 c.symm,h.below⟩
   ·refine B4 (by show (B7 b != IntKind.i64.wrap ((i:Int)+1))=false;rw [t,p];simp) ?_;have:(B7 b==(i:Int)+1)=true:=by rw [beq_iff_eq];exact p
    rw [this,Bool.or_true,Bool.true_and] at e;exact⟨i+1,⟨rfl,rfl,yb _ (C4 (by omega)),t6⟩,⟨l,e,h⟩,by show 5-(i+1)<5-i;omega⟩
  ·subst n;exact⟨i+1,⟨rfl,rfl,yb _ (C4 (by omega)),t6⟩,⟨l,e,h⟩,by show 5-(i+1)<5-i;omega⟩
 refine df (by omega) ?_;rw [zr (by show 5<=i;exact l),A1r] at e;rw [<-e,Bool.true_and] at c;refine h.c 0 rfl rfl ?_;refine⟨Nat,fun i=>[(1,.pointer (some ⟨y,0,none⟩)),(89,.slice K s.ms.length L),(90,.int .i64 s.ms.length),(91,.int .i64 i)],
  fun i v=>i<=s.ms.length/\A2T [f,j,l2,g,k] s.seq (A4H s.ms i) (s.ms.drop i)=A2T [f,j,l2,g,k] s.seq none s.ms/\Ctx no w no v [(y,41,stC s M N K L f j l2 g k)],fun i _=>s.ms.length-i,0,
  ⟨rfl,rfl,rfl,rfl,t6⟩,⟨zb _,rfl,h⟩,?_⟩
 rintro i v a0 ⟨hi,e,h⟩;obtain l|l:=zm i s.ms.length
 ·refine dt (by omega) ?_;obtain⟨B,X,Z⟩:=RowM.elem (P.below h.below) i l;subst X;have Q:A4H s.ms (i+1)=some s.ms[i].req:=by rw [A4H,yo (by omega),Nat.add_sub_cancel,yc l];rfl
  rw [yl l,B2O] at e;generalize s.ms[i]=m at*;refine⟨⟨by omega,by omega⟩,G0 m,rfl,Z,?_⟩;refine h.n fun g8 w4 h4 h=>?_;refine⟨h.may 0 rfl 0 _ (zc 3) rfl,?_⟩;intro A J;have h:=(h.set 0 rfl J).1;refine h.c 0 rfl rfl ?_;refine h.q (O8 m.req _) fun w6 h6 h=>?_;have hh:=Y4 m.req;have out:∀ w6:World,Below w.heap.size w w6->(!(B7 m.req==0)&&decide (M7 [f,j,l2,g,k] (B7 m.req)<=m.req)&&leM (A4H s.ms i) m.req&&decide (0<=m.res.err)&&decide (m.res.err<=13)&&decide (0<=m.res.ver)&&decide (m.res.ver<=s.seq))=false->D4 (.bool r) w (.returned (.bool false)) w6:=fun w6 G q=>by rw [q,Bool.false_and] at e;rw [<-e] at c;exact⟨C1 c.symm,G⟩
  generalize B7 m.req=d at*;refine vD (.Q [0,1,2,3,4,5,6,7,8,9,10,11,12,13,14,15,16,17,18,19,20,21,22,23,24,25,26,27] .fin) (Keeps (fun O=>O<w6.heap.size) w6) (Keeps.start _ _) ?_;have o:=h.drew;obtain n|n:=Int.decEq d 0;rotate_left
  ·subst n;exact out _ o.below rfl
  refine B4 (by show (d==0)=false;rw [ya];exact n) ?_;have T:IntKind.i64.wrap (d-1)=d-1:=yh _ ⟨by omega,by omega⟩;refine⟨_,fun b x=>x.look (h.cell 0 rfl _ rfl),⟨by rw [T];omega,by rw [T];omega⟩,?_⟩;have H:=A1N (h.blk 1 rfl) d (IntKind.i64.wrap (d-1)) ⟨by omega,by omega⟩ T;have b1:(d==0)=false:=by rw [ya];exact n
  generalize M7 [f,j,l2,g,k] d=lo at*;generalize (⟨y,0+3,none⟩:Addr).add ((IntKind.i64.wrap (d-1)).toNat*1)=al at H ⊢;obtain⟨lb,b5,b6⟩:=al;refine⟨_,fun b x=>x.look H,?_⟩;obtain p|p:=Int.lt_or_le m.req lo
  ·refine dt p ?_;exact out _ o.below (by rw [y8 (show ¬ lo<=m.req by omega),Bool.and_false];rfl)
  refine df (show ¬ m.req<lo by omega) ?_;have a5:leM (A4H s.ms i) m.req=true->(!(d==0)&&decide (lo<=m.req)&&leM (A4H s.ms i) m.req)=true:=fun q=>by rw [b1,zz p,q];rfl
  obtain F|F:=Nat.eq_zero_or_pos i
  all_goals first
   | (
     refine df (show ¬ (0:Int)<(i:Int) by omega) ?_;have a2:=a5 (by rw [A4H,yn F];rfl))
   | (
     refine dt (show (0:Int)<(i:Int) by omega) ?_;have E:i-1<s.ms.length:=by omega
     have t:IntKind.i64.wrap ((i:Int)-1)=((i-1:Nat):Int):=by rw [yh _ ⟨by omega,by omega⟩];omega
     obtain⟨a7,V,Y⟩:=RowM.elem (P.below h.below) (i-1) E;cases V;have I:A4H s.ms i=some s.ms[i-1].req:=by rw [A4H,yo (by omega),yc E];rfl
     refine⟨_,fun b x=>x.look (h.cell 1 rfl _ rfl),⟨by rw [t];omega,by rw [t];omega⟩,?_⟩;have z:w6.cell? (B.add ((IntKind.i64.wrap ((i:Int)-1)).toNat*3))=some (.int .i64 s.ms[i-1].req):=by have:=Y.1;rw [add_add,Nat.add_zero] at this;rw [t,zi];exact this
     generalize B.add ((IntKind.i64.wrap ((i:Int)-1)).toNat*3)=ap at z ⊢;obtain⟨pb,po,b0⟩:=ap;refine⟨_,fun b x=>x.look z,_,fun b x=>x.look (h.cell 0 rfl _ rfl),?_⟩;obtain u|u:=Int.lt_or_le s.ms[i-1].req m.req;rotate_left
     ·refine dt u ?_;exact out _ o.below (by
       have:leM (A4H s.ms i) m.req=false:=by rw [I];exact y8 (by omega)
       rw [this,Bool.and_false];rfl)
     refine df (show ¬ m.req<=s.ms[i-1].req by omega) ?_;have a2:=a5 (by rw [I];exact zz u))
  all_goals rw [a2,Bool.true_and] at out e
  all_goals refine⟨_,o.cell 0 rfl _ rfl,?_⟩
  all_goals obtain d1|d1:=Int.lt_or_le m.res.err 0
  all_goals first
   | (
     refine dt d1 ?_;exact out _ o.below (by rw [y8 (show ¬ 0<=m.res.err by omega)];rfl))
   | (refine df (show ¬ m.res.err<0 by omega) ?_)
  all_goals refine⟨_,o.cell 0 rfl _ rfl,?_⟩
  all_goals obtain d2|d2:=Int.lt_or_le 13 m.res.err
  all_goals first
   | (
     refine dt d2 ?_;exact out _ o.below (by rw [y8 (show ¬ m.res.err<=13 by omega),Bool.and_false];rfl))
   | (refine df (show ¬ 13<m.res.err by omega) ?_)
  all_goals refine⟨_,o.cell 0 rfl _ rfl,?_⟩
  all_goals obtain d3|d3:=Int.lt_or_le m.res.ver 0
  all_goals first
   | (
     refine dt d3 ?_;exact out _ o.below (by rw [y8 (show ¬ 0<=m.res.ver by omega),Bool.and_false];rfl))
   | (refine df (show ¬ m.res.ver<0 by omega) ?_)
  all_goals refine⟨_,o.cell 0 rfl _ rfl,?_⟩
  all_goals refine⟨_,o.cell 1 rfl _ rfl,?_⟩
  all_goals obtain R|R:=Int.lt_or_le s.seq m.res.ver
  all_goals first
   | (
     refine dt R ?_;exact out _ o.below (by rw [y8 (show ¬ m.res.ver<=s.seq by omega),Bool.and_false]))
   | (
     refine df (show ¬ s.seq<m.res.ver by omega) ?_;rw [zz d1,zz d2,zz d3,zz R] at e;exact⟨i+1,⟨rfl,rfl,rfl,yb _ (C4 (by omega)),t6⟩,⟨l,by rw [Q];exact e,o.drop⟩,by show s.ms.length-(i+1)<s.ms.length-i;omega⟩)
 ·refine df (by omega) ?_;rw [zr (by omega),A2T] at e;rw [<-e] at c;exact⟨C1 c.symm,h.below⟩
structure Ver.Ok (v:Ver):Prop where
 ver:B9 v.ver
 body:U7 v.body
structure Ent.Ok (e:Ent):Prop where
 key:U7 e.key
 vs:∀ v∈e.vs,v.Ok
structure Mem.Ok (m:Mem):Prop where
 req:B9 m.req
 err:B9 m.res.err
 ver:B9 m.res.ver
structure Stt.Ok (s:Stt):Prop where
 seq:B9 s.seq
 l:∀ e∈s.l,e.Ok
 ms:∀ m∈s.ms,m.Ok
 lows:∀ x∈s.lows,B9 x
def B4k (a b:Int):Int:=if a<b then -1 else if b<a then 1 else 0
def B5H (a b:ByteArray):Int:=if E4 a b then -1 else if E4 b a then 1 else 0
theorem A4X (n:Int) (w:World):Calls Tryz.prog 287 #[.int .i64 n] w (D4 (.bool false) w):=by refine vE Tryz.func287 ?_;refine⟨C1 ?_,Below.refl _ _⟩;simp
theorem A4Y (n:ByteArray) (w:World):Calls Tryz.prog 319 #[.string n] w (D4 (.bool false) w):=by refine vE Tryz.func319 ?_;refine⟨C1 ?_,Below.refl _ _⟩;simp [D7]
theorem B5I (a b:Int) (w:World):Calls Tryz.prog 267 #[.int .i64 a,.int .i64 b] w (D4 (.int .i64 (B4k a b)) w):=by
 refine vE Tryz.func267 ?_;refine B8 (A4X a _) ?_;intro i e;refine B8 (A4X b _) ?_;intro g f;have h:=e.trans (f.mono e.size);obtain c|c:=Int.lt_or_le a b
 ·refine dt c ?_;exact⟨A0x (by rw [B4k,yn c]),h⟩
 refine df (by omega) ?_;obtain d|d:=Int.lt_or_le b a
 ·refine dt d ?_;exact⟨A0x (by rw [B4k,yo (by omega),yn d]),h⟩
 refine df (by omega) ?_;exact⟨A0x (by rw [B4k,yo (by omega),yo (by omega)]),h⟩
theorem B5J (a b:ByteArray) (w:World):Calls Tryz.prog 290 #[.string a,.string b] w (D4 (.int .i64 (B5H a b)) w):=by
 refine vE Tryz.func290 ?_;refine B8 (A4Y a _) ?_;intro k f;refine B8 (A4Y b _) ?_;intro j i;have h:=f.trans (i.mono f.size);have e:B5H a b=if E4 a b then -1 else if E4 b a then 1 else 0:=rfl
 have t:=A3C a b;have g:D7 a b=D7 b a:=by rw [Bool.eq_iff_iff,C6,C6];exact eq_comm
 generalize B5H a b=r at e ⊢;obtain c|c:=yj (E4 a b)
 ·refine B5 c ?_;exact⟨A0x (by rw [e,c];rfl),h⟩
 refine B4 c ?_;obtain d|d:=yj (D7 a b)
 ·refine B4 (by rw [c,d];rfl) ?_;have:E4 b a=false:=by rw [C6] at d;rw [d];exact A2F _
  exact⟨A0x (by rw [e,c,this];rfl),h⟩
 ·refine B5 (by rw [c,d];rfl) ?_;have:E4 b a=true:=by rw [c,<-g,d] at t;simpa using t.symm
  exact⟨A0x (by rw [e,c,this];rfl),h⟩
theorem A9N (a b:Int):(B4k a b<0)=(a<b):=by
 unfold B4k;apply propext;by_cases h:a<b
 ·rw [yn h];simp [h]
 ·rw [yo h];by_cases k:b<a
  ·rw [yn k];simp [h]
  ·rw [yo k];simp [h]
theorem B2P (a b:Int) (h:¬ a<b):(B4k a b==0)=(a==b):=by
 unfold B4k;rw [yo h];by_cases k:b<a
 ·rw [yn k,Bool.eq_iff_iff];simp;omega
 ·rw [yo k,Bool.eq_iff_iff];simp;omega
theorem A9O (a b:ByteArray):(B5H a b<0)=(E4 a b=true):=by
 unfold B5H;apply propext;cases h:E4 a b
 ·cases k:E4 b a<;>simp
 ·simp
theorem B2Q (a b:ByteArray) (c:¬ E4 a b=true):(B5H a b==0)=D7 a b:=by
 have c:E4 a b=false:=by simpa using c
 have h:=A3C a b;have e:D7 a b=D7 b a:=by rw [Bool.eq_iff_iff,C6,C6];exact eq_comm
 unfold B5H;rw [c] at h ⊢;rw [<-e] at h;cases k:E4 b a
 ·rw [k] at h;rw [show D7 a b=true from by simpa using h.symm];rfl
 ·rw [B45 k |> fun d=>e.trans d];rfl
theorem A6o (m:Mem) (n:Int) (w:World):Calls Tryz.prog 266 #[.agg (G0 m).toArray,.int .i64 n] w (D4 (.int .i64 (B4k m.req n)) w):=by refine vE Tryz.func266 ?_;intro g e b;have h:=((Ctx.start w no (fun _ a=>a.elim)).loc b).1;refine h.c 0 rfl rfl ?_;refine B8 (B5I m.req n _) ?_;intro d c;exact⟨rfl,(h.quiet c).1.below⟩
theorem A6p (k n:ByteArray) (A:Option Addr) (l p:Nat) (w:World):Calls Tryz.prog 289 #[.agg #[.string k,.slice A l p],.string n] w (D4 (.int .i64 (B5H k n)) w):=by refine vE Tryz.func289 ?_;intro g e b;have h:=((Ctx.start w no (fun _ a=>a.elim)).loc b).1;refine h.c 0 rfl rfl ?_;refine B8 (B5J k n _) ?_;intro d c;exact⟨rfl,(h.quiet c).1.below⟩
theorem B2R:∀ (l:List Mem) (n:Int) (i:Nat),i<=l.length->(∀ k (h:k<l.length),k<i->l[k].req<n)->(∀ h:i<l.length,¬ l[i].req<n)->T2 l n=i
 | [],n,i,hi,_,_=>by rw [T2];simp at hi;exact hi.symm
 | x::r,n,0,hi,h1,h2=>by
  have this:¬ x.req<n:=h2 (by simp);rw [T2,yo this]
 | x::r,n,i+1,hi,h1,h2=>by have this:x.req<n:=h1 0 (by simp) (by omega);rw [T2,yn this,B2R r n i (by simpa using hi) (fun k h a=>h1 (k+1) (by simpa using h) (by omega)) (fun h=>h2 (by simpa using h))]
theorem B7z (l:List Mem) (n:Int) (L:l.Pairwise (fun a M=>a.req<M.req)) (P:l.length<=1000000) (A:Option Addr) (v:Nat) (S:Nat->Prop) (w:World) (R:Row S w A l.length v (l.map G0).flatten):
  Calls Tryz.prog 265 #[.slice A l.length v,.int .i64 n,.func (.func 266) #[] #[]] w (D4 (.tuple #[.int .i64 (T2 l n:Nat),.bool (A0M l n).isSome]) w):=by
 refine vE Tryz.func265 ?_;have O:=E2 R;have F:∀ (i j:Nat) (D:i<l.length) (E:j<l.length),i<j->l[i].req<l[j].req:=fun i j D E h=>List.pairwise_iff_getElem.1 L i j D E h;refine⟨Nat × Nat,fun x=>[(0,.slice A l.length v),(1,.int .i64 n),(2,.func (.func 266) #[] #[]),(8,.int .i64 l.length),(9,.int .i64 x.1),(10,.int .i64 x.2)],
  fun x C=>x.1<=x.2/\x.2<=l.length/\(∀ k (h:k<l.length),k<x.1->l[k].req<n)/\(∀ k (h:k<l.length),x.2<=k->¬ l[k].req<n)/\Below w.heap.size w C,fun x _=>x.2-x.1,(0,l.length),
  ⟨rfl,rfl,rfl,rfl,rfl,rfl,t6⟩,⟨zb _,zc _,fun k h h0=>absurd h0 (Nat.not_lt_zero _),fun k h h0=>by omega,Below.refl _ _⟩,?_⟩
 rintro⟨i,j⟩ C N ⟨B,t,s,p,b⟩;simp only at B t s p;obtain c|c:=zm i j
 ·refine dt (by show (i:Int)<(j:Int);omega) ?_;refine⟨⟨by decide,by decide⟩,?_⟩;have m:IntKind.i64.wrap (IntKind.u64.wrap (IntKind.i64.wrap ((i:Int)+(j:Int))) / 2 ^ ((1:Int).toNat))=(((i+j) / 2:Nat):Int):=by rw [yh ((i:Int)+j) ⟨by omega,by omega⟩,IntWalk.u64_in _ ⟨by omega,by omega⟩,show (2:Int) ^ ((1:Int).toNat)=2 from rfl,yh _ ⟨by omega,by omega⟩];omega
  have y:(i+j) / 2<l.length:=by omega
  obtain⟨J,e,u⟩:=RowM.elem (R.below b) ((i+j) / 2) y;subst e;refine⟨⟨by rw [m];omega,by rw [m];omega⟩,G0 l[(i+j) / 2],rfl,by rw [m,zi];exact u,?_⟩;refine B8 (A6o l[(i+j) / 2] n _) ?_;intro K z;have o:=b.trans (z.mono b.size);by_cases d:l[(i+j) / 2].req<n
  ·refine dt (by rw [A9N];exact d) ?_;refine⟨((i+j) / 2+1,j),⟨rfl,rfl,rfl,rfl,?_,rfl,t6⟩,⟨by show (i+j) / 2+1<=j;omega,t,fun k h q=>?_,p,o⟩,by show j-((i+j) / 2+1)<j-i;omega⟩
   ·show Value.int .i64 (IntKind.i64.wrap (IntKind.i64.wrap (IntKind.u64.wrap (IntKind.i64.wrap ((i:Int)+(j:Int))) / 2 ^ ((1:Int).toNat))+1))=_;rw [m,C4 (by omega)]
   ·obtain f|f:=zm k ((i+j) / 2)
    ·exact Int.lt_trans (F k _ h y f) d
    ·have:k=(i+j) / 2:=by simp only at q;omega
     subst this;exact d
  ·refine df (by rw [A9N];exact d) ?_;refine⟨(i,(i+j) / 2),⟨rfl,rfl,rfl,rfl,rfl,yb _ m,t6⟩,⟨by show i<=(i+j) / 2;omega,by show (i+j) / 2<=l.length;omega,s,fun k h q=>?_,o⟩,by show (i+j) / 2-i<j-i;omega⟩;intro G;obtain f|f:=zm ((i+j) / 2) k
   ·exact d (Int.lt_trans (F _ k y h f) G)
   ·have:k=(i+j) / 2:=by simp only at q;omega
    subst this;exact d G
 refine df (by show ¬ (i:Int)<(j:Int);omega) ?_;have B:i=j:=by omega
 subst B;have H:T2 l n=i:=B2R l n i t s (fun h=>p i h (zc _));have g:A0M l n=match l[i]? with | some x=>if x.req==n then some x else none | none=>none:=by rw [A0M,H];rfl
 rw [H];generalize A0M l n=r at g ⊢;obtain c|c:=zm i l.length
 ·refine dt (by show (i:Int)<(l.length:Int);omega) ?_;obtain⟨J,e,u⟩:=RowM.elem (R.below b) i c;subst e;refine⟨⟨by show (0:Int)<=(i:Int);omega,by show (i:Int)<(l.length:Int);omega⟩,G0 l[i],rfl,u,?_⟩;refine B8 (A6o l[i] n _) ?_;intro K z;have o:=b.trans (z.mono b.size);rw [yc c] at g;have I:=B2P l[i].req n (p i c (zc _));have e:r.isSome=(B4k l[i].req n==0):=by
   rw [g,I];show (if l[i].req==n then some l[i] else none).isSome=_;split
   ·rename_i h;rw [h];rfl
   ·rename_i h;rw [show (l[i].req==n)=false from by simpa using h];rfl
  rw [e];exact⟨rfl,o⟩
 ·refine df (by show ¬ (i:Int)<(l.length:Int);omega) ?_;rw [List.getElem?_eq_none c] at g;rw [g];exact⟨rfl,b⟩
theorem B2S:∀ (l:List Ent) (n:ByteArray) (i:Nat),i<=l.length->(∀ k (h:k<l.length),k<i->E4 l[k].key n=true)->(∀ h:i<l.length,¬ E4 l[i].key n=true)->posK l n=i
 | [],n,i,hi,_,_=>by rw [posK];simp at hi;exact hi.symm
 | x::r,n,0,hi,h1,h2=>by
  have this:¬ E4 x.key n=true:=h2 (by simp);rw [posK,yo this]
 | x::r,n,i+1,hi,h1,h2=>by have this:E4 x.key n=true:=h1 0 (by simp) (by omega);rw [posK,yn this,B2S r n i (by simpa using hi) (fun k h a=>h1 (k+1) (by simpa using h) (by omega)) (fun h=>h2 (by simpa using h))]
theorem B70 (l:List Ent) (n:ByteArray) (P:l.Pairwise (fun a Q=>E4 a.key Q.key=true)) (V:l.length<=1000000) (s:Option Addr) (y:Nat) (S:Nat->Prop) (w:World) (E:List (List Value)) (J:RepEs S w l E) (R:Row S w s l.length y E.flatten):
  Calls Tryz.prog 288 #[.slice s l.length y,.string n,.func (.func 289) #[] #[]] w (D4 (.tuple #[.int .i64 (posK l n:Nat),.bool (I0 l n).isSome]) w):=by
 refine vE Tryz.func288 ?_;have U:=E2 R;have I:∀ (i j:Nat) (F:i<l.length) (H:j<l.length),i<j->E4 l[i].key l[j].key=true:=fun i j F H h=>List.pairwise_iff_getElem.1 P i j F H h;refine⟨Nat × Nat,fun x=>[(0,.slice s l.length y),(1,.string n),(2,.func (.func 289) #[] #[]),(8,.int .i64 l.length),(9,.int .i64 x.1),(10,.int .i64 x.2)],
  fun x G=>x.1<=x.2/\x.2<=l.length/\(∀ k (h:k<l.length),k<x.1->E4 l[k].key n=true)/\(∀ k (h:k<l.length),x.2<=k->¬ E4 l[k].key n=true)/\Below w.heap.size w G,fun x _=>x.2-x.1,(0,l.length),
  ⟨rfl,rfl,rfl,rfl,rfl,rfl,t6⟩,⟨zb _,zc _,fun k h h0=>absurd h0 (Nat.not_lt_zero _),fun k h h0=>by omega,Below.refl _ _⟩,?_⟩
 rintro⟨i,j⟩ G T ⟨D,v,u,q,b⟩;simp only at D v u q;obtain c|c:=zm i j
 ·refine dt (by show (i:Int)<(j:Int);omega) ?_;refine⟨⟨by decide,by decide⟩,?_⟩;have m:IntKind.i64.wrap (IntKind.u64.wrap (IntKind.i64.wrap ((i:Int)+(j:Int))) / 2 ^ ((1:Int).toNat))=(((i+j) / 2:Nat):Int):=by rw [yh ((i:Int)+j) ⟨by omega,by omega⟩,IntWalk.u64_in _ ⟨by omega,by omega⟩,show (2:Int) ^ ((1:Int).toNat)=2 from rfl,yh _ ⟨by omega,by omega⟩];omega
  have B:(i+j) / 2<l.length:=by omega
  obtain⟨N,A,p,e,z,_⟩:=RowE.elem (R.below b) (J.below b) ((i+j) / 2) B;subst e;refine⟨⟨by rw [m];omega,by rw [m];omega⟩,[.string l[(i+j) / 2].key,.slice A l[(i+j) / 2].vs.length p],rfl,by rw [m,zi];exact z,?_⟩;refine B8 (A6p l[(i+j) / 2].key n A l[(i+j) / 2].vs.length p _) ?_;intro O C;have o:=b.trans (C.mono b.size);by_cases d:E4 l[(i+j) / 2].key n=true
  ·refine dt (by rw [A9O];exact d) ?_;refine⟨((i+j) / 2+1,j),⟨rfl,rfl,rfl,rfl,?_,rfl,t6⟩,⟨by show (i+j) / 2+1<=j;omega,v,fun k h t=>?_,q,o⟩,by show j-((i+j) / 2+1)<j-i;omega⟩
   ·show Value.int .i64 (IntKind.i64.wrap (IntKind.i64.wrap (IntKind.u64.wrap (IntKind.i64.wrap ((i:Int)+(j:Int))) / 2 ^ ((1:Int).toNat))+1))=_;rw [m,C4 (by omega)]
   ·obtain f|f:=zm k ((i+j) / 2)
    ·exact Y3 (I k _ h B f) d
    ·have:k=(i+j) / 2:=by simp only at t;omega
     subst this;exact d
  ·refine df (by rw [A9O];exact d) ?_;refine⟨(i,(i+j) / 2),⟨rfl,rfl,rfl,rfl,rfl,yb _ m,t6⟩,⟨by show i<=(i+j) / 2;omega,by show (i+j) / 2<=l.length;omega,u,fun k h t=>?_,o⟩,by show (i+j) / 2-i<j-i;omega⟩;intro K;obtain f|f:=zm ((i+j) / 2) k
   ·exact d (Y3 (I _ k B h f) K)
   ·have:k=(i+j) / 2:=by simp only at t;omega
    subst this;exact d K
 refine df (by show ¬ (i:Int)<(j:Int);omega) ?_;have D:i=j:=by omega
 subst D;have L:posK l n=i:=B2S l n i v u (fun h=>q i h (zc _));have g:I0 l n=match l[i]? with | some x=>if D7 x.key n then some x else none | none=>none:=by rw [I0,L];rfl
 rw [L];generalize I0 l n=r at g ⊢;obtain c|c:=zm i l.length
 ·refine dt (by show (i:Int)<(l.length:Int);omega) ?_;obtain⟨N,A,p,e,z,_⟩:=RowE.elem (R.below b) (J.below b) i c;subst e;refine⟨⟨by show (0:Int)<=(i:Int);omega,by show (i:Int)<(l.length:Int);omega⟩,[.string l[i].key,.slice A l[i].vs.length p],rfl,z,?_⟩;refine B8 (A6p l[i].key n A l[i].vs.length p _) ?_;intro O C;have o:=b.trans (C.mono b.size);rw [yc c] at g;have M:=B2Q l[i].key n (q i c (zc _));have e:r.isSome=(B5H l[i].key n==0):=by
   rw [g,M];show (if D7 l[i].key n then some l[i] else none).isSome=_;split
   ·rename_i h;rw [h];rfl
   ·rename_i h;rw [show (D7 l[i].key n)=false from by simpa using h];rfl
  rw [e];exact⟨rfl,o⟩
 ·refine df (by show ¬ (i:Int)<(l.length:Int);omega) ?_;rw [List.getElem?_eq_none c] at g;rw [g];exact⟨rfl,b⟩
theorem B5K (s:Stt) (n:Int) (g:s.ms.Pairwise (fun a e=>a.req<e.req)) (f:s.ms.length<=1000000) (c:List Value) (S:Nat->Prop) (w:World) (i:RepS S w s c):Calls Tryz.prog 234 #[.agg c.toArray,.int .i64 n] w (D4 (.tuple #[.int .i64 (T2 s.ms n:Nat),.bool (A0M s.ms n).isSome]) w):=by obtain⟨A,m,l,B,p,r,x,l2,t,q,rfl,v,E,R,M⟩:=i.shape;refine vE Tryz.func234 ?_;intro o j b;have h:=((Ctx.start w no (fun _ d=>d.elim)).loc b).1;refine h.c 0 rfl rfl ?_;refine B8 (B7z s.ms n g f B p S j (M.below h.below)) ?_;intro u k;exact⟨rfl,(h.quiet k).1.below⟩
theorem A9P (s:Stt) (n:ByteArray) (i:s.l.Pairwise (fun a g=>E4 a.key g.key=true)) (f:s.l.length<=1000000) (c:List Value) (S:Nat->Prop) (w:World) (j:RepS S w s c):Calls Tryz.prog 268 #[.agg c.toArray,.string n] w (D4 (.tuple #[.int .i64 (posK s.l n:Nat),.bool (I0 s.l n).isSome]) w):=by obtain⟨A,p,b,B,q,r,x,l2,t,o,rfl,v,E,R,M⟩:=j.shape;refine vE Tryz.func268 ?_;intro m k d;have h:=((Ctx.start w no (fun _ e=>e.elim)).loc d).1;refine h.c 0 rfl rfl ?_;refine B8 (B70 s.l n i f A p S k b (E.below h.below) (R.below h.below)) ?_;intro u l;exact⟨rfl,(h.quiet l).1.below⟩
theorem Blk.shape {w:World} {g T:Nat} {c:List Value} (h:Blk w g T c):w.shape? g=some (T,c.length):=by unfold Blk at h;unfold World.shape?;rw [h];simp
theorem B2T (w:World) (v g T i l f e j:Nat) (b:Addr) (a c:List Value) (h:Blk w v T a) (k:Blk w g i c) (d:b.block=g) (n:v≠g) (u:c.length≠0) {y:Value} (ey:y=.slice (some b) e j):
  (callFunc 273 #[.slice (some ⟨v,0,none⟩) l f,y]).run Tryz.prog w=.ok (.value (.bool false)) w:=by
 subst ey;rw [run_callFunc_extern Tryz.func273 (by kernel_rfl) (by kernel_rfl) (by kernel_rfl) (show Extern.find _=some (Extern.SlicesOverlaps.overlaps #[38,38] #[4]) by kernel_rfl),Lib.run_overlaps_apart w 38 4 101 Tryz.underlying38 3 (fun w=>by kernel_rfl) ⟨v,0,none⟩ b l f e j (by rw [d];exact n) T i a.length c.length (Blk.shape h) (by rw [d];exact Blk.shape k) u (h.frozen 0) (h.frozen a.length)];rfl
theorem A3L {S0 S:Nat->Prop} {B f:World} {m:List LB} (h:Ctx S0 B S f m) (s:List (List Value)) (F:Flat 3 s) (hn:s.length<=1000000) {A:Option Addr} {cap:Nat} (o:Own S B.heap.size f m 101 3 A s.length cap s.flatten)
  (i:Nat) (hi:i<=s.length) (e v:Nat) (c:List Value) (J:m[e]?=some (v,101,c)) (l:c.length=3) (y:F4 c=true):
  Calls Tryz.prog 236 #[.slice A s.length cap,.int .i64 i,.slice (some ⟨v,0,none⟩) 1 1] f (fun en N=>∃ z G,en=.returned (.slice z (s.length+1) G)/\Ctx S0 B S N m/\Fut S f S N/\Own S B.heap.size N m 101 3 z (s.length+1) G ((s.take i).flatten++c++(s.drop i).flatten)):=by
 obtain⟨f1,f2⟩:=o.fit;have hM:cap<=9223372036854775807:=zq f2 (by decide);have b2:=F.len;generalize b6:s.length=n at*;refine vE Tryz.func236 ?_;refine⟨⟨by omega,by omega,by omega,by omega⟩,?_⟩;obtain b4|b5:=zm i n;rotate_left
 ·have a9:i=n:=by omega
  subst a9;refine B5 (by show ((i:Int)==(i:Int))=true;simp) ?_;refine X9 Tryz.underlying38 A2I rfl (by decide) h o (ys:=c) (by rw [l]) (h.cells e J) y (by omega) (by decide) ?_;intro z G w1 y hf o _;refine⟨z,G,rfl,y,hf,?_⟩;rw [ym (by omega),zr (by omega),List.flatten_nil,zx];exact o
 refine B4 (by show ((i:Int)==(n:Int))=false;rw [ya];omega) ?_;cases H:A with
 | none=>
  obtain⟨h0,_⟩:=o.none' H;omega
 | some a=>
 obtain⟨g,u,j,h,r,a1,_,_⟩:=o.opened h H;rw [H] at j;cases j;have X:((g,101,u)::m)[e+1]?=some (v,101,c):=by simpa using J
 have a7:v≠g:=(o.out _ H).2 _ (List.mem_of_getElem? J);have w:IntKind.i64.wrap ((n:Int)+((1:Nat):Int))=(n:Int)+1:=G8 _ _ (by omega) (by omega);have d:IntKind.i64.wrap ((i:Int)+((1:Nat):Int))=(i:Int)+1:=G8 _ _ (by omega) (by omega);have T:(s.take i).flatten.length=i*3:=by rw [(F.take _).len,zg];omega
 have q:(s.drop i).flatten.length=(n-i)*3:=by rw [(F.drop _).len,zh];omega
 have Z:u.take (i*3)=(s.take i).flatten:=by rw [F.flat_take,<-a1,List.take_take];congr 1;omega
 have W:(u.drop (i*3)).take (s.drop i).flatten.length=(s.drop i).flatten:=by rw [F.flat_drop,<-a1,List.drop_take,zg,zh,r];congr 1;omega
 refine⟨_,fun f=>B1w Tryz.underlying38 _ _ _ f,?_⟩;obtain a0|a0:=zm cap (n+1)
 ·refine dt (by rw [w];omega) ?_;have t:(if (cap:Int)=0 then some (⟨g,0,none⟩:Addr) else (some (⟨g,0,none⟩:Addr)).map (·.add ((0:Int).toNat*3)))=some ⟨g,0,none⟩:=Y2 _ _ _;refine⟨⟨by omega,by omega,by omega,by omega⟩,?_⟩;have a8:IntKind.i64.wrap (IntKind.i64.wrap ((n:Int)+((1:Nat):Int))-(i:Int))=((n+1-i:Nat):Int):=by rw [w,yh _ ⟨by omega,by omega⟩];omega
  refine A6a Tryz.underlying38 Tryz.underlying3 A2I rfl (by decide) h r (n:=i) (k:=n+1-i) (kq:=.i64) (by omega) (by omega) (by omega) (by omega) (by decide) ?_ (yb _ a8) ?_
  ·show Value.slice (if (cap:Int)=0 then some (⟨g,0,none⟩:Addr) else (some (⟨g,0,none⟩:Addr)).map (·.add ((0:Int).toNat*3))) ((i:Int)-0).toNat ((cap:Int)-0).toNat=_;rw [t];congr 1<;>omega
  intro b p x w2 h b0 L b3 Y a2;have O:((b,101,x)::(g,101,u)::m)[e+2]?=some (v,101,c):=by simpa using J
  have a5:i+(n+1-i)=n+1:=by omega
  have b7:p<=9223372036854775807:=zq Y (by decide);refine⟨⟨by omega,by omega,by omega,by omega⟩,?_⟩;refine U0 Tryz.underlying38 A2I (da:=⟨b,i*3,none⟩) (sa:=⟨v,0,none⟩) (dn:=n+1-i) (dc:=p-i) (sn:=1) (sc:=1) (xs:=c) (by rw [l,show Nat.min 1 (n+1-i)=1 from Nat.min_eq_left (by omega)]) (h.cells (e+2) O) (h.may 0 rfl _ _ (by rw [L,l];omega) y) ?_ rfl ?_
  ·show Value.slice (if (p:Int)=(i:Int) then some (⟨b,0,none⟩:Addr) else (some (⟨b,0,none⟩:Addr)).map (·.add ((i:Int).toNat*3))) (((i+(n+1-i):Nat):Int)-(i:Int)).toNat ((p:Int)-(i:Int)).toNat=_;rw [A00 b p 3 (i:Int) i rfl (by omega)];congr 1<;>omega
  intro w3 K;have C:=h.set 0 rfl K;have h:=C.1;have R:(C5 x (i*3) c).length=p*3:=by rw [putAt_len,L]
  refine vD (.Q [0,1,2,3,4,5,6,7] (.n 8 .fin .stop)) (fun _=>True) trivial ?_;have h:=h.drew;refine⟨⟨by rw [d];omega,by rw [d];omega,by omega,by omega⟩,⟨by omega,by omega,by omega,by omega⟩,U0 Tryz.underlying38 A2I (da:=⟨b,(i+1)*3,none⟩) (sa:=⟨g,i*3,none⟩) (dn:=n-i) (dc:=p-(i+1)) (sn:=n-i) (sc:=cap-i) (xs:=(s.drop i).flatten) (by rw [show Nat.min (n-i) (n-i)=n-i from Nat.min_self _,q]) (h.cellsAt 1 rfl _ _ W) (h.may 0 rfl _ _ (by rw [q,R,<-Nat.add_mul];exact Nat.mul_le_mul_right _ (by omega)) (F.drop _).ones) ?_ ?_ ?_,t6⟩
  ·show Value.slice (if (p:Int)=(IntKind.i64.wrap ((i:Int)+((1:Nat):Int))) then some (⟨b,0,none⟩:Addr) else (some (⟨b,0,none⟩:Addr)).map (·.add ((IntKind.i64.wrap ((i:Int)+((1:Nat):Int))).toNat*3))) (((i+(n+1-i):Nat):Int)-(IntKind.i64.wrap ((i:Int)+((1:Nat):Int)))).toNat ((p:Int)-(IntKind.i64.wrap ((i:Int)+((1:Nat):Int)))).toNat=_;rw [A00 b p 3 (IntKind.i64.wrap ((i:Int)+((1:Nat):Int))) (i+1) (by rw [d];rfl) (by omega),d];congr 1<;>omega
  ·show Value.slice (if (cap:Int)=(i:Int) then some (⟨g,0,none⟩:Addr) else (some (⟨g,0,none⟩:Addr)).map (·.add ((i:Int).toNat*3))) ((n:Int)-(i:Int)).toNat ((cap:Int)-(i:Int)).toNat=_;rw [A00 g cap 3 (i:Int) i rfl (by omega)];congr 1<;>omega
  intro w4 h4;refine⟨t6,?_⟩;have V:=h.set 0 rfl h4;have h:=V.1;have D:=G9 c x (i*3) (by rw [L,l];omega);have P:=G9 (s.drop i).flatten (C5 x (i*3) c) ((i+1)*3) (by rw [q,R,<-Nat.add_mul];exact Nat.mul_le_mul_right _ (by omega));have U:(C5 (C5 x (i*3) c) ((i+1)*3) (s.drop i).flatten).take ((n+1)*3)=(s.take i).flatten++c++(s.drop i).flatten:=by
   have j:(C5 x (i*3) c).take ((i+1)*3)=(s.take i).flatten++c:=by rw [D,a2,Z,List.take_left' (by rw [z6,T,l];omega)]
   rw [P,j,List.take_left' (by rw [z6,z6,T,l,q];omega)]
  obtain⟨h,o⟩:=Ctx.closed h 3 (n+1) p (by omega) Y (by rw [putAt_len,R]);rw [U] at o;refine⟨some ⟨b,0,none⟩,p,?_,h.drop,b0.trans (C.2.trans V.2),o.drop⟩;show Ending.returned (.slice (some ⟨b,0,none⟩) (i+(n+1-i)) p)=_;rw [a5]
 ·refine df (by rw [w];omega) ?_;have I:(((cap:Int)-0).toNat:Int)=cap:=by omega
  have E:((IntKind.i64.wrap ((n:Int)+((1:Nat):Int))-0).toNat:Int)=n+1:=by rw [w];omega
  refine⟨⟨by omega,by rw [w];omega,by rw [w];omega,by omega⟩,?_⟩;have t:(if (cap:Int)=0 then some (⟨g,0,none⟩:Addr) else (some (⟨g,0,none⟩:Addr)).map (·.add ((0:Int).toNat*3)))=some ⟨g,0,none⟩:=Y2 _ _ _;refine⟨⟨by rw [d];omega,by rw [d,w];omega,by rw [w];omega,by omega⟩,?_⟩;have b1:=h.blk 0 rfl;have a6:=h.blk (e+1) X;refine⟨_,_,B2T f v g _ _ 1 1 (n-i) (cap-(i+1)) ⟨g,(i+1)*3,none⟩ c u a6 b1 rfl a7 (by rw [r];omega) (ey:=?ey),?_⟩
  case ey=>
   show Value.slice (if (((cap:Int)-0).toNat:Int)=(IntKind.i64.wrap ((i:Int)+((1:Nat):Int))) then (if (cap:Int)=0 then some (⟨g,0,none⟩:Addr) else (some (⟨g,0,none⟩:Addr)).map (·.add ((0:Int).toNat*3))) else (if (cap:Int)=0 then some (⟨g,0,none⟩:Addr) else (some (⟨g,0,none⟩:Addr)).map (·.add ((0:Int).toNat*3))).map (·.add ((IntKind.i64.wrap ((i:Int)+((1:Nat):Int))).toNat*3))) (((IntKind.i64.wrap ((n:Int)+((1:Nat):Int))-0).toNat:Int)-(IntKind.i64.wrap ((i:Int)+((1:Nat):Int)))).toNat ((((cap:Int)-0).toNat:Int)-(IntKind.i64.wrap ((i:Int)+((1:Nat):Int)))).toNat=_;rw [d,I,E,t,yo (by omega),Option.map_some,yi,zn,show ((i:Int)+1).toNat=i+1 by omega];congr 1<;>omega
  refine vD (.Q [0,1,2,3,4,5,6,7] (.n 8 .fin .stop)) (fun _=>True) trivial ?_;have h:=h.drew;refine⟨⟨by rw [d];omega,by rw [d,w];omega,by rw [w];omega,by omega⟩,⟨by omega,by rw [w];omega,by rw [w];omega,by omega⟩,?_,t6⟩;have a3:Nat.min (n+1-i) (n-i)=n-i:=Nat.min_eq_right (by omega);refine U0 Tryz.underlying38 A2I (da:=⟨g,(i+1)*3,none⟩) (sa:=⟨g,i*3,none⟩) (dn:=n-i) (dc:=cap-(i+1)) (sn:=n+1-i) (sc:=cap-i) (xs:=(s.drop i).flatten) (by rw [a3,q]) (h.cellsAt 0 rfl _ _ W) (h.may 0 rfl _ _ (by rw [q,r,<-Nat.add_mul];exact Nat.mul_le_mul_right _ (by omega)) (F.drop _).ones) ?_ ?_ ?_
  ·show Value.slice (if (((cap:Int)-0).toNat:Int)=(IntKind.i64.wrap ((i:Int)+((1:Nat):Int))) then (if (cap:Int)=0 then some (⟨g,0,none⟩:Addr) else (some (⟨g,0,none⟩:Addr)).map (·.add ((0:Int).toNat*3))) else (if (cap:Int)=0 then some (⟨g,0,none⟩:Addr) else (some (⟨g,0,none⟩:Addr)).map (·.add ((0:Int).toNat*3))).map (·.add ((IntKind.i64.wrap ((i:Int)+((1:Nat):Int))).toNat*3))) (((IntKind.i64.wrap ((n:Int)+((1:Nat):Int))-0).toNat:Int)-(IntKind.i64.wrap ((i:Int)+((1:Nat):Int)))).toNat ((((cap:Int)-0).toNat:Int)-(IntKind.i64.wrap ((i:Int)+((1:Nat):Int)))).toNat=_;rw [d,I,E,t,yo (by omega),Option.map_some,yi,zn,show ((i:Int)+1).toNat=i+1 by omega];congr 1<;>omega
  ·show Value.slice (if (((cap:Int)-0).toNat:Int)=(i:Int) then (if (cap:Int)=0 then some (⟨g,0,none⟩:Addr) else (some (⟨g,0,none⟩:Addr)).map (·.add ((0:Int).toNat*3))) else (if (cap:Int)=0 then some (⟨g,0,none⟩:Addr) else (some (⟨g,0,none⟩:Addr)).map (·.add ((0:Int).toNat*3))).map (·.add ((i:Int).toNat*3))) (((IntKind.i64.wrap ((n:Int)+((1:Nat):Int))-0).toNat:Int)-(i:Int)).toNat ((((cap:Int)-0).toNat:Int)-(i:Int)).toNat=_;rw [I,E,t,yo (by omega),Option.map_some,yi,zn,zi];congr 1<;>omega
  intro w2 h2;refine⟨t6,?_⟩;have hC:=h.set 0 rfl h2;have h:=hC.1;refine⟨⟨by omega,by rw [w];omega,by rw [w];omega,by omega⟩,?_⟩;have O:(I2 ((g,101,u)::m) 0 (C5 u ((i+1)*3) (s.drop i).flatten))[e+1]?=some (v,101,c):=X;have M:(C5 u ((i+1)*3) (s.drop i).flatten).length=cap*3:=by rw [putAt_len,r]
  have D:C5 u ((i+1)*3) (s.drop i).flatten=u.take ((i+1)*3)++(s.drop i).flatten++u.drop ((i+1)*3+(s.drop i).flatten.length):=G9 _ _ _ (by rw [q,r,<-Nat.add_mul];exact Nat.mul_le_mul_right _ (by omega));refine U0 Tryz.underlying38 A2I (da:=⟨g,i*3,none⟩) (sa:=⟨v,0,none⟩) (dn:=n+1-i) (dc:=cap-i) (sn:=1) (sc:=1) (xs:=c) (by rw [l,show Nat.min 1 (n+1-i)=1 from Nat.min_eq_left (by omega)]) (h.cells (e+1) O) (h.may 0 rfl _ _ (by rw [M,l];omega) y) ?_ rfl ?_
  ·show Value.slice (if (((cap:Int)-0).toNat:Int)=(i:Int) then (if (cap:Int)=0 then some (⟨g,0,none⟩:Addr) else (some (⟨g,0,none⟩:Addr)).map (·.add ((0:Int).toNat*3))) else (if (cap:Int)=0 then some (⟨g,0,none⟩:Addr) else (some (⟨g,0,none⟩:Addr)).map (·.add ((0:Int).toNat*3))).map (·.add ((i:Int).toNat*3))) (((IntKind.i64.wrap ((n:Int)+((1:Nat):Int))-0).toNat:Int)-(i:Int)).toNat ((((cap:Int)-0).toNat:Int)-(i:Int)).toNat=_;rw [I,E,t,yo (by omega),Option.map_some,yi,zn,zi];congr 1<;>omega
  intro w3 K;have C:=h.set 0 rfl K;have h:=C.1;have P:=G9 c (C5 u ((i+1)*3) (s.drop i).flatten) (i*3) (by rw [M,l];omega);have U:(C5 (C5 u ((i+1)*3) (s.drop i).flatten) (i*3) c).take ((n+1)*3)=(s.take i).flatten++c++(s.drop i).flatten:=by
   have j:(C5 u ((i+1)*3) (s.drop i).flatten).take (i*3)=(s.take i).flatten:=by rw [D,zw,List.take_append_of_le_length (by rw [zg,r];omega),List.take_take,Nat.min_eq_left (by omega),Z]
   have Q:(C5 u ((i+1)*3) (s.drop i).flatten).drop (i*3+c.length)=(s.drop i).flatten++u.drop ((i+1)*3+(s.drop i).flatten.length):=by rw [D,zw,List.drop_left' (by rw [zg,r,l];omega)]
   rw [P,j,Q,<-zw,List.take_left' (by rw [z6,z6,T,l,q];omega)]
  obtain⟨h,o⟩:=Ctx.closed h 3 (n+1) cap a0 f2 (by rw [putAt_len,M]);rw [U] at o;refine⟨some ⟨g,0,none⟩,cap,?_,h,((Fut.refl S f).trans ⟨fun _ a4=>a4,fun _ _=>rfl⟩).trans (hC.2.trans C.2),o⟩;show Ending.returned (.slice (if (cap:Int)=0 then some (⟨g,0,none⟩:Addr) else (some (⟨g,0,none⟩:Addr)).map (·.add ((0:Int).toNat*3))) (IntKind.i64.wrap ((n:Int)+((1:Nat):Int))-0).toNat ((cap:Int)-0).toNat)=_;have j:(IntKind.i64.wrap ((n:Int)+((1:Nat):Int))-0).toNat=n+1:=by rw [w];omega
  have Q:((cap:Int)-0).toNat=cap:=by omega
  rw [t,j,Q]
theorem B2U (w:World) (v g T i l f e j:Nat) (b:Addr) (a c:List Value) (h:Blk w v T a) (k:Blk w g i c) (d:b.block=g) (n:v≠g) (u:c.length≠0) {y:Value} (ey:y=.slice (some b) e j):
  (callFunc 295 #[.slice (some ⟨v,0,none⟩) l f,y]).run Tryz.prog w=.ok (.value (.bool false)) w:=by
 subst ey;rw [run_callFunc_extern Tryz.func295 (by kernel_rfl) (by kernel_rfl) (by kernel_rfl) (show Extern.find _=some (Extern.SlicesOverlaps.overlaps #[37,37] #[4]) by kernel_rfl),Lib.run_overlaps_apart w 37 4 99 Tryz.underlying37 2 (fun w=>by kernel_rfl) ⟨v,0,none⟩ b l f e j (by rw [d];exact n) T i a.length c.length (Blk.shape h) (by rw [d];exact Blk.shape k) u (h.frozen 0) (h.frozen a.length)];rfl
theorem A3M {S0 S:Nat->Prop} {B f:World} {m:List LB} (h:Ctx S0 B S f m) (s:List (List Value)) (F:Flat 2 s) (hn:s.length<=1000000) {A:Option Addr} {cap:Nat} (o:Own S B.heap.size f m 99 2 A s.length cap s.flatten)
  (i:Nat) (hi:i<=s.length) (e v:Nat) (c:List Value) (J:m[e]?=some (v,99,c)) (l:c.length=2) (y:F4 c=true):
  Calls Tryz.prog 272 #[.slice A s.length cap,.int .i64 i,.slice (some ⟨v,0,none⟩) 1 1] f (fun en N=>∃ z G,en=.returned (.slice z (s.length+1) G)/\Ctx S0 B S N m/\Fut S f S N/\Own S B.heap.size N m 99 2 z (s.length+1) G ((s.take i).flatten++c++(s.drop i).flatten)):=by
 obtain⟨f1,f2⟩:=o.fit;have hM:cap<=9223372036854775807:=zq f2 (by decide);have b2:=F.len;generalize b6:s.length=n at*;refine vE Tryz.func272 ?_;refine⟨⟨by omega,by omega,by omega,by omega⟩,?_⟩;obtain b4|b5:=zm i n;rotate_left
 ·have a9:i=n:=by omega
  subst a9;refine B5 (by show ((i:Int)==(i:Int))=true;simp) ?_;refine X9 Tryz.underlying37 A1M rfl (by decide) h o (ys:=c) (by rw [l]) (h.cells e J) y (by omega) (by decide) ?_;intro z G w1 y hf o _;refine⟨z,G,rfl,y,hf,?_⟩;rw [ym (by omega),zr (by omega),List.flatten_nil,zx];exact o
 refine B4 (by show ((i:Int)==(n:Int))=false;rw [ya];omega) ?_;cases H:A with
 | none=>
  obtain⟨h0,_⟩:=o.none' H;omega
 | some a=>
 obtain⟨g,u,j,h,r,a1,_,_⟩:=o.opened h H;rw [H] at j;cases j;have X:((g,99,u)::m)[e+1]?=some (v,99,c):=by simpa using J
 have a7:v≠g:=(o.out _ H).2 _ (List.mem_of_getElem? J);have w:IntKind.i64.wrap ((n:Int)+((1:Nat):Int))=(n:Int)+1:=G8 _ _ (by omega) (by omega);have d:IntKind.i64.wrap ((i:Int)+((1:Nat):Int))=(i:Int)+1:=G8 _ _ (by omega) (by omega);have T:(s.take i).flatten.length=i*2:=by rw [(F.take _).len,zg];omega
 have q:(s.drop i).flatten.length=(n-i)*2:=by rw [(F.drop _).len,zh];omega
 have Z:u.take (i*2)=(s.take i).flatten:=by rw [F.flat_take,<-a1,List.take_take];congr 1;omega
 have W:(u.drop (i*2)).take (s.drop i).flatten.length=(s.drop i).flatten:=by rw [F.flat_drop,<-a1,List.drop_take,zg,zh,r];congr 1;omega
 refine⟨_,fun f=>B1w Tryz.underlying37 _ _ _ f,?_⟩;obtain a0|a0:=zm cap (n+1)
 ·refine dt (by rw [w];omega) ?_;have t:(if (cap:Int)=0 then some (⟨g,0,none⟩:Addr) else (some (⟨g,0,none⟩:Addr)).map (·.add ((0:Int).toNat*2)))=some ⟨g,0,none⟩:=Y2 _ _ _;refine⟨⟨by omega,by omega,by omega,by omega⟩,?_⟩;have a8:IntKind.i64.wrap (IntKind.i64.wrap ((n:Int)+((1:Nat):Int))-(i:Int))=((n+1-i:Nat):Int):=by rw [w,yh _ ⟨by omega,by omega⟩];omega
  refine A6a Tryz.underlying37 Tryz.underlying3 A1M rfl (by decide) h r (n:=i) (k:=n+1-i) (kq:=.i64) (by omega) (by omega) (by omega) (by omega) (by decide) ?_ (yb _ a8) ?_
  ·show Value.slice (if (cap:Int)=0 then some (⟨g,0,none⟩:Addr) else (some (⟨g,0,none⟩:Addr)).map (·.add ((0:Int).toNat*2))) ((i:Int)-0).toNat ((cap:Int)-0).toNat=_;rw [t];congr 1<;>omega
  intro b p x w2 h b0 L b3 Y a2;have O:((b,99,x)::(g,99,u)::m)[e+2]?=some (v,99,c):=by simpa using J
  have a5:i+(n+1-i)=n+1:=by omega
  have b7:p<=9223372036854775807:=zq Y (by decide);refine⟨⟨by omega,by omega,by omega,by omega⟩,?_⟩;refine U0 Tryz.underlying37 A1M (da:=⟨b,i*2,none⟩) (sa:=⟨v,0,none⟩) (dn:=n+1-i) (dc:=p-i) (sn:=1) (sc:=1) (xs:=c) (by rw [l,show Nat.min 1 (n+1-i)=1 from Nat.min_eq_left (by omega)]) (h.cells (e+2) O) (h.may 0 rfl _ _ (by rw [L,l];omega) y) ?_ rfl ?_
  ·show Value.slice (if (p:Int)=(i:Int) then some (⟨b,0,none⟩:Addr) else (some (⟨b,0,none⟩:Addr)).map (·.add ((i:Int).toNat*2))) (((i+(n+1-i):Nat):Int)-(i:Int)).toNat ((p:Int)-(i:Int)).toNat=_;rw [A00 b p 2 (i:Int) i rfl (by omega)];congr 1<;>omega
  intro w3 K;have C:=h.set 0 rfl K;have h:=C.1;have R:(C5 x (i*2) c).length=p*2:=by rw [putAt_len,L]
  refine vD (.Q [0,1,2,3,4,5,6,7] (.n 8 .fin .stop)) (fun _=>True) trivial ?_;have h:=h.drew;refine⟨⟨by rw [d];omega,by rw [d];omega,by omega,by omega⟩,⟨by omega,by omega,by omega,by omega⟩,U0 Tryz.underlying37 A1M (da:=⟨b,(i+1)*2,none⟩) (sa:=⟨g,i*2,none⟩) (dn:=n-i) (dc:=p-(i+1)) (sn:=n-i) (sc:=cap-i) (xs:=(s.drop i).flatten) (by rw [show Nat.min (n-i) (n-i)=n-i from Nat.min_self _,q]) (h.cellsAt 1 rfl _ _ W) (h.may 0 rfl _ _ (by rw [q,R,<-Nat.add_mul];exact Nat.mul_le_mul_right _ (by omega)) (F.drop _).ones) ?_ ?_ ?_,t6⟩
  ·show Value.slice (if (p:Int)=(IntKind.i64.wrap ((i:Int)+((1:Nat):Int))) then some (⟨b,0,none⟩:Addr) else (some (⟨b,0,none⟩:Addr)).map (·.add ((IntKind.i64.wrap ((i:Int)+((1:Nat):Int))).toNat*2))) (((i+(n+1-i):Nat):Int)-(IntKind.i64.wrap ((i:Int)+((1:Nat):Int)))).toNat ((p:Int)-(IntKind.i64.wrap ((i:Int)+((1:Nat):Int)))).toNat=_;rw [A00 b p 2 (IntKind.i64.wrap ((i:Int)+((1:Nat):Int))) (i+1) (by rw [d];rfl) (by omega),d];congr 1<;>omega
  ·show Value.slice (if (cap:Int)=(i:Int) then some (⟨g,0,none⟩:Addr) else (some (⟨g,0,none⟩:Addr)).map (·.add ((i:Int).toNat*2))) ((n:Int)-(i:Int)).toNat ((cap:Int)-(i:Int)).toNat=_;rw [A00 g cap 2 (i:Int) i rfl (by omega)];congr 1<;>omega
  intro w4 h4;refine⟨t6,?_⟩;have V:=h.set 0 rfl h4;have h:=V.1;have D:=G9 c x (i*2) (by rw [L,l];omega);have P:=G9 (s.drop i).flatten (C5 x (i*2) c) ((i+1)*2) (by rw [q,R,<-Nat.add_mul];exact Nat.mul_le_mul_right _ (by omega));have U:(C5 (C5 x (i*2) c) ((i+1)*2) (s.drop i).flatten).take ((n+1)*2)=(s.take i).flatten++c++(s.drop i).flatten:=by
   have j:(C5 x (i*2) c).take ((i+1)*2)=(s.take i).flatten++c:=by rw [D,a2,Z,List.take_left' (by rw [z6,T,l];omega)]
   rw [P,j,List.take_left' (by rw [z6,z6,T,l,q];omega)]
  obtain⟨h,o⟩:=Ctx.closed h 2 (n+1) p (by omega) Y (by rw [putAt_len,R]);rw [U] at o;refine⟨some ⟨b,0,none⟩,p,?_,h.drop,b0.trans (C.2.trans V.2),o.drop⟩;show Ending.returned (.slice (some ⟨b,0,none⟩) (i+(n+1-i)) p)=_;rw [a5]
 ·refine df (by rw [w];omega) ?_;have I:(((cap:Int)-0).toNat:Int)=cap:=by omega
  have E:((IntKind.i64.wrap ((n:Int)+((1:Nat):Int))-0).toNat:Int)=n+1:=by rw [w];omega
  refine⟨⟨by omega,by rw [w];omega,by rw [w];omega,by omega⟩,?_⟩;have t:(if (cap:Int)=0 then some (⟨g,0,none⟩:Addr) else (some (⟨g,0,none⟩:Addr)).map (·.add ((0:Int).toNat*2)))=some ⟨g,0,none⟩:=Y2 _ _ _;refine⟨⟨by rw [d];omega,by rw [d,w];omega,by rw [w];omega,by omega⟩,?_⟩;have b1:=h.blk 0 rfl;have a6:=h.blk (e+1) X;refine⟨_,_,B2U f v g _ _ 1 1 (n-i) (cap-(i+1)) ⟨g,(i+1)*2,none⟩ c u a6 b1 rfl a7 (by rw [r];omega) (ey:=?ey),?_⟩
  case ey=>
   show Value.slice (if (((cap:Int)-0).toNat:Int)=(IntKind.i64.wrap ((i:Int)+((1:Nat):Int))) then (if (cap:Int)=0 then some (⟨g,0,none⟩:Addr) else (some (⟨g,0,none⟩:Addr)).map (·.add ((0:Int).toNat*2))) else (if (cap:Int)=0 then some (⟨g,0,none⟩:Addr) else (some (⟨g,0,none⟩:Addr)).map (·.add ((0:Int).toNat*2))).map (·.add ((IntKind.i64.wrap ((i:Int)+((1:Nat):Int))).toNat*2))) (((IntKind.i64.wrap ((n:Int)+((1:Nat):Int))-0).toNat:Int)-(IntKind.i64.wrap ((i:Int)+((1:Nat):Int)))).toNat ((((cap:Int)-0).toNat:Int)-(IntKind.i64.wrap ((i:Int)+((1:Nat):Int)))).toNat=_;rw [d,I,E,t,yo (by omega),Option.map_some,yi,zn,show ((i:Int)+1).toNat=i+1 by omega];congr 1<;>omega
  refine vD (.Q [0,1,2,3,4,5,6,7] (.n 8 .fin .stop)) (fun _=>True) trivial ?_;have h:=h.drew;refine⟨⟨by rw [d];omega,by rw [d,w];omega,by rw [w];omega,by omega⟩,⟨by omega,by rw [w];omega,by rw [w];omega,by omega⟩,?_,t6⟩;have a3:Nat.min (n+1-i) (n-i)=n-i:=Nat.min_eq_right (by omega);refine U0 Tryz.underlying37 A1M (da:=⟨g,(i+1)*2,none⟩) (sa:=⟨g,i*2,none⟩) (dn:=n-i) (dc:=cap-(i+1)) (sn:=n+1-i) (sc:=cap-i) (xs:=(s.drop i).flatten) (by rw [a3,q]) (h.cellsAt 0 rfl _ _ W) (h.may 0 rfl _ _ (by rw [q,r,<-Nat.add_mul];exact Nat.mul_le_mul_right _ (by omega)) (F.drop _).ones) ?_ ?_ ?_
  ·show Value.slice (if (((cap:Int)-0).toNat:Int)=(IntKind.i64.wrap ((i:Int)+((1:Nat):Int))) then (if (cap:Int)=0 then some (⟨g,0,none⟩:Addr) else (some (⟨g,0,none⟩:Addr)).map (·.add ((0:Int).toNat*2))) else (if (cap:Int)=0 then some (⟨g,0,none⟩:Addr) else (some (⟨g,0,none⟩:Addr)).map (·.add ((0:Int).toNat*2))).map (·.add ((IntKind.i64.wrap ((i:Int)+((1:Nat):Int))).toNat*2))) (((IntKind.i64.wrap ((n:Int)+((1:Nat):Int))-0).toNat:Int)-(IntKind.i64.wrap ((i:Int)+((1:Nat):Int)))).toNat ((((cap:Int)-0).toNat:Int)-(IntKind.i64.wrap ((i:Int)+((1:Nat):Int)))).toNat=_;rw [d,I,E,t,yo (by omega),Option.map_some,yi,zn,show ((i:Int)+1).toNat=i+1 by omega];congr 1<;>omega
  ·show Value.slice (if (((cap:Int)-0).toNat:Int)=(i:Int) then (if (cap:Int)=0 then some (⟨g,0,none⟩:Addr) else (some (⟨g,0,none⟩:Addr)).map (·.add ((0:Int).toNat*2))) else (if (cap:Int)=0 then some (⟨g,0,none⟩:Addr) else (some (⟨g,0,none⟩:Addr)).map (·.add ((0:Int).toNat*2))).map (·.add ((i:Int).toNat*2))) (((IntKind.i64.wrap ((n:Int)+((1:Nat):Int))-0).toNat:Int)-(i:Int)).toNat ((((cap:Int)-0).toNat:Int)-(i:Int)).toNat=_;rw [I,E,t,yo (by omega),Option.map_some,yi,zn,zi];congr 1<;>omega
  intro w2 h2;refine⟨t6,?_⟩;have hC:=h.set 0 rfl h2;have h:=hC.1;refine⟨⟨by omega,by rw [w];omega,by rw [w];omega,by omega⟩,?_⟩;have O:(I2 ((g,99,u)::m) 0 (C5 u ((i+1)*2) (s.drop i).flatten))[e+1]?=some (v,99,c):=X;have M:(C5 u ((i+1)*2) (s.drop i).flatten).length=cap*2:=by rw [putAt_len,r]
  have D:C5 u ((i+1)*2) (s.drop i).flatten=u.take ((i+1)*2)++(s.drop i).flatten++u.drop ((i+1)*2+(s.drop i).flatten.length):=G9 _ _ _ (by rw [q,r,<-Nat.add_mul];exact Nat.mul_le_mul_right _ (by omega));refine U0 Tryz.underlying37 A1M (da:=⟨g,i*2,none⟩) (sa:=⟨v,0,none⟩) (dn:=n+1-i) (dc:=cap-i) (sn:=1) (sc:=1) (xs:=c) (by rw [l,show Nat.min 1 (n+1-i)=1 from Nat.min_eq_left (by omega)]) (h.cells (e+1) O) (h.may 0 rfl _ _ (by rw [M,l];omega) y) ?_ rfl ?_
  ·show Value.slice (if (((cap:Int)-0).toNat:Int)=(i:Int) then (if (cap:Int)=0 then some (⟨g,0,none⟩:Addr) else (some (⟨g,0,none⟩:Addr)).map (·.add ((0:Int).toNat*2))) else (if (cap:Int)=0 then some (⟨g,0,none⟩:Addr) else (some (⟨g,0,none⟩:Addr)).map (·.add ((0:Int).toNat*2))).map (·.add ((i:Int).toNat*2))) (((IntKind.i64.wrap ((n:Int)+((1:Nat):Int))-0).toNat:Int)-(i:Int)).toNat ((((cap:Int)-0).toNat:Int)-(i:Int)).toNat=_;rw [I,E,t,yo (by omega),Option.map_some,yi,zn,zi];congr 1<;>omega
  intro w3 K;have C:=h.set 0 rfl K;have h:=C.1;have P:=G9 c (C5 u ((i+1)*2) (s.drop i).flatten) (i*2) (by rw [M,l];omega);have U:(C5 (C5 u ((i+1)*2) (s.drop i).flatten) (i*2) c).take ((n+1)*2)=(s.take i).flatten++c++(s.drop i).flatten:=by
   have j:(C5 u ((i+1)*2) (s.drop i).flatten).take (i*2)=(s.take i).flatten:=by rw [D,zw,List.take_append_of_le_length (by rw [zg,r];omega),List.take_take,Nat.min_eq_left (by omega),Z]
   have Q:(C5 u ((i+1)*2) (s.drop i).flatten).drop (i*2+c.length)=(s.drop i).flatten++u.drop ((i+1)*2+(s.drop i).flatten.length):=by rw [D,zw,List.drop_left' (by rw [zg,r,l];omega)]
   rw [P,j,Q,<-zw,List.take_left' (by rw [z6,z6,T,l,q];omega)]
  obtain⟨h,o⟩:=Ctx.closed h 2 (n+1) cap a0 f2 (by rw [putAt_len,M]);rw [U] at o;refine⟨some ⟨g,0,none⟩,cap,?_,h,((Fut.refl S f).trans ⟨fun _ a4=>a4,fun _ _=>rfl⟩).trans (hC.2.trans C.2),o⟩;show Ending.returned (.slice (if (cap:Int)=0 then some (⟨g,0,none⟩:Addr) else (some (⟨g,0,none⟩:Addr)).map (·.add ((0:Int).toNat*2))) (IntKind.i64.wrap ((n:Int)+((1:Nat):Int))-0).toNat ((cap:Int)-0).toNat)=_;have j:(IntKind.i64.wrap ((n:Int)+((1:Nat):Int))-0).toNat=n+1:=by rw [w];omega
  have Q:((cap:Int)-0).toNat=cap:=by omega
  rw [t,j,Q]
def A6q (p:Mem->Bool):List Mem->Option Nat
 | []=>none
 | m::r=>if p m then some 0 else (A6q p r).map (·+1)
theorem A3N (p:Mem->Bool):∀ l:List Mem,(∀ j (h:j<l.length),p l[j]=false)->A6q p l=none
 | [],_=>rfl
 | m::r,h=>by have h0:p m=false:=h 0 (by simp);rw [A6q,h0,A3N p r (fun j a=>h (j+1) (by simpa using a))];rfl
theorem A3O (p:Mem->Bool):∀ (l:List Mem) (i:Nat) (h:i<l.length),p l[i]=true->(∀ j (a:j<l.length),j<i->p l[j]=false)->A6q p l=some i
 | m::r,0,h,hp,_=>by
  have h0:p m=true:=hp;rw [A6q,h0];rfl
 | m::r,i+1,h,hp,a=>by have h0:p m=false:=a 0 (by simp) (by omega);rw [A6q,h0,A3O p r i (by simpa using h) (by simpa using hp) (fun j b t=>a (j+1) (by simpa using b) (by omega))];rfl
theorem B2V (p:Mem->Bool):∀ (l:List Mem) (i:Nat),A6q p l=some i->i<l.length/\(l.take i).filter (fun m=>!p m)=l.take i/\(∃ h:i<l.length,p l[i]=true)
 | [],i,h=>by cases h
 | m::r,i,h=>by
  unfold A6q at h;split at h
  ·cases h;exact⟨by simp,rfl,by simp,by assumption⟩
  ·rename_i f;cases e:A6q p r with
   | none=>rw [e] at h;cases h
   | some k=>
    rw [e] at h;cases h;obtain⟨a,d,g,c⟩:=B2V p r k e;refine⟨by simpa using a,?_,by simpa using a,by simpa using c⟩;have b:p m=false:=by simpa using f
    show List.filter (fun m=>!p m) (m::r.take k)=m::r.take k;rw [List.filter_cons,b,d];rfl
theorem A4Z {p:Mem->Bool}:∀ l:List Mem,A6q p l=none->l.filter (fun m=>!p m)=l
 | [],_=>rfl
 | m::r,h=>by
  unfold A6q at h;split at h
  ·cases h
  ·rename_i b;have a:p m=false:=by simpa using b
   rw [List.filter_cons,a,A4Z r (by cases e:A6q p r with | none=>rfl | some k=>rw [e] at h;cases h)];rfl
theorem A3P (p:Mem->Bool) (d:Addr) (l:List Mem) (A:Option Addr) (f:Nat) (S:Nat->Prop) (a:World) (R:Row S a A l.length f (l.map G0).flatten)
  (n:∀ m w,Below a.heap.size a w->Calls Tryz.prog 210 #[.agg (G0 m).toArray,.pointer (some d)] w (D4 (.bool (p m)) w)):
  Calls Tryz.prog 209 #[.slice A l.length f,.func (.func 210) #[] #[.pointer (some d)]] a (D4 (.int .i64 (B2K (A6q p l))) a):=by
 refine vE Tryz.func209 ?_;have M:=E2 R;refine⟨Nat,fun i=>[(0,.slice A l.length f),(1,.func (.func 210) #[] #[.pointer (some d)]),(7,.int .i64 l.length),(8,.int .i64 i)],
  fun i w=>i<=l.length/\(∀ j (b:j<l.length),j<i->p l[j]=false)/\Below a.heap.size a w,fun i _=>l.length-i,0,
  ⟨rfl,rfl,rfl,rfl,t6⟩,⟨zb _,fun j b h=>absurd h (Nat.not_lt_zero _),Below.refl _ _⟩,?_⟩
 rintro i w u ⟨q,e,c⟩;by_cases t:i<l.length
 ·refine dt (by omega) ?_;obtain⟨s,rfl,k⟩:=RowM.elem (R.below c) i t;refine⟨⟨by omega,by omega⟩,G0 l[i],rfl,k,?_⟩;refine B8 (n l[i] w c) ?_;intro r o;have g:=c.trans (o.mono c.size);obtain hv|hv:=yj (p l[i])
  ·refine B5 hv ?_;refine⟨?_,g⟩;rw [A3O p l i t hv e];rfl
  ·refine B4 hv ?_;refine⟨i+1,⟨rfl,rfl,rfl,yb _ (C4 (by omega)),t6⟩,⟨t,fun j b h=>?_,g⟩,by show l.length-(i+1)<l.length-i;omega⟩;obtain h|h:=Nat.lt_succ_iff_lt_or_eq.1 h
   ·exact e j b h
   ·subst h;exact hv
 ·refine df (by omega) ?_;refine⟨?_,c⟩;rw [A3N p l (fun j b=>e j b (by omega))];rfl
theorem A3Q (p:Mem->Bool) (d g:Addr) (l:List Mem) (A:Option Addr) (f:Nat) (S:Nat->Prop) (a:World) (R:Row S a A l.length f (l.map G0).flatten)
  (o:∀ m w,Below a.heap.size a w->Calls Tryz.prog 238 #[.agg (G0 m).toArray,.pointer (some d),.pointer (some g)] w (D4 (.bool (p m)) w)):
  Calls Tryz.prog 209 #[.slice A l.length f,.func (.func 238) #[] #[.pointer (some d),.pointer (some g)]] a (D4 (.int .i64 (B2K (A6q p l))) a):=by
 refine vE Tryz.func209 ?_;have M:=E2 R;refine⟨Nat,fun i=>[(0,.slice A l.length f),(1,.func (.func 238) #[] #[.pointer (some d),.pointer (some g)]),(7,.int .i64 l.length),(8,.int .i64 i)],
  fun i w=>i<=l.length/\(∀ j (b:j<l.length),j<i->p l[j]=false)/\Below a.heap.size a w,fun i _=>l.length-i,0,
  ⟨rfl,rfl,rfl,rfl,t6⟩,⟨zb _,fun j b h=>absurd h (Nat.not_lt_zero _),Below.refl _ _⟩,?_⟩
 rintro i w u ⟨r,e,c⟩;by_cases t:i<l.length
 ·refine dt (by omega) ?_;obtain⟨v,rfl,n⟩:=RowM.elem (R.below c) i t;refine⟨⟨by omega,by omega⟩,G0 l[i],rfl,n,?_⟩;refine B8 (o l[i] w c) ?_;intro s q;have k:=c.trans (q.mono c.size);obtain hv|hv:=yj (p l[i])
  ·refine B5 hv ?_;refine⟨?_,k⟩;rw [A3O p l i t hv e];rfl
  ·refine B4 hv ?_;refine⟨i+1,⟨rfl,rfl,rfl,yb _ (C4 (by omega)),t6⟩,⟨t,fun j b h=>?_,k⟩,by show l.length-(i+1)<l.length-i;omega⟩;obtain h|h:=Nat.lt_succ_iff_lt_or_eq.1 h
   ·exact e j b h
   ·subst h;exact hv
 ·refine df (by omega) ?_;refine⟨?_,c⟩;rw [A3N p l (fun j b=>e j b (by omega))];rfl
theorem B2W (m:Mem) (a:Addr) (n:Int) (w:World) (b:w.cell? a=some (.int .i64 n)):Calls Tryz.prog 210 #[.agg (G0 m).toArray,.pointer (some a)] w (D4 (.bool (m.req==n)) w):=by obtain⟨e,o,s⟩:=a;refine vE Tryz.func210 ?_;intro g f d;have h:=((Ctx.start w no (fun _ c=>c.elim)).loc d).1;refine h.c 0 rfl rfl ?_;exact⟨_,cell_later h.below b,rfl,h.below⟩
theorem B2X (m:Mem) (f b:Addr) (g o:Int) (t:0<=o) (q:o<100) (w:World) (c:w.cell? f=some (.int .i64 g)) (d:w.cell? b=some (.int .i64 o)):
  Calls Tryz.prog 238 #[.agg (G0 m).toArray,.pointer (some f),.pointer (some b)] w (D4 (.bool (decide (m.req<g)&&B7 m.req==o+1)) w):=by
 obtain⟨y,v,s⟩:=f;obtain⟨r,z,A⟩:=b;refine vE Tryz.func238 ?_;intro p i j;have h:=((Ctx.start w no (fun _ e=>e.elim)).loc j).1;have c:=cell_later h.below c;have d:=cell_later h.below d;have k:IntKind.i64.wrap (o+1)=o+1:=G8 _ _ (by omega) (by omega);refine vD (.Q [0,1,2,3,4,5,6,8,9] (.n 7 (.Q [10,11,12] .fin) .stop)) (Keeps (fun b=>b<i.heap.size) i) (Keeps.start _ _) ?_;refine⟨_,fun a x=>x.look (h.cell 0 rfl _ rfl),_,fun a x=>x.look c,?_⟩;by_cases l:m.req<g
 ·refine dt l ?_;refine⟨_,fun a x=>x.look (h.cell 0 rfl _ rfl),_,fun a x=>x.look d,?_,t6⟩;have h:=h.drew;refine h.q (O8 m.req _) fun u n h=>?_;refine⟨(Keeps.start _ _).below (fun _ e=>e) n,?_,h.below⟩;rw [zz l,k];rfl
 ·refine df l ?_;have h:=h.drew;refine⟨?_,t6⟩;refine⟨?_,h.below⟩;rw [y8 l];rfl
theorem Own.seen {S:Nat->Prop} {w:World} {l:List LB} {g s:Nat} {A:Option Addr} {n c:Nat} {xs:List Value} {d:Nat} (h:Own S d w l g s A n c xs):Row (fun i=>∃ a,A=some a/\a.block=i) w A n c xs:=by
 obtain⟨k,j⟩:=h.fit;refine⟨k,j,fun x=>?_⟩;obtain⟨e,b⟩:=h.row;obtain⟨b,rfl⟩|⟨m,p,u,f,_,_,_,_,_,_⟩:=b
 ·rw [Nat.zero_mul] at e;exact absurd (zo e) x
 ·cases f;exact⟨_,rfl,⟨_,rfl,rfl⟩,h.row.cells rfl⟩
theorem A5P:∀ n:Nat,F4 (Builtin.zeroCells (Value.agg #[.int .i64 0,.int .i64 0,.int .i64 0]).cells n).toList=true:=fun n=>A21 fun v hv=>by
 have hv:v∈(Builtin.zeroCells (Value.agg #[.int .i64 0,.int .i64 0,.int .i64 0]).cells n):=by simpa using hv
 unfold Builtin.zeroCells at hv;rw [Array.mem_map] at hv;obtain⟨i,_,rfl⟩:=hv;have h:i % 3<3:=Nat.mod_lt _ (by decide);show (#[Value.int .i64 0,.int .i64 0,.int .i64 0][i % 3]!).oneCell'=true;generalize i % 3=k at h
 match k,h with
 | 0,_=>rfl
 | 1,_=>rfl
 | 2,_=>rfl
theorem B2Y (l:List Mem) (i:Nat):((l.map G0).flatten).take (i*3)=((l.take i).map G0).flatten:=by rw [<-(I6 l).flat_take,List.map_take]
theorem B2Z (l:List Mem) (i:Nat):((l.map G0).flatten).drop (i*3)=((l.drop i).map G0).flatten:=by rw [<-(I6 l).flat_drop,List.map_drop]
theorem putAt_drop (x c:List Value) (o d:Nat) (h:o+x.length<=c.length) (a:o+x.length<=d):(C5 c o x).drop d=c.drop d:=by rw [G9 x c o h,List.drop_append,zr (by rw [z6,zg];omega),List.nil_append,List.drop_drop];congr 1;rw [z6,zg];omega
theorem B0K (xs c:List Value) (o:Nat) (h:o+xs.length<=c.length):(C5 c o xs).take (o+xs.length)=c.take o++xs:=by rw [G9 xs c o h,List.take_left' (by rw [z6,zg];omega)]
theorem B0L (o h:Int) (l:List Mem) (j:Nat) (a:j<l.length):T9 o h (l.take (j+1))=T9 o h (l.take j)++(if (decide (l[j].req<o)&&B7 l[j].req==h)=true then [] else [l[j]]):=by rw [List.take_add_one,yc a];unfold T9;show List.filter _ (l.take j++[l[j]])=_;rw [List.filter_append,List.filter_cons];cases (decide (l[j].req<o)&&B7 l[j].req==h)<;>rfl
theorem A0P {O S:Nat->Prop} {y w:World} {d:List LB} (h:Ctx O y S w d) (ms:List Mem) (hn:ms.length<=1000000) {B:Option Addr} {p:Nat} (e:Own S y.heap.size w d 101 3 B ms.length p (ms.map G0).flatten)
  (l o:Int) (Q:0<=o) (H:o<100) (F E A C Ta Tb:Nat) (U:d[F]?=some (A,Ta,[.int .i64 l])) (W:d[E]?=some (C,Tb,[.int .i64 o])):
  Calls Tryz.prog 237 #[.slice B ms.length p,.func (.func 238) #[] #[.pointer (some ⟨A,0,none⟩),.pointer (some ⟨C,0,none⟩)]] w (fun en q=>∃ P,en=.returned (.slice P (T9 l (o+1) ms).length p)/\Ctx O y S q d/\Fut S w S q/\Own S y.heap.size q d 101 3 P (T9 l (o+1) ms).length p ((T9 l (o+1) ms).map G0).flatten):=by
 refine vE Tryz.func237 ?_;refine B8 (A3Q (fun m=>decide (m.req<l)&&B7 m.req==o+1) ⟨A,0,none⟩ ⟨C,0,none⟩ ms B p _ w (Own.seen e) (fun m w2 h2=>B2X m _ _ l o Q H w2 (cell_later h2 (h.cell F U 0 rfl)) (cell_later h2 (h.cell E W 0 rfl)))) ?_;intro w1 Z;have X:=h.quiet Z;have h:=X.1;have f:=X.2;have e:=e.quiet Z;cases Y:A6q (fun m=>decide (m.req<l)&&B7 m.req==o+1) ms with
 | none=>
  have hk:T9 l (o+1) ms=ms:=A4Z ms Y;rw [hk];exact⟨B,rfl,h,f,e⟩
 | some i=>
 obtain⟨a0,a7,N⟩:=B2V _ ms i Y;cases L:B with
 | none=>
  obtain⟨hz,_⟩:=e.none' L;omega
 | some a=>
 obtain⟨g,u,e1,h,R,t,b1,a2⟩:=e.opened h L;rw [L] at e1;cases e1;have hM:p<=9223372036854775807:=zq a2 (by decide);obtain⟨_,N⟩:=N;have T:T9 l (o+1) (ms.take (i+1))=ms.take i:=by have hg:(decide (ms[i].req<l)&&B7 ms[i].req==o+1)=true:=N;rw [List.take_add_one,yc a0];show List.filter _ (ms.take i++[ms[i]])=_;rw [List.filter_append,a7,List.filter_cons,hg];simp
 refine⟨Nat × Nat × List Value,fun x=>[(0,.slice (some ⟨g,0,none⟩) ms.length p),(1,.func (.func 238) #[] #[.pointer (some ⟨A,0,none⟩),.pointer (some ⟨C,0,none⟩)]),(5,.int .i64 x.2.1),(6,.int .i64 x.1)],
  fun x q=>x.2.1<x.1/\x.1<=ms.length/\(T9 l (o+1) (ms.take x.1)).length=x.2.1/\x.2.2.length=p*3/\x.2.2.take (x.2.1*3)=((T9 l (o+1) (ms.take x.1)).map G0).flatten/\(x.2.2.take (ms.length*3)).drop (x.1*3)=((ms.drop x.1).map G0).flatten/\Ctx O y S q ((g,101,x.2.2)::d)/\Fut S w S q,fun x _=>ms.length-x.1,(i+1,i,u),
  ⟨rfl,rfl,rfl,yb _ (C4 (by omega)),t6⟩,⟨Nat.lt_succ_self _,a0,?_,R,?_,?_,h,f⟩,?_⟩
 ·show (T9 l (o+1) (ms.take (i+1))).length=i;rw [T,zg];omega
 ·rw [T,<-B2Y,<-t,List.take_take];show u.take (i*3)=_;congr 1;omega
 ·show (u.take (ms.length*3)).drop ((i+1)*3)=_;rw [t,B2Z]
 clear t R h f;rintro⟨j,k,u⟩ w2 b0 ⟨M,I,v,G,t,J,h,f⟩;simp only at M I v G t J h;obtain r|r:=zm j ms.length
 ·refine dt (by omega) ?_;have a9:(u.drop (j*3)).take 3=G0 ms[j]:=by
   have K:((u.take (ms.length*3)).drop (j*3)).take 3=(((ms.drop j).map G0).flatten).take 3:=by rw [J]
   rw [yl r] at K;rw [List.drop_take,List.take_take,show min 3 (ms.length*3-j*3)=3 by omega] at K;rw [K];rfl
  have a8:((⟨g,0,none⟩:Addr).add ((j:Int).toNat*3))=⟨g,j*3,none⟩:=by rw [yi,zn,zi]
  have a5:((⟨g,0,none⟩:Addr).add ((k:Int).toNat*3))=⟨g,k*3,none⟩:=by rw [yi,zn,zi]
  refine⟨⟨(by first | omega | (simp only;omega)),(by first | omega | (simp only;omega))⟩,G0 ms[j],rfl,by rw [a8];exact h.cellsAt 0 rfl _ _ a9,?_⟩;generalize hm:ms[j]=m at*;intro g7 w7 h7;have b:=h.loc h7;have f:=f.trans b.2;have h:=b.1;refine⟨h.may 0 rfl 0 _ (zc 3) rfl,?_⟩;intro w8 h8;have b:=h.set 0 rfl h8;have f:=f.trans b.2;have h:=b.1;refine⟨G0 m,rfl,h.cells 0 rfl,?_⟩;refine B8 (B2X m ⟨A,0,none⟩ ⟨C,0,none⟩ l o Q H w8 (h.cell (F+2) (show d[F]?=_ from U) 0 rfl) (h.cell (E+2) (show d[E]?=_ from W) 0 rfl)) ?_;intro w9 H;have b:=h.quiet H;have f:=f.trans b.2;have h:=b.1;have s:=B0L l (o+1) ms j r;rw [hm] at s;have a4:(u.take (ms.length*3)).drop ((j+1)*3)=((ms.drop (j+1)).map G0).flatten:=by rw [show (j+1)*3=j*3+3 by omega,<-List.drop_drop,J,yl r];rfl
  obtain D|D:=yj (decide (m.req<l)&&B7 m.req==o+1)
  ·refine B4 (by show (!(decide (m.req<l)&&B7 m.req==o+1))=false;rw [D];rfl) ?_;rw [D,yn rfl,zx] at s;refine⟨(j+1,k,u),⟨rfl,rfl,rfl,yb _ (C4 (by first | omega | (simp only;omega))),t6⟩,⟨Nat.lt_succ_of_lt M,r,by rw [s];exact v,G,by rw [s];exact t,a4,h.drop,f⟩,by show ms.length-(j+1)<ms.length-j;omega⟩
  ·refine B5 (by show (!(decide (m.req<l)&&B7 m.req==o+1))=true;rw [D];rfl) ?_;rw [D,yo (by decide)] at s;refine⟨G0 m,rfl,h.cells 0 rfl,⟨(by first | omega | (simp only;omega)),(by first | omega | (simp only;omega))⟩,?_⟩;generalize a3:((⟨g,0,none⟩:Addr).add ((k:Int).toNat*3))=ae;rw [a5] at a3;subst a3;refine⟨h.may 1 rfl (k*3) (G0 m) (by show k*3+3<=u.length;omega) rfl,?_⟩;intro b2 a6;have b:=h.set 1 rfl a6;have f:=f.trans b.2;have h:=b.1;have a1:k*3+(G0 m).length<=u.length:=by show k*3+3<=u.length;omega
   refine⟨(j+1,k+1,C5 u (k*3) (G0 m)),⟨rfl,rfl,yb _ (C4 (by first | omega | (simp only;omega))),yb _ (C4 (by first | omega | (simp only;omega))),t6⟩,⟨Nat.succ_lt_succ M,r,by rw [s,z6,v];rfl,by rw [putAt_len];exact G,?_,?_,h.drop,f⟩,by show ms.length-(j+1)<ms.length-j;omega⟩
   ·show (C5 u (k*3) (G0 m)).take ((k+1)*3)=_;rw [show (k+1)*3=k*3+(G0 m).length by show _=k*3+3;omega,B0K _ _ _ a1,t,s,List.map_append,zt];simp
   ·show ((C5 u (k*3) (G0 m)).take (ms.length*3)).drop ((j+1)*3)=_;rw [List.drop_take,putAt_drop _ _ _ _ a1 (by show k*3+3<=_;omega),<-List.drop_take,a4]
 ·refine df (by omega) ?_;have I:j=ms.length:=by omega
  subst I;rw [List.take_length] at v t;refine⟨⟨(by first | omega | (simp only;omega)),(by first | omega | (simp only;omega)),(by first | omega | (simp only;omega)),(by first | omega | (simp only;omega))⟩,?_⟩;have V:(Builtin.zeroCells (Value.agg #[.int .i64 0,.int .i64 0,.int .i64 0]).cells (ms.length-k)).toList.length=(ms.length-k)*3:=by rw [Array.length_toList,size_zeroCells];rfl
  refine A28 Tryz.underlying38 (z:=.agg #[.int .i64 0,.int .i64 0,.int .i64 0]) (fun w=>by kernel_rfl) (a:=⟨g,k*3,none⟩) (n:=ms.length-k) (c:=p-k) (by omega) ?_ rfl (h.may 0 rfl (k*3) _ (by rw [V];show _<=u.length;omega) (A5P _)) ?_
  ·show Value.slice (if (p:Int)=(k:Int) then some (⟨g,0,none⟩:Addr) else (some (⟨g,0,none⟩:Addr)).map (·.add ((k:Int).toNat*3))) ((ms.length:Int)-(k:Int)).toNat ((p:Int)-(k:Int)).toNat=_;rw [A00 g p 3 (k:Int) k rfl (by omega)];congr 1<;>omega
  intro w3 h3;have hC:=h.set 0 rfl h3;have h:=hC.1;refine⟨⟨(by first | omega | (simp only;omega)),(by first | omega | (simp only;omega)),(by first | omega | (simp only;omega)),(by first | omega | (simp only;omega))⟩,?_⟩;obtain⟨h,e⟩:=Ctx.closed h 3 k p (by omega) a2 (by rw [putAt_len,G]);rw [G9 _ _ _ (by rw [V];omega),zw,List.take_left' (by rw [zg];omega),t] at e;refine⟨some ⟨g,0,none⟩,?_,h,f.trans hC.2,?_⟩
  ·rw [v];show Ending.returned (Value.slice (if (p:Int)=0 then some (⟨g,0,none⟩:Addr) else (some (⟨g,0,none⟩:Addr)).map (·.add ((0:Int).toNat*3))) ((k:Int)-0).toNat ((p:Int)-0).toNat)=_;rw [Y2];congr 2<;>omega
  ·rw [v];exact e
end Go.Proofs.YtefdfaeieekioaaGreatDoor
