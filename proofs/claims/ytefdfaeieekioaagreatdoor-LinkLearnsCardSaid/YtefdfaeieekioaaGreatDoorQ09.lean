import Derived.Test.YtefdfaeieekioaaGreatDoorQ08
set_option maxRecDepth 100000
set_option maxHeartbeats 40000000
set_option linter.unusedVariables false
set_option linter.unusedSimpArgs false
section
namespace Go.Vc
open Go.RowKit
def SemC (P:Program) (n:Nat) (c:Code) (f:Fr) (w:World) (K:Exit->Fr->World->Prop):Prop:=P1 n c=true->∀ a,Agree n a f->c.wp P (C00 n K) a w
def B9y {α:Type} (l:α->List (Nat × Value)) (R:α->World->Prop) (K:Exit->Fr->World->Prop) (e:Exit) (f:Fr) (w:World):Prop:=
 match e with
 | .normal=>∃ x,B4j f (l x)/\R x w
 | e=>K e f w
def C1F:Nat->Code->Code
 | 0,.seq a _=>a
 | k+1,.seq a b=>.seq a (C1F k b)
 | _,c=>c
def B9z:Nat->Code->Code
 | 0,.seq _ b=>b
 | k+1,.seq _ b=>B9z k b
 | _,_=>.skip
def B90:Nat->Code->Bool
 | 0,.seq _ _=>true
 | k+1,.seq _ b=>B90 k b
 | _,_=>false
section
variable {P:Program} {L:Lay} {n:Nat}
theorem SemC.vc (b:L.Ok P) {c:Code} {f:Fr} {w:World} {K:Exit->Fr->World->Prop} (h:S6 P L c f w K):SemC P n c f w K:=fun d a A=>X8 b n c K a f w A d h
theorem SemC.cut (m:L.Ok P) {o:Type} (l:o->List (Nat × Value)) (R:o->World->Prop) {K:Exit->Fr->World->Prop}:∀ (k:Nat) {c:Code},B90 k c=true->∀ {f:Fr} {w:World},S6 P L (C1F k c) f w (B9y l R K)->
  (∀ (x:o) (u:Fr) (w':World),R x w'->SemC P n (B9z k c) (mk (l x) u) w' K)->SemC P n c f w K
 | 0,.seq x y,_,f,w,h,hr=>fun b a A=>by
  simp only [P1,z7] at b;refine wp_seq (wp_mono (X8 m n x _ a f w A b.1 h) fun j i w1 ⟨g,d,e⟩=>?_);cases j with
  | normal=>
   obtain⟨x,s,r⟩:=e;have p:=hr x g w1 r b.2 i;rw [A7m s] at p;exact p d
  | _=>exact⟨g,d,e⟩
 | k+1,.seq x y,hk,f,w,h,hr=>fun b a A=>by
  simp only [P1,z7] at b;have q:S6 P L x f w (B9S (S6 P L (C1F k y)) (B9y l R K)):=h;refine wp_seq (wp_mono (X8 m n x _ a f w A b.1 q) fun j i w1 ⟨g,d,e⟩=>?_);cases j with
  | normal=>exact SemC.cut m l R k hk e hr b.2 i d
  | _=>exact⟨g,d,e⟩
theorem A0S (e:L.Ok P) {k:Nat} {f:Func} {c:Code} {r:List Value} {w:World} {R:Ending->World->Prop}
  (n:P.funcs[k]?=some f) (l:f.body=some c) (j:Nat.ble r.length f.ntmps=true) (m:P1 f.ntmps c=true)
  (i:SemC P f.ntmps c (A7j r) w (fnK L f.results R)):Calls P k r.toArray w R:=by
 refine calls_of_wp n l ?_;have o:=ze j;have A:Agree f.ntmps { tmps:=r.toArray++Array.replicate (f.ntmps-r.toArray.size) undef,defers:=[] } (A7j r):=by
  refine⟨rfl,by simp;omega,fun t=>?_⟩;unfold A7j;rw [Array.getD_eq_getD_getElem?,List.getD_eq_getElem?_getD];obtain h|h:=zm t r.length
  ·rw [Array.getElem?_append_left (by simpa using h)];simp
  ·rw [Array.getElem?_append_right (by simpa using h),List.getElem?_eq_none h];simp only [Array.getElem?_replicate];split<;>rfl
 refine wp_mono (i m _ A) fun g a w ⟨d,h,b⟩=>?_;cases g with
 | normal=>exact⟨h.1,Q5 e _ a d w h f R b⟩
 | ret=>exact⟨h.1,Q5 e _ a d w h f R b⟩
 | _=>exact b.elim
end
end Go.Vc
end
namespace Go.Proofs.YtefdfaeieekioaaGreatDoor
open Go.Vc Go.RowKit Go.Fl Go.ChangeShapes Go.WideShapes Go.ChangeAt
def A9d (d:D):Bool:=!M0 d
theorem A9e {P:Program} {L:Lay} {f:Nat} {x:List Value} {w:World} {K:Value->World->Prop} (h:L.fns f=true) (k:CallVc P f x w K):A0m P L f x w K:=by unfold A0m;rw [h];exact k
theorem B3M (p:D->Bool) (f:Nat) (o:lay.fns f=true) (n:∀ (d:D),d.Ok->∀ w,Calls Tryz.prog f #[.agg (dC d).toArray] w (D4 (.bool (p d)) w)) (l:List D) (q:∀ d∈l,d.Ok) (A:Option Addr) (c:Nat) (S:Nat->Prop) (w:World) (R:Row S w A l.length c (l.map dC).flatten):
  Calls Tryz.prog 114 #[.slice A l.length c,.func (.func f) #[] #[]] w (D4 (.int .i64 (B2K (l.findIdx? p))) w):=by
 refine vE Tryz.func114 ?_;have M:l.length<=9223372036854775807:=zq R.1 R.2.1;refine⟨Nat,fun i=>[(0,.slice A l.length c),(1,.func (.func f) #[] #[]),(7,.int .i64 l.length),(8,.int .i64 i)],
  fun i w'=>i<=l.length/\(∀ j (a:j<l.length),j<i->p l[j]=false)/\Below w.heap.size w w',fun i _=>l.length-i,0,
  ⟨rfl,rfl,rfl,rfl,t6⟩,⟨zb _,fun j a h=>absurd h (Nat.not_lt_zero _),Below.refl _ _⟩,?_⟩
 rintro i w' u ⟨s,e,b⟩;by_cases t:i<l.length
 ·refine dt (by omega) ?_;obtain⟨r,rfl,k⟩:=Row.elemF (R.below b) (by decide) (T4 _) i (by rw [zl];exact t);rw [List.getElem_map] at k;refine⟨⟨by omega,by omega⟩,dC l[i],rfl,k,?_⟩;refine A9e (L:=lay) o ?_;refine B8 (n l[i] (q _ (List.getElem_mem t)) w') ?_;intro v m;have g:=b.trans (m.mono b.size);obtain hv|hv:=yj (p l[i])
  ·refine B5 hv ?_;refine⟨?_,g⟩;rw [A1R p l i t hv e];rfl
  ·refine B4 hv ?_;refine⟨i+1,⟨rfl,rfl,rfl,yb _ (C4 (by omega)),t6⟩,⟨t,fun j a h=>?_,g⟩,by show l.length-(i+1)<l.length-i;omega⟩;obtain h|h:=Nat.lt_succ_iff_lt_or_eq.1 h
   ·exact e j a h
   ·subst h;exact hv
 ·refine df (by omega) ?_;refine⟨?_,b⟩;rw [A1S p l (fun j a=>e j a (by omega))];rfl
theorem A2K (p:D->Bool) (f:Nat) (n:lay.fns f=true) (a:∀ (d:D),d.Ok->∀ w,Calls Tryz.prog f #[.agg (dC d).toArray] w (D4 (.bool (p d)) w)) (l:List D) (b:∀ d∈l,d.Ok) (A:Option Addr) (c:Nat) (S:Nat->Prop) (w:World) (R:Row S w A l.length c (l.map dC).flatten):
  Calls Tryz.prog 63 #[.slice A l.length c,.func (.func f) #[] #[]] w (D4 (.bool (l.any p)) w):=by
 refine vE Tryz.func63 ?_;refine B8 (B3M p f n a l b A c S w R) ?_;intro e h;exact⟨C1 (A2g p l),h⟩
structure WX where
 A:Option Addr
 cA:Nat
 B:Option Addr
 cB:Nat
 y:SX
def WX0:WX:=⟨none,0,none,0,SX0⟩
def wdC (v:Wd) (x:WX):List Value:=[.int .i64 v.kind,.int .i64 v.frm,.int .i64 v.to,.int .i64 v.ep,.int .i64 v.seq,.int .i64 v.req,.int .i64 v.til,.int .i64 v.res.err,.int .i64 v.res.ver,.int .i64 v.ros.ep,.slice x.A v.ros.l.length x.cA,.int .i64 v.ros.new,.slice x.B v.deeds.length x.cB,
 .int .i64 v.st.seq,.slice x.y.A v.st.l.length x.y.cap,.slice x.y.B v.st.ms.length x.y.cap',.int .i64 x.y.l0,.int .i64 x.y.l1,.int .i64 x.y.l2,.int .i64 x.y.l3,.int .i64 x.y.l4]
def WdR (v:Wd) (x:WX):Kn:=fun S w=>(RosR v.ros x.A x.cA S w/\Row S w x.B v.deeds.length x.cB (v.deeds.map dC).flatten)/\RepS S w v.st (stX v.st x.y)
theorem H8 {A:Option Addr} {n c:Nat} {x:List Value}:Stab (fun S w=>Row S w A n c x):=fun _ _ _ _ h f=>h.fut f
theorem WdR.stab (v:Wd) (x:WX):Stab (WdR v x):=((RosR.stab _ _ _).and H8).and (A0u _ _)
theorem yz {v:Wd} {x:WX}:Stab (WdR v x):=WdR.stab _ _
theorem WdR.below {v:Wd} {x:WX} {S:Nat->Prop} {w w':World} (h:WdR v x S w) (b:Below w.heap.size w w'):WdR v x S w':=⟨⟨Row.below h.1.1 b,h.1.2.below b⟩,h.2.below b⟩
theorem C1G:(lay.ty 43).zero=wdC Wd0 WX0:=by kernel_rfl
theorem A8M (S:Nat->Prop) (w:World):WdR Wd0 WX0 S w:=⟨⟨A39 _ _,A39 _ _⟩,T3 _ _⟩
def B1O (n:Int):Bool:=!B5i n
theorem A9f (n:Int) (w:World):Calls Tryz.prog 87 #[.int .i64 n] w (D4 (.bool (A63 n)) w):=by
 refine vE Tryz.func87 ?_;unfold A63;by_cases h:0<=n
 ·rw [zz h];refine dt h ?_;exact⟨rfl,Below.refl _ _⟩
 ·rw [y8 h];refine df h ?_;exact⟨rfl,Below.refl _ _⟩
theorem B5k (n:Int) (w:World):Calls Tryz.prog 89 #[.int .i64 n] w (D4 (.bool (B1O n)) w):=by
 have m:G5=1099511627776:=rfl;refine vE Tryz.func89 ?_;unfold B1O B5i;by_cases h:n<0
 ·rw [y8 (show ¬ 0<=n by omega)];refine dt h ?_;exact⟨rfl,Below.refl _ _⟩
 ·rw [zz (show 0<=n by omega)];refine df h ?_;refine⟨?_,Below.refl _ _⟩;by_cases a:n<=G5
  ·rw [zz a];show Ending.returned (.bool (decide (1099511627776<n)))=_;rw [y8 (by omega)];rfl
  ·rw [y8 a];show Ending.returned (.bool (decide (1099511627776<n)))=_;rw [zz (by omega)];rfl
theorem B5l (d:D) (b:d.Ok) (w:World):Calls Tryz.prog 91 #[.agg (dC d).toArray] w (D4 (.bool (A9d d)) w):=by refine vE Tryz.func91 ?_;have h:=CtxF.start w no (fun _ a=>a.elim) (R:=fun _ _=>True) trivial Stab.true;refine h.n fun g f c h=>?_;refine h.a 0 rfl rfl ?_;refine h.q (A0z d b _) fun e Q h=>?_;exact⟨rfl,h.below⟩
theorem A8N (l:List Int) (A:Option Addr) (c:Nat) (S:Nat->Prop) (w:World) (R:Row S w A l.length c (A0p l)):
  Calls Tryz.prog 157 #[.slice A l.length c,.func (.func 89) #[] #[]] w (D4 (.int .i64 (B2K (l.findIdx? B1O))) w):=by
 refine vE Tryz.func157 ?_;have M:=E2 R;refine⟨Nat,fun i=>[(0,.slice A l.length c),(1,.func (.func 89) #[] #[]),(7,.int .i64 l.length),(8,.int .i64 i)],
  fun i w'=>i<=l.length/\(∀ j (a:j<l.length),j<i->B1O l[j]=false)/\Below w.heap.size w w',fun i _=>l.length-i,0,
  ⟨rfl,rfl,rfl,rfl,t6⟩,⟨zb _,fun j a h=>absurd h (Nat.not_lt_zero _),Below.refl _ _⟩,?_⟩
 rintro i w' u ⟨m,e,b⟩;by_cases t:i<l.length
 ·refine dt (by omega) ?_;obtain⟨k,rfl,g⟩:=RowI'.elem (R.below b) i t;refine⟨⟨by omega,by omega⟩,_,by rw [zi];exact g,?_⟩;refine B8 (B5k l[i] w') ?_;intro n f;have d:=b.trans (f.mono b.size);obtain hv|hv:=yj (B1O l[i])
  ·refine B5 hv ?_;refine⟨?_,d⟩;rw [A1R B1O l i t hv e];rfl
  ·refine B4 hv ?_;refine⟨i+1,⟨rfl,rfl,rfl,yb _ (C4 (by omega)),t6⟩,⟨t,fun j a h=>?_,d⟩,by show l.length-(i+1)<l.length-i;omega⟩;obtain h|h:=Nat.lt_succ_iff_lt_or_eq.1 h
   ·exact e j a h
   ·subst h;exact hv
 ·refine df (by omega) ?_;refine⟨?_,b⟩;rw [A1S B1O l (fun j a=>e j a (by omega))];rfl
theorem A4L (l:List Int) (A:Option Addr) (c:Nat) (S:Nat->Prop) (w:World) (R:Row S w A l.length c (A0p l)):
  Calls Tryz.prog 88 #[.slice A l.length c,.func (.func 89) #[] #[]] w (D4 (.bool (l.any B1O)) w):=by
 refine vE Tryz.func88 ?_;refine B8 (A8N l A c S w R) ?_;intro a h;exact⟨C1 (A2g B1O l),h⟩
theorem C2C {w:World} {g T:Nat} {xs:List Value} (h:Blk w g T xs) (n:Nat) (a:n<=maxLen):Row (fun b=>b=g) w (some ⟨g,0,none⟩) n n xs:=
 ⟨zc _,a,fun _=>⟨_,rfl,rfl,fun j c u=>by rw [yi,zn,h.cell];exact u⟩⟩
theorem B5m (l:List D):l.any A9d=!(l.all M0):=by
 induction l with
 | nil=>rfl
 | cons a r i=>rw [List.any_cons,List.all_cons,i];unfold A9d;cases M0 a<;>rfl
theorem B5n (v:Wd) (K:∀ g∈v.deeds,g.Ok) (C:∀ i∈v.st.l,U7 i.key) (x:WX) (S:Nat->Prop) (w:World) (j:WdR v x S w):Calls Tryz.prog 46 #[.agg (wdC v x).toArray] w (D4 (.bool (A64 v)) w):=by
 have U:G5=1099511627776:=rfl;have N:=E2 j.1.2;have n:(¬ ((1<=v.kind/\v.kind<=11)/\(0<=v.frm/\v.frm<=5)/\(0<=v.to/\v.to<=5)/\v.frm≠v.to/\(0<=v.res.err/\v.res.err<=13)))->A64 v=false:=fun e=>by rw [Bool.eq_false_iff];intro t;obtain⟨a,f,c,g,_,_,_,_,_,i⟩:=O4.1 (X3.1 t).1;exact e ⟨a,f,c,g,i⟩
 refine vE Tryz.func46 ?_;have h:=CtxF.start w no (fun _ e=>e.elim) (R:=fun _ _=>True) trivial Stab.true;refine h.n fun M W O h=>?_;refine h.c 0 rfl rfl ?_;refine h.c 0 rfl rfl ?_;refine h.c 0 rfl rfl ?_;refine h.c 0 rfl rfl ?_;refine h.c 0 rfl rfl ?_;refine h.n fun z X P h=>?_;have T:A0p [v.ep,v.seq,v.req,v.til,v.res.ver]=[.int .i64 v.ep,.int .i64 v.seq,.int .i64 v.req,.int .i64 v.til,.int .i64 v.res.ver]:=rfl;refine h.q (A4L [v.ep,v.seq,v.req,v.til,v.res.ver] (some ⟨z,0,none⟩) 5 (fun f=>f=z) _ (C2C (h.blk 0 rfl) 5 (by decide))) fun Q d h=>?_;refine h.c 1 rfl rfl ?_;by_cases D:v.kind<1
 ·rw [n (by omega)];refine dt D ?_;exact⟨rfl,h.below⟩
 refine df D ?_;refine h.c 1 rfl rfl ?_;by_cases E:11<v.kind
 ·rw [n (by omega)];refine dt E ?_;exact⟨rfl,h.below⟩
 refine df E ?_;refine h.c 1 rfl rfl ?_;have q:=A9f v.frm;cases k:A63 v.frm with
 | false=>
  have u:¬ (0<=v.frm/\v.frm<=5):=fun e=>by rw [A0R.2 e] at k;cases k
  rw [k] at q;rw [n (by omega)];refine h.q (q _) fun Q d h=>?_;exact⟨rfl,h.below⟩
 | true=>
 have u:=A0R.1 k;rw [k] at q;refine h.q (q _) fun Q d h=>?_;refine h.c 1 rfl rfl ?_;have s:=A9f v.to;cases l:A63 v.to with
 | false=>
  have y:¬ (0<=v.to/\v.to<=5):=fun e=>by rw [A0R.2 e] at l;cases l
  rw [l] at s;rw [n (by omega)];refine h.q (s _) fun Q d h=>?_;exact⟨rfl,h.below⟩
 | true=>
 have y:=A0R.1 l;rw [l] at s;refine h.q (s _) fun Q d h=>?_;refine h.c 1 rfl rfl ?_;refine h.c 1 rfl rfl ?_;by_cases o:v.frm=v.to
 ·rw [n (fun e=>e.2.2.2.1 o)];refine B5 (by show (v.frm==v.to)=true;rw [beq_iff_eq];exact o) ?_;exact⟨rfl,h.below⟩
 refine B4 (by show (v.frm==v.to)=false;rw [ya];exact o) ?_;cases b:[v.ep,v.seq,v.req,v.til,v.res.ver].any B1O with
 | true=>
  have L:A64 v=false:=by
   rw [Bool.eq_false_iff];intro t;obtain⟨_,_,_,_,a,f,c,g,i,_⟩:=O4.1 (X3.1 t).1;simp only [List.any_cons,List.any_nil,Bool.or_false,Bool.or_eq_true,B1O,Bool.not_eq_true'] at b;obtain b|b|b|b|b:=b
   ·rw [N4.2 a] at b;cases b
   ·rw [N4.2 f] at b;cases b
   ·rw [N4.2 c] at b;cases b
   ·rw [N4.2 g] at b;cases b
   ·rw [N4.2 i] at b;cases b
  rw [L];exact⟨rfl,h.below⟩
 | false=>
 refine h.c 1 rfl rfl ?_;by_cases F:v.res.err<0
 ·rw [n (by omega)];refine dt F ?_;exact⟨rfl,h.below⟩
 refine df F ?_;refine h.c 1 rfl rfl ?_;by_cases G:13<v.res.err
 ·rw [n (by omega)];refine dt G ?_;exact⟨rfl,h.below⟩
 refine df G ?_;have I:B3F v=true:=by simp only [List.any_cons,List.any_nil,Bool.or_false,Bool.or_eq_false_iff,B1O,Bool.not_eq_false'] at b;obtain⟨a,f,c,g,i⟩:=b;exact O4.2 ⟨by omega,u,y,o,N4.1 a,N4.1 f,N4.1 c,N4.1 g,N4.1 i,by omega⟩
 unfold A64;rw [I,Bool.true_and];refine⟨M1 v.ros x.A x.cA,rfl,h.cellsAt 1 rfl 9 (M1 v.ros x.A x.cA) rfl,?_⟩;have J:Calls Tryz.prog 90 [Value.agg (M1 v.ros x.A x.cA).toArray,Value.agg #[.int .i64 0,.slice none 0 0,.int .i64 0]].toArray Q (D4 (.bool (eqR v.ros Ros0)) Q):=B8R (RosR.below j.1.1 h.below) (Ros0.rep no Q);refine h.q (J) fun Q d h=>?_;refine h.c 1 rfl rfl ?_;refine h.q (A2K A9d 91 (by kernel_rfl) B5l v.deeds K x.B x.cB S _ (j.1.2.below h.below)) fun Q d h=>?_;rw [B5m];cases V:eqR v.ros Ros0 with
 | true=>
  rw [Bool.true_or,Bool.true_and];refine h.c 1 rfl rfl ?_;by_cases m:v.deeds.length<=60;rotate_left
  ·rw [y8 m];refine df (by omega) ?_;exact⟨rfl,h.below⟩
  rw [zz m];refine dt (by omega) ?_;cases H:v.deeds.all M0 with
  | false=>exact⟨rfl,h.below⟩
  | true=>
  refine⟨stX v.st x.y,rfl,h.cellsAt 1 rfl 13 (stX v.st x.y) rfl,?_⟩;refine h.q (A1O v.st C (stX v.st x.y) S _ (j.2.below h.below)) fun Q d h=>?_;exact⟨rfl,h.below⟩
 | false=>
  rw [Bool.false_or];refine⟨M1 v.ros x.A x.cA,rfl,h.cellsAt 1 rfl 9 (M1 v.ros x.A x.cA) rfl,?_⟩;have p:=B3L (r:=v.ros) (A:=x.A) (cap:=x.cA) (S:=S) (w:=Q) (RosR.below j.1.1 h.below);cases B:A7i v.ros with
  | false=>
   rw [B] at p;refine h.q (p) fun Q d h=>?_;exact⟨rfl,h.below⟩
  | true=>
  rw [B] at p;refine h.q (p) fun Q d h=>?_;rw [Bool.true_and];refine h.c 1 rfl rfl ?_;by_cases m:v.deeds.length<=60;rotate_left
  ·rw [y8 m];refine df (by omega) ?_;exact⟨rfl,h.below⟩
  rw [zz m];refine dt (by omega) ?_;cases H:v.deeds.all M0 with
  | false=>exact⟨rfl,h.below⟩
  | true=>
  refine⟨stX v.st x.y,rfl,h.cellsAt 1 rfl 13 (stX v.st x.y) rfl,?_⟩;refine h.q (A1O v.st C (stX v.st x.y) S _ (j.2.below h.below)) fun Q d h=>?_;exact⟨rfl,h.below⟩
end Go.Proofs.YtefdfaeieekioaaGreatDoor
namespace Go.Proofs.YtefdfaeieekioaaGreatDoor
open Go.Vc Go.RowKit Go.Fl
structure Sh where
 tot:Int
 first:ByteArray
 base:Known
 l:List Rc
 np:Nat
 kept:Bool
 down:Bool
def Sh.texts (H:Sh):List ByteArray:=H.first::H.l.map Q9
def Sh.txt (H:Sh):List UInt8:=C9 H.texts
def Sh.room (H:Sh):Int:=H.tot-H.txt.length
def Sh.k (H:Sh):Known:=B0X H.base H.l
def Sh.scr (H:Sh):Scroll:=⟨⟨H.txt.toArray⟩,((C9 (H.texts.take (1+H.np))).length:Nat),H.kept⟩
structure Sh.Ok (H:Sh):Prop where
 first:FirstOk H.first H.base
 can:Can H.base H.l
 np:H.np<=H.l.length
 tot:H.tot<=1048576
 room:0<=H.room
theorem Sh.Ok.k {H:Sh} (h:H.Ok):H.k.Ok:=Can.ok h.first.ok h.can
theorem Sh.Ok.size {H:Sh} (h:H.Ok):(H.txt.length:Int)<=1048576:=by have b:=h.tot;have a:=h.room;unfold Sh.room at a;omega
theorem Sh.Ok.sizes {H:Sh} (a:H.Ok):∀ x∈H.texts,x.size<=400000:=fun x h=>by
 cases h with
 | head=>have:=a.first.size;omega
 | tail _ h=>
  obtain⟨b,r,rfl⟩:=List.mem_map.1 h;have:=A1V (Can.mem a.can b r);omega
theorem T5 (l:List ByteArray) (i:Nat):(C9 (l.take i)).length<=(C9 l).length:=by
 have e:C9 l=C9 (l.take i)++C9 (l.drop i):=by rw [<-U9,List.take_append_drop]
 rw [e,z6];omega
theorem A2L (l:List ByteArray) (s:ByteArray):C9 (l++[s])=C9 l++L5 s:=by rw [U9];show _++(L5 s++[])=_;rw [zx]
def D2 (s:ByteArray):Int:=((L5 s).length:Nat)
theorem A1Z (s:ByteArray) (h:s.size<=400000):10<=D2 s/\D2 s<=s.size+17:=by have a:=A2i s h;have b:=Q8 s (by omega);unfold D2;rw [A1U s h,z6,W9] at*;omega
def Sh.write (H:Sh) (r:Rc) (press:Bool):Sh:=⟨H.tot,H.first,H.base,H.l++[r],if press then H.l.length+1 else H.np,H.kept||press,H.down⟩
def Sh.fell (H:Sh):Sh:=⟨H.tot,H.first,H.base,H.l,H.np,H.kept,true⟩
theorem Sh.write_texts (H:Sh) (r:Rc) (p:Bool):(H.write r p).texts=H.texts++[Q9 r]:=by show H.first::(H.l++[r]).map Q9=H.first::H.l.map Q9++[Q9 r];rw [List.map_append];rfl
theorem Sh.write_txt (H:Sh) (r:Rc) (p:Bool):(H.write r p).txt=H.txt++L5 (Q9 r):=by unfold Sh.txt;rw [Sh.write_texts,A2L]
theorem Sh.write_room (H:Sh) (r:Rc) (p:Bool):(H.write r p).room=H.room-D2 (Q9 r):=by unfold Sh.room D2;rw [Sh.write_txt,z6];show H.tot-_=_;omega
theorem Sh.write_k (H:Sh) (r:Rc) (p:Bool):(H.write r p).k=A1W H.k r:=B0Y _ _ _
theorem Sh.Ok.write {H:Sh} (h:H.Ok) {r:Rc} (a:r.Ok) (c:B5h H.k r) (p:Bool) (o:D2 (Q9 r)<=H.room):(H.write r p).Ok:=by
 refine⟨h.first,Can.snoc h.can a c,?_,h.tot,?_⟩
 ·have:=h.np;show (if p then H.l.length+1 else H.np)<=(H.l++[r]).length;rw [z6];simp only [zj,List.length_nil];split<;>omega
 ·rw [Sh.write_room];omega
theorem Sh.Ok.fell {H:Sh} (h:H.Ok):H.fell.Ok:=⟨h.first,h.can,h.np,h.tot,h.room⟩
theorem Sh.write_pressed {H:Sh} (h:H.Ok) (r:Rc) (p:Bool):((H.write r p).scr).pressed=if p then ((H.txt++L5 (Q9 r)).length:Int) else H.scr.pressed:=by
 show ((C9 ((H.write r p).texts.take (1+if p then H.l.length+1 else H.np))).length:Int)=_;rw [Sh.write_texts];have l:H.texts.length=H.l.length+1:=by show (H.first::H.l.map Q9).length=_;rw [zj,zl]
 cases p with
 | true=>
  rw [yn rfl,yn rfl,ym (by rw [z6,l];simp only [zj,List.length_nil];omega),A2L];rfl
 | false=>
  have:=h.np;rw [yo (by decide),yo (by decide),List.take_append_of_le_length (by omega)];rfl
theorem Sh.scr_le {H:Sh}:0<=H.scr.pressed/\H.scr.pressed<=H.txt.length:=by have:=T5 H.texts (1+H.np);show 0<=((C9 (H.texts.take (1+H.np))).length:Int)/\((C9 (H.texts.take (1+H.np))).length:Int)<=((C9 H.texts).length:Int);omega
def Sh.lay (H:Sh) (k:Known):Sh:=⟨H.tot,⟨(J8 k).toArray⟩,k,[],0,true,H.down⟩
theorem Sh.lay_txt (H:Sh) (k:Known):(H.lay k).txt=L5 ⟨(J8 k).toArray⟩:=by show L5 ⟨(J8 k).toArray⟩++[]=_;rw [zx]
theorem Sh.Ok.lay {H:Sh} (h:H.Ok) {k:Known} (a:k.Ok) (r:D2 ⟨(J8 k).toArray⟩<=H.room):(H.lay k).Ok:=by refine⟨.inr ⟨rfl,a⟩,t6,zc _,h.tot,?_⟩;show 0<=H.tot-((H.lay k).txt.length:Int);rw [Sh.lay_txt];unfold Sh.room D2 at r;omega
def Sh.cut (H:Sh) (i:Nat):Sh:=⟨H.tot,H.first,H.base,H.l.take i,i,true,false⟩
theorem Sh.cut_texts (H:Sh) (i:Nat):(H.cut i).texts=H.texts.take (i+1):=by show H.first::(H.l.take i).map Q9=(H.first::H.l.map Q9).take (i+1);rw [List.take_succ_cons,List.map_take]
theorem Sh.Ok.cut {H:Sh} (h:H.Ok) (i:Nat) (b:i<=H.l.length):(H.cut i).Ok:=by
 refine⟨h.first,h.can.take i,?_,h.tot,?_⟩
 ·show i<=(H.l.take i).length;rw [zg];omega
 ·have:=T5 H.texts (i+1);have a:=h.room;show 0<=H.tot-((C9 (H.cut i).texts).length:Int);rw [Sh.cut_texts];unfold Sh.room Sh.txt at a;omega
end Go.Proofs.YtefdfaeieekioaaGreatDoor
section
namespace Go.Vc
open Go Go.RowKit
open Go.Proofs.YtefdfaeieekioaaGreatDoor (no)
def In (G:Nat->Prop) (R:Kn):Kn:=fun S w=>∃ Sr:Nat->Prop,(∀ x,Sr x->S x/\G x)/\R Sr w
theorem In.stab {G:Nat->Prop} {R:Kn} (d:Stab R):Stab (In G R):=fun S w e w' a f=>by obtain⟨r,b,c⟩:=a;exact⟨r,fun x h=>⟨f.1 x (b x h).1,(b x h).2⟩,d _ _ _ _ c ⟨fun _ a=>a,fun x h=>f.2 x (b x h).1⟩⟩
def C2D (S:Nat->Prop) (w:World):Nat->Prop:=fun x=>S x\/w.heap.size<=x
def KL (w:World) (g:Nat) (S:Nat->Prop) (R:Kn):Kn:=fun S' w'=>Keep w (fun x=>x=g) S' w'/\In (C2D S w) R S' w'
theorem KL.stab {w:World} {g:Nat} {S:Nat->Prop} {R:Kn} (h:Stab R):Stab (KL w g S R):=yq.and (In.stab h)
section
variable {w w1 w':World} {S S1:Nat->Prop} {l:List LB} {os:List OR} {R:Kn} {g T:Nat} {cs cs':List Value}
theorem CtxF.enterL (B:Blk w g T cs) (c:∀ x,S x->x<w.heap.size/\x≠g) (b:R S w) (s:Stab R):CtxF no (bare w) (fun x=>x<w.heap.size/\x≠g) w [(g,T,cs)] [] (KL w g S R):=
 CtxF.enter (fun x h=>h.1) ⟨zb _,fun a=>a.2 rfl,B,(fun x h=>by cases h),t6⟩ trivial ⟨fun x h n=>⟨⟨h,n⟩,rfl⟩,S,fun x h=>⟨c x h,.inl h⟩,b⟩ (KL.stab s)
theorem CtxF.sizeL (h:CtxF no (bare w) S1 w1 l os (KL w g S R)) (k:Nat) (b:l[k]?=some (g,T,cs)):w.heap.size<=w1.heap.size:=by
 have B:=(h.blk k b).lt;by_cases e:g=w.heap.size-1
 ·omega
 ·obtain h0|h0:=Nat.eq_zero_or_pos w.heap.size
  ·omega
  ·have:=heap_lt (h.row.1 (w.heap.size-1) (by omega) (fun a=>e a.symm)).2 (by omega);omega
theorem CtxF.inL (j:CtxF no (bare w) S1 w1 l os (KL w g S R)) (s:Stab R) (k:Nat) (q:l[k]?=some (g,T,cs)):
  ∃ r:Nat->Prop,R r w1/\(∀ x,r x->S1 x)/\∀ {w':World} {d:List LB} {e:Kn} {o:List OR} {E:Nat->Prop},CtxF no (bare w) E w' d o e/\Fut S1 w1 E w'->(∀ x,ext r w1 w' x->E x\/∃ u∈o,∃ a,u.A=some a/\a.block=x)->∀ {X:Kn},Stab X->X (fun x=>ext r w1 w' x/\E x) w'->CtxF no (bare w) E w' d o (KL w g S (fun S w=>R S w/\X S w)):=by
 have z:=j.sizeL k q;obtain⟨t,r,b,i⟩:=j.row;refine⟨r,i,fun x h=>(b x h).1,fun {w' d e o E} p v {X} m h=>?_⟩;obtain⟨n,f⟩:=p;refine n.now (fun _=>⟨Keep.stab _ _ _ _ _ _ t f,fun x=>ext r w1 w' x/\E x,fun x h=>⟨h.2,?_⟩,s _ _ _ _ i ⟨fun x h=>⟨.inl h,f.1 x (b x h).1⟩,fun x h=>f.2 x (b x h).1⟩,h⟩) (KL.stab (s.and m));obtain c|c:=h.1
 ·exact (b x c).2
 ·exact .inr (zq z c.1)
theorem CtxF.nowL {R':Kn} (d:CtxF no (bare w) S1 w1 l os (KL w g S R)) (h:∀ S w,R S w->R' S w) (s:Stab R'):CtxF no (bare w) S1 w1 l os (KL w g S R'):=
 d.now (fun ⟨a,r,b,c⟩=>⟨a,r,b,h _ _ c⟩) (KL.stab s)
theorem CtxF.toldL {o:OR} (f:CtxF no (bare w) S1 w1 l (o::os) (KL w g S R)) (s:Stab R) (E:Nat) (y:l[E]?=some (g,T,cs)):∃ c,CtxF no (bare w) c w1 l os (KL w g S (fun S w=>R S w/\Row S w o.A o.n o.cap o.xs)):=by
 have A:∀ a,o.A=some a->w.heap.size<=a.block:=fun a d=>by
  obtain b|b:=zm a.block w.heap.size
  ·have j:=f.fst.out a d;have k:=j.2 _ (List.mem_of_getElem? y);exact absurd (f.row.1 a.block b (fun e=>k e.symm)).1 j.1
  ·exact b
 obtain⟨c,k,t⟩:=f.told;refine⟨c,t.now (fun v=>?_) (KL.stab (s.and fun _ _ _ _ b m=>b.fut m))⟩;obtain⟨⟨z,r,C,D⟩,n,p,q⟩:=v;refine⟨z,fun x=>r x\/(c x/\∃ a,o.A=some a/\a.block=x),fun x h=>?_,s _ _ _ _ D ⟨fun x h=>.inl h,fun _ _=>rfl⟩,n,p,fun h=>?_⟩
 ·obtain h|⟨h,a,d,rfl⟩:=h
  ·exact C x h
  ·exact⟨h,.inr (A a d)⟩
 ·obtain⟨i,e,B,u⟩:=q h;exact⟨i,e,.inr ⟨B,i,e,rfl⟩,u⟩
theorem CtxF.leaveL (h:CtxF no (bare w) S1 w' [(g,T,cs')] os (KL w g S R)) (s:Stab R):Turn (fun x=>x=g) w w'/\Blk w' g T cs'/\∃ r:Nat->Prop,(∀ x,r x->S1 x/\ext S w w' x)/\R r w':=by
 obtain⟨k,r,b,d⟩:=h.row;refine⟨h.leave k,h.blk 0 rfl,r,fun x c=>⟨(b x c).1,?_⟩,d⟩;obtain a|a:=(b x c).2
 ·exact .inl a
 ·exact .inr ⟨a,h.ctx.lt x (b x c).1⟩
end
end Go.Vc
namespace Go.Proofs.YtefdfaeieekioaaGreatDoor
open Go.Vc Go.RowKit Go.Fl Go.ChangeShapes Go.WideShapes Go.ChangeAt
def knC (k:Known) (x:SX) (A:Option Addr) (cap:Nat):List Value:=[.int .i64 k.b.seq,.slice x.A k.b.l.length x.cap,.slice x.B k.b.ms.length x.cap',.int .i64 x.l0,.int .i64 x.l1,.int .i64 x.l2,.int .i64 x.l3,.int .i64 x.l4,.slice A k.pend.length cap,.int .i64 k.ep,.int .i64 k.ln]
def KnR (k:Known) (x:SX) (A:Option Addr) (cap:Nat):Kn:=fun S w=>RepS S w k.b (stX k.b x)/\Row S w A k.pend.length cap (k.pend.map dC).flatten
theorem KnR.stab (k:Known) (x:SX) (A:Option Addr) (c:Nat):Stab (KnR k x A c):=(A0u _ _).and fun _ _ _ _ h f=>h.fut f
theorem yy {k:Known} {x:SX} {A:Option Addr} {c:Nat}:Stab (KnR k x A c):=KnR.stab _ _ _ _
theorem A5c (k:Known) (h:k.Ok) (x:SX) (A:Option Addr) (a:Nat) (w:World):Calls Tryz.prog 53 #[.agg (knC k x A a).toArray] w (D4 (.int .i64 k.seq) w):=by have s:=h.seq;have l:=h.len;have h0:=(D5.1 h.may).1.1;have m:G5=1099511627776:=rfl;refine vE Tryz.func53 ?_;have c:=CtxF.start w no (fun _ h=>h.elim) (R:=fun _ _=>True) trivial Stab.true;refine c.n fun g d b c=>?_;refine c.c 0 rfl rfl ?_;refine c.c 0 rfl rfl ?_;refine⟨?_,c.below⟩;show Ending.returned (.int .i64 (IntKind.i64.wrap (k.b.seq+(k.pend.length:Int))))=_;rw [yh _ ⟨by omega,by omega⟩];rfl
def RetKn (g T:Nat) (wrap:List Value->List Value) (S:Nat->Prop) (w:World) (v:Value) (k:Known) (en:Ending) (w':World):Prop:=
 en=.returned v/\Turn (fun x=>x=g) w w'/\∃ x A cap,Blk w' g T (wrap (knC k x A cap))/\KnR k x A cap (ext S w w') w'
theorem RetKn.mk {g T:Nat} {r:List Value->List Value} {S a:Nat->Prop} {w w':World} {k:Known} {x:SX} {A:Option Addr} {c:Nat} {s:List Value} {o:List OR} (i:CtxF no (bare w) a w' [(g,T,s)] o (KL w g S (KnR k x A c))) (e:s=r (knC k x A c)) (v:Value):RetKn g T r S w v k (.returned v) w':=by obtain⟨h,b,l,d,f⟩:=i.leaveL yy;subst e;exact⟨rfl,h,x,A,c,b,KnR.stab _ _ _ _ _ _ _ _ f ⟨fun x j=>(d x j).2,fun _ _=>rfl⟩⟩
def A0C (k:Known) (d:D):Int:=if M0 d then (if 60<=k.pend.length\/G5<=k.seq then 5 else 0) else 1
def B8S (k:Known) (d:D):Known:=if A0C k d=0 then ⟨k.b,k.pend++[d],k.ep,k.ln⟩ else k
theorem B3N (k:Known) (a:k.Ok) (d:D) (U:d.Ok) (x:SX) (g:Option Addr) (p l:Nat) (S:Nat->Prop) (w:World) (P:Blk w l 90 (knC k x g p)) (n:∀ x,S x->x<w.heap.size/\x≠l) (T:KnR k x g p S w):
  Calls Tryz.prog 65 #[.pointer (some ⟨l,0,none⟩),.agg (dC d).toArray] w (RetKn l 90 id S w (.int .i64 (A0C k d)) (B8S k d)):=by
 obtain⟨z,e⟩:∃ z,z=A0C k d:=⟨_,rfl⟩;obtain⟨t,f⟩:∃ t,t=B8S k d:=⟨_,rfl⟩;unfold B8S at f;rw [<-e] at f;rw [<-e,show B8S k d=t from by rw [f,e];rfl];unfold A0C at e;have h:=CtxF.enterL P n T yy;refine vE Tryz.func65 ?_;refine h.n fun O a1 Y h=>?_;refine h.a 0 rfl rfl ?_;refine h.q (A0z d U _) fun X Q h=>?_;cases I:M0 d with
 | false=>
  rw [I,yo (by decide)] at e;rw [e,yo (by decide)] at f;subst e f;exact RetKn.mk h.drop rfl _
 | true=>
 rw [I,yn rfl] at e;refine h.c 1 rfl rfl ?_;by_cases E:60<=k.pend.length
 ·rw [yn (.inl E)] at e;rw [e,yo (by decide)] at f;subst e f;refine dt (by omega) ?_;exact RetKn.mk h.drop rfl _
 refine df (by omega) ?_;refine h.a 1 rfl rfl ?_;refine h.q (A5c k a x g p _) fun X Q h=>?_;by_cases s:G5<=k.seq
 ·rw [yn (.inr s)] at e;rw [e,yo (by decide)] at f;subst e f;refine dt s ?_;exact RetKn.mk h.drop rfl _
 refine df s ?_;rw [yo (fun a=>a.elim E s)] at e;rw [e,yn rfl] at f;subst e f;refine vD (.Q [0,1,2,3,6] (.n 4 (.n 5 (.n 7 (.n 8 (.Q [9,10] (.n 11 .fin .stop)) .stop) .stop) (.n 7 (.n 5 (.n 8 (.Q [9,10] (.n 11 .fin .stop)) .stop) .stop) .stop)) (.n 7 (.n 4 (.n 5 (.n 8 (.Q [9,10] (.n 11 .fin .stop)) .stop) .stop) .stop) .stop))) (fun N=>Blk N O 45 (dC d)) (h.blk 0 rfl) ?_;have h:=h.drew;refine⟨dC d,rfl,fun N W=>C0 W 0 _ 0 (fun Z a0 V=>by simpa using V),?_,?_⟩
 ·skip
  refine⟨_,h.cell 1 rfl _ rfl,(h.blk 0 rfl),?_,?_⟩
  ·skip
   obtain⟨r,R,F,H⟩:=h.inL yy 1 rfl;refine⟨(X0 g k.pend.length p _ (T4 _) (zl _) (by have:=a.len;omega) r _ R.2).mono fun B M q=>?_⟩;obtain⟨u,y,b,j,o⟩:=q;have h:=h.fresh j o;refine⟨_,b,(h.blk 0 rfl),h.n fun C L G h=>?_,t6⟩;refine⟨(h.blk 1 rfl),F0 (m:=1) Tryz.underlying22 A6v rfl (by decide) h (by rfl) (h.cells 0 rfl) rfl (by have:=a.len;show k.pend.length+1<=_;omega) (by decide) rfl rfl ?_,t6⟩;intro A c J h;refine⟨(h.blk 1 rfl),h.s 2 rfl fun K n h=>?_,t6⟩;refine⟨(h.blk 1 rfl),?_⟩;obtain⟨v,h⟩:=h.toldL yy 2 rfl;have h:=(h.nowL (R':=KnR ⟨k.b,k.pend++[d],k.ep,k.ln⟩ x A c) (fun S w a=>⟨a.1.1,by
    have b:((k.pend++[d]).map dC).flatten=(k.pend.map dC).flatten++dC d:=by simp
    have i:(k.pend++[d]).length=k.pend.length+1:=by simp
    show Row S w A (k.pend++[d]).length c ((k.pend++[d]).map dC).flatten;rw [b,i];exact a.2⟩) yy).drop.drop
   refine RetKn.mk h ?_ _;show _=knC ⟨k.b,k.pend++[d],k.ep,k.ln⟩ x A c;unfold knC;rw [show (k.pend++[d]).length=k.pend.length+1 from by simp];rfl
  refine⟨h.n fun C L G h=>?_,t6⟩;refine⟨(h.blk 1 rfl),?_,t6⟩;obtain⟨r,R,F,H⟩:=h.inL yy 2 rfl;refine⟨(X0 g k.pend.length p _ (T4 _) (zl _) (by have:=a.len;omega) r _ R.2).mono fun B M q=>?_⟩;obtain⟨u,y,b,j,o⟩:=q;have h:=h.fresh j o;refine⟨_,b,(h.blk 1 rfl),F0 (m:=1) Tryz.underlying22 A6v rfl (by decide) h (by rfl) (h.cells 0 rfl) rfl (by have:=a.len;show k.pend.length+1<=_;omega) (by decide) rfl rfl ?_,t6⟩;intro A c J h;refine⟨(h.blk 1 rfl),h.s 2 rfl fun K n h=>?_,t6⟩;refine⟨(h.blk 1 rfl),?_⟩;obtain⟨v,h⟩:=h.toldL yy 2 rfl;have h:=(h.nowL (R':=KnR ⟨k.b,k.pend++[d],k.ep,k.ln⟩ x A c) (fun S w a=>⟨a.1.1,by
   have b:((k.pend++[d]).map dC).flatten=(k.pend.map dC).flatten++dC d:=by simp
   have i:(k.pend++[d]).length=k.pend.length+1:=by simp
   show Row S w A (k.pend++[d]).length c ((k.pend++[d]).map dC).flatten;rw [b,i];exact a.2⟩) yy).drop.drop
  refine RetKn.mk h ?_ _;show _=knC ⟨k.b,k.pend++[d],k.ep,k.ln⟩ x A c;unfold knC;rw [show (k.pend++[d]).length=k.pend.length+1 from by simp];rfl
 refine⟨h.n fun C L G h=>?_,t6⟩;refine⟨(h.blk 1 rfl),⟨_,h.cell 2 rfl _ rfl,(h.blk 1 rfl),?_⟩,t6⟩;refine⟨?_,t6⟩;obtain⟨r,R,F,H⟩:=h.inL yy 2 rfl;refine⟨(X0 g k.pend.length p _ (T4 _) (zl _) (by have:=a.len;omega) r _ R.2).mono fun B M q=>?_⟩;obtain⟨u,y,b,j,o⟩:=q;have h:=h.fresh j o;refine⟨_,b,(h.blk 1 rfl),F0 (m:=1) Tryz.underlying22 A6v rfl (by decide) h (by rfl) (h.cells 0 rfl) rfl (by have:=a.len;show k.pend.length+1<=_;omega) (by decide) rfl rfl ?_,t6⟩;intro A c J h;refine⟨(h.blk 1 rfl),h.s 2 rfl fun K n h=>?_,t6⟩;refine⟨(h.blk 1 rfl),?_⟩;obtain⟨v,h⟩:=h.toldL yy 2 rfl;have h:=(h.nowL (R':=KnR ⟨k.b,k.pend++[d],k.ep,k.ln⟩ x A c) (fun S w a=>⟨a.1.1,by
  have b:((k.pend++[d]).map dC).flatten=(k.pend.map dC).flatten++dC d:=by simp
  have i:(k.pend++[d]).length=k.pend.length+1:=by simp
  show Row S w A (k.pend++[d]).length c ((k.pend++[d]).map dC).flatten;rw [b,i];exact a.2⟩) yy).drop.drop
 refine RetKn.mk h ?_ _;show _=knC ⟨k.b,k.pend++[d],k.ep,k.ln⟩ x A c;unfold knC;rw [show (k.pend++[d]).length=k.pend.length+1 from by simp];rfl
end Go.Proofs.YtefdfaeieekioaaGreatDoor
end
namespace Go.Proofs.YtefdfaeieekioaaGreatDoor
open Go.Vc Go.RowKit Go.Fl Go.ChangeShapes Go.WideShapes Go.ChangeAt
theorem N5 (n:Int) (w:World):Calls Tryz.prog 119 #[.int .i64 n] w (D4 (.agg #[.int .i64 1,.int .i64 n,.string ⟨#[]⟩,.slice none 0 0]) w):=by refine vE Tryz.func119 ?_;have h:=Ctx.start w no (fun _ a=>a.elim);refine h.n fun g c A h=>?_;refine h.s 0 rfl fun b S h=>?_;refine h.a 0 rfl rfl ?_;exact⟨rfl,h.below⟩
theorem K4 (A:Option Addr) (n c:Nat) (w:World):Calls Tryz.prog 118 #[.slice A n c] w (D4 (.agg #[.int .i64 3,.int .i64 0,.string ⟨#[]⟩,.slice A n c]) w):=by refine vE Tryz.func118 ?_;have h:=Ctx.start w no (fun _ a=>a.elim);refine h.n fun g e b h=>?_;refine h.s 0 rfl fun d S h=>?_;refine h.a 0 rfl rfl ?_;exact⟨rfl,h.below⟩
theorem A0e (k:Known) (a:k.Ok) (c:SX) (g:Option Addr) (j:Nat) (v:Nat->Prop) (w:World) (D:KnR k c g j v w) (H:Tab w):Calls Tryz.prog 131 #[.agg (knC k c g j).toArray] w (D4 (.string ⟨(J8 k).toArray⟩) w):=by
 have hl:=a.len;refine vE Tryz.func131 ?_;have h:=CtxF.start w no (fun _ a=>a.elim) (R:=fun S w=>RepL S w [] []) (.nil _ _) (A0Q _ _);refine h.n fun B b2 a3 h=>?_;refine h.q (K4 none 0 0 _) fun wQ hQ h=>?_;refine h.n fun q b3 a4 h=>?_;refine h.s 0 rfl fun wS T h=>?_;refine h.c 1 rfl rfl ?_;have h:=h.nil 107 4;refine⟨Nat,fun i=>[(1,.pointer (some ⟨B,0,none⟩)),(3,.pointer (some ⟨q,0,none⟩)),(8,.slice g k.pend.length j),(9,.int .i64 k.pend.length),(10,.int .i64 i)],
  fun i w'=>i<=k.pend.length/\∃ S e p f,CtxF no w S w' [(q,107,[.int .i64 3,.int .i64 0,.string ⟨#[]⟩,.slice e i p]),(B,90,knC k c g j)] [⟨107,4,e,i,p,f⟩] (fun S w=>RepL S w ((k.pend.take i).map M3) f),
  fun i _=>k.pend.length-i,0,⟨rfl,rfl,rfl,rfl,rfl,t6⟩,⟨zb _,no,none,0,[],h⟩,?_⟩
 clear h;rintro i w4 a7 ⟨G,S,e,p,f,h⟩;by_cases t:i<k.pend.length
 ·refine dt (by omega) ?_;obtain⟨ad,rfl,E⟩:=Row.elemF (D.2.below h.below) (by decide) (T4 _) i (by rw [zl];exact t);rw [List.getElem_map] at E;refine⟨⟨by omega,by omega⟩,dC k.pend[i],rfl,E,?_⟩;have U:=(a.pend k.pend[i] (List.getElem_mem t)).2;generalize x:k.pend[i]=d at*;refine h.n fun O b4 a5 h=>?_;refine h.s 0 rfl fun wS T h=>?_;refine vD (.Q [0,1,2] (.n 3 (.n 4 (.n 5 (.q 6 (.z 7)) .stop) .stop) .stop)) (fun z=>Blk z q 107 [.int .i64 3,.int .i64 0,.string ⟨#[]⟩,.slice e i p]/\Blk z O 45 (dC d)) ⟨h.blk 1 rfl,h.blk 0 rfl⟩ ?_;have h:=h.drew;refine⟨_,fun c x=>x.1.cell 3,(dC d),rfl,fun c x=>C0 x.2 0 _ 0 (fun a6 a8 V=>by simpa using V),⟨(A3F d U _).mono fun en w9 W=>?_⟩,t6⟩;obtain⟨I,n,s,u,J,y,M,Q,Y⟩:=W;have h:=(h.call Q).1.know (Y.sub fun a0 a=>a.elim (fun a=>a.elim) .inr) (G3 _ _);refine⟨_,M,⟨h.blk 1 rfl,h.blk 0 rfl⟩,h.n fun a1 a9 a2 h=>?_,t6⟩;refine⟨⟨h.blk 2 rfl,h.blk 1 rfl⟩,F0 Tryz.underlying105 A0Z rfl (by decide) h (ys:=[.int .i64 I,.int .i64 n,.string s,.slice u J y]) (m:=1) rfl (h.cells 0 rfl) rfl (by omega) (by decide) rfl rfl ?_,t6⟩;intro K L b0 h;refine⟨⟨h.blk 2 rfl,h.blk 1 rfl⟩,h.may 2 rfl 3 _ (zc 4) rfl,?_⟩;intro b1 P;have h:=(h.set 2 rfl P).1;have N:(k.pend.take (i+1)).map M3=(k.pend.take i).map M3++[M3 d]:=by rw [List.take_add_one,yc t,x];simp
  have F:=h.drop.drop.now (X:=fun S w=>RepL S w ((k.pend.take i).map M3++[M3 d]) (f++[.int .i64 I,.int .i64 n,.string s,.slice u J y])) (fun a=>RepL.snoc a.2 a.1) (A0Q _ _);rw [<-N] at F;exact⟨i+1,⟨rfl,rfl,rfl,rfl,yb _ (C4 (by omega)),t6⟩,⟨t,_,K,L,_,F⟩,by show k.pend.length-(i+1)<k.pend.length-i;omega⟩
 ·refine df (by omega) ?_;have G:i=k.pend.length:=by omega
  subst G;rw [List.take_length] at h;obtain⟨S2,_,h⟩:=h.told;have h:=h.now (X:=fun S w=>RepC S w (M8 (k.pend.map M3)) [.int .i64 3,.int .i64 0,.string ⟨#[]⟩,.slice e k.pend.length p]) (fun o=>by rw [M8,RepC];exact⟨e,p,f,by rw [zl],o.1,by rw [zl];exact o.2⟩) (G3 _ _);have r:=h;refine vD (.Q [0,1,4,5,6,8,9] (.n 2 (.q 3 (.n 7 (.n 10 (.n 11 (.n 12 (.n 13 (.q 14 .fin) .stop) .stop) .stop) .stop) .stop)) .stop)) (Old _) (Old.start _) ?_;have b:=h.old0;have h:=h.drew;refine⟨stX k.b c,rfl,fun z hz=>Old.looks hz (r.cellsAt 1 rfl 0 (stX k.b c) rfl),_,?_,fun c x=>Keeps.cells x (r.blk 0 rfl) (r.blk 0 rfl).lt,?_⟩
  ·rfl
  refine⟨_,fun c x=>Keeps.cell x (r.blk 1 rfl) (r.blk 1 rfl).lt rfl,_,fun c x=>Keeps.cell x (r.blk 1 rfl) (r.blk 1 rfl).lt rfl,h.q (A9U k.b (A4d a.may a.lows) (stX k.b c) v _ (D.1.below h.below) (H.below h.below)) fun wA A h=>?_,t6⟩;have b:=Keeps.below b (fun _ a=>a) A;refine⟨b,h.q (N5 k.ep _) fun wA A h=>?_,t6⟩;have b:=Keeps.below b (fun _ a=>a) A;refine⟨b,h.q (N5 k.ln _) fun wA A h=>?_,t6⟩;have b:=Keeps.below b (fun _ a=>a) A;refine⟨b,fun l w6 C=>?_,t6⟩;have h:=h.made C 4 4 rfl (by decide);have b:=Keeps.below b (fun _ a=>a) C.below;refine⟨b,h.q (K4 (some ⟨l,0,none⟩) 4 4 _) fun wA A h=>?_,t6⟩;have b:=Keeps.below b (fun _ a=>a) A;refine⟨b,?_⟩;obtain⟨S3,_,h⟩:=h.told;have h:=h.now (X:=fun S w=>RepC S w (X1 k) [.int .i64 3,.int .i64 0,.string ⟨#[]⟩,.slice (some ⟨l,0,none⟩) 4 4]) (fun o=>by rw [X1,M8,RepC];exact⟨some ⟨l,0,none⟩,4,_,rfl,.cons (.leaf _ _ 2 0 ⟨(F5 k.b).toArray⟩) (.cons o.1 (.cons (.leaf _ _ 1 k.ep ⟨#[]⟩) (.cons (.leaf _ _ 1 k.ln ⟨#[]⟩) (.nil _ _)))),o.2⟩) (G3 _ _);have Z:=X2 a;rw [A2k a] at Z;refine⟨h.q (A2Z (X1 k) (A61 a) (by omega) 3 0 ⟨#[]⟩ (some ⟨l,0,none⟩) 4 4 _ _ h.row (H.below h.below)) fun wA A h=>?_,t6⟩;have b:=Keeps.below b (fun _ a=>a) A;exact⟨b,rfl,h.below⟩
def B3O (k:Known) (w:World) (en:Ending) (w':World):Prop:=∃ x A cap,en=.returned (.tuple #[.agg (knC k x A cap).toArray,.bool true])/\Below w.heap.size w w'/\KnR k x A cap (ext no w w') w'
theorem A1y (s:ByteArray):D7 s s=true:=C6.2 rfl
theorem B3P (a1:ByteArray) (k:Known) (p:FirstOk a1 k) (w:World) (n:Env w):Calls Tryz.prog 70 #[.string a1] w (B3O k w):=by
 have a:=p.ok;have hl:=a.len;refine vE Tryz.func70 ?_;have h:=CtxF.start w no (fun _ a=>a.elim) (R:=fun _ _=>True) trivial Stab.true;refine h.n fun O a2 b6 h=>?_;obtain⟨rfl,rfl⟩|⟨rfl,_⟩:=p
 ·refine h.s 0 rfl fun e b h=>?_;refine h.a 0 rfl rfl ?_;exact⟨SX0,none,0,rfl,h.below,T3 _ _,A39 _ _⟩
 have b1:D7 (⟨(J8 k).toArray⟩:ByteArray) ⟨#[]⟩=false:=by
  rw [<-Bool.not_eq_true,C6];intro D;apply B5g a;injection D with D
  exact List.toArray_inj D
 refine B4 b1 ?_;have U:=B9q (J8 k) _ (by have:=X2 a;omega) (n.below h.below);rw [B0W a] at U;refine⟨U.mono fun en o q=>?_⟩;obtain⟨M,z,j,hb,b2⟩:=q;obtain⟨xs,L,I⟩:=b2.rows;have I:Row (ext no a2 o) o M 4 z xs:=I;have L:RepL (ext no a2 o) o [vStr ⟨(F5 k.b).toArray⟩,M8 (k.pend.map M3),N9 k.ep,N9 k.ln] xs:=L;simp only [vStr,M8,N9,RepL,RepC] at L;obtain⟨d0,y0,⟨B0,e0,z0,rfl,_⟩,⟨d1,y1,⟨B,F,z1,rfl,a4,a5⟩,⟨d2,y2,⟨B2,G,z2,rfl,_⟩,⟨d3,y3,⟨B3,e3,z3,rfl,_⟩,rfl,rfl⟩,rfl⟩,rfl⟩,rfl⟩:=L;have h:=(h.call hb).1.know (X:=fun S w=>Row S w M 4 z ([.int .i64 2,.int .i64 0,.string ⟨(F5 k.b).toArray⟩,.slice B0 0 e0]++([.int .i64 3,.int .i64 0,.string ⟨#[]⟩,.slice B (k.pend.map M3).length F]++([.int .i64 1,.int .i64 k.ep,.string ⟨#[]⟩,.slice B2 0 G]++([.int .i64 1,.int .i64 k.ln,.string ⟨#[]⟩,.slice B3 0 e3]++[]))))/\RepL S w (k.pend.map M3) z1/\Row S w B (k.pend.map M3).length F z1)
  ⟨I.sub (fun y a=>a.elim (fun a=>a.elim) .inr),a4.sub (fun y a=>a.elim (fun a=>a.elim) .inr),a5.sub (fun y a=>a.elim (fun a=>a.elim) .inr)⟩ (Stab.and (fun _ _ _ _ a H=>a.fut H) (Stab.and (A0Q _ _) (fun _ _ _ _ a H=>a.fut H)))
 refine⟨_,j,?_⟩;refine h.n fun P c3 b7 h=>?_;refine h.s 0 rfl fun e b h=>?_;refine h.c 0 rfl rfl ?_;obtain⟨ad,rfl,b5,l⟩:=h.row.2.1.2.2 (by simp);have g:=h;refine vD (.Q [0,1,2,3,4,5,6,7,8,9,10] (.n 11 (.z 12) .stop)) (Old _) (Old.start _) ?_;have s:=h.old0;have h:=h.drew;refine⟨_,fun K x=>Keeps.cell x (g.blk 0 rfl) (g.blk 0 rfl).lt rfl,⟨by decide,(show (2:Int)<4 by decide)⟩,_,fun K x=>Keeps.look x (l 9 _ rfl),_,fun K x=>Keeps.cell x (g.blk 0 rfl) (g.blk 0 rfl).lt rfl,⟨by decide,(show (3:Int)<4 by decide)⟩,_,fun K x=>Keeps.look x (l 13 _ rfl),h.n fun T c4 Y h=>?_,t6⟩;have c1:=Old.new s Y;have s:=Keeps.below s (fun _ a=>a) Y.below;refine⟨s,?_⟩;refine h.s 0 rfl fun e b h=>?_;refine h.c 1 rfl rfl ?_;obtain⟨a3,E,a6,l⟩:=h.row.2.1.2.2 (by simp);cases E;refine⟨⟨by decide,(show (1:Int)<4 by decide)⟩,_,l 7 _ rfl,?_⟩;have h:=h.nil 45 8;have hn:(k.pend.map M3).length=k.pend.length:=zl _;rw [hn] at*;refine⟨Nat,fun i=>[(0,.string ⟨(J8 k).toArray⟩),(2,.pointer (some ⟨O,0,none⟩)),(3,.bool false),(4,.pointer (some ⟨P,0,none⟩)),(5,.int .i64 0),(6,.pointer (some ⟨T,0,none⟩)),(43,.slice B k.pend.length F),(44,.int .i64 k.pend.length),(45,.int .i64 i)],
  fun i w'=>i<=k.pend.length/\∃ A c,CtxF no w _ w' [(T,90,knC ⟨Stt0,k.pend.take i,k.ep,k.ln⟩ SX0 A c),(P,107,D3 (X1 k) (some ad) z),(O,90,(lay.ty 90).zero)] [⟨45,8,A,i,c,((k.pend.take i).map dC).flatten⟩] _,fun i _=>k.pend.length-i,0,⟨rfl,rfl,rfl,rfl,rfl,rfl,rfl,rfl,rfl,t6⟩,⟨zb _,none,0,h⟩,?_⟩
 clear h;rintro i w4 c2 ⟨Z,A,c,h⟩;by_cases t:i<k.pend.length
 ·refine dt (by omega) ?_;obtain⟨b4,cs,rfl,r,b0,a7⟩:=Rep.elem h.row.2.2.1 h.row.2.2.2 i (by rw [zl];exact t);rw [List.getElem_map] at r;have hd:=a.pend k.pend[i] (List.getElem_mem t);generalize x:k.pend[i]=d at*;obtain⟨W,a8⟩:=hd;rw [U3 W] at r;obtain⟨A5,c5,rfl⟩:=r.cells;refine⟨⟨by omega,by omega⟩,_,b0,a7,?_⟩;have a0:=fun S w g=>B9n (P4 d) (vK (P4 d)) (vN (P4 d)) (vS (P4 d)) A5 (vL (P4 d)).length c5 S w g (show (Q7 (P4 d)).Ok from a8);rw [B13 d W] at a0;have b3:=h.stab;have h:=h.know r (G3 _ _);refine h.n fun g8 c6 b8 h=>?_;refine h.s 0 rfl fun e b h=>?_;refine h.a 0 rfl rfl ?_;refine h.q (a0 _ _ h.row.2) fun J Q h=>?_;refine h.n fun g9 c7 b9 h=>?_;refine h.s 0 rfl fun e b h=>?_;refine h.c 2 rfl rfl ?_;refine h.a 0 rfl rfl ?_;refine h.n fun gv c8 c0 h=>?_;refine F0 (m:=1) Tryz.underlying22 A6v rfl (by decide) h (by rfl) (h.cells 0 rfl) rfl (by omega) (by decide) (by show Value.slice A (k.pend.take i).length c=Value.slice A i c;rw [zg,Nat.min_eq_left (Nat.le_of_lt t)]) rfl ?_;intro u C w5 h;refine h.s 3 rfl fun e b h=>?_;have N:k.pend.take (i+1)=k.pend.take i++[d]:=by rw [List.take_add_one,yc t,x];rfl
  have el:(k.pend.take i++[d]).length=i+1:=by rw [z6,zg];simp only [zj,List.length_nil];omega
  have a9:(k.pend.take (i+1)).length=i+1:=by rw [N,el]
  refine⟨i+1,⟨rfl,rfl,rfl,rfl,rfl,rfl,rfl,rfl,yb _ (C4 (by omega)),t6⟩,⟨t,u,C,?_⟩,by show k.pend.length-(i+1)<k.pend.length-i;omega⟩;have p:=h.drop.drop.drop.now (fun a=>a.1) b3;have j:((k.pend.take (i+1)).map dC).flatten=((k.pend.take i).map dC).flatten++dC d:=by rw [N];simp
  have G:knC ⟨Stt0,k.pend.take (i+1),k.ep,k.ln⟩ SX0 u C=[.int .i64 Stt0.seq,.slice none 0 0,.slice none 0 0,.int .i64 0,.int .i64 0,.int .i64 0,.int .i64 0,.int .i64 0,.slice u (i+1) C,.int .i64 k.ep,.int .i64 k.ln]:=by unfold knC;rw [a9];rfl
  rw [j,G];exact p
 ·refine df (by omega) ?_;have Z:i=k.pend.length:=by omega
  subst Z;rw [List.take_length] at h;refine h.c 1 rfl rfl ?_;obtain⟨a3,E,a6,l⟩:=h.row.2.1.2.2 (by simp);cases E;refine⟨⟨by decide,(show (0:Int)<4 by decide)⟩,_,l 2 _ rfl,?_⟩;have V:=B2q (F5 k.b) (B0N a.lows a.may) _ (n.below h.below);rw [A72 k.b a.lows a.may] at V;refine⟨V.mono fun en o q=>?_⟩;obtain⟨cS,j,q,r⟩:=q;obtain⟨f,rfl⟩:=r.stX;have h:=(h.call q).1.know (X:=fun S w=>RepS S w k.b (stX k.b f)) (r.map fun a=>a.sub fun y a=>a.elim (fun a=>a.elim) .inr) (A0u _ _);refine⟨_,j,?_⟩;refine h.s 0 rfl fun e b h=>?_;obtain⟨v,_,h⟩:=h.told;have h:=h.now (X:=KnR k f A c) (fun a=>⟨a.1.2,a.2⟩) yy;refine vD (.Q [1,2,3,6] (.n 0 (.n 4 (.n 5 (.Q [7,8] (.n 9 (.q 10 .fin) .stop)) .stop) .stop) (.n 4 (.n 0 (.n 5 (.Q [7,8] (.n 9 (.q 10 .fin) .stop)) .stop) (.n 5 (.Q [7,8] (.n 0 (.n 9 (.q 10 .fin) .stop) .stop)) .stop)) .stop))) (fun _=>True) trivial ?_;have h:=h.drew;refine⟨?_,?_⟩
  ·skip
   refine h.a' 0 rfl rfl ?_;refine⟨h.a' 0 rfl rfl ?_,t6⟩;refine⟨h.q' (A0e k a f A c v _ h.row (n.below h.below).tab) fun J Q h=>?_,t6⟩;refine⟨h.s' 2 rfl fun e b h=>?_,t6⟩;refine h.a 2 rfl rfl ?_;refine⟨f,A,c,?_,h.below,h.out⟩;rw [A1y];rfl
  refine⟨h.a' 0 rfl rfl ?_,t6⟩;refine⟨?_,?_⟩
  ·skip
   refine h.a' 0 rfl rfl ?_;refine⟨h.q' (A0e k a f A c v _ h.row (n.below h.below).tab) fun J Q h=>?_,t6⟩;refine⟨h.s' 2 rfl fun e b h=>?_,t6⟩;refine h.a 2 rfl rfl ?_;refine⟨f,A,c,?_,h.below,h.out⟩;rw [A1y];rfl
  refine⟨h.q' (A0e k a f A c v _ h.row (n.below h.below).tab) fun J Q h=>?_,t6⟩;refine⟨h.a' 0 rfl rfl ?_,t6⟩;refine⟨h.s' 2 rfl fun e b h=>?_,t6⟩;refine h.a 2 rfl rfl ?_;refine⟨f,A,c,?_,h.below,h.out⟩;rw [A1y];rfl
def C1H (p:Value) (dn:Bool) (cs:List Value):List Value:=p::(cs++[.bool dn])
def Z7 (r:Res):List Value:=[.int .i64 r.err,.int .i64 r.ver]
theorem A8O:(Tryz.prog.info? 36).map (fun i=>(i.zero,i.size,i.bytes))=some (some (.agg #[.int .i64 0,.int .i64 0]),2,16):=by kernel_rfl
def kAt (k:Known) (i:Nat):Known:=⟨W8 k.b (k.pend.take i),k.pend.drop i,k.ep,k.ln⟩
theorem B91 {k:Known} (h:k.Ok) (i:Nat):(kAt k i).Ok:=by have:=h.commit (k.b.seq+i);unfold D8 at this;rw [show (k.b.seq+(i:Int)-k.b.seq).toNat=i from by omega] at this;exact this
theorem B8T {k:Known} (h:k.Ok) {i:Nat} (b:i<=k.pend.length):(kAt k i).b.seq=k.b.seq+i:=by
 have s:=h.seq;have l:(k.pend.take i).length=i:=by rw [zg];omega
 have e:=A0c (k.pend.take i) h.may h.lows (fun d a=>(h.pend d (List.mem_of_mem_take a)).1) (by omega);rw [l] at e;exact e
theorem B3Q (s:Stt) (l:List D) (d:D):A5X s (l++[d])=A5X s l++[(doS (W8 s l) d).2]:=by
 induction l generalizing s with
 | nil=>rfl
 | cons a r i=>rw [List.cons_append,A5X,i,A5X];rfl
theorem B5o (k:Known) (i:Nat) (d:D) (r:List D) (h:(kAt k i).pend=d::r):kAt k (i+1)=⟨(doS (kAt k i).b d).1,r,k.ep,k.ln⟩/\A5X k.b (k.pend.take (i+1))=A5X k.b (k.pend.take i)++[(doS (kAt k i).b d).2]:=by
 have h:k.pend.drop i=d::r:=h;have a:k.pend.take (i+1)=k.pend.take i++[d]:=by have e:=List.take_add (l:=k.pend) (i:=i) (j:=1);rw [e,h];rfl
 have e:k.pend.drop (i+1)=r:=by rw [<-List.drop_drop,h];rfl
 unfold kAt;rw [a,e,B0P,B3Q];exact⟨rfl,rfl⟩
def A3Z (k:Known) (n:Int):Known × List Res × Int:=if k.seq<n then (k,[],4) else ((D8 k n).1,(D8 k n).2,0)
def RetKc (g T:Nat) (wrap:List Value->List Value) (S:Nat->Prop) (w:World) (q:Known × List Res × Int) (en:Ending) (w':World):Prop:=
 ∃ A2 c2,en=.returned (.tuple #[.slice A2 q.2.1.length c2,.int .i64 q.2.2])/\Turn (fun x=>x=g) w w'/\∃ x A cap Sk,Blk w' g T (wrap (knC q.1 x A cap))/\(∀ y,Sk y->ext S w w' y/\∀ a,A2=some a->y≠a.block)/\KnR q.1 x A cap Sk w'/\
  w'.ownsRow w.heap.size 36 2 (.slice A2 q.2.1.length c2) q.2.1.length (q.2.1.map Z7).flatten
theorem RetKc.mk' {g T i:Nat} {r:List Value->List Value} {S t:Nat->Prop} {w w':World} {k:Known} {l:List Res} {e:Int} {x:SX} {b A:Option Addr} {p d:Nat} {s:List Value} (c:CtxF no (bare w) t w' [(g,T,s)] [⟨36,2,A,i,d,(l.map Z7).flatten⟩] (KL w g S (KnR k x b p))) (B:s=r (knC k x b p)) (H:l.length=i):RetKc g T r S w (k,l,e) (.returned (.tuple #[.slice A i d,.int .i64 e])) w':=by
 subst H;subst B;obtain⟨D,E,u,m,F⟩:=c.leaveL yy;have o:=c.fst.out;have I:∀ a,A=some a->w.heap.size<=a.block:=fun a f=>by
  obtain h|h:=zm a.block w.heap.size
  ·have n:=o a f;have J:=n.2 _ (zv ..);exact absurd (c.row.1 a.block h (fun e=>J e.symm)).1 n.1
  ·exact h
 refine⟨A,d,rfl,D,x,b,p,u,E,fun q y=>⟨(m q y).2,fun a f e=>(o a f).1 (e▸(m q y).1)⟩,F,c.fst.row.1,?_⟩;obtain h|⟨C,v,z,j,_,G⟩:=c.fst.row.2
 ·exact .inl h
 ·refine .inr ⟨C,v,z,j,?_,G⟩;cases j;exact I _ rfl
theorem RetKc.mk {g T:Nat} {r:List Value->List Value} {S a:Nat->Prop} {w w':World} {k:Known} {e:Int} {x:SX} {A A2:Option Addr} {c c2:Nat} {s:List Value} (h:CtxF no (bare w) a w' [(g,T,s)] [⟨36,2,A2,0,c2,[]⟩] (KL w g S (KnR k x A c))) (b:s=r (knC k x A c)):RetKc g T r S w (k,[],e) (.returned (.tuple #[.slice A2 0 c2,.int .i64 e])) w':=RetKc.mk' (l:=[]) h b rfl
theorem _root_.Go.Vc.CtxF.castL {a S:Nat->Prop} {b w:World} {g T:Nat} {c cs':List Value} {l:List LB} {o:List OR} {R:Kn} (h:CtxF a b S w ((g,T,c)::l) o R) (e:c=cs'):CtxF a b S w ((g,T,cs')::l) o R:=e▸h
theorem B3R (l:List Res) (x:Res):((l++[x]).map Z7).flatten=(l.map Z7).flatten++Z7 x:=by simp
theorem B0d {l r:List D} {d:D} {a:Addr} {c:Nat} {S:Nat->Prop} {w:World} (h:l=d::r) (R:Row S w (some a) l.length c (l.map dC).flatten):Row S w (if (c:Int)=1 then some a else (some a).map (·.add ((1:Int).toNat*8))) r.length (c-1) (r.map dC).flatten:=by
 have b:=Row.back R 8 (by rw [(T4 l).len,zl]) 1 1 rfl (by rw [h,zj];omega);have e:l.length-1=r.length:=by rw [h];rfl
 have f:((l.map dC).flatten).drop (1*8)=(r.map dC).flatten:=by rw [h,List.map_cons,List.flatten_cons];exact List.drop_left' rfl
 rw [e,f] at b;exact b
theorem A1a {w e:World} {g T:Nat} {S m:Nat->Prop} {l:List LB} {s:List OR} {k:Known} {x:SX} {A:Option Addr} {p:Nat} {v:List Value} (f:CtxF no (bare w) m e l s (KL w g S (KnR k x A p))) (j:Nat) (C:l[j]?=some (g,T,v)) (o:k.Ok) (d:D) (z:d.Ok):
  Calls Tryz.prog 190 #[.agg (stX k.b x).toArray,.agg (dC d).toArray] e (fun n q=>∃ b t,n=.returned (.tuple #[.agg (stX (doS k.b d).1 b).toArray,.agg #[.int .i64 (doS k.b d).2.err,.int .i64 (doS k.b d).2.ver]])/\Below e.heap.size e q/\CtxF no (bare w) t q l s (KL w g S (fun S w=>KnR k x A p S w/\RepS S w (doS k.b d).1 (stX (doS k.b d).1 b)))):=by
 obtain⟨u,R,r,B⟩:=f.inL yy j C;refine (B74 k.b d (A4d o.may o.lows) z (stX k.b x) u _ (fun c h=>f.ctx.lt c (r c h)) R.1).mono fun n q E=>?_;obtain⟨G,y,h,i⟩:=E;obtain⟨b,rfl⟩:=i.stX;exact⟨b,_,y,h,B (f.call h) (fun x F=>.inl (F.elim (fun a=>.inl (r x a)) .inr)) (X:=fun S w=>RepS S w (doS k.b d).1 (stX (doS k.b d).1 b)) (A0u _ _) (i.map fun a=>a.sub fun c h=>⟨h,h.elim (fun a=>.inl (r c a)) .inr⟩)⟩
theorem Y8 {w n:World} {g i c f:Nat} {S q:Nat->Prop} {z B C:LB} {a k:Known} {d:D} {r:List D} {m:List Res} {o x:SX} {b:Addr} {e:Option Addr}
  (t:kAt a (i+1)=⟨(doS k.b d).1,r,a.ep,a.ln⟩) (u:A5X a.b (a.pend.take (i+1))=m++[(doS k.b d).2]) (l:k.pend=d::r) (E:k.pend.length<=c) (v:k.ep=a.ep) (y:k.ln=a.ln)
  (h:CtxF no (bare w) q n [z,B,C,(g,90,C5 (C5 (knC k o (some b) c) 0 (stX (doS k.b d).1 x)) (0+8) [.slice (if (c:Int)=1 then some b else (some b).map (·.add ((1:Int).toNat*8))) ((k.pend.length:Int)-1).toNat ((c:Int)-1).toNat])] [⟨36,2,e,i+1,f,(m.map Z7).flatten++Z7 (doS k.b d).2⟩] (KL w g S (fun S w=>KnR k o (some b) c S w/\RepS S w (doS k.b d).1 (stX (doS k.b d).1 x)))):
  ∃ s A p,CtxF no (bare w) s n [(g,90,(knC (kAt a (i+1)) x A p))] [⟨36,2,e,i+1,f,((A5X a.b (a.pend.take (i+1))).map Z7).flatten⟩] (KL w g S (KnR (kAt a (i+1)) x A p)):=by
 have F:k.pend.length=r.length+1:=by rw [l];rfl
 have h:=((h.nowL (R':=KnR ⟨(doS k.b d).1,r,a.ep,a.ln⟩ x (if (c:Int)=1 then some b else (some b).map (·.add ((1:Int).toNat*8))) (c-1)) (fun S w j=>⟨j.2,B0d l j.1.2⟩) yy).drop.drop.drop).castL (cs':=(knC ⟨(doS k.b d).1,r,a.ep,a.ln⟩ x (if (c:Int)=1 then some b else (some b).map (·.add ((1:Int).toNat*8))) (c-1))) (by rw [show c-1=((c:Int)-1).toNat from by omega];unfold knC;rw [<-v,<-y,show r.length=((k.pend.length:Int)-1).toNat from by omega];rfl);rw [t,u,B3R];exact⟨_,_,_,h⟩
theorem A66 (a:Known) (b:a.Ok) (n:Int) (hn:B9 n) (e:SX) (A:Option Addr) (cap o:Nat) (s:Nat->Prop) (l:World) (hB:Blk l o 90 (knC a e A cap)) (S:∀ e,s e->e<l.heap.size/\e≠o) (hR:KnR a e A cap s l):
  Calls Tryz.prog 133 #[.pointer (some ⟨o,0,none⟩),.int .i64 n] l (RetKc o 90 id s l (A3Z a n)):=by
 have b8:=b.seq;have b6:=b.len;have hm:G5=1099511627776:=rfl;have h0:=(D5.1 b.may).1.1;have h:=CtxF.enterL hB S hR yy;obtain⟨q,H⟩:∃ q,q=A3Z a n:=⟨_,rfl⟩;rw [<-H];unfold A3Z at H;refine vE Tryz.func133 ?_;refine⟨knC a e A cap,rfl,h.cellsAt 0 rfl 0 (knC a e A cap) rfl,?_⟩;refine h.q (A5c a b e A cap _) fun wQ hQ h=>?_;by_cases K:a.seq<n
 ·rw [yn K] at H;subst H;refine dt K ?_;exact RetKc.mk (A2:=none) (c2:=0) (h.nil 36 2) rfl
 rw [yo K] at H;refine df K ?_;have h:=h.nil 36 2;have O:(n-a.b.seq).toNat<=a.pend.length:=by unfold Known.seq at K;omega
 refine⟨Nat × Option Addr × Nat,fun y=>[(0,.pointer (some ⟨o,0,none⟩)),(1,.int .i64 n),(6,.slice y.2.1 y.1 y.2.2)],
  fun y w'=>y.1<=(n-a.b.seq).toNat/\∃ S1 e A cap,CtxF no (bare l) S1 w' [(o,90,(knC (kAt a y.1) e A cap))] [⟨36,2,y.2.1,y.1,y.2.2,((A5X a.b (a.pend.take y.1)).map Z7).flatten⟩] (KL l o s (KnR (kAt a y.1) e A cap)),fun y _=>(n-a.b.seq).toNat-y.1,(0,none,0),⟨rfl,rfl,rfl,t6⟩,⟨zb _,_,e,A,cap,h⟩,?_⟩
 clear h;rintro⟨i,A2,c2⟩ w1 b9 ⟨hi,S1,e,A,cap,h⟩;simp only at hi h;have G:=B91 b i;have b5:=B8T b (i:=i) (by omega);have a7:=B5o a i;have Z:(kAt a i).ep=a.ep:=rfl;have a0:(kAt a i).ln=a.ln:=rfl;generalize a2:kAt a i=ki at*;refine h.c 0 rfl rfl ?_;by_cases a9:i<(n-a.b.seq).toNat;rotate_left
 ·refine df (by show ¬ ki.b.seq<n;omega) ?_;have a6:i=(n-a.b.seq).toNat:=by omega
  have I:q=(ki,A5X a.b (a.pend.take i),0):=by rw [H,<-a2,a6];rfl
  subst I;have a8:(A5X a.b (a.pend.take i)).length=i:=by rw [A2j,zg];omega
  exact RetKc.mk' h rfl a8
 refine dt (by show ki.b.seq<n;omega) ?_;obtain⟨d,r,F⟩:∃ d r,ki.pend=d::r:=by
  have I:ki.pend=a.pend.drop i:=by rw [<-a2];rfl
  cases hd:a.pend.drop i with
  | nil=>
   have:=yb List.length hd;rw [zh] at this;simp only [List.length_nil] at this;omega
  | cons d r=>exact⟨d,r,by rw [I,hd]⟩
 obtain⟨X,Y⟩:=a7 d r F;have J:=G.pend d (by rw [F];exact zv ..);have a3:ki.pend.length=r.length+1:=by rw [F];rfl
 obtain⟨b4,b3,b7,a1⟩:=h.row;obtain⟨ad0,rfl,W⟩:=Row.elemF a1.2 (by decide) (T4 _) 0 (by rw [zl,a3];omega);have a4:Go.Vc.cellsAt w1 ad0 (dC d) 0:=by
  have I:(ki.pend.map dC)[0]'(by rw [zl,a3];omega)=dC d:=by simp [F]
  rw [I] at W;have e2:ad0.add (0*8)=ad0:=by unfold Addr.add;simp
  rw [e2] at W;exact W
 have V:ki.pend.length<=cap:=a1.2.1;refine Drawn.join (α:=Nat × Nat × SX) (fun z=>[(0,.pointer (some ⟨o,0,none⟩)),(1,.int .i64 n),(6,.slice A2 i c2),(7,.pointer (some ⟨z.1,0,none⟩)),(8,.pointer (some ⟨z.2.1,0,none⟩))])
  (fun z w=>∃ D,CtxF no (bare l) D w [(z.2.1,36,Z7 (doS ki.b d).2),(z.1,41,stX (doS ki.b d).1 z.2.2),(o,90,(knC ki e (some ad0) cap))] [⟨36,2,A2,i,c2,((A5X a.b (a.pend.take i)).map Z7).flatten⟩] (KL l o s (fun s l=>KnR ki e (some ad0) cap s l/\RepS s l (doS ki.b d).1 (stX (doS ki.b d).1 z.2.2)))) ?_ ?_
 ·have hr:=h;refine vD (.Q [0,1,2,3,4,5,6,7,8,9] (.n 10 (.Q [11,12,13] (.n 14 (.n 15 (.n 16 (.z 17) .stop) .stop) (.n 15 (.n 14 (.n 16 (.z 17) .stop) .stop) .stop))) (.n 14 (.n 10 (.Q [11,12,13] (.n 15 (.n 16 (.z 17) .stop) .stop)) (.n 15 (.n 10 (.Q [11,12,13] (.n 16 (.z 17) .stop)) .stop) .stop)) (.n 15 (.n 10 (.Q [11,12,13] (.n 14 (.n 16 (.z 17) .stop) .stop)) (.n 14 (.n 10 (.Q [11,12,13] (.n 16 (.z 17) .stop)) .stop) .stop)) .stop)))) (Old _) (Old.start _) ?_;have k:=h.old0;have h:=h.drew;refine⟨stX ki.b e,rfl,fun z B=>Old.looks B (hr.cellsAt 0 rfl 0 (stX ki.b e) rfl),_,fun z B=>Keeps.cell B (hr.blk 0 rfl) (hr.blk 0 rfl).lt rfl,⟨by decide,by show (0:Int)<(ki.pend.length:Int);omega⟩,dC d,rfl,fun z B=>Old.looks B a4,?_,?_⟩
  ·skip
   refine⟨(A1a h 0 rfl G d J.2).mono fun N T v=>?_⟩;obtain⟨x,D,t,u,h⟩:=v;have k:=Keeps.below k (fun _ b=>b) u;refine⟨_,t,k,?_,?_⟩
   ·skip
    refine h.n fun g Q f h=>?_;have p:=Old.new k f;have k:=Keeps.below k (fun _ b=>b) f.below;refine⟨k,h.n fun c R j h=>?_,t6⟩;have P:=Old.new k j;have k:=Keeps.below k (fun _ b=>b) j.below;refine⟨k,⟨h.may 1 rfl _ _ (nle rfl) rfl,?_⟩,t6⟩;intro w S;have k:=Keeps.stored k (h.blk 1 rfl) p S;have h:=(h.set 1 rfl S).1;refine⟨k,?_⟩;refine h.s 0 rfl fun w S h=>?_
    first | exact⟨(g,c,x),⟨rfl,rfl,rfl,rfl,rfl,t6⟩,_,h⟩ | exact⟨(g,c,x),⟨rfl,rfl,rfl,rfl,rfl,t6⟩,_,h.swapL⟩
   refine⟨h.n fun c R j h=>?_,t6⟩;have P:=Old.new k j;have k:=Keeps.below k (fun _ b=>b) j.below;refine⟨k,h.n fun g Q f h=>?_,t6⟩;have p:=Old.new k f;have k:=Keeps.below k (fun _ b=>b) f.below;refine⟨k,⟨h.may 0 rfl _ _ (nle rfl) rfl,?_⟩,t6⟩;intro w S;have k:=Keeps.stored k (h.blk 0 rfl) p S;have h:=(h.set 0 rfl S).1;refine⟨k,?_⟩;refine h.s 1 rfl fun w S h=>?_
   first | exact⟨(g,c,x),⟨rfl,rfl,rfl,rfl,rfl,t6⟩,_,h⟩ | exact⟨(g,c,x),⟨rfl,rfl,rfl,rfl,rfl,t6⟩,_,h.swapL⟩
  refine⟨?_,?_⟩
  ·skip
   refine h.n fun g Q f h=>?_;have p:=Old.new k f;have k:=Keeps.below k (fun _ b=>b) f.below;refine⟨k,?_,?_⟩
   ·skip
    refine⟨(A1a h 1 rfl G d J.2).mono fun N T v=>?_⟩;obtain⟨x,D,t,u,h⟩:=v;have k:=Keeps.below k (fun _ b=>b) u;refine⟨_,t,k,h.n fun c R j h=>?_,t6⟩;have P:=Old.new k j;have k:=Keeps.below k (fun _ b=>b) j.below;refine⟨k,⟨h.may 1 rfl _ _ (nle rfl) rfl,?_⟩,t6⟩;intro w S;have k:=Keeps.stored k (h.blk 1 rfl) p S;have h:=(h.set 1 rfl S).1;refine⟨k,?_⟩;refine h.s 0 rfl fun w S h=>?_
    first | exact⟨(g,c,x),⟨rfl,rfl,rfl,rfl,rfl,t6⟩,_,h⟩ | exact⟨(g,c,x),⟨rfl,rfl,rfl,rfl,rfl,t6⟩,_,h.swapL⟩
   refine⟨h.n fun c R j h=>?_,t6⟩;have P:=Old.new k j;have k:=Keeps.below k (fun _ b=>b) j.below;refine⟨k,⟨(A1a h 2 rfl G d J.2).mono fun N T v=>?_⟩,t6⟩;obtain⟨x,D,t,u,h⟩:=v;have k:=Keeps.below k (fun _ b=>b) u;refine⟨_,t,k,⟨h.may 1 rfl _ _ (nle rfl) rfl,?_⟩,t6⟩;intro w S;have k:=Keeps.stored k (h.blk 1 rfl) p S;have h:=(h.set 1 rfl S).1;refine⟨k,?_⟩;refine h.s 0 rfl fun w S h=>?_
   first | exact⟨(g,c,x),⟨rfl,rfl,rfl,rfl,rfl,t6⟩,_,h⟩ | exact⟨(g,c,x),⟨rfl,rfl,rfl,rfl,rfl,t6⟩,_,h.swapL⟩
  refine⟨h.n fun c R j h=>?_,t6⟩;have P:=Old.new k j;have k:=Keeps.below k (fun _ b=>b) j.below;refine⟨k,?_,?_⟩
  ·skip
   refine⟨(A1a h 1 rfl G d J.2).mono fun N T v=>?_⟩;obtain⟨x,D,t,u,h⟩:=v;have k:=Keeps.below k (fun _ b=>b) u;refine⟨_,t,k,h.n fun g Q f h=>?_,t6⟩;have p:=Old.new k f;have k:=Keeps.below k (fun _ b=>b) f.below;refine⟨k,⟨h.may 0 rfl _ _ (nle rfl) rfl,?_⟩,t6⟩;intro w S;have k:=Keeps.stored k (h.blk 0 rfl) p S;have h:=(h.set 0 rfl S).1;refine⟨k,?_⟩;refine h.s 1 rfl fun w S h=>?_
   first | exact⟨(g,c,x),⟨rfl,rfl,rfl,rfl,rfl,t6⟩,_,h⟩ | exact⟨(g,c,x),⟨rfl,rfl,rfl,rfl,rfl,t6⟩,_,h.swapL⟩
  refine⟨h.n fun g Q f h=>?_,t6⟩;have p:=Old.new k f;have k:=Keeps.below k (fun _ b=>b) f.below;refine⟨k,⟨(A1a h 2 rfl G d J.2).mono fun N T v=>?_⟩,t6⟩;obtain⟨x,D,t,u,h⟩:=v;have k:=Keeps.below k (fun _ b=>b) u;refine⟨_,t,k,⟨h.may 0 rfl _ _ (nle rfl) rfl,?_⟩,t6⟩;intro w S;have k:=Keeps.stored k (h.blk 0 rfl) p S;have h:=(h.set 0 rfl S).1;refine⟨k,?_⟩;refine h.s 1 rfl fun w S h=>?_
  first | exact⟨(g,c,x),⟨rfl,rfl,rfl,rfl,rfl,t6⟩,_,h⟩ | exact⟨(g,c,x),⟨rfl,rfl,rfl,rfl,rfl,t6⟩,_,h.swapL⟩
 clear h;rintro⟨g,c,x⟩ u2 w2 ⟨D,h⟩;simp only at h;refine Drawn.join (α:=Option Addr × Nat) (fun z=>[(0,.pointer (some ⟨o,0,none⟩)),(1,.int .i64 n),(6,.slice z.1 (i+1) z.2)])
  (fun z w=>∃ U L M,CtxF no (bare l) U w [(o,90,(knC (kAt a (i+1)) x L M))] [⟨36,2,z.1,i+1,z.2,((A5X a.b (a.pend.take (i+1))).map Z7).flatten⟩] (KL l o s (KnR (kAt a (i+1)) x L M))) ?_ ?_
 ·refine vD (.Q [0,1,2,3,4,5,8,9] (.n 6 (.q 7 (.n 10 (.n 11 (.Q [12,13] (.n 14 (.Q [15,16] (.n 17 (.q 18 .fin) .stop)) .stop)) .stop) .stop)) (.n 10 (.n 6 (.q 7 (.n 11 (.Q [12,13] (.n 14 (.Q [15,16] (.n 17 (.q 18 .fin) .stop)) .stop)) .stop)) (.n 11 (.n 6 (.Q [7,12,13] (.n 14 (.Q [15,16] (.n 17 (.q 18 .fin) .stop)) .stop)) .stop) .stop)) .stop))) (fun z=>Blk z g 41 (stX (doS ki.b d).1 x)/\Blk z c 36 (Z7 (doS ki.b d).2)) ⟨h.blk 1 rfl,h.blk 0 rfl⟩ ?_;have h:=h.drew;refine⟨stX (doS ki.b d).1 x,rfl,fun z B=>C0 B.1 0 _ 0 (fun b0 b1 O=>by simpa using O),Z7 (doS ki.b d).2,rfl,fun z B=>C0 B.2 0 _ 0 (fun b0 b1 O=>by simpa using O),?_,?_⟩
  ·skip
   refine⟨_,h.cell 2 rfl _ rfl,⟨h.blk 1 rfl,h.blk 0 rfl⟩,⟨by decide,by show (1:Int)<=(ki.pend.length:Int)/\(ki.pend.length:Int)<=(cap:Int)/\(cap:Int)<=(cap:Int);omega⟩,h.n fun gv b2 a5 h=>?_,t6⟩;refine⟨⟨h.blk 2 rfl,h.blk 1 rfl⟩,F0 (m:=1) Tryz.underlying136 A8O rfl (by decide) h (by rfl) (h.cells 0 rfl) rfl (by omega) (by decide) rfl rfl ?_,t6⟩;intro C E w3 h;refine⟨⟨h.blk 2 rfl,h.blk 1 rfl⟩,h.s 3 rfl fun w S h=>?_,t6⟩;refine⟨⟨h.blk 2 rfl,h.blk 1 rfl⟩,h.s 3 rfl fun w S h=>?_,t6⟩;exact⟨⟨h.blk 2 rfl,h.blk 1 rfl⟩,(C,E),⟨rfl,rfl,rfl,t6⟩,Y8 X Y F V Z a0 h⟩
  refine⟨h.n fun gv b2 a5 h=>?_,t6⟩;refine⟨⟨h.blk 2 rfl,h.blk 1 rfl⟩,?_,?_⟩
  ·skip
   refine⟨_,h.cell 3 rfl _ rfl,⟨h.blk 2 rfl,h.blk 1 rfl⟩,⟨by decide,by show (1:Int)<=(ki.pend.length:Int)/\(ki.pend.length:Int)<=(cap:Int)/\(cap:Int)<=(cap:Int);omega⟩,F0 (m:=1) Tryz.underlying136 A8O rfl (by decide) h (by rfl) (h.cells 0 rfl) rfl (by omega) (by decide) rfl rfl ?_,t6⟩;intro C E w3 h;refine⟨⟨h.blk 2 rfl,h.blk 1 rfl⟩,h.s 3 rfl fun w S h=>?_,t6⟩;refine⟨⟨h.blk 2 rfl,h.blk 1 rfl⟩,h.s 3 rfl fun w S h=>?_,t6⟩;exact⟨⟨h.blk 2 rfl,h.blk 1 rfl⟩,(C,E),⟨rfl,rfl,rfl,t6⟩,Y8 X Y F V Z a0 h⟩
  refine⟨F0 (m:=1) Tryz.underlying136 A8O rfl (by decide) h (by rfl) (h.cells 0 rfl) rfl (by omega) (by decide) rfl rfl ?_,t6⟩;intro C E w3 h;refine⟨⟨h.blk 2 rfl,h.blk 1 rfl⟩,⟨_,h.cell 3 rfl _ rfl,⟨h.blk 2 rfl,h.blk 1 rfl⟩,?_⟩,t6⟩;refine⟨⟨by decide,by show (1:Int)<=(ki.pend.length:Int)/\(ki.pend.length:Int)<=(cap:Int)/\(cap:Int)<=(cap:Int);omega⟩,h.s 3 rfl fun w S h=>?_,t6⟩;refine⟨⟨h.blk 2 rfl,h.blk 1 rfl⟩,h.s 3 rfl fun w S h=>?_,t6⟩;exact⟨⟨h.blk 2 rfl,h.blk 1 rfl⟩,(C,E),⟨rfl,rfl,rfl,t6⟩,Y8 X Y F V Z a0 h⟩
 clear h;rintro⟨C,E⟩ u3 w3 ⟨U,L,M,h⟩;exact⟨(i+1,C,E),⟨rfl,rfl,rfl,t6⟩,⟨a9,U,x,L,M,h⟩,by show (n-a.b.seq).toNat-(i+1)<(n-a.b.seq).toNat-i;omega⟩
theorem B8U {k:Known} {d:D} (r:(Rc.add d).Ok) (c:B5h k (.add d)):A0C k d=0/\B8S k d=A1W k (.add d):=by
 have e:A0C k d=0:=by unfold A0C;rw [yn r.1,yo (fun h=>by have:=c.1;have:=c.2;obtain h|h:=h<;>omega)]
 refine⟨e,?_⟩;unfold B8S;rw [yn e];rfl
structure Jour where
 C:Chest
 first:ByteArray
 recs:List ByteArray
 down:Bool
def A67 (gc:Nat) (first:ByteArray) (A:Option Addr) (n cap:Nat) (down:Bool):List Value:=[.pointer (some ⟨gc,0,none⟩),.string first,.slice A n cap,.bool down]
def JourK (gj gc b:Nat) (J:Jour):Kn:=fun S w=>∃ A cap,ObjK gj 159 (A67 gc J.first A J.recs.length cap J.down) (RecK 9 A J.recs.length cap (J.recs.map Value.string)) (ChestK gc b J.C) S w
theorem JourK.stab (j g b:Nat) (J:Jour):Stab (JourK j g b J):=fun S w a w' h f=>by obtain⟨A,c,h⟩:=h;exact⟨A,c,ObjK.stab yr yv _ _ _ _ h f⟩
theorem yx {j g b:Nat} {J:Jour}:Stab (JourK j g b J):=JourK.stab _ _ _ _
theorem JourK.chest {j g b:Nat} {J:Jour} {S:Nat->Prop} {w:World} (h:JourK j g b J S w):ChestK g b J.C S w:=by obtain⟨A,c,h⟩:=h;exact h.right yv
theorem JourK.leave {j g b n c:Nat} {first:ByteArray} {A:Option Addr} {d:Bool} {r:List ByteArray} {C:Chest} {x:List Value} {S a:Nat->Prop} {w w':World}
  (l:CtxF no (bare w) a w' [(j,159,A67 g first A n c d)] [] (Sep 0 (Sep 0 (Keep w S) (RecK 9 A n c x)) (ChestK g b C))) (o:x=r.map Value.string) (m:n=r.length) (v:Value):RetOb S w v (JourK j g b ⟨C,first,r,d⟩) (.returned v) w':=by
 subst o;subst m;obtain⟨h,f,e,i,k⟩:=ObjK.leave l v;exact⟨h,f,e,i,A,c,k⟩
theorem B3S (g:Nat) (o y:Operand) (w:World):(do eqGuard BinOp.eql 88 o y (.pointer (some ⟨g,0,none⟩)) (.pointer none);Go.binOp BinOp.eql 88 (.pointer (some ⟨g,0,none⟩)) (.pointer none):Sem Value).run Tryz.prog w=.ok (.bool false) w:=by kernel_rfl
def Q4:ByteArray:=⟨#[76,79,71]⟩
def A0T:ByteArray:=⟨#[78,69,87]⟩
def chL (room:Int) (r:Scroll):Chest:=⟨room,c3f Q4 r,1⟩
def chN (room:Int) (r rn:Scroll):Chest:=⟨room,A2f (c3f Q4 r) A0T rn,2⟩
theorem C1I:A4I Q4=true:=by kernel_rfl
theorem C2E:A4I A0T=true:=by kernel_rfl
theorem A3a:A0T≠Q4:=by decide
theorem B3T (x:ByteArray) (s:Scroll):c3f x s x=some s:=yn rfl
theorem B3U {x y:ByteArray} (s:Scroll) (h:y≠x):c3f x s y=none:=yo h
theorem A9g (x:ByteArray) (r s:Scroll):A2f (c3f x r) x s=c3f x s:=by funext y;unfold A2f c3f A2f;split<;>rfl
theorem A4i (o:Int) (r:Scroll):(chL o r).f Q4=some r:=by show c3f Q4 r Q4=some r;exact B3T _ _
theorem A5d (o:Int) (r:Scroll) {y:ByteArray} (h:y≠Q4):(chL o r).f y=none:=by show c3f Q4 r y=none;exact B3U _ h
theorem A5e (o:Int) (r rn:Scroll):(chN o r rn).f A0T=some rn:=by show (if A0T=A0T then some rn else c3f Q4 r A0T)=some rn;exact yn rfl
theorem A8P (o:Int) (r n:Scroll):(chN o r n).f Q4=some r:=by show (if Q4=A0T then some n else c3f Q4 r Q4)=some r;rw [yo (Ne.symm A3a),B3T]
theorem B3V (r:Int) (a:Scroll) (s:ByteArray):Q3 (chL r a) Q4 s=if r<(s.size:Int) then (chL r a,5) else (chL (r-s.size) ⟨a.s++s,a.pressed,a.kept⟩,0):=by
 unfold Q3;rw [yn C1I,A4i];show (if r<(s.size:Int) then _ else _)=_;by_cases h:r<(s.size:Int)
 ·rw [yn h,yn h]
 ·rw [yo h,yo h];have e:A6s (chL r a).f (chL r a).k Q4=1:=by unfold A6s;rw [A4i];rfl
  rw [e];show (Chest.mk (r-s.size) (A2f (c3f Q4 a) Q4 _) 1,(0:Int))=_;rw [A9g];rfl
theorem A68 (o:Int) (r:Scroll):A1T (chL o r) Q4=(chL o ⟨r.s,r.s.size,true⟩,0):=by
 unfold A1T;rw [A4i];have e:A6s (chL o r).f (chL o r).k Q4=1:=by unfold A6s;rw [A4i];rfl
 simp only;rw [e];show (Chest.mk o (A2f (c3f Q4 r) Q4 _) 1,(0:Int))=_;rw [A9g];rfl
theorem B3W (r:Int) (a:Scroll) (s:ByteArray):Q3 (chL r a) A0T s=if r<(s.size:Int) then (chL r a,5) else (chN (r-s.size) a ⟨⟨#[]⟩++s,0,false⟩,0):=by
 unfold Q3;rw [yn C2E,A5d _ _ A3a];show (if r<(s.size:Int) then _ else _)=_;by_cases h:r<(s.size:Int)
 ·rw [yn h,yn h]
 ·rw [yo h,yo h];have e:A6s (chL r a).f (chL r a).k A0T=2:=by unfold A6s;rw [A5d _ _ A3a];rfl
  rw [e];rfl
theorem B3X (o:Int) (a r:Scroll):A1T (chN o a r) A0T=(chN o a ⟨r.s,r.s.size,true⟩,0):=by
 unfold A1T;rw [A5e];have e:A6s (chN o a r).f (chN o a r).k A0T=2:=by unfold A6s;rw [A5e];rfl
 have b:A2f (chN o a r).f A0T ⟨r.s,r.s.size,true⟩=A2f (c3f Q4 a) A0T ⟨r.s,r.s.size,true⟩:=by funext y;show (if y=A0T then _ else (if y=A0T then _ else _))=(if y=A0T then _ else _);split<;>rfl
 simp only;rw [e,b];rfl
theorem B5p (o:Int) (r n:Scroll):A0v (chN o r n) A0T Q4=(chL (o+r.s.size) ⟨n.s,n.pressed,true⟩,0):=by
 have b:(B7B (chN o r n).f A0T) Q4=some r:=by show (if Q4=A0T then none else (chN o r n).f Q4)=some r;rw [yo (Ne.symm A3a),A8P]
 have e:A2f (B7B (chN o r n).f A0T) Q4 ⟨n.s,n.pressed,true⟩=c3f Q4 ⟨n.s,n.pressed,true⟩:=by
  funext y;show (if y=Q4 then _ else (if y=A0T then none else (if y=A0T then _ else (if y=Q4 then _ else none))))=(if y=Q4 then _ else none);by_cases h:y=Q4
  ·rw [yn h,yn h]
  ·rw [yo h,yo h];by_cases a:y=A0T
   ·rw [yn a,yo h]
   ·rw [yo a,yo a,yo h]
 have c:A6s (B7B (chN o r n).f A0T) (B7C (chN o r n).f (chN o r n).k A0T) Q4=1:=by unfold A6s B7C;rw [b,A5e];rfl
 unfold A0v;rw [yn C1I,A5e];simp only;rw [yo A3a,A8P,e,c];rfl
theorem B3Y (o:Int) (r:Scroll) (t:ByteArray) (h:A4I t=true):A0v (chL o r) A0T t=(chL o r,6):=by unfold A0v;rw [yn h,A5d _ _ A3a]
theorem A0f (g c b:Nat) (J:Jour) (e:Int) (S:Nat->Prop) (w:World) (l:∀ x,S x->x<w.heap.size) (K:JourK g c b J S w):
  Calls Tryz.prog 168 #[.pointer (some ⟨g,0,none⟩),.int .i64 e] w (RetOb S w (.int .i64 e) (JourK g c b ⟨J.C,J.first,J.recs,J.down||e != 0⟩)):=by
 obtain⟨A,p,O⟩:=K;have h:=O.enter l yr yv;refine vE Tryz.func168 ?_;refine h.c 0 rfl rfl ?_;obtain⟨C,first,r,d⟩:=J;cases d with
 | true=>
  refine h.s 0 rfl fun f a h=>?_;exact JourK.leave h rfl rfl _
 | false=>
  refine h.s 0 rfl fun f a h=>?_;exact JourK.leave h rfl rfl _
def Y9 (C:Chest) (name s:ByteArray):Chest × Int:=if (Q3 C name s).2=0 then A1T (Q3 C name s).1 name else Q3 C name s
theorem A4j (j g b:Nat) (J:Jour) (n s:ByteArray) (t:n.size<=9223372036854775807) (u : -1000000000000<=J.C.room/\J.C.room<=1000000000000) (v:s.size<=1000000000000) (p:((J.C.f n).getD sc0).s.size<=1000000000000) (B:J.C.k<999999) (S:Nat->Prop) (w:World) (r:∀ x,S x->x<w.heap.size) (K:JourK j g b J S w):
  Calls Tryz.prog 125 #[.pointer (some ⟨j,0,none⟩),.string n,.string s] w (RetOb S w (.int .i64 (Y9 J.C n s).2) (JourK j g b ⟨(Y9 J.C n s).1,J.first,J.recs,J.down⟩)):=by
 obtain⟨A,z,O⟩:=K;have h:=O.enter r yr yv;have o:(Q3 J.C n s).1.k<1000000:=by
  unfold Q3;split
  ·split
   ·show J.C.k<_;omega
   ·show A6s _ _ _<_;unfold A6s;split<;>omega
  ·show J.C.k<_;omega
 refine vE Tryz.func125 ?_;refine h.c 0 rfl rfl ?_;obtain⟨S1,Sa,a,c,d,O⟩:=h.row;refine⟨(A6t g b J.C n s t u v p (by omega) Sa _ O).mono fun m y i=>?_⟩;obtain⟨e,T,k,f,O⟩:=i;have h:=h.turnO (Sep.stab yq yr) a c d T f O yv;refine⟨_,e,?_⟩;unfold Y9;generalize Q3 J.C n s=q at*;obtain⟨C,l⟩:=q;simp only at*;by_cases h0:l=0
 ·subst h0;rw [yn rfl];refine h.c 0 rfl rfl ?_;obtain⟨S1,Sa,a,c,d,O⟩:=h.row;refine⟨(A6u g b C n t o Sa _ O).mono fun m y i=>?_⟩;obtain⟨e,T,k,f,O⟩:=i;have h:=h.turnO (Sep.stab yq yr) a c d T f O yv;refine⟨_,e,?_⟩;exact JourK.leave h rfl rfl _
 ·rw [yo h0];refine B5 (by simpa using h0) ?_;exact JourK.leave h rfl rfl _
def JL (room:Int) (r:Scroll) (first:ByteArray) (recs:List ByteArray) (down:Bool):Jour:=⟨chL room r,first,recs,down⟩
def B7D (room:Int) (r:Scroll) (first:ByteArray) (recs:List ByteArray) (down:Bool):Jour × Int:=if down then (JL room r first recs true,7) else (JL room ⟨r.s,r.s.size,true⟩ first recs false,0)
theorem B0e (g c b:Nat) (o:Int) (r:Scroll) (first:ByteArray) (e:List ByteArray) (d:Bool) (S:Nat->Prop) (w:World) (t:∀ x,S x->x<w.heap.size) (K:JourK g c b (JL o r first e d) S w):
  Calls Tryz.prog 170 #[.pointer (some ⟨g,0,none⟩)] w (RetOb S w (.int .i64 (B7D o r first e d).2) (JourK g c b (B7D o r first e d).1)):=by
 obtain⟨A,B,O⟩:=K;have h:=O.enter t yr yv;refine vE Tryz.func170 ?_;refine⟨.bool false,fun w=>B3S g _ _ w,?_⟩;refine h.c 0 rfl rfl ?_;cases d with
 | true=>exact JourK.leave h rfl rfl _
 | false=>
  refine h.c 0 rfl rfl ?_;have p:=fun Sa w K=>A6u c b (chL o r) Q4 (by decide) (by show 1<1000000;decide) Sa w K;rw [A68] at p;obtain⟨S1,Sa,j,k,l,O⟩:=h.row;refine⟨(p Sa _ O).mono fun i v q=>?_⟩;obtain⟨a,T,f,n,O⟩:=q;have h:=h.turnO (Sep.stab yq yr) j k l T n O yv;refine⟨_,a,?_⟩;obtain⟨Sm,s,D,u,m⟩:=h.again;refine⟨(A0f g c b ⟨chL o ⟨r.s,r.s.size,true⟩,first,e,false⟩ 0 Sm _ s ⟨_,_,u⟩).mono fun i v q=>?_⟩;obtain⟨a,T,f,n,y,C,O⟩:=q;obtain⟨z,h⟩:=m T n O yr yv;refine⟨_,a,?_⟩;exact JourK.leave h rfl rfl _
def G6 (s:ByteArray):ByteArray:=⟨(L5 s).toArray⟩
theorem R7 (s:ByteArray):((G6 s).size:Int)=D2 s:=by show ((L5 s).toArray.size:Int)=_;rw [List.size_toArray];rfl
def B9M (room:Int) (r:Scroll) (first:ByteArray) (recs:List ByteArray) (down:Bool) (s:ByteArray) (press:Bool):Jour × Int:=
 if down then (JL room r first recs true,7)
 else if (400000:Int)<(s.size:Int) then (JL room r first recs false,1)
 else if room<D2 s then (JL room r first recs true,5)
 else if press then (JL (room-D2 s) ⟨r.s++G6 s,(r.s++G6 s).size,true⟩ first (recs++[s]) false,0)
 else (JL (room-D2 s) ⟨r.s++G6 s,r.pressed,r.kept⟩ first (recs++[s]) false,0)
theorem A4k (s:ByteArray) (h:s.size<=400000):D7 (G6 s) ⟨#[]⟩=false:=by rw [<-Bool.not_eq_true,C6];intro e;have a:=R7 s;have b:=(A1Z s h).1;rw [e] at a;have:((⟨#[]⟩:ByteArray).size:Int)=0:=rfl;omega
theorem B5q (j g c:Nat) (o:Int) (r:Scroll) (first:ByteArray) (e:List ByteArray) (d:Bool) (s:ByteArray) (press:Bool) (hs:s.size<=1000000000) (hr:0<=o/\o<=1000000000) (hl:r.s.size<=1000000000) (hn:e.length<=1000000) (x:Nat->Prop) (w:World) (N:∀ H,x H->H<w.heap.size) (M:EnvFree x w) (K:JourK j g c (JL o r first e d) x w):
  Calls Tryz.prog 116 #[.pointer (some ⟨j,0,none⟩),.string s,.bool press] w (RetOb x w (.int .i64 (B9M o r first e d s press).2) (JourK j g c (B9M o r first e d s press).1)):=by
 obtain⟨q,a⟩:∃ q,q=B9M o r first e d s press:=⟨_,rfl⟩
 rw [<-a];unfold B9M at a;obtain⟨R,V,O⟩:=K;have h:=O.enter N yr yv;refine vE Tryz.func116 ?_;refine⟨.bool false,fun w=>B3S j _ _ w,?_⟩;refine h.c 0 rfl rfl ?_;cases d with
 | true=>
  rw [yn rfl] at a;subst a;exact JourK.leave h rfl rfl _
 | false=>
 rw [yo (by decide)] at a;refine h.q (A2h s (by omega) _ (M.now h)) fun wQ Y h=>?_;by_cases B:(400000:Int)<(s.size:Int)
 ·rw [yn B] at a;subst a;have I:L5 s=[]:=by unfold L5;rw [yn B]
  rw [I];exact JourK.leave h rfl rfl _
 rw [yo B] at a;have X:=A1Z s (by omega);refine B4 (A4k s (by omega)) ?_;refine h.c 0 rfl rfl ?_;have Q:=R7 s;have l:=fun Sa w K=>A6t g c (chL o r) Q4 (G6 s) (by decide) ⟨by show _<=o;omega,by show o<=_;omega⟩ (by omega) (by show (((c3f Q4 r) Q4).getD sc0).s.size<=_;rw [B3T];show r.s.size<=_;omega) (by show 1<1000000;decide) Sa w K;rw [B3V,Q] at l;by_cases F:o<D2 s
 ·rw [yn F] at a l;obtain⟨S1,Sa,v,y,z,O⟩:=h.row;refine⟨(l Sa _ O).mono fun p t a=>?_⟩;obtain⟨b,T,n,S,O⟩:=a;have h:=h.turnO (Sep.stab yq yr) v y z T S O yv;refine⟨_,b,?_⟩;obtain⟨Sm,i,G,k,f⟩:=h.again;refine⟨(A0f j g c ⟨chL o r,first,e,false⟩ 5 Sm _ i ⟨_,_,k⟩).mono fun p t a=>?_⟩;obtain⟨b,T,n,S,C,E,O⟩:=a;obtain⟨D,h⟩:=f T S O yr yv;refine⟨_,b,?_⟩;subst a;exact JourK.leave h rfl rfl _
 rw [yo F] at a l;obtain⟨S1,Sa,v,y,z,O⟩:=h.row;refine⟨(l Sa _ O).mono fun p t a=>?_⟩;obtain⟨b,T,n,S,O⟩:=a;have h:=h.turnO (Sep.stab yq yr) v y z T S O yv;refine⟨_,b,?_⟩;obtain⟨Sm,i,G,k,f⟩:=h.again;refine⟨(A0f j g c ⟨chL (o-D2 s) ⟨r.s++G6 s,r.pressed,r.kept⟩,first,e,false⟩ 0 Sm _ i ⟨_,_,k⟩).mono fun p t a=>?_⟩;obtain⟨b,T,n,S,C,E,O⟩:=a;obtain⟨D,h⟩:=f T S O yr yv;refine⟨_,b,?_⟩;refine h.c 0 rfl rfl ?_;refine h.n fun W a1 a0 h=>?_;have h:=h.now Sep.swap (Sep.stab (Sep.stab yq yv) yr);refine B8K (m:=1) Tryz.underlying114 B3C rfl h (Sep.stab yq yv) (h.cells 0 rfl) rfl (by decide) rfl (by show e.length+1<=_;omega) (by decide) ?_;intro A u w3 U h;have h:=h.drop.now Sep.swap (Sep.stab (Sep.stab yq yr) yv);refine h.s 0 rfl fun wS Z h=>?_;cases press with
 | false=>
  subst a;exact JourK.leave h (by rw [List.map_append];rfl) (by rw [z6];rfl) _
 | true=>
  obtain⟨Sm,i,G,k,f⟩:=h.again;have L:JourK j g c (JL (o-D2 s) ⟨r.s++G6 s,r.pressed,r.kept⟩ first (e++[s]) false) Sm _:=⟨A,u,by
   have b:(e++[s]).length=e.length+1:=by simp
   have J:(e++[s]).map Value.string=e.map Value.string++[Value.string s]:=by simp
   show ObjK j _ (A67 g first A (e++[s]).length u false) (RecK _ A (e++[s]).length u ((e++[s]).map Value.string)) (ChestK g c _) Sm _;rw [b,J];exact k⟩
  refine⟨(B0e j g c (o-D2 s) ⟨r.s++G6 s,r.pressed,r.kept⟩ first (e++[s]) false Sm _ i L).mono fun p t P=>?_⟩;obtain⟨b,T,n,S,C,E,O⟩:=P;obtain⟨D,h⟩:=f T S O yr yv;refine⟨_,b,?_⟩;subst a;exact JourK.leave h rfl rfl _
def B9N (room:Int) (r:Scroll) (first:ByteArray) (recs:List ByteArray) (down:Bool) (s:ByteArray):Jour × Int:=
 if down then (JL room r first recs true,7)
 else if (400000:Int)<(s.size:Int) then (JL room r first recs false,1)
 else if room<D2 s then (JL room r first recs true,5)
 else (JL (room-D2 s+r.s.size) ⟨G6 s,D2 s,true⟩ s [] false,0)
theorem B5r (j f d:Nat) (r:Int) (b:Scroll) (first:ByteArray) (i:List ByteArray) (o:Bool) (s:ByteArray) (hs:s.size<=1000000000) (hr:0<=r/\r<=1000000000) (hl:b.s.size<=1000000000) (x:Nat->Prop) (w:World) (D:∀ G,x G->G<w.heap.size) (U:EnvFree x w) (K:JourK j f d (JL r b first i o) x w):
  Calls Tryz.prog 242 #[.pointer (some ⟨j,0,none⟩),.string s] w (RetOb x w (.int .i64 (B9N r b first i o s).2) (JourK j f d (B9N r b first i o s).1)):=by
 obtain⟨q,a⟩:∃ q,q=B9N r b first i o s:=⟨_,rfl⟩
 rw [<-a];unfold B9N at a;obtain⟨Z,a0,O⟩:=K;have h:=O.enter D yr yv;refine vE Tryz.func242 ?_;refine⟨.bool false,fun w=>B3S j _ _ w,?_⟩;refine h.c 0 rfl rfl ?_;cases o with
 | true=>
  rw [yn rfl] at a;subst a;exact JourK.leave h rfl rfl _
 | false=>
 rw [yo (by decide)] at a;refine h.q (A2h s (by omega) _ (U.now h)) fun wQ hQ h=>?_;by_cases p:(400000:Int)<(s.size:Int)
 ·rw [yn p] at a;subst a;have L:L5 s=[]:=by unfold L5;rw [yn p]
  rw [L];exact JourK.leave h rfl rfl _
 rw [yo p] at a;have a1:=A1Z s (by omega);refine B4 (A4k s (by omega)) ?_;have F:=R7 s;have t:=fun x w D K=>A4j j f d (JL r b first i false) A0T (G6 s) (by decide) ⟨by show _<=r;omega,by show r<=_;omega⟩ (by omega) (by show (((c3f Q4 b) A0T).getD sc0).s.size<=_;rw [B3U _ A3a];decide) (by show 1<999999;decide) x w D K;have N:Y9 (JL r b first i false).C A0T (G6 s)=if r<D2 s then (chL r b,5) else (chN (r-D2 s) b ⟨G6 s,D2 s,true⟩,0):=by
  show Y9 (chL r b) A0T (G6 s)=_;unfold Y9;rw [B3W,F];by_cases k:r<D2 s
  ·rw [yn k,yn k];rfl
  ·have M:(⟨#[]⟩:ByteArray)++G6 s=G6 s:=ByteArray.empty_append;rw [yo k,yo k,yn rfl,B3X];simp only;rw [M,F]
 rw [N] at t;by_cases k:r<D2 s
 ·rw [yn k] at a t;obtain⟨Sm,m,z,c,g⟩:=h.again;refine⟨(t Sm _ m ⟨_,_,c⟩).mono fun l u a=>?_⟩;obtain⟨e,T,n,S,A,y,O⟩:=a;obtain⟨v,h⟩:=g T S O yr yv;refine⟨_,e,?_⟩;obtain⟨Sm,m,z,c,g⟩:=h.again;refine⟨(A0f j f d ⟨chL r b,first,i,false⟩ 5 Sm _ m ⟨_,_,c⟩).mono fun l u a=>?_⟩;obtain⟨e,T,n,S,A,y,O⟩:=a;obtain⟨v,h⟩:=g T S O yr yv;refine⟨_,e,?_⟩;subst a;exact JourK.leave h rfl rfl _
 rw [yo k] at a t;obtain⟨Sm,m,z,c,g⟩:=h.again;refine⟨(t Sm _ m ⟨_,_,c⟩).mono fun l u a=>?_⟩;obtain⟨e,T,n,S,A,y,O⟩:=a;obtain⟨v,h⟩:=g T S O yr yv;refine⟨_,e,?_⟩;obtain⟨Sm,m,z,c,g⟩:=h.again;refine⟨(A0f j f d ⟨chN (r-D2 s) b ⟨G6 s,D2 s,true⟩,first,i,false⟩ 0 Sm _ m ⟨_,_,c⟩).mono fun l u a=>?_⟩;obtain⟨e,T,n,S,A,y,O⟩:=a;obtain⟨v,h⟩:=g T S O yr yv;refine⟨_,e,?_⟩;refine h.s 0 rfl fun Y R h=>?_;refine h.s 0 rfl fun Y R h=>?_;refine h.c 0 rfl rfl ?_;have h:CtxF _ _ _ _ _ _ (Sep 0 (Sep 0 (Keep w x) (RecK 9 none 0 0 [])) (ChestK f d (chN (r-D2 s) b ⟨G6 s,D2 s,true⟩))):=h.now (fun P=>by obtain⟨S1,I,B,C,⟨H,J,V,W,X,k4⟩,p⟩:=P;exact⟨S1,I,B,C,⟨H,J,V,W,X,RecK.nil _ _ _⟩,p⟩) (Sep.stab (Sep.stab yq yr) yv);have E:=fun Sa w K=>A5V f d (chN (r-D2 s) b ⟨G6 s,D2 s,true⟩) A0T Q4 (by decide) (by decide) ⟨by show _<=r-D2 s;omega,by show r-D2 s<=_;omega⟩ (by rw [A8P];show b.s.size<=_;omega) (by show 2<1000000;decide) Sa w K;rw [B5p] at E;obtain⟨S1,Sa,B,C,Q,O⟩:=h.row;refine⟨(E Sa _ O).mono fun l u a=>?_⟩;obtain⟨e,T,n,S,O⟩:=a;have h:=h.turnO (Sep.stab yq yr) B C Q T S O yv;refine⟨_,e,?_⟩;obtain⟨Sm,m,z,c,g⟩:=h.again;refine⟨(A0f j f d ⟨chL (r-D2 s+b.s.size) ⟨G6 s,D2 s,true⟩,s,[],false⟩ 0 Sm _ m ⟨_,_,c⟩).mono fun l u a=>?_⟩;obtain⟨e,T,n,S,A,y,O⟩:=a;obtain⟨v,h⟩:=g T S O yr yv;refine⟨_,e,?_⟩;subst a;exact JourK.leave h rfl rfl _
theorem B3Z (g c b:Nat) (J:Jour) (S:Nat->Prop) (w:World) (h:JourK g c b J S w):Calls Tryz.prog 71 #[.pointer (some ⟨g,0,none⟩)] w (D4 (.string J.first) w):=by obtain⟨A,a,O⟩:=h;refine vE Tryz.func71 ?_;exact⟨.bool false,fun w=>B3S g _ _ w,_,(O.2.1.cell 1).trans rfl,rfl,Below.refl _ _⟩
theorem A69 (l:List ByteArray):(l.map fun s=>[Value.string s]).flatten=l.map Value.string:=by
 induction l with
 | nil=>rfl
 | cons a r i=>rw [List.map_cons,List.flatten_cons,i];rfl
theorem B0f (l:List ByteArray):Flat 1 (l.map fun s=>[Value.string s]):=Flat.map (fun s=>[Value.string s]) (fun a=>⟨rfl,rfl⟩) l
theorem A8Q (g d b:Nat) (J:Jour) (n:J.recs.length<=1000000) (S:Nat->Prop) (w:World) (K:JourK g d b J S w):Calls Tryz.prog 72 #[.pointer (some ⟨g,0,none⟩)] w (B5G 9 1 J.recs.length (J.recs.map Value.string) w):=by obtain⟨A,c,h⟩:=K;have R:=(h.left yr).row;rw [<-A69] at R;refine vE Tryz.func72 ?_;refine⟨.bool false,fun w=>B3S g _ _ w,_,(h.2.1.cell 2).trans rfl,?_⟩;refine⟨(B0R A J.recs.length c _ (B0f _) (zl _) n S w R).mono fun i j q=>?_⟩;obtain⟨a,p,e,f,o⟩:=q;refine⟨_,e,a,p,rfl,f,?_⟩;rw [A69] at o;exact o
theorem B3a {t:List UInt8} (h:(A0D t).2.2=0):(A0D t).2.1<=t.length/\(vK (A0D t).1=2->(vS (A0D t).1).size<=t.length):=by
 have p:N8 6 t=A0D t:=by
  have e:A0D t=if (N8 6 t).2.2=0/\A2D (N8 6 t).1=false then (V0,0,1) else N8 6 t:=rfl
  rw [e] at h ⊢;split
  ·rename_i f;rw [yn f] at h;cases h
  ·rfl
 obtain⟨c,d,j⟩:=A5G 6 t (A0D t).1 (A0D t).2.1 (by rw [p];rw [<-h]);refine⟨c,fun a=>?_⟩;have g:=E8 (A0D t).1;have e:(L4 (A0D t).1).length<=t.length:=by rw [d,zg];omega
 generalize (A0D t).1=v at*;obtain⟨k,n,s,l⟩:=v;have a:k=2:=a;subst a;have b:K0 (.mk 2 n s l)=s.data.toList:=rfl;rw [b] at g;have i:s.data.toList.length=s.size:=W0 s;show s.size<=_;omega
theorem A8R (s:ByteArray) (k:Nat) (h:k<=s.size):s.extract k s.size=⟨(s.data.toList.drop k).toArray⟩:=by have e:=W4 s.data.toList k s.size;rw [show (⟨s.data.toList.toArray⟩:ByteArray)=s from rfl] at e;rw [e,ym (by rw [zh,W0];exact zc _)]
theorem B3b (s:ByteArray) (k:Nat):s.extract 0 k=⟨(s.data.toList.take k).toArray⟩:=by have e:=W4 s.data.toList 0 k;rw [show (⟨s.data.toList.toArray⟩:ByteArray)=s from rfl] at e;rw [e,List.drop_zero,Nat.sub_zero]
theorem B5s (s:ByteArray) (M:s.size<=1000000000) (w:World) (p:Env w):Calls Tryz.prog 126 #[.string s] w (D4 (.tuple #[.string (A2U s.data.toList).1,.int .i64 ((A2U s.data.toList).2.1:Nat),.int .i64 (A2U s.data.toList).2.2]) w):=by
 obtain⟨q,a⟩:∃ q,q=A2U s.data.toList:=⟨_,rfl⟩;rw [<-a];unfold A2U at a;have B:s.data.toList.length=s.size:=W0 s;have C:=B0Q s (by omega) w;refine vE Tryz.func126 ?_;have h:=CtxF.start w no (fun _ b=>b.elim) (R:=fun _ _=>True) trivial Stab.true;refine h.q (C) fun O Q h=>?_;cases o:A3T s.data.toList with
 | false=>
  rw [yn o] at a;subst a;exact⟨rfl,h.below⟩
 | true=>
 rw [yo (by rw [o];decide)] at a;by_cases J:s.size<8
 ·rw [yn (by omega)] at a;subst a;refine dt (by omega) ?_;exact⟨rfl,h.below⟩
 rw [yo (by omega)] at a;refine df (by omega) ?_;refine⟨⟨by omega,by omega,by omega⟩,?_⟩;have f:=C1B (s.data.toList.drop 8) _ (by rw [zh];omega) (p.below h.below);rw [<-A8R s 8 (by omega)] at f;have z:=@B3a (s.data.toList.drop 8);rw [zh,B] at z;generalize A0D (s.data.toList.drop 8)=g at*;obtain⟨v,n,j⟩:=g;simp only at a f z;refine⟨f.mono fun H U D=>?_⟩;obtain⟨F,G,u,y,L⟩:=D;have h:=(h.quiet y).1;refine⟨_,u,?_⟩;refine h.n fun I T K h=>?_;refine h.s 0 rfl fun P S h=>?_;by_cases e:j=2
 ·rw [yn e] at a;subst a;refine B5 (by rw [e];rfl) ?_;subst e;exact⟨rfl,h.below⟩
 rw [yo e] at a;refine B4 (by rw [ya];exact e) ?_;have r:=h;refine vD (.Q [0,1,2,3,4,5,6,7,8,9,11,12,13,14] (.n 10 (.Q [15,16,17] .fin) .stop)) (Old _) (Old.start _) ?_;have i:=h.old0;have h:=h.drew;by_cases d:j=0;rotate_left
 ·rw [yn (.inl d)] at a;subst a;refine B5 (by simpa using d) ?_;refine⟨?_,t6⟩;exact⟨rfl,h.below⟩
 subst d;refine⟨_,fun E x=>Keeps.cell x (r.blk 0 rfl) (r.blk 0 rfl).lt rfl,?_⟩;by_cases k:vK v=2;rotate_left
 ·rw [yn (.inr (.inl k))] at a;subst a;refine B5 (by simpa using k) ?_;refine⟨?_,t6⟩;exact⟨rfl,h.below⟩
 refine B4 (by rw [k];rfl) ?_;obtain⟨N,t⟩:=z rfl;have t:=t k;refine⟨_,fun E x=>Keeps.cell x (r.blk 0 rfl) (r.blk 0 rfl).lt rfl,?_⟩;have c:IntKind.i64.wrap (8+(n:Int))=((8+n:Nat):Int):=by rw [yh _ ⟨by omega,by omega⟩];omega
 refine⟨⟨by decide,by rw [c];show (0:Int)<=_;omega,by rw [c];omega⟩,h.q (A2h (vS v) (by omega) _ (p.below h.below)) fun wA A h=>?_,t6⟩;have i:=Keeps.below i (fun _ b=>b) A;refine⟨i,?_⟩;have m:s.extract ((0:Nat):Int).toNat (IntKind.i64.wrap (8+(n:Int))).toNat=⟨(s.data.toList.take (8+n)).toArray⟩:=by rw [c,zi];exact B3b s (8+n)
 by_cases l:L5 (vS v)=s.data.toList.take (8+n)
 ·rw [yo (fun b=>b.elim (fun b=>b rfl) (fun b=>b.elim (fun b=>b k) (fun b=>b l)))] at a;refine B4 (by show (!D7 _ _)=false;rw [C6.2 (by rw [m,l])];rfl) ?_;refine h.c 0 rfl rfl ?_;subst a;refine⟨?_,h.below⟩;rw [c];rfl
 ·rw [yn (.inr (.inr l))] at a;subst a;refine B5 (by
   show (!D7 _ _)=true;rw [Bool.not_eq_true',<-Bool.not_eq_true,C6,m];intro b;apply l;injection b with b
   exact List.toArray_inj b) ?_
  exact⟨rfl,h.below⟩
def B8V (room:Int) (r:Scroll) (x0:ByteArray) (xs:List ByteArray) (n:Nat):Jour:=
 if (n:Int)<(r.s.size:Int) then JL (room+((r.s.size:Int)-n)) ⟨r.s.extract 0 n,if (n:Int)<r.pressed then n else r.pressed,true⟩ x0 xs false else JL room r x0 xs false
theorem _root_.Go.Vc.EnvFree.sub0 {G S:Nat->Prop} {w w1:World} {l:List LB} {o:List OR} {O:Kn} (h:EnvFree G w) (c:CtxF no (bare w) S w1 l o (Sep 0 (Keep w G) O)):Env w1:=by obtain⟨S1,d,e,f,a,i⟩:=c.row;exact (h.kept (G':=no) fun b x g=>⟨id,(a b x g).2⟩).1
theorem ChestK.start {g b:Nat} {C:Chest} {S:Nat->Prop} {w:World} (l:∀ x,S x->x<w.heap.size) (a:ChestK g b C S w):CtxF no (bare w) (fun x=>x<w.heap.size) w [] [] (Sep 0 (Keep w S) (ChestK g b C)):=
 CtxF.enter (fun x h=>h) trivial trivial ⟨fun x=>x<w.heap.size/\¬ S x,S,fun x h=>h,fun x h=>⟨l x h,zb _⟩,fun x h c=>⟨⟨h,c⟩,rfl⟩,a⟩ (Sep.stab yq yv)
theorem JourK.leave2 {g b q gr o n cap:Nat} {first:ByteArray} {d:Bool} {r:List ByteArray} {C:Chest} {u:List Value} {S j:Nat->Prop} {w w':World}
  (c:CtxF no (bare w) j w' [(gr,9,u),(g,159,A67 b first (some ⟨gr,o,none⟩) n cap d)] [] (Sep 0 (Keep w S) (ChestK b q C))) (f:n=r.length) (D:n<=cap) (E:cap<=maxLen) (F:o+cap<=u.length) (G:(u.drop o).take n=r.map Value.string) (z:Value):RetOb S w z (JourK g b q ⟨C,first,r,d⟩) (.returned z) w':=by
 subst f;obtain⟨⟨_,p,K,B,_,v,L,_⟩⟩:Locs j 0 w' [(gr,9,u),(g,159,A67 b first (some ⟨gr,o,none⟩) r.length cap d)]/\True:=⟨c.ctx.locs,t6⟩;have H:g≠gr:=B _ (zv ..);obtain⟨A,m,k,i,y,J⟩:=c.row;have t:∀ x,¬ A x->S x\/w.heap.size<=x:=fun x f=>by
  obtain l|l:=zm x w.heap.size
  ·obtain s|s:=Classical.em (S x)
   ·exact .inl s
   ·exact (f (y x l s).1).elim
  ·exact .inr l
 refine⟨rfl,c.leave y,fun x=>x=g\/x=gr\/m x,fun x h=>?_,some ⟨gr,o,none⟩,cap,.inl rfl,c.blk 1 rfl,fun x=>x=gr,m,fun x h=>⟨⟨.inr (.inl h),fun e=>H (e.symm.trans h)⟩,fun I=>p (h▸(i x I).1)⟩,fun x h=>⟨⟨.inr (.inr h),fun e=>v (e▸(i x h).1)⟩,zb _⟩,⟨by rw [zl],D,E,.inr ⟨gr,o,u,rfl,rfl,c.blk 0 rfl,F,G⟩⟩,J⟩;obtain rfl|rfl|h:=h
 ·exact⟨t _ fun a=>v (k _ a).1,(c.blk 1 rfl).lt⟩
 ·exact⟨t _ fun a=>p (k _ a).1,(c.blk 0 rfl).lt⟩
 ·exact⟨t _ fun a=>(k _ a).2 h,c.ctx.lt _ (i x h).1⟩
def c0 (room:Int):Chest:=⟨room,fun _=>none,0⟩
def bE:ByteArray:=⟨#[]⟩
theorem A02:D2 bE=11:=by kernel_rfl
theorem B8W (r:Int) (t:ByteArray) (h:A4I t=true):A0v (c0 r) A0T t=(c0 r,6):=by unfold A0v;rw [yn h];rfl
theorem B3c (r:Int) (s:ByteArray) (h:(s.size:Int)<=r):Y9 (c0 r) Q4 s=(chL (r-s.size) ⟨s,s.size,true⟩,0):=by
 have e:(⟨#[]⟩:ByteArray)++s=s:=ByteArray.empty_append;have a:Q3 (c0 r) Q4 s=(chL (r-s.size) ⟨s,0,false⟩,0):=by unfold Q3;rw [yn C1I];show (if r<(s.size:Int) then _ else _)=_;rw [yo (by omega)];show (Chest.mk (r-s.size) (A2f (fun _=>none) Q4 ⟨⟨#[]⟩++s,0,false⟩) 1,(0:Int))=_;rw [e];rfl
 unfold Y9;rw [a,yn rfl,A68]
def Sh.jour (H:Sh):Jour:=JL H.room H.scr H.first (H.l.map Q9) H.down
def shC (gj:Nat) (k:Known) (x:SX) (A:Option Addr) (cap:Nat) (dn:Bool):List Value:=C1H (.pointer (some ⟨gj,0,none⟩)) dn (knC k x A cap)
def ShelfK (gs gj gc b:Nat) (H:Sh):Kn:=fun S w=>∃ x A cap,ObjK gs 92 (shC gj H.k x A cap H.down) (KnR H.k x A cap) (JourK gj gc b H.jour) S w
theorem ShelfK.stab (s j g b:Nat) (H:Sh):Stab (ShelfK s j g b H):=fun S w a w' h f=>by obtain⟨x,A,c,h⟩:=h;exact⟨x,A,c,ObjK.stab yy yx _ _ _ _ h f⟩
theorem yw {s j g b:Nat} {H:Sh}:Stab (ShelfK s j g b H):=ShelfK.stab _ _ _ _ _
theorem ShelfK.chest {s j g b:Nat} {H:Sh} {S:Nat->Prop} {w:World} (h:ShelfK s j g b H S w):ChestK g b (chL H.room H.scr) S w:=by obtain⟨x,A,c,h⟩:=h;exact (h.right yx).chest
theorem A4l:∀ (l:List ByteArray),(∀ x∈l,x.size<=400000)->10*l.length<=(C9 l).length
 | [],_=>zb _
 | s::r,h=>by have b:=A2i s (h s (zv ..));have c:=A4l r fun x a=>h x (zu _ a);rw [C9,z6,zj];omega
theorem Sh.Ok.len {H:Sh} (h:H.Ok):H.l.length<=110000:=by
 have b:=A4l H.texts h.sizes;have a:=h.size;have e:H.texts.length=H.l.length+1:=by show (H.first::H.l.map Q9).length=_;rw [zj,zl]
 unfold Sh.txt at a;omega
theorem _root_.Go.Vc.CtxF.midNow {b w:World} {S:Nat->Prop} {l:List LB} {o:List OR} {n a:Nat} {K R R' O:Kn} (i:CtxF no b S w l o (Sep a (Sep n K R) O)) (c:∀ S w,R S w->R' S w) (e:Stab K) (g:Stab R') (f:Stab O):CtxF no b S w l o (Sep a (Sep n K R') O):=
 i.now (fun j=>j.mono (fun _ d=>d.mono (fun _ h=>h) (fun _ h=>c _ _ h)) (fun _ h=>h)) (Sep.stab (Sep.stab e g) f)
end Go.Proofs.YtefdfaeieekioaaGreatDoor
section
namespace Go.Vc
open Go Go.RowKit
open Go.Proofs.YtefdfaeieekioaaGreatDoor (no RetOb Env ShelfK)
def RowF (w:World) (A:Option Addr) (n cap:Nat) (xs:List Value):Kn:=In (fun x=>w.heap.size<=x) (fun S w'=>Row S w' A n cap xs)
theorem RowF.stab (w:World) (A:Option Addr) (n c:Nat) (x:List Value):Stab (RowF w A n c x):=In.stab fun _ _ _ _ h f=>h.fut f
section
variable {w0 w w' w1:World} {S Sa:Nat->Prop} {l:List LB} {os:List OR} {R O K X Y:Kn} {g T n0 n1:Nat} {cs cs':List Value}
theorem CtxF.againK (b:CtxF no (bare w) S w1 [(g,T,cs)] [] (Sep 0 (Sep 0 K R) O)) (P:∀ S w',K S w'->Keep w Sa S w') (J:Stab K):
  ∃ Sm:Nat->Prop,(∀ x,Sm x->x<w1.heap.size)/\(∀ x,x<w.heap.size->¬ Sa x->¬ Sm x/\w1.heap[x]?=w.heap[x]?)/\ObjK g T cs R O Sm w1/\(∀ x,Sm x->x=g\/S x)/\∀ {d:World} {cs':List Value} {r q:Kn} {s:Nat->Prop},Turn Sm w1 d->(∀ x,s x->(Sm x\/w1.heap.size<=x)/\x<d.heap.size)->ObjK g T cs' r q s d->Stab r->Stab q->
   ∃ L,CtxF no (bare w) L d [(g,T,cs')] [] (Sep 0 (Sep 0 K r) q):=by
 obtain⟨S1,y,o,z,⟨m,t,v,H,I,Y⟩,N⟩:=b.row;have A:¬ S g:=b.ctx.locs.2.1;have D:∀ x,t x->S x:=fun x h=>(o x (H x h).1).1;have i:∀ x,m x->S x/\¬ t x/\¬ y x/\x≠g:=fun x h=>⟨(o x (v x h).1).1,(v x h).2,(o x (v x h).1).2,fun e=>A (e▸(o x (v x h).1).1)⟩;refine⟨fun x=>x=g\/t x\/y x,fun x h=>?_,fun x h C=>?_,⟨.inl rfl,b.blk 0 rfl,t,y,fun x h=>⟨⟨.inr (.inl h),fun e=>A (e▸D x h)⟩,(o x (H x h).1).2⟩,fun x h=>⟨⟨.inr (.inr h),fun e=>A (e▸(z x h).1)⟩,zb _⟩,Y,N⟩,fun x h=>h.elim .inl (fun h=>.inr (h.elim (D x) (fun f=>(z x f).1))),?_⟩
 ·obtain rfl|h|h:=h
  ·exact (b.blk 0 rfl).lt
  ·exact b.ctx.lt x (D x h)
  ·exact b.ctx.lt x (z x h).1
 ·obtain⟨l,p⟩:=P _ _ I x h C;obtain⟨a,j,c,n⟩:=i x l;exact⟨fun e=>e.elim n (fun e=>e.elim j c),p⟩
 ·intro d cs' r q s u B Q sR Z;obtain⟨j1,X,M,E,l,p,V,W⟩:=Q;have G:∀ x,m x->¬ s x:=fun x h C=>by
   obtain⟨a,j,c,n⟩:=i x h;have hl:=b.ctx.lt x a;obtain (e|e|e)|e:=(B x C).1
   ·exact n e
   ·exact j e
   ·exact c e
   ·omega
  have F:∀ x,m x->d.heap[x]?=w1.heap[x]?:=fun x h=>by obtain⟨a,j,c,n⟩:=i x h;exact u.block x (b.ctx.lt x a) (fun e=>e.elim n (fun e=>e.elim j c))
  have U:∀ x,m x->x<d.heap.size:=fun x h=>heap_lt (F x h) (b.ctx.lt x (i x h).1);refine⟨fun x=>x<d.heap.size/\x≠g,⟨⟨⟨u.os.trans b.below.os,u.tape.trans b.below.tape,u.output.trans b.below.output,zb _,fun k i=>absurd i (Nat.not_lt_zero _)⟩,fun _ f=>f.elim,fun j _=>.inr (zb _),fun x h=>h.1,⟨zb _,fun f=>f.2 rfl,X,(fun x h=>by cases h),t6⟩⟩,t6,?_,Sep.stab (Sep.stab J sR) Z⟩⟩;refine⟨fun x=>x<d.heap.size/\¬ E x/\x≠g,E,fun x h=>⟨⟨h.1,h.2.2⟩,h.2.1⟩,fun x h=>⟨⟨(B x (p x h).1.1).2,(p x h).1.2⟩,zb _⟩,⟨m,M,fun x h=>⟨⟨U x h,fun e=>G x h (p x e).1.1,(i x h).2.2.2⟩,fun e=>G x h (l x e).1.1⟩,fun x h=>⟨⟨(B x (l x h).1.1).2,(l x h).2,(l x h).1.2⟩,zb _⟩,J _ _ _ _ I ⟨fun _ f=>f,F⟩,V⟩,W⟩
theorem ObjK.leaveK (c:CtxF no (bare w) S w' [(g,T,cs')] [] (Sep 0 (Sep 0 K R) O)) (v:∀ S w',K S w'->Keep w Sa S w'):
  Turn Sa w w'/\∃ n b:Nat->Prop,(∀ x,n x->(Sa x\/w.heap.size<=x)/\x<w'.heap.size)/\ObjK g T cs' R O n w'/\K b w'/\(∀ x,b x->x<w'.heap.size/\¬ n x):=by
 obtain⟨S1,i,a,j,⟨b,r,k,q,t,z⟩,u⟩:=c.row;have f:¬ S g:=c.ctx.locs.2.1;have p:∀ x,r x->S x:=fun x h=>(a x (q x h).1).1;have m:=v _ _ t;refine⟨c.leave m,fun x=>x=g\/r x\/i x,b,fun x h=>?_,⟨.inl rfl,c.blk 0 rfl,r,i,fun x h=>⟨⟨.inr (.inl h),fun e=>f (e▸p x h)⟩,(a x (q x h).1).2⟩,fun x h=>⟨⟨.inr (.inr h),fun e=>f (e▸(j x h).1)⟩,zb _⟩,z,u⟩,t,fun x h=>⟨c.ctx.lt x (a x (k x h).1).1,fun e=>?_⟩⟩
 ·have o:(b x->False)->Sa x\/w.heap.size<=x:=fun y=>by
   obtain l|l:=zm x w.heap.size
   ·obtain s|s:=Classical.em (Sa x)
    ·exact .inl s
    ·exact (y (m x l s).1).elim
   ·exact .inr l
  obtain rfl|h|h:=h
  ·exact⟨o fun d=>f (a _ (k _ d).1).1,(c.blk 0 rfl).lt⟩
  ·exact⟨o fun d=>(k x d).2 h,c.ctx.lt x (p x h)⟩
  ·exact⟨o fun d=>(a x (k x d).1).2 h,c.ctx.lt x (j x h).1⟩
 ·obtain rfl|e|e:=e
  ·exact f (a _ (k _ h).1).1
  ·exact (k x h).2 e
  ·exact (a x (k x h).1).2 e
theorem CtxF.toldK {o:OR} (i:CtxF no (bare w) S w1 l (o::os) (Sep n1 (Sep n0 K R) O)) (z:∀ S w',K S w'->Keep w Sa S w') (D:∀ a,o.A=some a->¬ Sa a.block) (q:Stab K) (M:Stab R) (L:Stab O):
  ∃ c,CtxF no (bare w) c w1 l os (Sep n1 (Sep n0 (fun S w1=>K S w1/\RowF w o.A o.n o.cap o.xs S w1) R) O):=by
 have u:=i.fst.out;obtain⟨S1,t,f,g,⟨r,v,k,j,p,J⟩,y⟩:=i.row;have H:∀ a,o.A=some a->w.heap.size<=a.block:=fun a d=>by
  obtain b|b:=zm a.block w.heap.size
  ·exact absurd (f _ (k _ (z _ _ p a.block b (D a d)).1).1).1 (u a d).1
  ·exact b
 obtain⟨c,s,E⟩:=i.told;refine⟨c,E.now (fun G=>?_) (Sep.stab (Sep.stab (q.and (RowF.stab _ _ _ _ _)) M) L)⟩;obtain⟨_,A,B,C⟩:=G;have n:∀ x,(∃ a,o.A=some a/\a.block=x)->¬ S x:=fun x h b=>by obtain⟨a,d,rfl⟩:=h;exact (u a d).1 b
 refine⟨fun x=>S1 x\/(c x/\∃ a,o.A=some a/\a.block=x),t,fun x h=>?_,fun x h=>⟨s x (g x h).1,(g x h).2⟩,⟨fun x=>r x\/(c x/\∃ a,o.A=some a/\a.block=x),v,fun x h=>?_,fun x h=>⟨.inl (j x h).1,(j x h).2⟩,⟨q _ _ _ _ p ⟨fun x h=>.inl h,fun _ _=>rfl⟩,fun x=>c x/\∃ a,o.A=some a/\a.block=x,fun x h=>⟨.inr h,?_⟩,A,B,fun h=>?_⟩,J⟩,y⟩
 ·obtain h|h:=h
  ·exact⟨s x (f x h).1,(f x h).2⟩
  ·exact⟨h.1,fun b=>n x h.2 (g x b).1⟩
 ·obtain h|h:=h
  ·exact⟨.inl (k x h).1,(k x h).2⟩
  ·exact⟨.inr h,fun b=>n x h.2 (f x (j x b).1).1⟩
 ·obtain⟨a,d,e⟩:=h.2;rw [<-e];exact H a d
 ·obtain⟨m,e,I,F⟩:=C h;exact⟨m,e,⟨I,m,e,rfl⟩,F⟩
end
end Go.Vc
end
