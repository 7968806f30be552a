import Derived.Test.YtefdfaeieekioaaGreatDoorZ07
set_option maxRecDepth 100000
set_option maxHeartbeats 40000000
set_option linter.unusedVariables false
set_option linter.unusedSimpArgs false
section
namespace Go.Proofs.YtefdfaeieekioaaGreatDoor
open Go.Vc Go.RowKit Go.Fl Go.ChangeShapes Go.WideShapes Go.ChangeAt
def iC (n:Int):List Value:=[.int .i64 n]
theorem B5Y {α:Type} {l:List α} {d:α} {i:Nat} (h:i<l.length):l.getD i d=l[i]:=by rw [List.getD_eq_getElem?_getD,List.getElem?_eq_getElem h];rfl
def A1F (l:List Int):List Value:=(l.map iC).flatten
theorem B0s (l:List Int):Flat 1 (l.map iC):=Flat.map iC (fun a=>⟨rfl,rfl⟩) l
theorem RowI'.elem {S:Nat->Prop} {w:World} {A:Option Addr} {n cap:Nat} {l:List Int} (hR:Row S w A n cap (A1F l)) (i:Nat) (hi:i<l.length):∃ ad,A=some ad/\w.cell? (ad.add (i*1))=some (.int .i64 l[i]):=by obtain⟨ad,e,h⟩:=Row.elemF hR (k:=1) (by decide) (B0s l) i (by rw [zj];exact hi);rw [List.getElem_map] at h;refine⟨ad,e,?_⟩;have:=h.1;rw [show (ad.add (i*1)).add 0=ad.add (i*1) from by rw [add_add,Nat.add_zero]] at this;exact this
def A0P (l:List Int) (x:Int):Option Nat:=l.findIdx? (eqI x)
def L9 (l:List Int) (x:Int):Int:=match A0P l x with | some i=>i | none => -1
theorem A3B {l:List Int} {x:Int} {i:Nat} (hi:i<l.length) (e:l[i]=x) (h:∀ j (hj:j<l.length),j<i->l[j]≠x):A0P l x=some i:=by unfold A0P;rw [List.findIdx?_eq_some_iff_getElem];refine⟨hi,by rw [e];exact (eqI_iff _ _).2 rfl,fun j hj=>?_⟩;rw [Bool.not_eq_true,Bool.eq_false_iff];intro hh;exact h j (by omega) hj ((eqI_iff _ _).1 hh).symm
theorem A8X {l:List Int} {x:Int} (h:∀ j (hj:j<l.length),l[j]≠x):A0P l x=none:=by unfold A0P;rw [List.findIdx?_eq_none_iff];intro y hy;obtain⟨j,hj,rfl⟩:=List.getElem_of_mem hy;rw [Bool.eq_false_iff];intro hh;exact h j hj ((eqI_iff _ _).1 hh).symm
theorem A0Q {l:List Int} {x:Int} {i:Nat} (h:A0P l x=some i):∃ hi:i<l.length,l[i]=x/\∀ j (hj:j<l.length),j<i->l[j]≠x:=by unfold A0P at h;rw [List.findIdx?_eq_some_iff_getElem] at h;obtain⟨hi,h1,h2⟩:=h;refine⟨hi,((eqI_iff _ _).1 h1).symm,fun j hj hlt e=>?_⟩;have:=h2 j hlt;rw [e] at this;exact this ((eqI_iff _ _).2 rfl)
theorem B0t {l:List Int} {x:Int}:(A0P l x).isSome=decide (x∈l):=by
 cases h:A0P l x with
 | some i=>
  obtain⟨hi,e,_⟩:=A0Q h;rw [zy (e▸List.getElem_mem hi)];rfl
 | none=>
  unfold A0P at h;rw [List.findIdx?_eq_none_iff] at h;rw [zz fun hm=>by have:=h x hm;rw [(eqI_iff _ _).2 rfl] at this;cases this];rfl
theorem B25 (l:List Int) (x:Int):decide (0<=L9 l x)=decide (x∈l):=by
 unfold L9;rw [<-B0t];cases A0P l x with
 | some i=>exact zy (by show (0:Int)<=(i:Int);omega)
 | none=>exact zz (by decide)
def atI (l:List Int) (i:Int):Int:=if i<0\/(l.length:Int)<=i then 0 else l.getD i.toNat 0
def B8J (l:List Int):Int:=atI l 0
def A2q (l:List Int):Int:=atI l (l.length-1)
def A5O (l:List Int) (n:Int):Int:=if 0<=L9 l n then atI l (L9 l n+1) else 0
def A04 (l:List Int) (n:Int):Int:=atI l (L9 l n-1)
theorem A2D (l:List Int) (x:Int) : -1<=L9 l x/\L9 l x<l.length:=by
 unfold L9;cases h:A0P l x with
 | some i=>
  obtain⟨hi,_⟩:=A0Q h;show -1<=(i:Int)/\(i:Int)<l.length;omega
 | none=>
  show (-1:Int) <= -1/\(-1:Int)<l.length;omega
section
variable {S:Nat->Prop} {w:World} {A B:Option Addr} {cap cap':Nat}
theorem A0m (l:List Int) (x:Int) (hR:Row S w A l.length cap (A1F l)):Calls Tryz.prog 167 #[.slice A l.length cap,.int .i64 x] w (C8 (.int .i64 (L9 l x)) w):=by
 have hM:=D4 hR;refine vE Tryz.func167 ?_;refine⟨Nat,fun i=>[(0,.slice A l.length cap),(1,.int .i64 x),(7,.int .i64 (l.length:Int)),(8,.int .i64 (i:Int))],fun i w'=>i<=l.length/\(∀ j (hj:j<l.length),j<i->l[j]≠x)/\Below w.heap.size w w',fun i _=>l.length-i,0,⟨rfl,rfl,rfl,rfl,trivial⟩,⟨zb _,(fun j hj h=>absurd h (Nat.not_lt_zero _)),Below.refl _ _⟩,?_⟩;rintro i w' u ⟨hi,hn,hb⟩;by_cases hlt:i<l.length
 ·refine dt (by omega) ?_;obtain⟨ad,rfl,hcell⟩:=RowI'.elem (hR.below hb) i hlt;refine⟨⟨by omega,by omega⟩,?_⟩;refine⟨_,by rw [zh];exact hcell,?_⟩;by_cases hx:x=l[i]
  ·refine B0 (by show (x==l[i])=true;rw [beq_iff_eq];exact hx) ?_;refine⟨?_,hb⟩;unfold L9;rw [A3B hlt hx.symm hn];rfl
  ·refine C3X (by show (x==l[i])=false;rw [y4];exact hx) ?_;refine⟨i+1,⟨rfl,rfl,rfl,y5 _ (C3 (by omega)),trivial⟩,⟨hlt,fun j hj hj2=>?_,hb⟩,by show l.length-(i+1)<l.length-i;omega⟩;by_cases hji:j=i
   ·subst hji;exact fun e=>hx e.symm
   ·exact hn j hj (by omega)
 ·refine df (by omega) ?_;refine⟨?_,hb⟩;unfold L9;rw [A8X fun j hj=>hn j hj (by omega)];rfl
theorem A3r (l:List Int) (x:Int) (hR:Row S w A l.length cap (A1F l)):Calls Tryz.prog 110 #[.slice A l.length cap,.int .i64 x] w (C8 (.bool (decide (x∈l))) w):=by refine vE Tryz.func110 ?_;refine B4 (A0m l x hR) ?_;intro w1 h1;refine⟨?_,h1⟩;show Ending.returned (.bool (decide (0<=L9 l x)))=_;rw [B25]
theorem A8Y (a b:List Int) (hR:Row S w A a.length cap (A1F a)) {S':Nat->Prop} (hR':Row S' w B b.length cap' (A1F b)):Calls Tryz.prog 158 #[.slice A a.length cap,.slice B b.length cap'] w (C8 (.bool (U8 eqI a b)) w):=by
 have hM:=D4 hR;refine vE Tryz.func158 ?_;by_cases hl:a.length=b.length;rotate_left
 ·refine B0 (by show ((a.length:Int) != (b.length:Int))=true;rw [bne_iff_ne];omega) ?_;rw [A4x _ _ _ hl];exact⟨rfl,Below.refl _ _⟩
 refine C3X (by show ((a.length:Int) != (b.length:Int))=false;rw [hl];simp) ?_;refine⟨Nat,fun i=>[(0,.slice A a.length cap),(1,.slice B b.length cap'),(12,.int .i64 a.length),(13,.int .i64 i)],
  fun i w'=>i<=a.length/\U8 eqI (a.drop i) (b.drop i)=U8 eqI a b/\Below w.heap.size w w',fun i _=>a.length-i,0,⟨rfl,rfl,rfl,rfl,trivial⟩,⟨zb _,rfl,Below.refl _ _⟩,?_⟩
 rintro i w' u ⟨hi,he,hb⟩;by_cases hlt:i<a.length
 ·refine dt (by omega) ?_;obtain⟨ad,rfl,hcell⟩:=RowI'.elem (hR.below hb) i hlt;obtain⟨bd,rfl,hcell'⟩:=RowI'.elem (hR'.below hb) i (by omega);rw [List.drop_eq_getElem_cons hlt,List.drop_eq_getElem_cons (show i<b.length by omega),U8] at he;obtain⟨x,hx⟩:∃ x,x=a[i]:=⟨_,rfl⟩;obtain⟨y,hy⟩:∃ y,y=b[i]'(by omega):=⟨_,rfl⟩;rw [<-hx] at hcell he;rw [<-hy] at hcell' he;refine vD (.Q [0,1,2,3,4,5,6,7,8] .fin) (Keeps (fun b=>b<w'.heap.size) w') (Keeps.start _ _) ?_;refine⟨⟨by omega,by omega⟩,?_⟩;refine⟨_,fun z hz=>hz.look (by rw [zh];exact hcell),?_⟩;refine⟨⟨by omega,by omega⟩,?_⟩;refine⟨_,fun z hz=>hz.look (by rw [zh];exact hcell'),?_⟩;have hb:=hb.drew;by_cases hv:x=y
  ·rw [(eqI_iff x y).2 hv,Bool.true_and] at he;refine C3X (by show (x != y)=false;rw [bne_eq_false_iff_eq];exact hv) ?_;exact⟨i+1,⟨rfl,rfl,rfl,y5 _ (C3 (by omega)),trivial⟩,⟨hlt,he,hb⟩,by show a.length-(i+1)<a.length-i;omega⟩
  ·have hf:eqI x y=false:=by rw [Bool.eq_false_iff];exact fun h=>hv ((eqI_iff x y).1 h)
   rw [hf] at he;refine B0 (by show (x != y)=true;rw [bne_iff_ne];exact hv) ?_;refine⟨?_,hb⟩;rw [<-he];rfl
 ·refine df (by omega) ?_;rw [zq (by omega),zq (by omega),U8] at he;rw [<-he];exact⟨rfl,hb⟩
end
theorem I9 {S0 S:Nat->Prop} {w0 w:World} {l l':List LB} {os:List OR} {R:Kn} (hc:CtxF S0 w0 S w l os R) (h:l=l'):CtxF S0 w0 S w l' os R:=h▸hc
def R9 (r:Ros) (A:Option Addr) (cap:Nat):List Value:=[.int .i64 r.ep,.slice A r.l.length cap,.int .i64 r.new]
def RosR (r:Ros) (A:Option Addr) (cap:Nat):Kn:=fun S w=>Row S w A r.l.length cap (A1F r.l)
theorem RosR.stab (r:Ros) (A:Option Addr) (cap:Nat):Stab (RosR r A cap):=fun _ _ _ _ h f=>Row.fut h f
theorem RosR.below {r:Ros} {A:Option Addr} {cap:Nat} {S:Nat->Prop} {w w':World} (h:RosR r A cap S w) (hb:Below w.heap.size w w'):RosR r A cap S w':=Row.below h hb
theorem Ros0.rep (S:Nat->Prop) (w:World):RosR Ros0 none 0 S w:=A28 _ _
section
variable {r q:Ros} {S:Nat->Prop} {w:World} {A B:Option Addr} {cap cap':Nat}
theorem B5Z (hR:RosR r A cap S w) {S':Nat->Prop} (hQ:RosR q B cap' S' w):Calls Tryz.prog 90 #[.agg (R9 r A cap).toArray,.agg (R9 q B cap').toArray] w (C8 (.bool (eqR r q)) w):=by
 refine vE Tryz.func90 ?_;have hc:=CtxF.start w no (fun _ h=>h.elim) (R:=fun _ _=>True) trivial Stab.true;refine hc.n fun g2 wg2 hg2 hc=>?_;refine hc.n fun g3 wg3 hg3 hc=>?_;refine hc.c 1 rfl rfl ?_;refine hc.c 0 rfl rfl ?_;unfold eqR;by_cases h1:r.ep=q.ep;rotate_left
 ·have e:(r.ep==q.ep)=false:=by rw [y4];exact h1
  rw [e];refine C3X e ?_;exact⟨rfl,hc.below⟩
 rw [(beq_iff_eq (a:=r.ep) (b:=q.ep)).2 h1];refine B0 (by rw [beq_iff_eq];exact h1) ?_;refine hc.c 1 rfl rfl ?_;refine hc.c 0 rfl rfl ?_;by_cases h2:r.new=q.new;rotate_left
 ·have e:(r.new==q.new)=false:=by rw [y4];exact h2
  rw [e];refine C3X e ?_;exact⟨rfl,hc.below⟩
 rw [(beq_iff_eq (a:=r.new) (b:=q.new)).2 h2];refine B0 (by rw [beq_iff_eq];exact h2) ?_;refine hc.c 1 rfl rfl ?_;refine hc.c 0 rfl rfl ?_;refine hc.q (A8Y r.l q.l (hR.below hc.below) (hQ.below hc.below)) fun wQ hQ hc=>?_;exact⟨rfl,hc.below⟩
theorem A7b (n:Int) (hR:RosR r A cap S w):Calls Tryz.prog 56 #[.agg (R9 r A cap).toArray,.int .i64 n] w (C8 (.bool (decide (n∈r.l))) w):=by refine vE Tryz.func56 ?_;have hc:=CtxF.start w no (fun _ h=>h.elim) (R:=fun _ _=>True) trivial Stab.true;refine hc.n fun g2 wg2 hg2 hc=>?_;refine hc.c 0 rfl rfl ?_;refine hc.q (A3r r.l n (hR.below hc.below)) fun wQ hQ hc=>?_;exact⟨rfl,hc.below⟩
theorem A3s (i:Int) (hR:RosR r A cap S w):Calls Tryz.prog 106 #[.agg (R9 r A cap).toArray,.int .i64 i] w (C8 (.int .i64 (atI r.l i)) w):=by
 have hM:=D4 hR;refine vE Tryz.func106 ?_;have hc:=CtxF.start w no (fun _ h=>h.elim) (R:=fun _ _=>True) trivial Stab.true;refine hc.n fun g2 wg2 hg2 hc=>?_;unfold atI;by_cases h0:i<0
 ·rw [y6 (.inl h0)];refine dt h0 ?_;exact⟨rfl,hc.below⟩
 refine df h0 ?_;refine hc.c 0 rfl rfl ?_;by_cases h1:(r.l.length:Int)<=i
 ·rw [y6 (.inr h1)];refine dt h1 ?_;exact⟨rfl,hc.below⟩
 refine df h1 ?_;rw [y7 (fun h=>h.elim h0 h1)];refine hc.c 0 rfl rfl ?_;have hi:i.toNat<r.l.length:=by omega
 obtain⟨ad,rfl,hcell⟩:=RowI'.elem (hR.below hc.below) i.toNat hi;refine⟨⟨by omega,by omega⟩,?_⟩;refine⟨_,hcell,?_⟩;rw [B5Y hi];exact⟨rfl,hc.below⟩
theorem B9r (hR:RosR r A cap S w):Calls Tryz.prog 52 #[.agg (R9 r A cap).toArray] w (C8 (.int .i64 (B8J r.l)) w):=by refine vE Tryz.func52 ?_;have hc:=CtxF.start w no (fun _ h=>h.elim) (R:=fun _ _=>True) trivial Stab.true;refine hc.n fun g2 wg2 hg2 hc=>?_;refine hc.a 0 rfl rfl ?_;refine hc.q (A3s 0 (hR.below hc.below)) fun wQ hQ hc=>?_;exact⟨rfl,hc.below⟩
theorem A5P (hR:RosR r A cap S w):Calls Tryz.prog 83 #[.agg (R9 r A cap).toArray] w (C8 (.int .i64 (A2q r.l)) w):=by have hM:=D4 hR;refine vE Tryz.func83 ?_;have hc:=CtxF.start w no (fun _ h=>h.elim) (R:=fun _ _=>True) trivial Stab.true;refine hc.n fun g2 wg2 hg2 hc=>?_;refine hc.a 0 rfl rfl ?_;refine hc.c 0 rfl rfl ?_;have hw1:IntKind.i64.wrap ((r.l.length:Int)-1)=(r.l.length:Int)-1:=IntWalk.i64_in _ ⟨by omega,by omega⟩;have h:=A3s ((r.l.length:Int)-1) (hR.below hc.below);rw [<-hw1] at h;refine hc.q (h) fun wQ hQ hc=>?_;refine⟨?_,hc.below⟩;show Ending.returned (.int .i64 (atI r.l (IntKind.i64.wrap ((r.l.length:Int)-1))))=_;rw [hw1];rfl
theorem A5Q (n:Int) (hR:RosR r A cap S w):Calls Tryz.prog 113 #[.agg (R9 r A cap).toArray,.int .i64 n] w (C8 (.int .i64 (A5O r.l n)) w):=by
 have hM:=D4 hR;have hs:=A2D r.l n;refine vE Tryz.func113 ?_;have hc:=CtxF.start w no (fun _ h=>h.elim) (R:=fun _ _=>True) trivial Stab.true;refine hc.n fun g2 wg2 hg2 hc=>?_;refine hc.c 0 rfl rfl ?_;refine hc.q (A0m r.l n (hR.below hc.below)) fun wQ hQ hc=>?_;unfold A5O;by_cases h0:0<=L9 r.l n
 ·rw [y6 h0];refine dt h0 ?_;refine hc.a 0 rfl rfl ?_;have hw1:IntKind.i64.wrap (L9 r.l n+1)=L9 r.l n+1:=IntWalk.i64_in _ ⟨by omega,by omega⟩;have h:=A3s (IntKind.i64.wrap (L9 r.l n+1)) (hR.below hc.below);refine hc.q (h) fun wQ hQ hc=>?_;exact⟨by rw [hw1];rfl,hc.below⟩
 ·rw [y7 h0];refine df h0 ?_;exact⟨rfl,hc.below⟩
theorem A3C (n:Int) (hR:RosR r A cap S w):Calls Tryz.prog 112 #[.agg (R9 r A cap).toArray,.int .i64 n] w (C8 (.int .i64 (A04 r.l n)) w):=by
 have hM:=D4 hR;have hs:=A2D r.l n;refine vE Tryz.func112 ?_;have hc:=CtxF.start w no (fun _ h=>h.elim) (R:=fun _ _=>True) trivial Stab.true;refine hc.n fun g2 wg2 hg2 hc=>?_;have hw1:IntKind.i64.wrap (L9 r.l n-1)=L9 r.l n-1:=IntWalk.i64_in _ ⟨by omega,by omega⟩;have hr:=hc;refine vD (.Q [0,1,2,3] (.n 4 (.q 5 (.n 6 (.q 7 .fin) .stop)) .stop)) (Old _) (Old.start _) ?_;have hk:=hc.old0;have hc:=hc.drew;refine⟨_,?_,fun x hx=>Keeps.cells hx (hr.blk 0 rfl) (hr.blk 0 rfl).lt,?_⟩
 ·rfl
 refine⟨_,fun x hx=>Keeps.cell hx (hr.blk 0 rfl) (hr.blk 0 rfl).lt rfl,?_⟩;refine⟨hc.q (A0m r.l n (hR.below hc.below)) fun wA hA hc=>?_,trivial⟩;have hk:=Keeps.below hk (fun _ h=>h) hA;refine⟨hk,?_⟩;refine⟨?_,trivial⟩;have h:=A3s (IntKind.i64.wrap (L9 r.l n-1)) (hR.below hc.below);refine hc.q (h) fun wA hA hc=>?_;have hk:=Keeps.below hk (fun _ h=>h) hA;refine⟨hk,?_⟩;refine⟨?_,hc.below⟩;unfold A04;rw [hw1];rfl
end
def A3t (l:List Int):List Value:=(List.range 6).map fun (n:Nat)=>.bool (decide ((n:Int)∈l))
theorem B0u (l:List Int) (i:Nat) (h:i<6):(A3t l)[i]?=some (.bool (decide ((i:Int)∈l))):=by unfold A3t;rw [List.getElem?_map,List.getElem?_range h];rfl
theorem B0v (l:List Int) (i:Nat) (h:i<6):(A3t l).set i (.bool true)=A3t (l++[(i:Int)]):=by
 unfold A3t;apply List.ext_getElem?;intro j;by_cases hj:j<6
 ·rw [List.getElem?_map,List.getElem?_range hj];by_cases e:i=j
  ·subst e;rw [List.getElem?_set_self (by simpa using h)];simp
  ·rw [List.getElem?_set_ne e,List.getElem?_map,List.getElem?_range hj];simp only [Option.map_some,List.mem_append,zx];congr 3;have:¬ ((j:Int)=(i:Int)):=by omega
   simp [this]
 ·rw [List.getElem?_eq_none (by simp;omega),List.getElem?_eq_none (by simp;omega)]
theorem A3D {l:List Int} {x:Int}:(l++[x]).Nodup↔l.Nodup/\x ∉ l:=by
 rw [List.nodup_append];constructor
 ·rintro⟨h1,_,h3⟩;exact⟨h1,fun hx=>h3 x hx x (List.mem_singleton.2 rfl) rfl⟩
 ·rintro⟨h1,h2⟩;refine⟨h1,by simp,fun a ha b hb e=>?_⟩;rw [zx] at hb;subst hb e;exact h2 ha
theorem A8Z (l:List Int):A2q l=l.getLastD 0:=by
 unfold A2q atI;cases l with
 | nil=>rfl
 | cons a r=>
  rw [y7 (by simp only [zi];omega)];rw [show (((a::r).length:Int)-1).toNat=(a::r).length-1 from by omega,List.getD_eq_getElem?_getD,<-List.getLast?_eq_getElem?,List.getLast?_cons,List.getLastD_cons,List.getLastD_eq_getLast?];rfl
theorem B0w (r:Ros):A6R r=(if r.ep<1 then false else if E3<r.ep then false else if r.l.length<1 then false else if 5<r.l.length then false else (r.l.all inR&&(decide r.l.Nodup&&(r.new==0||(decide (1<r.l.length)&&r.new==A2q r.l))))):=by
 unfold A6R;rw [A8Z];by_cases h1:r.ep<1
 ·rw [y6 h1,zz (by omega)];rfl
 rw [y7 h1,zy (show (1:Int)<=r.ep by omega)];by_cases h2:E3<r.ep
 ·rw [y6 h2,zz (show ¬ r.ep<=E3 by omega)];rfl
 rw [y7 h2,zy (show r.ep<=E3 by omega)];by_cases h3:r.l.length<1
 ·rw [y6 h3,zz (show ¬ 1<=r.l.length by omega)];rfl
 rw [y7 h3,zy (show 1<=r.l.length by omega)];by_cases h4:5<r.l.length
 ·rw [y6 h4,zz (show ¬ r.l.length<=5 by omega)];rfl
 rw [y7 h4,zy (show r.l.length<=5 by omega)];simp only [Bool.true_and];congr 3;rw [Bool.eq_iff_iff,z7,z7,beq_iff_eq,beq_iff_eq];exact⟨fun h=>⟨h.1,h.2.symm⟩,fun h=>⟨h.1,h.2.symm⟩⟩
theorem B0x {r:Ros} {S:Nat->Prop} {w:World} {A:Option Addr} {cap:Nat} (hR:RosR r A cap S w):Calls Tryz.prog 92 #[.agg (R9 r A cap).toArray] w (C8 (.bool (A6R r)) w):=by
 have hM:=D4 hR;have hmx:E3=1099511627776:=rfl;rw [B0w];refine vE Tryz.func92 ?_;have hc:=CtxF.start w no (fun _ h=>h.elim) (R:=fun _ _=>True) trivial Stab.true;refine hc.n fun g1 wg1 hg1 hc=>?_;refine hc.c 0 rfl rfl ?_;by_cases h1:r.ep<1
 ·rw [y6 h1];refine dt h1 ?_;exact⟨rfl,hc.below⟩
 rw [y7 h1];refine df h1 ?_;refine hc.c 0 rfl rfl ?_;by_cases h2:E3<r.ep
 ·rw [y6 h2];refine dt h2 ?_;exact⟨rfl,hc.below⟩
 rw [y7 h2];refine df h2 ?_;refine hc.c 0 rfl rfl ?_;by_cases h3:r.l.length<1
 ·rw [y6 h3];refine dt (by omega) ?_;exact⟨rfl,hc.below⟩
 rw [y7 h3];refine df (by omega) ?_;refine hc.c 0 rfl rfl ?_;by_cases h4:5<r.l.length
 ·rw [y6 h4];refine dt (by omega) ?_;exact⟨rfl,hc.below⟩
 rw [y7 h4];refine df (by omega) ?_;refine hc.n fun g3 wg3 hg3 hc=>?_;refine hc.s 0 rfl fun wS hS hc=>?_;refine hc.c 1 rfl rfl ?_;refine⟨Nat,fun i=>[(1,.pointer (some ⟨g1,0,none⟩)),(3,.pointer (some ⟨g3,0,none⟩)),(28,.slice A r.l.length cap),(29,.int .i64 (r.l.length:Int)),(30,.int .i64 (i:Int))],
  fun i wS=>i<=r.l.length/\(∀ n∈r.l.take i,inR n=true)/\(r.l.take i).Nodup/\∃ S,CtxF no w S wS [(g3,190,A3t (r.l.take i)),(g1,31,R9 r A cap)] [] (fun _ _=>True),fun i _=>r.l.length-i,0,⟨rfl,rfl,rfl,rfl,rfl,trivial⟩,⟨zb _,(fun n hn=>by cases hn),List.nodup_nil,_,hc⟩,?_⟩
 clear hc;rintro i w1 u ⟨hi,hin,hnd,S',hc⟩;by_cases hlt:i<r.l.length
 ·refine dt (by omega) ?_;obtain⟨ad,rfl,hcell⟩:=RowI'.elem (hR.below hc.below) i hlt;obtain⟨x,hx⟩:∃ x,x=r.l[i]:=⟨_,rfl⟩;rw [<-hx] at hcell;refine⟨⟨by omega,by omega⟩,?_⟩;refine⟨_,by rw [zh];exact hcell,?_⟩;have hxm:x∈r.l:=hx▸List.getElem_mem _;have bad:inR x=false->(r.l.all inR)=false:=fun h=>by rw [Bool.eq_false_iff];intro hh;rw [List.all_eq_true.1 hh x hxm] at h;cases h
  by_cases l1:x<1
  ·rw [bad (by unfold inR;rw [zz (show ¬ (1:Int)<=x by omega)];rfl)];refine dt l1 ?_;exact⟨rfl,hc.below⟩
  refine df l1 ?_;by_cases l5:5<x
  ·rw [bad (by unfold inR;rw [zz (show ¬ x<=5 by omega),Bool.and_false])];refine dt l5 ?_;exact⟨rfl,hc.below⟩
  refine df l5 ?_;obtain⟨m,hm⟩:∃ m:Nat,x=(m:Int):=⟨x.toNat,by omega⟩;subst hm;have hm6:m<6:=by omega
  refine⟨⟨by omega,by omega⟩,?_⟩;have hsc:w1.cell? ((⟨g3,0,none⟩:Addr).add ((m:Int).toNat*1))=some (.bool (decide ((m:Int)∈r.l.take i))):=by rw [Addr.add_lit,zm,zh,Nat.mul_one];exact hc.cell 0 rfl m (B0u _ m hm6)
  refine⟨_,hsc,?_⟩;have htk:r.l.take (i+1)=r.l.take i++[(m:Int)]:=by rw [List.take_succ_eq_append_getElem hlt,<-hx]
  by_cases hin2:(m:Int)∈r.l.take i
  ·have hdup:¬ r.l.Nodup:=fun hn=>by have h9:=hn.sublist (List.take_sublist (i+1) r.l);rw [htk,A3D] at h9;exact h9.2 hin2
   refine dt hin2 ?_;rw [zz hdup];simp only [Bool.false_and,Bool.and_false];exact⟨rfl,hc.below⟩
  refine df hin2 ?_;refine⟨⟨by omega,by omega⟩,?_⟩;generalize hae:((⟨g3,0,none⟩:Addr).add ((m:Int).toNat*1))=ae;have hae:(⟨g3,m,none⟩:Addr)=ae:=by rw [<-hae,Addr.add_lit,zm,zh,Nat.mul_one]
  subst hae;refine⟨hc.may 0 rfl m [.bool true] (by show m+1<=(A3t (r.l.take i)).length;unfold A3t;simp;omega) rfl,?_⟩;intro wS hS;have hS:D0 _ ⟨g3,m,none⟩ [.bool true] wS:=hS;have hc:=(hc.set 0 rfl hS).1;have hc:CtxF no w S' wS [(g3,190,(A3t (r.l.take i)).set m (.bool true)),(g1,31,R9 r (some ad) cap)] [] (fun _ _=>True):=hc;rw [B0v _ _ hm6,<-htk] at hc;refine⟨i+1,⟨rfl,rfl,rfl,rfl,y5 _ (C3 (by omega)),trivial⟩,⟨hlt,fun n hn=>?_,?_,_,hc⟩,by show r.l.length-(i+1)<r.l.length-i;omega⟩
  ·rw [htk,List.mem_append,zx] at hn;rcases hn with hn | rfl
   ·exact hin n hn
   ·unfold inR;rw [zy (show (1:Int)<=(m:Int) by omega),zy (show (m:Int)<=5 by omega)];rfl
  ·rw [htk,A3D];exact⟨hnd,hin2⟩
 refine df (by omega) ?_;obtain rfl:i=r.l.length:=by omega
 rw [List.take_length] at hin hnd;rw [List.all_eq_true.2 hin,zy hnd];simp only [Bool.true_and];by_cases hn0:r.new=0
 ·rw [(beq_iff_eq (a:=r.new) (b:=0)).2 hn0,Bool.true_or];have hr:=hc;refine vD (.Q [0,1,2,3,4,5,6,7,8,9,10,11] (.n 12 (.Q [13,14,15,16] .fin) .stop)) (Old _) (Old.start _) ?_;have hk:=hc.old0;have hc:=hc.drew;refine⟨_,fun x hx=>Keeps.cell hx (hr.blk 1 rfl) (hr.blk 1 rfl).lt rfl,?_⟩;refine B0 (by show (r.new==0)=true;rw [hn0];rfl) ?_;refine⟨?_,trivial⟩;exact⟨rfl,hc.below⟩
 rw [show (r.new==0)=false from by rw [y4];exact hn0,Bool.false_or];by_cases hl1:1<r.l.length
 ·rw [zy hl1,Bool.true_and];have hr:=hc;refine vD (.Q [0,1,2,3,4,5,6,7,8,9,10,11] (.n 12 (.Q [13,14,15,16] .fin) .stop)) (Old _) (Old.start _) ?_;have hk:=hc.old0;have hc:=hc.drew;refine⟨_,fun x hx=>Keeps.cell hx (hr.blk 1 rfl) (hr.blk 1 rfl).lt rfl,?_⟩;refine C3X (by show (r.new==0)=false;rw [y4];exact hn0) ?_;refine⟨_,fun x hx=>Keeps.cell hx (hr.blk 1 rfl) (hr.blk 1 rfl).lt rfl,?_⟩;refine dt (by omega) ?_;refine⟨_,fun x hx=>Keeps.cell hx (hr.blk 1 rfl) (hr.blk 1 rfl).lt rfl,?_⟩;refine⟨_,?_,fun x hx=>Keeps.cells hx (hr.blk 1 rfl) (hr.blk 1 rfl).lt,?_⟩
  ·rfl
  refine⟨hc.q (A5P (hR.below hc.below)) fun wA hA hc=>?_,trivial⟩;have hk:=Keeps.below hk (fun _ h=>h) hA;refine⟨hk,?_⟩;exact⟨rfl,hc.below⟩
 ·rw [zz hl1,Bool.false_and];have hr:=hc;refine vD (.Q [0,1,2,3,4,5,6,7,8,9,10,11] (.n 12 (.Q [13,14,15,16] .fin) .stop)) (Old _) (Old.start _) ?_;have hk:=hc.old0;have hc:=hc.drew;refine⟨_,fun x hx=>Keeps.cell hx (hr.blk 1 rfl) (hr.blk 1 rfl).lt rfl,?_⟩;refine C3X (by show (r.new==0)=false;rw [y4];exact hn0) ?_;refine⟨_,fun x hx=>Keeps.cell hx (hr.blk 1 rfl) (hr.blk 1 rfl).lt rfl,?_⟩;refine df (by omega) ?_;refine⟨?_,trivial⟩;exact⟨rfl,hc.below⟩
end Go.Proofs.YtefdfaeieekioaaGreatDoor
end
section
namespace Go.Proofs.YtefdfaeieekioaaGreatDoor
open Go.Vc Go.RowKit Go.Fl Go.ChangeShapes Go.WideShapes Go.ChangeAt
section
variable {r q:Ros} {S:Nat->Prop} {w:World} {A B:Option Addr} {cap cap':Nat}
end
theorem A8a {l:List Int} (h:l.Nodup) (i:Nat) (hi:i<l.length):L9 l l[i]=(i:Int):=by unfold L9;rw [A3B hi rfl fun j hj hlt e=>List.pairwise_iff_getElem.1 (show List.Pairwise (·≠·) l from h) j i hj hi hlt e]
end Go.Proofs.YtefdfaeieekioaaGreatDoor
end
section
namespace Go.Vc
open Go.RowKit
def SemC (P:Program) (n:Nat) (c:Code) (f:Fr) (w:World) (K:Exit->Fr->World->Prop):Prop:=K7 n c=true->∀ a,Agree n a f->c.wp P (B74 n K) a w
def B61 {α:Type} (l:α->List (Nat × Value)) (R:α->World->Prop) (K:Exit->Fr->World->Prop) (e:Exit) (f:Fr) (w:World):Prop:=
 match e with
 | .normal=>∃ x,B19 f (l x)/\R x w
 | e=>K e f w
def B8K:Nat->Code->Code
 | 0,.seq a _=>a
 | k+1,.seq a b=>.seq a (B8K k b)
 | _,c=>c
def B62:Nat->Code->Code
 | 0,.seq _ b=>b
 | k+1,.seq _ b=>B62 k b
 | _,_=>.skip
def B63:Nat->Code->Bool
 | 0,.seq _ _=>true
 | k+1,.seq _ b=>B63 k b
 | _,_=>false
section
variable {P:Program} {L:Lay} {n:Nat}
theorem SemC.vc (hL:L.Ok P) {c:Code} {f:Fr} {w:World} {K:Exit->Fr->World->Prop} (h:M9 P L c f w K):SemC P n c f w K:=fun hc a hA=>Q9 hL n c K a f w hA hc h
theorem SemC.cut (hL:L.Ok P) {α:Type} (l:α->List (Nat × Value)) (R:α->World->Prop) {K:Exit->Fr->World->Prop}:∀ (k:Nat) {c:Code},B63 k c=true->∀ {f:Fr} {w:World},M9 P L (B8K k c) f w (B61 l R K)->
  (∀ (x:α) (u:Fr) (w':World),R x w'->SemC P n (B62 k c) (mk (l x) u) w' K)->SemC P n c f w K
 | 0,.seq x y,_,f,w,h,hr=>fun hc a hA=>by
  simp only [K7,z7] at hc;refine wp_seq (wp_mono (Q9 hL n x _ a f w hA hc.1 h) fun e a1 w1 ⟨f1,h1,h2⟩=>?_);cases e with
  | normal=>
   obtain⟨x,hf,hR⟩:=h2;have h3:=hr x f1 w1 hR hc.2 a1;rw [A55 hf] at h3;exact h3 h1
  | _=>exact⟨f1,h1,h2⟩
 | k+1,.seq x y,hk,f,w,h,hr=>fun hc a hA=>by
  simp only [K7,z7] at hc;have h':M9 P L x f w (B6Y (M9 P L (B8K k y)) (B61 l R K)):=h;refine wp_seq (wp_mono (Q9 hL n x _ a f w hA hc.1 h') fun e a1 w1 ⟨f1,h1,h2⟩=>?_);cases e with
  | normal=>exact SemC.cut hL l R k hk h2 hr hc.2 a1 h1
  | _=>exact⟨f1,h1,h2⟩
theorem A2E (hL:L.Ok P) {k:Nat} {fn:Func} {c:Code} {args:List Value} {w:World} {R:Ending->World->Prop}
  (hf:P.funcs[k]?=some fn) (hb:fn.body=some c) (ha:Nat.ble args.length fn.ntmps=true) (hc:K7 fn.ntmps c=true)
  (h:SemC P fn.ntmps c (A52 args) w (fnK L fn.results R)):Calls P k args.toArray w R:=by
 refine calls_of_wp hf hb ?_;have hn:=ze ha;have hA:Agree fn.ntmps { tmps:=args.toArray++Array.replicate (fn.ntmps-args.toArray.size) undef,defers:=[] } (A52 args):=by
  refine⟨rfl,by simp;omega,fun t=>?_⟩;unfold A52;rw [Array.getD_eq_getD_getElem?,List.getD_eq_getElem?_getD];rcases zl t args.length with h1 | h1
  ·rw [Array.getElem?_append_left (by simpa using h1)];simp
  ·rw [Array.getElem?_append_right (by simpa using h1),List.getElem?_eq_none h1];simp only [Array.getElem?_replicate];split<;>rfl
 refine wp_mono (h hc _ hA) fun e a w ⟨f,h1,h2⟩=>?_;cases e with
 | normal=>exact⟨h1.1,M1 hL _ a f w h1 fn R h2⟩
 | ret=>exact⟨h1.1,M1 hL _ a f w h1 fn R h2⟩
 | _=>exact h2.elim
end
end Go.Vc
end
namespace Go.Proofs.YtefdfaeieekioaaGreatDoor
open Go.Vc Go.RowKit Go.Fl Go.ChangeShapes Go.WideShapes Go.ChangeAt
def B64 (d:D):Bool:=!L3 d
theorem B26 {P:Program} {L:Lay} {f:Nat} {xs:List Value} {w:World} {K:Value->World->Prop} (h:L.fns f=true) (k:CallVc P f xs w K):X3 P L f xs w K:=by unfold X3;rw [h];exact k
theorem B0y (p:D->Bool) (f:Nat) (hfn:lay.fns f=true) (hf:∀ (d:D),d.Ok->∀ w,Calls Tryz.prog f #[.agg (dC d).toArray] w (C8 (.bool (p d)) w)) (l:List D) (hl:∀ d∈l,d.Ok) (A:Option Addr) (cap:Nat) (S:Nat->Prop) (w:World) (hR:Row S w A l.length cap (l.map dC).flatten):
  Calls Tryz.prog 114 #[.slice A l.length cap,.func (.func f) #[] #[]] w (C8 (.int .i64 (B5A (l.findIdx? p))) w):=by
 refine vE Tryz.func114 ?_;have hM:l.length<=9223372036854775807:=zo hR.1 hR.2.1;refine⟨Nat,fun i=>[(0,.slice A l.length cap),(1,.func (.func f) #[] #[]),(7,.int .i64 l.length),(8,.int .i64 i)],
  fun i w'=>i<=l.length/\(∀ j (hj:j<l.length),j<i->p l[j]=false)/\Below w.heap.size w w',fun i _=>l.length-i,0,
  ⟨rfl,rfl,rfl,rfl,trivial⟩,⟨zb _,fun j hj h=>absurd h (Nat.not_lt_zero _),Below.refl _ _⟩,?_⟩
 rintro i w' u ⟨hi,he,hb⟩;by_cases hlt:i<l.length
 ·refine dt (by omega) ?_;obtain⟨ad,rfl,hcell⟩:=Row.elemF (hR.below hb) (by decide) (V4 _) i (by rw [zj];exact hlt);rw [List.getElem_map] at hcell;refine⟨⟨by omega,by omega⟩,?_⟩;refine⟨dC l[i],rfl,hcell,?_⟩;refine B26 (L:=lay) hfn ?_;refine B4 (hf l[i] (hl _ (List.getElem_mem hlt)) w') ?_;intro w2 h2;have hb2:=hb.trans (h2.mono hb.size);rcases Bool.eq_false_or_eq_true (p l[i]) with hv | hv
  ·refine B0 hv ?_;refine⟨?_,hb2⟩;rw [A16 p l i hlt hv he];rfl
  ·refine C3X hv ?_;refine⟨i+1,⟨rfl,rfl,rfl,y5 _ (C3 (by omega)),trivial⟩,⟨hlt,fun j hj h=>?_,hb2⟩,by show l.length-(i+1)<l.length-i;omega⟩;rcases Nat.lt_succ_iff_lt_or_eq.1 h with h | h
   ·exact he j hj h
   ·subst h;exact hv
 ·refine df (by omega) ?_;refine⟨?_,hb⟩;rw [A17 p l (fun j hj=>he j hj (by omega))];rfl
theorem A5R (p:D->Bool) (f:Nat) (hfn:lay.fns f=true) (hf:∀ (d:D),d.Ok->∀ w,Calls Tryz.prog f #[.agg (dC d).toArray] w (C8 (.bool (p d)) w)) (l:List D) (hl:∀ d∈l,d.Ok) (A:Option Addr) (cap:Nat) (S:Nat->Prop) (w:World) (hR:Row S w A l.length cap (l.map dC).flatten):
  Calls Tryz.prog 63 #[.slice A l.length cap,.func (.func f) #[] #[]] w (C8 (.bool (l.any p)) w):=by
 refine vE Tryz.func63 ?_;refine B4 (B0y p f hfn hf l hl A cap S w hR) ?_;intro w2 h2;exact⟨B7 (A3m p l),h2⟩
structure WX where
 A:Option Addr
 cA:Nat
 B:Option Addr
 cB:Nat
 y:SX
def WX0:WX:=⟨none,0,none,0,SX0⟩
def wdC (v:Wd) (x:WX):List Value:=[.int .i64 v.kind,.int .i64 v.frm,.int .i64 v.to,.int .i64 v.ep,.int .i64 v.seq,.int .i64 v.req,.int .i64 v.til,.int .i64 v.res.err,.int .i64 v.res.ver,.int .i64 v.ros.ep,.slice x.A v.ros.l.length x.cA,.int .i64 v.ros.new,.slice x.B v.deeds.length x.cB,
 .int .i64 v.st.seq,.slice x.y.A v.st.l.length x.y.cap,.slice x.y.B v.st.ms.length x.y.cap',.int .i64 x.y.l0,.int .i64 x.y.l1,.int .i64 x.y.l2,.int .i64 x.y.l3,.int .i64 x.y.l4]
def WdR (v:Wd) (x:WX):Kn:=fun S w=>(RosR v.ros x.A x.cA S w/\Row S w x.B v.deeds.length x.cB (v.deeds.map dC).flatten)/\RepS S w v.st (stX v.st x.y)
theorem A2F {A:Option Addr} {n cap:Nat} {xs:List Value}:Stab (fun S w=>Row S w A n cap xs):=fun _ _ _ _ h f=>h.fut f
theorem WdR.stab (v:Wd) (x:WX):Stab (WdR v x):=((RosR.stab _ _ _).and A2F).and (A7S _ _)
theorem yb {v:Wd} {x:WX}:Stab (WdR v x):=WdR.stab _ _
theorem WdR.below {v:Wd} {x:WX} {S:Nat->Prop} {w w':World} (h:WdR v x S w) (hb:Below w.heap.size w w'):WdR v x S w':=⟨⟨Row.below h.1.1 hb,h.1.2.below hb⟩,h.2.below hb⟩
theorem C05:(lay.ty 43).zero=wdC Wd0 WX0:=by kernel_rfl
theorem A6S (S:Nat->Prop) (w:World):WdR Wd0 WX0 S w:=⟨⟨A28 _ _,A28 _ _⟩,A15 _ _⟩
def A9L (n:Int):Bool:=!B24 n
theorem A7c (n:Int) (w:World):Calls Tryz.prog 87 #[.int .i64 n] w (C8 (.bool (A5N n)) w):=by
 refine vE Tryz.func87 ?_;unfold A5N;by_cases h:0<=n
 ·rw [zy h];refine dt h ?_;exact⟨rfl,Below.refl _ _⟩
 ·rw [zz h];refine df h ?_;exact⟨rfl,Below.refl _ _⟩
theorem B27 (n:Int) (w:World):Calls Tryz.prog 89 #[.int .i64 n] w (C8 (.bool (A9L n)) w):=by
 have hm:E3=1099511627776:=rfl;refine vE Tryz.func89 ?_;unfold A9L B24;by_cases h:n<0
 ·rw [zz (show ¬ 0<=n by omega)];refine dt h ?_;exact⟨rfl,Below.refl _ _⟩
 ·rw [zy (show 0<=n by omega)];refine df h ?_;refine⟨?_,Below.refl _ _⟩;by_cases h2:n<=E3
  ·rw [zy h2];show Ending.returned (.bool (decide (1099511627776<n)))=_;rw [zz (by omega)];rfl
  ·rw [zz h2];show Ending.returned (.bool (decide (1099511627776<n)))=_;rw [zy (by omega)];rfl
theorem B28 (d:D) (hd:d.Ok) (w:World):Calls Tryz.prog 91 #[.agg (dC d).toArray] w (C8 (.bool (B64 d)) w):=by refine vE Tryz.func91 ?_;have hc:=CtxF.start w no (fun _ h=>h.elim) (R:=fun _ _=>True) trivial Stab.true;refine hc.n fun g1 wg1 hg1 hc=>?_;refine hc.a 0 rfl rfl ?_;refine hc.q (A3X d hd _) fun wQ hQ hc=>?_;exact⟨rfl,hc.below⟩
theorem A6T (l:List Int) (A:Option Addr) (cap:Nat) (S:Nat->Prop) (w:World) (hR:Row S w A l.length cap (A1F l)):
  Calls Tryz.prog 157 #[.slice A l.length cap,.func (.func 89) #[] #[]] w (C8 (.int .i64 (B5A (l.findIdx? A9L))) w):=by
 refine vE Tryz.func157 ?_;have hM:=D4 hR;refine⟨Nat,fun i=>[(0,.slice A l.length cap),(1,.func (.func 89) #[] #[]),(7,.int .i64 l.length),(8,.int .i64 i)],
  fun i w'=>i<=l.length/\(∀ j (hj:j<l.length),j<i->A9L l[j]=false)/\Below w.heap.size w w',fun i _=>l.length-i,0,
  ⟨rfl,rfl,rfl,rfl,trivial⟩,⟨zb _,fun j hj h=>absurd h (Nat.not_lt_zero _),Below.refl _ _⟩,?_⟩
 rintro i w' u ⟨hi,he,hb⟩;by_cases hlt:i<l.length
 ·refine dt (by omega) ?_;obtain⟨ad,rfl,hcell⟩:=RowI'.elem (hR.below hb) i hlt;refine⟨⟨by omega,by omega⟩,?_⟩;refine⟨_,by rw [zh];exact hcell,?_⟩;refine B4 (B27 l[i] w') ?_;intro w2 h2;have hb2:=hb.trans (h2.mono hb.size);rcases Bool.eq_false_or_eq_true (A9L l[i]) with hv | hv
  ·refine B0 hv ?_;refine⟨?_,hb2⟩;rw [A16 A9L l i hlt hv he];rfl
  ·refine C3X hv ?_;refine⟨i+1,⟨rfl,rfl,rfl,y5 _ (C3 (by omega)),trivial⟩,⟨hlt,fun j hj h=>?_,hb2⟩,by show l.length-(i+1)<l.length-i;omega⟩;rcases Nat.lt_succ_iff_lt_or_eq.1 h with h | h
   ·exact he j hj h
   ·subst h;exact hv
 ·refine df (by omega) ?_;refine⟨?_,hb⟩;rw [A17 A9L l (fun j hj=>he j hj (by omega))];rfl
theorem A2r (l:List Int) (A:Option Addr) (cap:Nat) (S:Nat->Prop) (w:World) (hR:Row S w A l.length cap (A1F l)):
  Calls Tryz.prog 88 #[.slice A l.length cap,.func (.func 89) #[] #[]] w (C8 (.bool (l.any A9L)) w):=by
 refine vE Tryz.func88 ?_;refine B4 (A6T l A cap S w hR) ?_;intro w2 h2;exact⟨B7 (A3m A9L l),h2⟩
theorem B9I {w:World} {g T:Nat} {xs:List Value} (hB:Blk w g T xs) (n:Nat) (hn:n<=maxLen):Row (fun b=>b=g) w (some ⟨g,0,none⟩) n n xs:=
 ⟨zc _,hn,fun _=>⟨_,rfl,rfl,fun j u hu=>by rw [Addr.add_lit,zm,hB.cell];exact hu⟩⟩
theorem B29 (l:List D):l.any B64=!(l.all L3):=by
 induction l with
 | nil=>rfl
 | cons a r ih=>rw [List.any_cons,List.all_cons,ih];unfold B64;cases L3 a<;>rfl
theorem B3A (v:Wd) (hvd:∀ d∈v.deeds,d.Ok) (hvk:∀ e∈v.st.l,X6 e.key) (x:WX) (S:Nat->Prop) (w:World) (hR:WdR v x S w):Calls Tryz.prog 46 #[.agg (wdC v x).toArray] w (C8 (.bool (A51 v)) w):=by
 have hm:E3=1099511627776:=rfl;have hMd:=D4 hR.1.2;have hno:(¬ ((1<=v.kind/\v.kind<=11)/\(0<=v.frm/\v.frm<=5)/\(0<=v.to/\v.to<=5)/\v.frm≠v.to/\(0<=v.res.err/\v.res.err<=13)))->A51 v=false:=fun h=>by rw [Bool.eq_false_iff];intro hh;obtain⟨a,b,c,d,_,_,_,_,_,e⟩:=J7.1 (Q5.1 hh).1;exact h ⟨a,b,c,d,e⟩
 refine vE Tryz.func46 ?_;have hc:=CtxF.start w no (fun _ h=>h.elim) (R:=fun _ _=>True) trivial Stab.true;refine hc.n fun g1 wg1 hg1 hc=>?_;refine hc.c 0 rfl rfl ?_;refine hc.c 0 rfl rfl ?_;refine hc.c 0 rfl rfl ?_;refine hc.c 0 rfl rfl ?_;refine hc.c 0 rfl rfl ?_;refine hc.n fun g2 wg2 hg2 hc=>?_;have hi:A1F [v.ep,v.seq,v.req,v.til,v.res.ver]=[.int .i64 v.ep,.int .i64 v.seq,.int .i64 v.req,.int .i64 v.til,.int .i64 v.res.ver]:=rfl;refine hc.q (A2r [v.ep,v.seq,v.req,v.til,v.res.ver] (some ⟨g2,0,none⟩) 5 (fun b=>b=g2) _ (B9I (hc.blk 0 rfl) 5 (by decide))) fun wQ hQ hc=>?_;refine hc.c 1 rfl rfl ?_;by_cases k1:v.kind<1
 ·rw [hno (by omega)];refine dt k1 ?_;exact⟨rfl,hc.below⟩
 refine df k1 ?_;refine hc.c 1 rfl rfl ?_;by_cases k2:11<v.kind
 ·rw [hno (by omega)];refine dt k2 ?_;exact⟨rfl,hc.below⟩
 refine df k2 ?_;refine hc.c 1 rfl rfl ?_;have hn1:=A7c v.frm;cases f1:A5N v.frm with
 | false=>
  have f1':¬ (0<=v.frm/\v.frm<=5):=fun h=>by rw [V5.2 h] at f1;cases f1
  rw [f1] at hn1;rw [hno (by omega)];refine hc.q (hn1 _) fun wQ hQ hc=>?_;exact⟨rfl,hc.below⟩
 | true=>
 have f1':=V5.1 f1;rw [f1] at hn1;refine hc.q (hn1 _) fun wQ hQ hc=>?_;refine hc.c 1 rfl rfl ?_;have hn2:=A7c v.to;cases f2:A5N v.to with
 | false=>
  have f2':¬ (0<=v.to/\v.to<=5):=fun h=>by rw [V5.2 h] at f2;cases f2
  rw [f2] at hn2;rw [hno (by omega)];refine hc.q (hn2 _) fun wQ hQ hc=>?_;exact⟨rfl,hc.below⟩
 | true=>
 have f2':=V5.1 f2;rw [f2] at hn2;refine hc.q (hn2 _) fun wQ hQ hc=>?_;refine hc.c 1 rfl rfl ?_;refine hc.c 1 rfl rfl ?_;by_cases e1:v.frm=v.to
 ·rw [hno (fun h=>h.2.2.2.1 e1)];refine B0 (by show (v.frm==v.to)=true;rw [beq_iff_eq];exact e1) ?_;exact⟨rfl,hc.below⟩
 refine C3X (by show (v.frm==v.to)=false;rw [y4];exact e1) ?_;cases hb:[v.ep,v.seq,v.req,v.til,v.res.ver].any A9L with
 | true=>
  have hx:A51 v=false:=by
   rw [Bool.eq_false_iff];intro hh;obtain⟨_,_,_,_,a,b,c,d,e,_⟩:=J7.1 (Q5.1 hh).1;simp only [List.any_cons,List.any_nil,Bool.or_false,Bool.or_eq_true,A9L,Bool.not_eq_true'] at hb;rcases hb with hb | hb | hb | hb | hb
   ·rw [I8.2 a] at hb;cases hb
   ·rw [I8.2 b] at hb;cases hb
   ·rw [I8.2 c] at hb;cases hb
   ·rw [I8.2 d] at hb;cases hb
   ·rw [I8.2 e] at hb;cases hb
  rw [hx];exact⟨rfl,hc.below⟩
 | false=>
 refine hc.c 1 rfl rfl ?_;by_cases r1:v.res.err<0
 ·rw [hno (by omega)];refine dt r1 ?_;exact⟨rfl,hc.below⟩
 refine df r1 ?_;refine hc.c 1 rfl rfl ?_;by_cases r2:13<v.res.err
 ·rw [hno (by omega)];refine dt r2 ?_;exact⟨rfl,hc.below⟩
 refine df r2 ?_;have hhead:B0r v=true:=by simp only [List.any_cons,List.any_nil,Bool.or_false,Bool.or_eq_false_iff,A9L,Bool.not_eq_false'] at hb;obtain⟨a,b,c,d,e⟩:=hb;exact J7.2 ⟨by omega,f1',f2',e1,I8.1 a,I8.1 b,I8.1 c,I8.1 d,I8.1 e,by omega⟩
 unfold A51;rw [hhead,Bool.true_and];refine⟨R9 v.ros x.A x.cA,rfl,hc.cellsAt 1 rfl 9 (R9 v.ros x.A x.cA) rfl,?_⟩;have hq2:Calls Tryz.prog 90 [Value.agg (R9 v.ros x.A x.cA).toArray,Value.agg #[.int .i64 0,.slice none 0 0,.int .i64 0]].toArray wQ (C8 (.bool (eqR v.ros Ros0)) wQ):=B5Z (RosR.below hR.1.1 hc.below) (Ros0.rep no wQ);refine hc.q (hq2) fun wQ hQ hc=>?_;refine hc.c 1 rfl rfl ?_;refine hc.q (A5R B64 91 (by kernel_rfl) B28 v.deeds hvd x.B x.cB S _ (hR.1.2.below hc.below)) fun wQ hQ hc=>?_;rw [B29];cases hq:eqR v.ros Ros0 with
 | true=>
  rw [Bool.true_or,Bool.true_and];refine hc.c 1 rfl rfl ?_;by_cases h60:v.deeds.length<=60;rotate_left
  ·rw [zz h60];refine df (by omega) ?_;exact⟨rfl,hc.below⟩
  rw [zy h60];refine dt (by omega) ?_;cases hall:v.deeds.all L3 with
  | false=>exact⟨rfl,hc.below⟩
  | true=>
  refine⟨stX v.st x.y,rfl,hc.cellsAt 1 rfl 13 (stX v.st x.y) rfl,?_⟩;refine hc.q (A3h v.st hvk (stX v.st x.y) S _ (hR.2.below hc.below)) fun wQ hQ hc=>?_;exact⟨rfl,hc.below⟩
 | false=>
  rw [Bool.false_or];refine⟨R9 v.ros x.A x.cA,rfl,hc.cellsAt 1 rfl 9 (R9 v.ros x.A x.cA) rfl,?_⟩;have hmr:=B0x (r:=v.ros) (A:=x.A) (cap:=x.cA) (S:=S) (w:=wQ) (RosR.below hR.1.1 hc.below);cases hmr2:A6R v.ros with
  | false=>
   rw [hmr2] at hmr;refine hc.q (hmr) fun wQ hQ hc=>?_;exact⟨rfl,hc.below⟩
  | true=>
  rw [hmr2] at hmr;refine hc.q (hmr) fun wQ hQ hc=>?_;rw [Bool.true_and];refine hc.c 1 rfl rfl ?_;by_cases h60:v.deeds.length<=60;rotate_left
  ·rw [zz h60];refine df (by omega) ?_;exact⟨rfl,hc.below⟩
  rw [zy h60];refine dt (by omega) ?_;cases hall:v.deeds.all L3 with
  | false=>exact⟨rfl,hc.below⟩
  | true=>
  refine⟨stX v.st x.y,rfl,hc.cellsAt 1 rfl 13 (stX v.st x.y) rfl,?_⟩;refine hc.q (A3h v.st hvk (stX v.st x.y) S _ (hR.2.below hc.below)) fun wQ hQ hc=>?_;exact⟨rfl,hc.below⟩
end Go.Proofs.YtefdfaeieekioaaGreatDoor
namespace Go.Proofs.YtefdfaeieekioaaGreatDoor
open Go.Vc Go.RowKit Go.Fl
structure Sh where
 tot:Int
 first:ByteArray
 base:Known
 l:List Rc
 np:Nat
 kept:Bool
 down:Bool
def Sh.texts (H:Sh):List ByteArray:=H.first::H.l.map Q3
def Sh.txt (H:Sh):List UInt8:=D6 H.texts
def Sh.room (H:Sh):Int:=H.tot-H.txt.length
def Sh.k (H:Sh):Known:=A8V H.base H.l
def Sh.scr (H:Sh):Scroll:=⟨⟨H.txt.toArray⟩,((D6 (H.texts.take (1+H.np))).length:Nat),H.kept⟩
structure Sh.Ok (H:Sh):Prop where
 first:FirstOk H.first H.base
 can:Can H.base H.l
 np:H.np<=H.l.length
 tot:H.tot<=1048576
 room:0<=H.room
theorem Sh.Ok.k {H:Sh} (h:H.Ok):H.k.Ok:=Can.ok h.first.ok h.can
theorem Sh.Ok.size {H:Sh} (h:H.Ok):(H.txt.length:Int)<=1048576:=by have h1:=h.tot;have h2:=h.room;unfold Sh.room at h2;omega
theorem Sh.Ok.sizes {H:Sh} (h:H.Ok):∀ x∈H.texts,x.size<=400000:=fun x hx=>by
 cases hx with
 | head=>have:=h.first.size;omega
 | tail _ hx=>
  obtain⟨r,hr,rfl⟩:=List.mem_map.1 hx;have:=A0N (Can.mem h.can r hr);omega
theorem A05 (l:List ByteArray) (s:ByteArray):D6 (l++[s])=D6 l++J2 s:=by rw [Y4];show _++(J2 s++[])=_;rw [zw]
def E9 (s:ByteArray):Int:=((J2 s).length:Nat)
theorem A3u (s:ByteArray) (h:s.size<=400000):10<=E9 s/\E9 s<=s.size+17:=by have h1:=A3q s h;have h2:=M2 s (by omega);unfold E9;rw [A0M s h,z6,Q2] at*;omega
def Sh.write (H:Sh) (r:Rc) (press:Bool):Sh:=⟨H.tot,H.first,H.base,H.l++[r],if press then H.l.length+1 else H.np,H.kept||press,H.down⟩
def Sh.fell (H:Sh):Sh:=⟨H.tot,H.first,H.base,H.l,H.np,H.kept,true⟩
theorem Sh.write_texts (H:Sh) (r:Rc) (p:Bool):(H.write r p).texts=H.texts++[Q3 r]:=by show H.first::(H.l++[r]).map Q3=H.first::H.l.map Q3++[Q3 r];rw [List.map_append];rfl
theorem Sh.write_txt (H:Sh) (r:Rc) (p:Bool):(H.write r p).txt=H.txt++J2 (Q3 r):=by unfold Sh.txt;rw [Sh.write_texts,A05]
theorem Sh.write_room (H:Sh) (r:Rc) (p:Bool):(H.write r p).room=H.room-E9 (Q3 r):=by unfold Sh.room E9;rw [Sh.write_txt,z6];show H.tot-_=_;omega
theorem Sh.write_k (H:Sh) (r:Rc) (p:Bool):(H.write r p).k=A0O H.k r:=A8W _ _ _
theorem Sh.Ok.write {H:Sh} (h:H.Ok) {r:Rc} (hr:r.Ok) (hc:B2B H.k r) (p:Bool) (hroom:E9 (Q3 r)<=H.room):(H.write r p).Ok:=by
 refine⟨h.first,Can.snoc h.can hr hc,?_,h.tot,?_⟩
 ·have:=h.np;show (if p then H.l.length+1 else H.np)<=(H.l++[r]).length;rw [z6];simp only [zi,List.length_nil];split<;>omega
 ·rw [Sh.write_room];omega
theorem Sh.Ok.fell {H:Sh} (h:H.Ok):H.fell.Ok:=⟨h.first,h.can,h.np,h.tot,h.room⟩
theorem Sh.write_pressed {H:Sh} (h:H.Ok) (r:Rc) (p:Bool):((H.write r p).scr).pressed=if p then ((H.txt++J2 (Q3 r)).length:Int) else H.scr.pressed:=by
 show ((D6 ((H.write r p).texts.take (1+if p then H.l.length+1 else H.np))).length:Int)=_;rw [Sh.write_texts];have hlen:H.texts.length=H.l.length+1:=by show (H.first::H.l.map Q3).length=_;rw [zi,zj]
 cases p with
 | true=>
  rw [y6 rfl,y6 rfl,List.take_of_length_le (by rw [z6,hlen];simp only [zi,List.length_nil];omega),A05];rfl
 | false=>
  have:=h.np;rw [y7 (by decide),y7 (by decide),List.take_append_of_le_length (by omega)];rfl
def Sh.lay (H:Sh) (k:Known):Sh:=⟨H.tot,⟨(A6P k).toArray⟩,k,[],0,true,H.down⟩
end Go.Proofs.YtefdfaeieekioaaGreatDoor
section
namespace Go.Vc
open Go Go.RowKit
open Go.Proofs.YtefdfaeieekioaaGreatDoor (no)
def In (G:Nat->Prop) (R:Kn):Kn:=fun S w=>∃ Sr:Nat->Prop,(∀ x,Sr x->S x/\G x)/\R Sr w
theorem In.stab {G:Nat->Prop} {R:Kn} (hR:Stab R):Stab (In G R):=fun S w S' w' h f=>by obtain⟨Sr,h1,h2⟩:=h;exact⟨Sr,fun x hx=>⟨f.1 x (h1 x hx).1,(h1 x hx).2⟩,hR _ _ _ _ h2 ⟨fun _ h=>h,fun x hx=>f.2 x (h1 x hx).1⟩⟩
def B9J (S:Nat->Prop) (w:World):Nat->Prop:=fun x=>S x\/w.heap.size<=x
def KL (w:World) (g:Nat) (S:Nat->Prop) (R:Kn):Kn:=fun S' w'=>Keep w (fun x=>x=g) S' w'/\In (B9J S w) R S' w'
theorem KL.stab {w:World} {g:Nat} {S:Nat->Prop} {R:Kn} (hR:Stab R):Stab (KL w g S R):=y8.and (In.stab hR)
section
variable {w w1 w':World} {S S1:Nat->Prop} {l:List LB} {os:List OR} {R:Kn} {g T:Nat} {cs cs':List Value}
theorem CtxF.enterL (hB:Blk w g T cs) (hS:∀ x,S x->x<w.heap.size/\x≠g) (hR:R S w) (hs:Stab R):CtxF no (bare w) (fun x=>x<w.heap.size/\x≠g) w [(g,T,cs)] [] (KL w g S R):=
 CtxF.enter (fun x hx=>hx.1) ⟨zb _,fun h=>h.2 rfl,hB,(fun x hx=>by cases hx),trivial⟩ trivial ⟨fun x hx hn=>⟨⟨hx,hn⟩,rfl⟩,S,fun x hx=>⟨hS x hx,.inl hx⟩,hR⟩ (KL.stab hs)
theorem CtxF.sizeL (hc:CtxF no (bare w) S1 w1 l os (KL w g S R)) (k:Nat) (hk:l[k]?=some (g,T,cs)):w.heap.size<=w1.heap.size:=by
 have hB:=(hc.blk k hk).lt;by_cases e:g=w.heap.size-1
 ·omega
 ·rcases Nat.eq_zero_or_pos w.heap.size with h0 | h0
  ·omega
  ·have:=heap_lt (hc.row.1 (w.heap.size-1) (by omega) (fun h=>e h.symm)).2 (by omega);omega
theorem CtxF.inL (hc:CtxF no (bare w) S1 w1 l os (KL w g S R)) (hs:Stab R) (k:Nat) (hk:l[k]?=some (g,T,cs)):
  ∃ Sr:Nat->Prop,R Sr w1/\(∀ x,Sr x->S1 x)/\∀ {w':World} {l':List LB} {R':Kn} {os':List OR} {E:Nat->Prop},CtxF no (bare w) E w' l' os' R'/\Fut S1 w1 E w'->(∀ x,ext Sr w1 w' x->E x\/∃ o∈os',∃ a,o.A=some a/\a.block=x)->∀ {X:Kn},Stab X->X (fun x=>ext Sr w1 w' x/\E x) w'->CtxF no (bare w) E w' l' os' (KL w g S (fun S w=>R S w/\X S w)):=by
 have hsz:=hc.sizeL k hk;obtain⟨hk1,Sr,h1,h2⟩:=hc.row;refine⟨Sr,h2,fun x hx=>(h1 x hx).1,fun {w' l' R' os' E} hh hE {X} hX hx=>?_⟩;obtain⟨hc',hf⟩:=hh;refine hc'.now (fun _=>⟨Keep.stab _ _ _ _ _ _ hk1 hf,fun x=>ext Sr w1 w' x/\E x,fun x hx=>⟨hx.2,?_⟩,hs _ _ _ _ h2 ⟨fun x hx=>⟨.inl hx,hf.1 x (h1 x hx).1⟩,fun x hx=>hf.2 x (h1 x hx).1⟩,hx⟩) (KL.stab (hs.and hX));rcases hx.1 with h | h
 ·exact (h1 x h).2
 ·exact .inr (zo hsz h.1)
theorem CtxF.nowL {R':Kn} (hc:CtxF no (bare w) S1 w1 l os (KL w g S R)) (h:∀ S w,R S w->R' S w) (hs:Stab R'):CtxF no (bare w) S1 w1 l os (KL w g S R'):=
 hc.now (fun ⟨h1,Sr,h2,h3⟩=>⟨h1,Sr,h2,h _ _ h3⟩) (KL.stab hs)
theorem CtxF.toldL {o:OR} (hc:CtxF no (bare w) S1 w1 l (o::os) (KL w g S R)) (hs:Stab R) (k:Nat) (hk:l[k]?=some (g,T,cs)):∃ S2,CtxF no (bare w) S2 w1 l os (KL w g S (fun S w=>R S w/\Row S w o.A o.n o.cap o.xs)):=by
 have hnew:∀ a,o.A=some a->w.heap.size<=a.block:=fun a ha=>by
  rcases zl a.block w.heap.size with h | h
  ·have h1:=hc.fst.out a ha;have h2:=h1.2 _ (List.mem_of_getElem? hk);exact absurd (hc.row.1 a.block h (fun e=>h2 e.symm)).1 h1.1
  ·exact h
 obtain⟨S2,h2,hc2⟩:=hc.told;refine⟨S2,hc2.now (fun hh=>?_) (KL.stab (hs.and fun _ _ _ _ h f=>h.fut f))⟩;obtain⟨⟨hk1,Sr,j1,j2⟩,hR1,hR2,hR3⟩:=hh;refine⟨hk1,fun x=>Sr x\/(S2 x/\∃ a,o.A=some a/\a.block=x),fun x hx=>?_,hs _ _ _ _ j2 ⟨fun x hx=>.inl hx,fun _ _=>rfl⟩,hR1,hR2,fun hx=>?_⟩
 ·rcases hx with hx | ⟨hx,a,ha,rfl⟩
  ·exact j1 x hx
  ·exact⟨hx,.inr (hnew a ha)⟩
 ·obtain⟨ad,e,hsa,hcl⟩:=hR3 hx;exact⟨ad,e,.inr ⟨hsa,ad,e,rfl⟩,hcl⟩
theorem CtxF.leaveL (hc:CtxF no (bare w) S1 w' [(g,T,cs')] os (KL w g S R)) (hs:Stab R):Turn (fun x=>x=g) w w'/\Blk w' g T cs'/\∃ Sr:Nat->Prop,(∀ x,Sr x->S1 x/\ext S w w' x)/\R Sr w':=by
 obtain⟨hk1,Sr,h1,h2⟩:=hc.row;refine⟨hc.leave hk1,hc.blk 0 rfl,Sr,fun x hx=>⟨(h1 x hx).1,?_⟩,h2⟩;rcases (h1 x hx).2 with h | h
 ·exact .inl h
 ·exact .inr ⟨h,hc.ctx.lt x (h1 x hx).1⟩
end
end Go.Vc
namespace Go.Proofs.YtefdfaeieekioaaGreatDoor
open Go.Vc Go.RowKit Go.Fl Go.ChangeShapes Go.WideShapes Go.ChangeAt
def knC (k:Known) (x:SX) (A:Option Addr) (cap:Nat):List Value:=[.int .i64 k.b.seq,.slice x.A k.b.l.length x.cap,.slice x.B k.b.ms.length x.cap',.int .i64 x.l0,.int .i64 x.l1,.int .i64 x.l2,.int .i64 x.l3,.int .i64 x.l4,.slice A k.pend.length cap,.int .i64 k.ep,.int .i64 k.ln]
def KnR (k:Known) (x:SX) (A:Option Addr) (cap:Nat):Kn:=fun S w=>RepS S w k.b (stX k.b x)/\Row S w A k.pend.length cap (k.pend.map dC).flatten
theorem KnR.stab (k:Known) (x:SX) (A:Option Addr) (cap:Nat):Stab (KnR k x A cap):=(A7S _ _).and fun _ _ _ _ h f=>h.fut f
theorem yc {k:Known} {x:SX} {A:Option Addr} {cap:Nat}:Stab (KnR k x A cap):=KnR.stab _ _ _ _
theorem A3v (k:Known) (h:k.Ok) (x:SX) (A:Option Addr) (cap:Nat) (w:World):Calls Tryz.prog 53 #[.agg (knC k x A cap).toArray] w (C8 (.int .i64 k.seq) w):=by have hs:=h.seq;have hl:=h.len;have h0:=(C5.1 h.may).1.1;have hm:E3=1099511627776:=rfl;refine vE Tryz.func53 ?_;have hc:=CtxF.start w no (fun _ h=>h.elim) (R:=fun _ _=>True) trivial Stab.true;refine hc.n fun g1 wg1 hg1 hc=>?_;refine hc.c 0 rfl rfl ?_;refine hc.c 0 rfl rfl ?_;refine⟨?_,hc.below⟩;show Ending.returned (.int .i64 (IntKind.i64.wrap (k.b.seq+(k.pend.length:Int))))=_;rw [IntWalk.i64_in _ ⟨by omega,by omega⟩];rfl
def RetKn (g T:Nat) (wrap:List Value->List Value) (S:Nat->Prop) (w:World) (v:Value) (k:Known) (en:Ending) (w':World):Prop:=
 en=.returned v/\Turn (fun x=>x=g) w w'/\∃ x A cap,Blk w' g T (wrap (knC k x A cap))/\KnR k x A cap (ext S w w') w'
theorem RetKn.mk {g T:Nat} {wrap:List Value->List Value} {S S1:Nat->Prop} {w w':World} {k:Known} {x:SX} {A:Option Addr} {cap:Nat} {cs:List Value} {os:List OR} (hc:CtxF no (bare w) S1 w' [(g,T,cs)] os (KL w g S (KnR k x A cap))) (e:cs=wrap (knC k x A cap)) (v:Value):RetKn g T wrap S w v k (.returned v) w':=by obtain⟨h1,h2,Sr,h3,h4⟩:=hc.leaveL yc;subst e;exact⟨rfl,h1,x,A,cap,h2,KnR.stab _ _ _ _ _ _ _ _ h4 ⟨fun x hx=>(h3 x hx).2,fun _ _=>rfl⟩⟩
def U1 (k:Known) (d:D):Int:=if L3 d then (if 60<=k.pend.length\/E3<=k.seq then 5 else 0) else 1
def B5a (k:Known) (d:D):Known:=if U1 k d=0 then ⟨k.b,k.pend++[d],k.ep,k.ln⟩ else k
theorem B0z (k:Known) (h:k.Ok) (d:D) (hd:d.Ok) (x:SX) (A:Option Addr) (cap g:Nat) (S:Nat->Prop) (w:World) (hB:Blk w g 90 (knC k x A cap)) (hS:∀ x,S x->x<w.heap.size/\x≠g) (hR:KnR k x A cap S w):
  Calls Tryz.prog 65 #[.pointer (some ⟨g,0,none⟩),.agg (dC d).toArray] w (RetKn g 90 id S w (.int .i64 (U1 k d)) (B5a k d)):=by
 obtain⟨e,he⟩:∃ e,e=U1 k d:=⟨_,rfl⟩;obtain⟨k',hk'⟩:∃ k',k'=B5a k d:=⟨_,rfl⟩;unfold B5a at hk';rw [<-he] at hk';rw [<-he,show B5a k d=k' from by rw [hk',he];rfl];unfold U1 at he;have hc:=CtxF.enterL hB hS hR yc;refine vE Tryz.func65 ?_;refine hc.n fun g3 wg3 hg3 hc=>?_;refine hc.a 0 rfl rfl ?_;refine hc.q (A3X d hd _) fun wQ hQ hc=>?_;cases hm:L3 d with
 | false=>
  rw [hm,y7 (by decide)] at he;rw [he,y7 (by decide)] at hk';subst he hk';exact RetKn.mk hc.drop rfl _
 | true=>
 rw [hm,y6 rfl] at he;refine hc.c 1 rfl rfl ?_;by_cases h60:60<=k.pend.length
 ·rw [y6 (.inl h60)] at he;rw [he,y7 (by decide)] at hk';subst he hk';refine dt (by omega) ?_;exact RetKn.mk hc.drop rfl _
 refine df (by omega) ?_;refine hc.a 1 rfl rfl ?_;refine hc.q (A3v k h x A cap _) fun wQ hQ hc=>?_;by_cases hsq:E3<=k.seq
 ·rw [y6 (.inr hsq)] at he;rw [he,y7 (by decide)] at hk';subst he hk';refine dt hsq ?_;exact RetKn.mk hc.drop rfl _
 refine df hsq ?_;rw [y7 (fun h=>h.elim h60 hsq)] at he;rw [he,y6 rfl] at hk';subst he hk';refine vD (.Q [0,1,2,3,6] (.n 4 (.n 5 (.n 7 (.n 8 (.Q [9,10] (.n 11 .fin .stop)) .stop) .stop) (.n 7 (.n 5 (.n 8 (.Q [9,10] (.n 11 .fin .stop)) .stop) .stop) .stop)) (.n 7 (.n 4 (.n 5 (.n 8 (.Q [9,10] (.n 11 .fin .stop)) .stop) .stop) .stop) .stop))) (fun z=>Blk z g3 45 (dC d)) (hc.blk 0 rfl) ?_;have hc:=hc.drew;refine⟨dC d,rfl,fun z hz=>B5 hz 0 _ 0 (fun j v hj=>by simpa using hj),?_⟩;refine⟨?_,?_⟩
 ·skip
  refine⟨_,hc.cell 1 rfl _ rfl,(hc.blk 0 rfl),?_⟩;refine⟨?_,?_⟩
  ·skip
   obtain⟨Sr,hR1,hSr,hin⟩:=hc.inL yc 1 rfl;refine⟨(W3 A k.pend.length cap _ (V4 _) (zj _) (by have:=h.len;omega) Sr _ hR1.2).mono fun en wq hq=>?_⟩;obtain⟨A2,cap2,e1,hb,ho⟩:=hq;have hc:=hc.fresh hb ho;refine⟨_,e1,(hc.blk 0 rfl),?_⟩;refine⟨hc.n fun gv wgv hgv hc=>?_,trivial⟩;refine⟨(hc.blk 1 rfl),?_⟩;refine⟨K4 (m:=1) Tryz.underlying22 A7Y rfl (by decide) hc (by rfl) (hc.cells 0 rfl) rfl (by have:=h.len;show k.pend.length+1<=_;omega) (by decide) rfl rfl ?_,trivial⟩;intro A3 cap3 w3 hc;refine⟨(hc.blk 1 rfl),?_⟩;refine⟨hc.s 2 rfl fun wS hS hc=>?_,trivial⟩;refine⟨(hc.blk 1 rfl),?_⟩;obtain⟨S2,hc⟩:=hc.toldL yc 2 rfl;have hc:=(hc.nowL (R':=KnR ⟨k.b,k.pend++[d],k.ep,k.ln⟩ x A3 cap3) (fun S w h=>⟨h.1.1,by
    have e1:((k.pend++[d]).map dC).flatten=(k.pend.map dC).flatten++dC d:=by simp
    have e2:(k.pend++[d]).length=k.pend.length+1:=by simp
    show Row S w A3 (k.pend++[d]).length cap3 ((k.pend++[d]).map dC).flatten;rw [e1,e2];exact h.2⟩) yc).drop.drop
   refine RetKn.mk hc ?_ _;show _=knC ⟨k.b,k.pend++[d],k.ep,k.ln⟩ x A3 cap3;unfold knC;rw [show (k.pend++[d]).length=k.pend.length+1 from by simp];rfl
  refine⟨hc.n fun gv wgv hgv hc=>?_,trivial⟩;refine⟨(hc.blk 1 rfl),?_⟩;refine⟨?_,trivial⟩;obtain⟨Sr,hR1,hSr,hin⟩:=hc.inL yc 2 rfl;refine⟨(W3 A k.pend.length cap _ (V4 _) (zj _) (by have:=h.len;omega) Sr _ hR1.2).mono fun en wq hq=>?_⟩;obtain⟨A2,cap2,e1,hb,ho⟩:=hq;have hc:=hc.fresh hb ho;refine⟨_,e1,(hc.blk 1 rfl),?_⟩;refine⟨K4 (m:=1) Tryz.underlying22 A7Y rfl (by decide) hc (by rfl) (hc.cells 0 rfl) rfl (by have:=h.len;show k.pend.length+1<=_;omega) (by decide) rfl rfl ?_,trivial⟩;intro A3 cap3 w3 hc;refine⟨(hc.blk 1 rfl),?_⟩;refine⟨hc.s 2 rfl fun wS hS hc=>?_,trivial⟩;refine⟨(hc.blk 1 rfl),?_⟩;obtain⟨S2,hc⟩:=hc.toldL yc 2 rfl;have hc:=(hc.nowL (R':=KnR ⟨k.b,k.pend++[d],k.ep,k.ln⟩ x A3 cap3) (fun S w h=>⟨h.1.1,by
   have e1:((k.pend++[d]).map dC).flatten=(k.pend.map dC).flatten++dC d:=by simp
   have e2:(k.pend++[d]).length=k.pend.length+1:=by simp
   show Row S w A3 (k.pend++[d]).length cap3 ((k.pend++[d]).map dC).flatten;rw [e1,e2];exact h.2⟩) yc).drop.drop
  refine RetKn.mk hc ?_ _;show _=knC ⟨k.b,k.pend++[d],k.ep,k.ln⟩ x A3 cap3;unfold knC;rw [show (k.pend++[d]).length=k.pend.length+1 from by simp];rfl
 refine⟨hc.n fun gv wgv hgv hc=>?_,trivial⟩;refine⟨(hc.blk 1 rfl),?_⟩;refine⟨⟨_,hc.cell 2 rfl _ rfl,(hc.blk 1 rfl),?_⟩,trivial⟩;refine⟨?_,trivial⟩;obtain⟨Sr,hR1,hSr,hin⟩:=hc.inL yc 2 rfl;refine⟨(W3 A k.pend.length cap _ (V4 _) (zj _) (by have:=h.len;omega) Sr _ hR1.2).mono fun en wq hq=>?_⟩;obtain⟨A2,cap2,e1,hb,ho⟩:=hq;have hc:=hc.fresh hb ho;refine⟨_,e1,(hc.blk 1 rfl),?_⟩;refine⟨K4 (m:=1) Tryz.underlying22 A7Y rfl (by decide) hc (by rfl) (hc.cells 0 rfl) rfl (by have:=h.len;show k.pend.length+1<=_;omega) (by decide) rfl rfl ?_,trivial⟩;intro A3 cap3 w3 hc;refine⟨(hc.blk 1 rfl),?_⟩;refine⟨hc.s 2 rfl fun wS hS hc=>?_,trivial⟩;refine⟨(hc.blk 1 rfl),?_⟩;obtain⟨S2,hc⟩:=hc.toldL yc 2 rfl;have hc:=(hc.nowL (R':=KnR ⟨k.b,k.pend++[d],k.ep,k.ln⟩ x A3 cap3) (fun S w h=>⟨h.1.1,by
  have e1:((k.pend++[d]).map dC).flatten=(k.pend.map dC).flatten++dC d:=by simp
  have e2:(k.pend++[d]).length=k.pend.length+1:=by simp
  show Row S w A3 (k.pend++[d]).length cap3 ((k.pend++[d]).map dC).flatten;rw [e1,e2];exact h.2⟩) yc).drop.drop
 refine RetKn.mk hc ?_ _;show _=knC ⟨k.b,k.pend++[d],k.ep,k.ln⟩ x A3 cap3;unfold knC;rw [show (k.pend++[d]).length=k.pend.length+1 from by simp];rfl
end Go.Proofs.YtefdfaeieekioaaGreatDoor
end
namespace Go.Proofs.YtefdfaeieekioaaGreatDoor
open Go.Vc Go.RowKit Go.Fl Go.ChangeShapes Go.WideShapes Go.ChangeAt
theorem M3 (n:Int) (w:World):Calls Tryz.prog 119 #[.int .i64 n] w (C8 (.agg #[.int .i64 1,.int .i64 n,.string ⟨#[]⟩,.slice none 0 0]) w):=by refine vE Tryz.func119 ?_;have hc:=Ctx.start w no (fun _ h=>h.elim);refine hc.n fun gA wgA hgA hc=>?_;refine hc.s 0 rfl fun wS hS hc=>?_;refine hc.a 0 rfl rfl ?_;exact⟨rfl,hc.below⟩
theorem K5 (A:Option Addr) (n cap:Nat) (w:World):Calls Tryz.prog 118 #[.slice A n cap] w (C8 (.agg #[.int .i64 3,.int .i64 0,.string ⟨#[]⟩,.slice A n cap]) w):=by refine vE Tryz.func118 ?_;have hc:=Ctx.start w no (fun _ h=>h.elim);refine hc.n fun gA wgA hgA hc=>?_;refine hc.s 0 rfl fun wS hS hc=>?_;refine hc.a 0 rfl rfl ?_;exact⟨rfl,hc.below⟩
def B65 (k:Known) (w:World) (en:Ending) (w':World):Prop:=∃ x A cap,en=.returned (.tuple #[.agg (knC k x A cap).toArray,.bool true])/\Below w.heap.size w w'/\KnR k x A cap (ext no w w') w'
def B8L (p:Value) (dn:Bool) (cs:List Value):List Value:=p::(cs++[.bool dn])
def X8 (r:Res):List Value:=[.int .i64 r.err,.int .i64 r.ver]
theorem A6U:(Tryz.prog.info? 36).map (fun i=>(i.zero,i.size,i.bytes))=some (some (.agg #[.int .i64 0,.int .i64 0]),2,16):=by kernel_rfl
def kAt (k:Known) (i:Nat):Known:=⟨U0 k.b (k.pend.take i),k.pend.drop i,k.ep,k.ln⟩
theorem B66 {k:Known} (h:k.Ok) (i:Nat):(kAt k i).Ok:=by have:=h.commit (k.b.seq+i);unfold C2 at this;rw [show (k.b.seq+(i:Int)-k.b.seq).toNat=i from by omega] at this;exact this
theorem B5b {k:Known} (h:k.Ok) {i:Nat} (hi:i<=k.pend.length):(kAt k i).b.seq=k.b.seq+i:=by
 have hs:=h.seq;have hl:(k.pend.take i).length=i:=by rw [zf];omega
 have e:=W4 (k.pend.take i) h.may h.lows (fun d hd=>(h.pend d (List.mem_of_mem_take hd)).1) (by omega);rw [hl] at e;exact e
theorem B00 (s:Stt) (l:List D) (d:D):A4V s (l++[d])=A4V s l++[(doS (U0 s l) d).2]:=by
 induction l generalizing s with
 | nil=>rfl
 | cons a r ih=>rw [List.cons_append,A4V,ih,A4V];rfl
theorem B3B (k:Known) (i:Nat) (d:D) (r:List D) (h:(kAt k i).pend=d::r):kAt k (i+1)=⟨(doS (kAt k i).b d).1,r,k.ep,k.ln⟩/\A4V k.b (k.pend.take (i+1))=A4V k.b (k.pend.take i)++[(doS (kAt k i).b d).2]:=by
 have h:k.pend.drop i=d::r:=h;have e1:k.pend.take (i+1)=k.pend.take i++[d]:=by have e2:=List.take_add (l:=k.pend) (i:=i) (j:=1);rw [e2,h];rfl
 have e2:k.pend.drop (i+1)=r:=by rw [<-List.drop_drop,h];rfl
 unfold kAt;rw [e1,e2,A8M,B00];exact⟨rfl,rfl⟩
def A2G (k:Known) (n:Int):Known × List Res × Int:=if k.seq<n then (k,[],4) else ((C2 k n).1,(C2 k n).2,0)
def RetKc (g T:Nat) (wrap:List Value->List Value) (S:Nat->Prop) (w:World) (q:Known × List Res × Int) (en:Ending) (w':World):Prop:=
 ∃ A2 c2,en=.returned (.tuple #[.slice A2 q.2.1.length c2,.int .i64 q.2.2])/\Turn (fun x=>x=g) w w'/\∃ x A cap Sk,Blk w' g T (wrap (knC q.1 x A cap))/\(∀ y,Sk y->ext S w w' y/\∀ a,A2=some a->y≠a.block)/\KnR q.1 x A cap Sk w'/\
  w'.ownsRow w.heap.size 36 2 (.slice A2 q.2.1.length c2) q.2.1.length (q.2.1.map X8).flatten
theorem RetKc.mk' {g T i:Nat} {wrap:List Value->List Value} {S S1:Nat->Prop} {w w':World} {k:Known} {l:List Res} {e:Int} {x:SX} {A A2:Option Addr} {cap c2:Nat} {cs:List Value} (hc:CtxF no (bare w) S1 w' [(g,T,cs)] [⟨36,2,A2,i,c2,(l.map X8).flatten⟩] (KL w g S (KnR k x A cap))) (ec:cs=wrap (knC k x A cap)) (hl:l.length=i):RetKc g T wrap S w (k,l,e) (.returned (.tuple #[.slice A2 i c2,.int .i64 e])) w':=by
 subst hl;subst ec;obtain⟨h1,h2,Sr,h3,h4⟩:=hc.leaveL yc;have hout:=hc.fst.out;have hnew:∀ a,A2=some a->w.heap.size<=a.block:=fun a ha=>by
  rcases zl a.block w.heap.size with h | h
  ·have k1:=hout a ha;have k2:=k1.2 _ (zu ..);exact absurd (hc.row.1 a.block h (fun e=>k2 e.symm)).1 k1.1
  ·exact h
 refine⟨A2,c2,rfl,h1,x,A,cap,Sr,h2,fun y hy=>⟨(h3 y hy).2,fun a ha e=>(hout a ha).1 (e▸(h3 y hy).1)⟩,h4,hc.fst.row.1,?_⟩;rcases hc.fst.row.2 with h | ⟨g',cp,cur,e1,_,h5⟩
 ·exact .inl h
 ·refine .inr ⟨g',cp,cur,e1,?_,h5⟩;cases e1;exact hnew _ rfl
theorem RetKc.mk {g T:Nat} {wrap:List Value->List Value} {S S1:Nat->Prop} {w w':World} {k:Known} {e:Int} {x:SX} {A A2:Option Addr} {cap c2:Nat} {cs:List Value} (hc:CtxF no (bare w) S1 w' [(g,T,cs)] [⟨36,2,A2,0,c2,[]⟩] (KL w g S (KnR k x A cap))) (ec:cs=wrap (knC k x A cap)):RetKc g T wrap S w (k,[],e) (.returned (.tuple #[.slice A2 0 c2,.int .i64 e])) w':=RetKc.mk' (l:=[]) hc ec rfl
theorem _root_.Go.Vc.CtxF.castL {S0 S:Nat->Prop} {w0 w:World} {g T:Nat} {cs cs':List Value} {l:List LB} {os:List OR} {R:Kn} (hc:CtxF S0 w0 S w ((g,T,cs)::l) os R) (e:cs=cs'):CtxF S0 w0 S w ((g,T,cs')::l) os R:=e▸hc
theorem B01 (l:List Res) (x:Res):((l++[x]).map X8).flatten=(l.map X8).flatten++X8 x:=by simp
theorem A8b {l r:List D} {d:D} {ad:Addr} {cap:Nat} {S:Nat->Prop} {w:World} (hl:l=d::r) (hR:Row S w (some ad) l.length cap (l.map dC).flatten):Row S w (if (cap:Int)=1 then some ad else (some ad).map (·.add ((1:Int).toNat*8))) r.length (cap-1) (r.map dC).flatten:=by
 have h:=Row.back hR 8 (by rw [(V4 l).len,zj]) 1 1 rfl (by rw [hl,zi];omega);have e1:l.length-1=r.length:=by rw [hl];rfl
 have e2:((l.map dC).flatten).drop (1*8)=(r.map dC).flatten:=by rw [hl,List.map_cons,List.flatten_cons];exact List.drop_left' rfl
 rw [e1,e2] at h;exact h
theorem A0R {w w1:World} {g T:Nat} {S S1:Nat->Prop} {l:List LB} {os:List OR} {ki:Known} {x:SX} {A:Option Addr} {cap:Nat} {cs:List Value} (hc:CtxF no (bare w) S1 w1 l os (KL w g S (KnR ki x A cap))) (k:Nat) (hk:l[k]?=some (g,T,cs)) (hko:ki.Ok) (d:D) (hd:d.Ok):
  Calls Tryz.prog 190 #[.agg (stX ki.b x).toArray,.agg (dC d).toArray] w1 (fun en wq=>∃ xS S2,en=.returned (.tuple #[.agg (stX (doS ki.b d).1 xS).toArray,.agg #[.int .i64 (doS ki.b d).2.err,.int .i64 (doS ki.b d).2.ver]])/\Below w1.heap.size w1 wq/\CtxF no (bare w) S2 wq l os (KL w g S (fun S w=>KnR ki x A cap S w/\RepS S w (doS ki.b d).1 (stX (doS ki.b d).1 xS)))):=by
 obtain⟨Sr,hR1,hSr,hin⟩:=hc.inL yc k hk;refine (B5J ki.b d (A8L hko.may hko.lows) hd (stX ki.b x) Sr _ (fun b hb=>hc.ctx.lt b (hSr b hb)) hR1.1).mono fun en wq hq2=>?_;obtain⟨cS,e1,hb,hrep⟩:=hq2;obtain⟨xS,rfl⟩:=hrep.stX;exact⟨xS,_,e1,hb,hin (hc.call hb) (fun x hx=>.inl (hx.elim (fun h=>.inl (hSr x h)) .inr)) (X:=fun S w=>RepS S w (doS ki.b d).1 (stX (doS ki.b d).1 xS)) (A7S _ _) (hrep.map fun h=>h.sub fun b hb=>⟨hb,hb.elim (fun h=>.inl (hSr b h)) .inr⟩)⟩
theorem B9c {w w1:World} {g i cap c3:Nat} {S S1:Nat->Prop} {y1 y2 y3:LB} {k ki:Known} {d:D} {r:List D} {l:List Res} {x xS:SX} {ad0:Addr} {A3:Option Addr}
  (hk1:kAt k (i+1)=⟨(doS ki.b d).1,r,k.ep,k.ln⟩) (hk2:A4V k.b (k.pend.take (i+1))=l++[(doS ki.b d).2]) (hpd:ki.pend=d::r) (hcapb:ki.pend.length<=cap) (hke:ki.ep=k.ep) (hkl:ki.ln=k.ln)
  (hc:CtxF no (bare w) S1 w1 [y1,y2,y3,(g,90,C0 (C0 (knC ki x (some ad0) cap) 0 (stX (doS ki.b d).1 xS)) (0+8) [.slice (if (cap:Int)=1 then some ad0 else (some ad0).map (·.add ((1:Int).toNat*8))) ((ki.pend.length:Int)-1).toNat ((cap:Int)-1).toNat])] [⟨36,2,A3,i+1,c3,(l.map X8).flatten++X8 (doS ki.b d).2⟩] (KL w g S (fun S w=>KnR ki x (some ad0) cap S w/\RepS S w (doS ki.b d).1 (stX (doS ki.b d).1 xS)))):
  ∃ S3 A' cap',CtxF no (bare w) S3 w1 [(g,90,(knC (kAt k (i+1)) xS A' cap'))] [⟨36,2,A3,i+1,c3,((A4V k.b (k.pend.take (i+1))).map X8).flatten⟩] (KL w g S (KnR (kAt k (i+1)) xS A' cap')):=by
 have hpl:ki.pend.length=r.length+1:=by rw [hpd];rfl
 have hc:=((hc.nowL (R':=KnR ⟨(doS ki.b d).1,r,k.ep,k.ln⟩ xS (if (cap:Int)=1 then some ad0 else (some ad0).map (·.add ((1:Int).toNat*8))) (cap-1)) (fun S w h=>⟨h.2,A8b hpd h.1.2⟩) yc).drop.drop.drop).castL (cs':=(knC ⟨(doS ki.b d).1,r,k.ep,k.ln⟩ xS (if (cap:Int)=1 then some ad0 else (some ad0).map (·.add ((1:Int).toNat*8))) (cap-1))) (by rw [show cap-1=((cap:Int)-1).toNat from by omega];unfold knC;rw [<-hke,<-hkl,show r.length=((ki.pend.length:Int)-1).toNat from by omega];rfl);rw [hk1,hk2,B01];exact⟨_,_,_,hc⟩
theorem A5S (k:Known) (h:k.Ok) (n:Int) (hn:B3 n) (x:SX) (A:Option Addr) (cap g:Nat) (S:Nat->Prop) (w:World) (hB:Blk w g 90 (knC k x A cap)) (hS:∀ x,S x->x<w.heap.size/\x≠g) (hR:KnR k x A cap S w):
  Calls Tryz.prog 133 #[.pointer (some ⟨g,0,none⟩),.int .i64 n] w (RetKc g 90 id S w (A2G k n)):=by
 have hsq:=h.seq;have hln:=h.len;have hm:E3=1099511627776:=rfl;have h0:=(C5.1 h.may).1.1;have hc:=CtxF.enterL hB hS hR yc;obtain⟨q,hq⟩:∃ q,q=A2G k n:=⟨_,rfl⟩;rw [<-hq];unfold A2G at hq;refine vE Tryz.func133 ?_;refine⟨knC k x A cap,rfl,hc.cellsAt 0 rfl 0 (knC k x A cap) rfl,?_⟩;refine hc.q (A3v k h x A cap _) fun wQ hQ hc=>?_;by_cases hgt:k.seq<n
 ·rw [y6 hgt] at hq;subst hq;refine dt hgt ?_;exact RetKc.mk (A2:=none) (c2:=0) (hc.nil 36 2) rfl
 rw [y7 hgt] at hq;refine df hgt ?_;have hc:=hc.nil 36 2;have hj:(n-k.b.seq).toNat<=k.pend.length:=by unfold Known.seq at hgt;omega
 refine⟨Nat × Option Addr × Nat,fun y=>[(0,.pointer (some ⟨g,0,none⟩)),(1,.int .i64 n),(6,.slice y.2.1 y.1 y.2.2)],
  fun y w'=>y.1<=(n-k.b.seq).toNat/\∃ S1 x A cap,CtxF no (bare w) S1 w' [(g,90,(knC (kAt k y.1) x A cap))] [⟨36,2,y.2.1,y.1,y.2.2,((A4V k.b (k.pend.take y.1)).map X8).flatten⟩] (KL w g S (KnR (kAt k y.1) x A cap)),fun y _=>(n-k.b.seq).toNat-y.1,(0,none,0),⟨rfl,rfl,rfl,trivial⟩,⟨zb _,_,x,A,cap,hc⟩,?_⟩
 clear hc;rintro⟨i,A2,c2⟩ w1 u ⟨hi,S1,x,A,cap,hc⟩;simp only at hi hc;have hko:=B66 h i;have hks:=B5b h (i:=i) (by omega);have hkn:=B3B k i;have hke:(kAt k i).ep=k.ep:=rfl;have hkl:(kAt k i).ln=k.ln:=rfl;generalize hki:kAt k i=ki at*;refine hc.c 0 rfl rfl ?_;by_cases hlt:i<(n-k.b.seq).toNat;rotate_left
 ·refine df (by show ¬ ki.b.seq<n;omega) ?_;have hii:i=(n-k.b.seq).toNat:=by omega
  have e:q=(ki,A4V k.b (k.pend.take i),0):=by rw [hq,<-hki,hii];rfl
  subst e;have hlen:(A4V k.b (k.pend.take i)).length=i:=by rw [A1P,zf];omega
  exact RetKc.mk' hc rfl hlen
 refine dt (by show ki.b.seq<n;omega) ?_;obtain⟨d,r,hpd⟩:∃ d r,ki.pend=d::r:=by
  have e:ki.pend=k.pend.drop i:=by rw [<-hki];rfl
  cases hd:k.pend.drop i with
  | nil=>
   have:=y5 List.length hd;rw [zg] at this;simp only [List.length_nil] at this;omega
  | cons d r=>exact⟨d,r,by rw [e,hd]⟩
 obtain⟨hk1,hk2⟩:=hkn d r hpd;have hdd:=hko.pend d (by rw [hpd];exact zu ..);have hpl:ki.pend.length=r.length+1:=by rw [hpd];rfl
 obtain⟨hk0,Sr0,hs0,hR0⟩:=hc.row;obtain⟨ad0,rfl,hcell0⟩:=Row.elemF hR0.2 (by decide) (V4 _) 0 (by rw [zj,hpl];omega);have hcell:Go.Vc.cellsAt w1 ad0 (dC d) 0:=by
  have e:(ki.pend.map dC)[0]'(by rw [zj,hpl];omega)=dC d:=by simp [hpd]
  rw [e] at hcell0;have e2:ad0.add (0*8)=ad0:=by unfold Addr.add;simp
  rw [e2] at hcell0;exact hcell0
 have hcapb:ki.pend.length<=cap:=hR0.2.1;refine Drawn.join (α:=Nat × Nat × SX) (fun z=>[(0,.pointer (some ⟨g,0,none⟩)),(1,.int .i64 n),(6,.slice A2 i c2),(7,.pointer (some ⟨z.1,0,none⟩)),(8,.pointer (some ⟨z.2.1,0,none⟩))])
  (fun z wS=>∃ S2,CtxF no (bare w) S2 wS [(z.2.1,36,X8 (doS ki.b d).2),(z.1,41,stX (doS ki.b d).1 z.2.2),(g,90,(knC ki x (some ad0) cap))] [⟨36,2,A2,i,c2,((A4V k.b (k.pend.take i)).map X8).flatten⟩] (KL w g S (fun S w=>KnR ki x (some ad0) cap S w/\RepS S w (doS ki.b d).1 (stX (doS ki.b d).1 z.2.2)))) ?_ ?_
 ·have hr:=hc;refine vD (.Q [0,1,2,3,4,5,6,7,8,9] (.n 10 (.Q [11,12,13] (.n 14 (.n 15 (.n 16 (.z 17) .stop) .stop) (.n 15 (.n 14 (.n 16 (.z 17) .stop) .stop) .stop))) (.n 14 (.n 10 (.Q [11,12,13] (.n 15 (.n 16 (.z 17) .stop) .stop)) (.n 15 (.n 10 (.Q [11,12,13] (.n 16 (.z 17) .stop)) .stop) .stop)) (.n 15 (.n 10 (.Q [11,12,13] (.n 14 (.n 16 (.z 17) .stop) .stop)) (.n 14 (.n 10 (.Q [11,12,13] (.n 16 (.z 17) .stop)) .stop) .stop)) .stop)))) (Old _) (Old.start _) ?_;have hk:=hc.old0;have hc:=hc.drew;refine⟨stX ki.b x,rfl,fun z hz=>Old.looks hz (hr.cellsAt 0 rfl 0 (stX ki.b x) rfl),?_⟩;refine⟨_,fun z hz=>Keeps.cell hz (hr.blk 0 rfl) (hr.blk 0 rfl).lt rfl,?_⟩;refine⟨⟨by decide,by show (0:Int)<(ki.pend.length:Int);omega⟩,?_⟩;refine⟨dC d,rfl,fun z hz=>Old.looks hz hcell,?_⟩;refine⟨?_,?_⟩
  ·skip
   refine⟨(A0R hc 0 rfl hko d hdd.2).mono fun en wq hq2=>?_⟩;obtain⟨xS,S2,e1,hb,hc⟩:=hq2;have hk:=Keeps.below hk (fun _ h=>h) hb;refine⟨_,e1,hk,?_⟩;refine⟨?_,?_⟩
   ·skip
    refine hc.n fun g7 wg7 hg7 hc=>?_;have ng7:=Old.new hk hg7;have hk:=Keeps.below hk (fun _ h=>h) hg7.below;refine⟨hk,?_⟩;refine⟨hc.n fun g8 wg8 hg8 hc=>?_,trivial⟩;have ng8:=Old.new hk hg8;have hk:=Keeps.below hk (fun _ h=>h) hg8.below;refine⟨hk,?_⟩;refine⟨⟨hc.may 1 rfl _ _ (nle rfl) rfl,?_⟩,trivial⟩;intro wS hS;have hk:=Keeps.stored hk (hc.blk 1 rfl) ng7 hS;have hc:=(hc.set 1 rfl hS).1;refine⟨hk,?_⟩;refine hc.s 0 rfl fun wS hS hc=>?_
    first | exact⟨(g7,g8,xS),⟨rfl,rfl,rfl,rfl,rfl,trivial⟩,_,hc⟩ | exact⟨(g7,g8,xS),⟨rfl,rfl,rfl,rfl,rfl,trivial⟩,_,hc.swapL⟩
   refine⟨hc.n fun g8 wg8 hg8 hc=>?_,trivial⟩;have ng8:=Old.new hk hg8;have hk:=Keeps.below hk (fun _ h=>h) hg8.below;refine⟨hk,?_⟩;refine⟨hc.n fun g7 wg7 hg7 hc=>?_,trivial⟩;have ng7:=Old.new hk hg7;have hk:=Keeps.below hk (fun _ h=>h) hg7.below;refine⟨hk,?_⟩;refine⟨⟨hc.may 0 rfl _ _ (nle rfl) rfl,?_⟩,trivial⟩;intro wS hS;have hk:=Keeps.stored hk (hc.blk 0 rfl) ng7 hS;have hc:=(hc.set 0 rfl hS).1;refine⟨hk,?_⟩;refine hc.s 1 rfl fun wS hS hc=>?_
   first | exact⟨(g7,g8,xS),⟨rfl,rfl,rfl,rfl,rfl,trivial⟩,_,hc⟩ | exact⟨(g7,g8,xS),⟨rfl,rfl,rfl,rfl,rfl,trivial⟩,_,hc.swapL⟩
  refine⟨?_,?_⟩
  ·skip
   refine hc.n fun g7 wg7 hg7 hc=>?_;have ng7:=Old.new hk hg7;have hk:=Keeps.below hk (fun _ h=>h) hg7.below;refine⟨hk,?_⟩;refine⟨?_,?_⟩
   ·skip
    refine⟨(A0R hc 1 rfl hko d hdd.2).mono fun en wq hq2=>?_⟩;obtain⟨xS,S2,e1,hb,hc⟩:=hq2;have hk:=Keeps.below hk (fun _ h=>h) hb;refine⟨_,e1,hk,?_⟩;refine⟨hc.n fun g8 wg8 hg8 hc=>?_,trivial⟩;have ng8:=Old.new hk hg8;have hk:=Keeps.below hk (fun _ h=>h) hg8.below;refine⟨hk,?_⟩;refine⟨⟨hc.may 1 rfl _ _ (nle rfl) rfl,?_⟩,trivial⟩;intro wS hS;have hk:=Keeps.stored hk (hc.blk 1 rfl) ng7 hS;have hc:=(hc.set 1 rfl hS).1;refine⟨hk,?_⟩;refine hc.s 0 rfl fun wS hS hc=>?_
    first | exact⟨(g7,g8,xS),⟨rfl,rfl,rfl,rfl,rfl,trivial⟩,_,hc⟩ | exact⟨(g7,g8,xS),⟨rfl,rfl,rfl,rfl,rfl,trivial⟩,_,hc.swapL⟩
   refine⟨hc.n fun g8 wg8 hg8 hc=>?_,trivial⟩;have ng8:=Old.new hk hg8;have hk:=Keeps.below hk (fun _ h=>h) hg8.below;refine⟨hk,?_⟩;refine⟨⟨(A0R hc 2 rfl hko d hdd.2).mono fun en wq hq2=>?_⟩,trivial⟩;obtain⟨xS,S2,e1,hb,hc⟩:=hq2;have hk:=Keeps.below hk (fun _ h=>h) hb;refine⟨_,e1,hk,?_⟩;refine⟨⟨hc.may 1 rfl _ _ (nle rfl) rfl,?_⟩,trivial⟩;intro wS hS;have hk:=Keeps.stored hk (hc.blk 1 rfl) ng7 hS;have hc:=(hc.set 1 rfl hS).1;refine⟨hk,?_⟩;refine hc.s 0 rfl fun wS hS hc=>?_
   first | exact⟨(g7,g8,xS),⟨rfl,rfl,rfl,rfl,rfl,trivial⟩,_,hc⟩ | exact⟨(g7,g8,xS),⟨rfl,rfl,rfl,rfl,rfl,trivial⟩,_,hc.swapL⟩
  refine⟨hc.n fun g8 wg8 hg8 hc=>?_,trivial⟩;have ng8:=Old.new hk hg8;have hk:=Keeps.below hk (fun _ h=>h) hg8.below;refine⟨hk,?_⟩;refine⟨?_,?_⟩
  ·skip
   refine⟨(A0R hc 1 rfl hko d hdd.2).mono fun en wq hq2=>?_⟩;obtain⟨xS,S2,e1,hb,hc⟩:=hq2;have hk:=Keeps.below hk (fun _ h=>h) hb;refine⟨_,e1,hk,?_⟩;refine⟨hc.n fun g7 wg7 hg7 hc=>?_,trivial⟩;have ng7:=Old.new hk hg7;have hk:=Keeps.below hk (fun _ h=>h) hg7.below;refine⟨hk,?_⟩;refine⟨⟨hc.may 0 rfl _ _ (nle rfl) rfl,?_⟩,trivial⟩;intro wS hS;have hk:=Keeps.stored hk (hc.blk 0 rfl) ng7 hS;have hc:=(hc.set 0 rfl hS).1;refine⟨hk,?_⟩;refine hc.s 1 rfl fun wS hS hc=>?_
   first | exact⟨(g7,g8,xS),⟨rfl,rfl,rfl,rfl,rfl,trivial⟩,_,hc⟩ | exact⟨(g7,g8,xS),⟨rfl,rfl,rfl,rfl,rfl,trivial⟩,_,hc.swapL⟩
  refine⟨hc.n fun g7 wg7 hg7 hc=>?_,trivial⟩;have ng7:=Old.new hk hg7;have hk:=Keeps.below hk (fun _ h=>h) hg7.below;refine⟨hk,?_⟩;refine⟨⟨(A0R hc 2 rfl hko d hdd.2).mono fun en wq hq2=>?_⟩,trivial⟩;obtain⟨xS,S2,e1,hb,hc⟩:=hq2;have hk:=Keeps.below hk (fun _ h=>h) hb;refine⟨_,e1,hk,?_⟩;refine⟨⟨hc.may 0 rfl _ _ (nle rfl) rfl,?_⟩,trivial⟩;intro wS hS;have hk:=Keeps.stored hk (hc.blk 0 rfl) ng7 hS;have hc:=(hc.set 0 rfl hS).1;refine⟨hk,?_⟩;refine hc.s 1 rfl fun wS hS hc=>?_
  first | exact⟨(g7,g8,xS),⟨rfl,rfl,rfl,rfl,rfl,trivial⟩,_,hc⟩ | exact⟨(g7,g8,xS),⟨rfl,rfl,rfl,rfl,rfl,trivial⟩,_,hc.swapL⟩
 clear hc;rintro⟨g7,g8,xS⟩ u2 w2 ⟨S2,hc⟩;simp only at hc;refine Drawn.join (α:=Option Addr × Nat) (fun z=>[(0,.pointer (some ⟨g,0,none⟩)),(1,.int .i64 n),(6,.slice z.1 (i+1) z.2)])
  (fun z wS=>∃ S3 A' cap',CtxF no (bare w) S3 wS [(g,90,(knC (kAt k (i+1)) xS A' cap'))] [⟨36,2,z.1,i+1,z.2,((A4V k.b (k.pend.take (i+1))).map X8).flatten⟩] (KL w g S (KnR (kAt k (i+1)) xS A' cap'))) ?_ ?_
 ·refine vD (.Q [0,1,2,3,4,5,8,9] (.n 6 (.q 7 (.n 10 (.n 11 (.Q [12,13] (.n 14 (.Q [15,16] (.n 17 (.q 18 .fin) .stop)) .stop)) .stop) .stop)) (.n 10 (.n 6 (.q 7 (.n 11 (.Q [12,13] (.n 14 (.Q [15,16] (.n 17 (.q 18 .fin) .stop)) .stop)) .stop)) (.n 11 (.n 6 (.Q [7,12,13] (.n 14 (.Q [15,16] (.n 17 (.q 18 .fin) .stop)) .stop)) .stop) .stop)) .stop))) (fun z=>Blk z g7 41 (stX (doS ki.b d).1 xS)/\Blk z g8 36 (X8 (doS ki.b d).2)) ⟨hc.blk 1 rfl,hc.blk 0 rfl⟩ ?_;have hc:=hc.drew;refine⟨stX (doS ki.b d).1 xS,rfl,fun z hz=>B5 hz.1 0 _ 0 (fun j v hj=>by simpa using hj),?_⟩;refine⟨X8 (doS ki.b d).2,rfl,fun z hz=>B5 hz.2 0 _ 0 (fun j v hj=>by simpa using hj),?_⟩;refine⟨?_,?_⟩
  ·skip
   refine⟨_,hc.cell 2 rfl _ rfl,⟨hc.blk 1 rfl,hc.blk 0 rfl⟩,?_⟩;refine⟨⟨by decide,by show (1:Int)<=(ki.pend.length:Int)/\(ki.pend.length:Int)<=(cap:Int)/\(cap:Int)<=(cap:Int);omega⟩,?_⟩;refine⟨hc.n fun gv wgv hgv hc=>?_,trivial⟩;refine⟨⟨hc.blk 2 rfl,hc.blk 1 rfl⟩,?_⟩;refine⟨K4 (m:=1) Tryz.underlying136 A6U rfl (by decide) hc (by rfl) (hc.cells 0 rfl) rfl (by omega) (by decide) rfl rfl ?_,trivial⟩;intro A3 c3 w3 hc;refine⟨⟨hc.blk 2 rfl,hc.blk 1 rfl⟩,?_⟩;refine⟨hc.s 3 rfl fun wS hS hc=>?_,trivial⟩;refine⟨⟨hc.blk 2 rfl,hc.blk 1 rfl⟩,?_⟩;refine⟨hc.s 3 rfl fun wS hS hc=>?_,trivial⟩;refine⟨⟨hc.blk 2 rfl,hc.blk 1 rfl⟩,?_⟩;exact⟨(A3,c3),⟨rfl,rfl,rfl,trivial⟩,B9c hk1 hk2 hpd hcapb hke hkl hc⟩
  refine⟨hc.n fun gv wgv hgv hc=>?_,trivial⟩;refine⟨⟨hc.blk 2 rfl,hc.blk 1 rfl⟩,?_⟩;refine⟨?_,?_⟩
  ·skip
   refine⟨_,hc.cell 3 rfl _ rfl,⟨hc.blk 2 rfl,hc.blk 1 rfl⟩,?_⟩;refine⟨⟨by decide,by show (1:Int)<=(ki.pend.length:Int)/\(ki.pend.length:Int)<=(cap:Int)/\(cap:Int)<=(cap:Int);omega⟩,?_⟩;refine⟨K4 (m:=1) Tryz.underlying136 A6U rfl (by decide) hc (by rfl) (hc.cells 0 rfl) rfl (by omega) (by decide) rfl rfl ?_,trivial⟩;intro A3 c3 w3 hc;refine⟨⟨hc.blk 2 rfl,hc.blk 1 rfl⟩,?_⟩;refine⟨hc.s 3 rfl fun wS hS hc=>?_,trivial⟩;refine⟨⟨hc.blk 2 rfl,hc.blk 1 rfl⟩,?_⟩;refine⟨hc.s 3 rfl fun wS hS hc=>?_,trivial⟩;refine⟨⟨hc.blk 2 rfl,hc.blk 1 rfl⟩,?_⟩;exact⟨(A3,c3),⟨rfl,rfl,rfl,trivial⟩,B9c hk1 hk2 hpd hcapb hke hkl hc⟩
  refine⟨K4 (m:=1) Tryz.underlying136 A6U rfl (by decide) hc (by rfl) (hc.cells 0 rfl) rfl (by omega) (by decide) rfl rfl ?_,trivial⟩;intro A3 c3 w3 hc;refine⟨⟨hc.blk 2 rfl,hc.blk 1 rfl⟩,?_⟩;refine⟨⟨_,hc.cell 3 rfl _ rfl,⟨hc.blk 2 rfl,hc.blk 1 rfl⟩,?_⟩,trivial⟩;refine⟨⟨by decide,by show (1:Int)<=(ki.pend.length:Int)/\(ki.pend.length:Int)<=(cap:Int)/\(cap:Int)<=(cap:Int);omega⟩,?_⟩;refine⟨hc.s 3 rfl fun wS hS hc=>?_,trivial⟩;refine⟨⟨hc.blk 2 rfl,hc.blk 1 rfl⟩,?_⟩;refine⟨hc.s 3 rfl fun wS hS hc=>?_,trivial⟩;refine⟨⟨hc.blk 2 rfl,hc.blk 1 rfl⟩,?_⟩;exact⟨(A3,c3),⟨rfl,rfl,rfl,trivial⟩,B9c hk1 hk2 hpd hcapb hke hkl hc⟩
 clear hc;rintro⟨A3,c3⟩ u3 w3 ⟨S3,A',cap',hc⟩;exact⟨(i+1,A3,c3),⟨rfl,rfl,rfl,trivial⟩,⟨hlt,S3,xS,A',cap',hc⟩,by show (n-k.b.seq).toNat-(i+1)<(n-k.b.seq).toNat-i;omega⟩
theorem B5c {k:Known} {d:D} (hr:(Rc.add d).Ok) (hc:B2B k (.add d)):U1 k d=0/\B5a k d=A0O k (.add d):=by
 have e:U1 k d=0:=by unfold U1;rw [y6 hr.1,y7 (fun h=>by have:=hc.1;have:=hc.2;rcases h with h | h<;>omega)]
 refine⟨e,?_⟩;unfold B5a;rw [y6 e];rfl
structure Jour where
 C:Chest
 first:ByteArray
 recs:List ByteArray
 down:Bool
def A3w (gc:Nat) (first:ByteArray) (A:Option Addr) (n cap:Nat) (down:Bool):List Value:=[.pointer (some ⟨gc,0,none⟩),.string first,.slice A n cap,.bool down]
def JourK (gj gc b:Nat) (J:Jour):Kn:=fun S w=>∃ A cap,ObjK gj 159 (A3w gc J.first A J.recs.length cap J.down) (RecK 9 A J.recs.length cap (J.recs.map Value.string)) (ChestK gc b J.C) S w
theorem JourK.stab (gj gc b:Nat) (J:Jour):Stab (JourK gj gc b J):=fun S w S' w' h f=>by obtain⟨A,cap,h⟩:=h;exact⟨A,cap,ObjK.stab ya y9 _ _ _ _ h f⟩
theorem yd {gj gc b:Nat} {J:Jour}:Stab (JourK gj gc b J):=JourK.stab _ _ _ _
theorem JourK.leave {gj gc b n cap:Nat} {first:ByteArray} {A:Option Addr} {down:Bool} {recs:List ByteArray} {C:Chest} {xs:List Value} {Sx S:Nat->Prop} {w w':World}
  (hc:CtxF no (bare w) S w' [(gj,159,A3w gc first A n cap down)] [] (Sep 0 (Sep 0 (Keep w Sx) (RecK 9 A n cap xs)) (ChestK gc b C))) (hx:xs=recs.map Value.string) (hn:n=recs.length) (v:Value):RetOb Sx w v (JourK gj gc b ⟨C,first,recs,down⟩) (.returned v) w':=by
 subst hx;subst hn;obtain⟨h1,h2,Sn,h3,h4⟩:=ObjK.leave hc v;exact⟨h1,h2,Sn,h3,A,cap,h4⟩
theorem B3C (g:Nat) (ox oy:Operand) (w:World):(do eqGuard BinOp.eql 88 ox oy (.pointer (some ⟨g,0,none⟩)) (.pointer none);Go.binOp BinOp.eql 88 (.pointer (some ⟨g,0,none⟩)) (.pointer none):Sem Value).run Tryz.prog w=.ok (.bool false) w:=by kernel_rfl
def Z5:ByteArray:=⟨#[76,79,71]⟩
def B8v:ByteArray:=⟨#[78,69,87]⟩
def chL (room:Int) (r:Scroll):Chest:=⟨room,c3f Z5 r,1⟩
theorem B8w:A5D Z5=true:=by kernel_rfl
theorem B4V (x:ByteArray) (s:Scroll):c3f x s x=some s:=y6 rfl
theorem A3x (x:ByteArray) (r s:Scroll):A4U (c3f x r) x s=c3f x s:=by funext y;unfold A4U c3f A4U;split<;>rfl
theorem A06 (room:Int) (r:Scroll):(chL room r).f Z5=some r:=by show c3f Z5 r Z5=some r;exact B4V _ _
theorem B02 (room:Int) (r:Scroll) (s:ByteArray):O1 (chL room r) Z5 s=if room<(s.size:Int) then (chL room r,5) else (chL (room-s.size) ⟨r.s++s,r.pressed,r.kept⟩,0):=by
 unfold O1;rw [y6 B8w,A06];show (if room<(s.size:Int) then _ else _)=_;by_cases h:room<(s.size:Int)
 ·rw [y6 h,y6 h]
 ·rw [y7 h,y7 h];have e2:A7U (chL room r).f (chL room r).k Z5=1:=by unfold A7U;rw [A06];rfl
  rw [e2];show (Chest.mk (room-s.size) (A4U (c3f Z5 r) Z5 _) 1,(0:Int))=_;rw [A3x];rfl
theorem A5T (room:Int) (r:Scroll):A18 (chL room r) Z5=(chL room ⟨r.s,r.s.size,true⟩,0):=by
 unfold A18;rw [A06];have e2:A7U (chL room r).f (chL room r).k Z5=1:=by unfold A7U;rw [A06];rfl
 simp only;rw [e2];show (Chest.mk room (A4U (c3f Z5 r) Z5 _) 1,(0:Int))=_;rw [A3x];rfl
theorem A3y (gj gc b:Nat) (J:Jour) (e:Int) (Sx:Nat->Prop) (w:World) (hlt:∀ x,Sx x->x<w.heap.size) (hK:JourK gj gc b J Sx w):
  Calls Tryz.prog 168 #[.pointer (some ⟨gj,0,none⟩),.int .i64 e] w (RetOb Sx w (.int .i64 e) (JourK gj gc b ⟨J.C,J.first,J.recs,J.down||e != 0⟩)):=by
 obtain⟨A,cap,hO⟩:=hK;have hc:=hO.enter hlt ya y9;refine vE Tryz.func168 ?_;refine hc.c 0 rfl rfl ?_;obtain⟨C,first,recs,down⟩:=J;cases down with
 | true=>
  refine hc.s 0 rfl fun wS hS hc=>?_;exact JourK.leave hc rfl rfl _
 | false=>
  refine hc.s 0 rfl fun wS hS hc=>?_;exact JourK.leave hc rfl rfl _
def A0n (C:Chest) (name s:ByteArray):Chest × Int:=if (O1 C name s).2=0 then A18 (O1 C name s).1 name else O1 C name s
theorem A8c (gj gc b:Nat) (J:Jour) (name s:ByteArray) (hto:name.size<=9223372036854775807) (hr : -1000000000000<=J.C.room/\J.C.room<=1000000000000) (hs:s.size<=1000000000000) (hl:((J.C.f name).getD sc0).s.size<=1000000000000) (hkk:J.C.k<999999) (Sx:Nat->Prop) (w:World) (hlt:∀ x,Sx x->x<w.heap.size) (hK:JourK gj gc b J Sx w):
  Calls Tryz.prog 125 #[.pointer (some ⟨gj,0,none⟩),.string name,.string s] w (RetOb Sx w (.int .i64 (A0n J.C name s).2) (JourK gj gc b ⟨(A0n J.C name s).1,J.first,J.recs,J.down⟩)):=by
 obtain⟨A,cap,hO⟩:=hK;have hc:=hO.enter hlt ya y9;have hk2:(O1 J.C name s).1.k<1000000:=by
  unfold O1;split
  ·split
   ·show J.C.k<_;omega
   ·show A7U _ _ _<_;unfold A7U;split<;>omega
  ·show J.C.k<_;omega
 refine vE Tryz.func125 ?_;refine hc.c 0 rfl rfl ?_;obtain⟨S1,Sa,h1,h2,h3,hO⟩:=hc.row;refine⟨(A5E gc b J.C name s hto hr hs hl (by omega) Sa _ hO).mono fun en wq hq=>?_⟩;obtain⟨e1,hT,Sn,hSn,hO⟩:=hq;have hc:=hc.turnO (Sep.stab y8 ya) h1 h2 h3 hT hSn hO y9;refine⟨_,e1,?_⟩;unfold A0n;generalize O1 J.C name s=q at*;obtain⟨C',e⟩:=q;simp only at*;by_cases h0:e=0
 ·subst h0;rw [y6 rfl];refine hc.c 0 rfl rfl ?_;obtain⟨S1,Sa,h1,h2,h3,hO⟩:=hc.row;refine⟨(A5F gc b C' name hto hk2 Sa _ hO).mono fun en wq hq=>?_⟩;obtain⟨e1,hT,Sn,hSn,hO⟩:=hq;have hc:=hc.turnO (Sep.stab y8 ya) h1 h2 h3 hT hSn hO y9;refine⟨_,e1,?_⟩;exact JourK.leave hc rfl rfl _
 ·rw [y7 h0];refine B0 (by simpa using h0) ?_;exact JourK.leave hc rfl rfl _
def JL (room:Int) (r:Scroll) (first:ByteArray) (recs:List ByteArray) (down:Bool):Jour:=⟨chL room r,first,recs,down⟩
def B4W (room:Int) (r:Scroll) (first:ByteArray) (recs:List ByteArray) (down:Bool):Jour × Int:=if down then (JL room r first recs true,7) else (JL room ⟨r.s,r.s.size,true⟩ first recs false,0)
theorem A8d (gj gc b:Nat) (room:Int) (r:Scroll) (first:ByteArray) (recs:List ByteArray) (down:Bool) (Sx:Nat->Prop) (w:World) (hlt:∀ x,Sx x->x<w.heap.size) (hK:JourK gj gc b (JL room r first recs down) Sx w):
  Calls Tryz.prog 170 #[.pointer (some ⟨gj,0,none⟩)] w (RetOb Sx w (.int .i64 (B4W room r first recs down).2) (JourK gj gc b (B4W room r first recs down).1)):=by
 obtain⟨A,cap,hO⟩:=hK;have hc:=hO.enter hlt ya y9;refine vE Tryz.func170 ?_;refine⟨.bool false,fun w=>B3C gj _ _ w,?_⟩;refine hc.c 0 rfl rfl ?_;cases down with
 | true=>exact JourK.leave hc rfl rfl _
 | false=>
  refine hc.c 0 rfl rfl ?_;have hp:=fun Sa w hK=>A5F gc b (chL room r) Z5 (by decide) (by show 1<1000000;decide) Sa w hK;rw [A5T] at hp;obtain⟨S1,Sa,h1,h2,h3,hO⟩:=hc.row;refine⟨(hp Sa _ hO).mono fun en wq hq=>?_⟩;obtain⟨e1,hT,Sn,hSn,hO⟩:=hq;have hc:=hc.turnO (Sep.stab y8 ya) h1 h2 h3 hT hSn hO y9;refine⟨_,e1,?_⟩;obtain⟨Sm,hm0,hkp,hm1,hag⟩:=hc.again;refine⟨(A3y gj gc b ⟨chL room ⟨r.s,r.s.size,true⟩,first,recs,false⟩ 0 Sm _ hm0 ⟨_,_,hm1⟩).mono fun en wq hq=>?_⟩;obtain⟨e1,hT,Sn,hSn,A2,cap2,hO⟩:=hq;obtain⟨S2,hc⟩:=hag hT hSn hO ya y9;refine⟨_,e1,?_⟩;exact JourK.leave hc rfl rfl _
def I0 (s:ByteArray):ByteArray:=⟨(J2 s).toArray⟩
theorem W5 (s:ByteArray):((I0 s).size:Int)=E9 s:=by show ((J2 s).toArray.size:Int)=_;rw [List.size_toArray];rfl
def B6T (room:Int) (r:Scroll) (first:ByteArray) (recs:List ByteArray) (down:Bool) (s:ByteArray) (press:Bool):Jour × Int:=
 if down then (JL room r first recs true,7)
 else if (400000:Int)<(s.size:Int) then (JL room r first recs false,1)
 else if room<E9 s then (JL room r first recs true,5)
 else if press then (JL (room-E9 s) ⟨r.s++I0 s,(r.s++I0 s).size,true⟩ first (recs++[s]) false,0)
 else (JL (room-E9 s) ⟨r.s++I0 s,r.pressed,r.kept⟩ first (recs++[s]) false,0)
theorem A8e (s:ByteArray) (h:s.size<=400000):D3 (I0 s) ⟨#[]⟩=false:=by rw [<-Bool.not_eq_true,D2];intro e;have h1:=W5 s;have h2:=(A3u s h).1;rw [e] at h1;have:((⟨#[]⟩:ByteArray).size:Int)=0:=rfl;omega
theorem B3D (gj gc b:Nat) (room:Int) (r:Scroll) (first:ByteArray) (recs:List ByteArray) (down:Bool) (s:ByteArray) (press:Bool) (hs:s.size<=1000000000) (hr:0<=room/\room<=1000000000) (hl:r.s.size<=1000000000) (hn:recs.length<=1000000) (Sx:Nat->Prop) (w:World) (hlt:∀ x,Sx x->x<w.heap.size) (he:EnvFree Sx w) (hK:JourK gj gc b (JL room r first recs down) Sx w):
  Calls Tryz.prog 116 #[.pointer (some ⟨gj,0,none⟩),.string s,.bool press] w (RetOb Sx w (.int .i64 (B6T room r first recs down s press).2) (JourK gj gc b (B6T room r first recs down s press).1)):=by
 obtain⟨q,hq⟩:∃ q,q=B6T room r first recs down s press:=⟨_,rfl⟩
 rw [<-hq];unfold B6T at hq;obtain⟨A,cap,hO⟩:=hK;have hc:=hO.enter hlt ya y9;refine vE Tryz.func116 ?_;refine⟨.bool false,fun w=>B3C gj _ _ w,?_⟩;refine hc.c 0 rfl rfl ?_;cases down with
 | true=>
  rw [y6 rfl] at hq;subst hq;exact JourK.leave hc rfl rfl _
 | false=>
 rw [y7 (by decide)] at hq;refine hc.q (A3o s (by omega) _ (he.now hc)) fun wQ hQ hc=>?_;by_cases h4:(400000:Int)<(s.size:Int)
 ·rw [y6 h4] at hq;subst hq;have e:J2 s=[]:=by unfold J2;rw [y6 h4]
  rw [e];exact JourK.leave hc rfl rfl _
 rw [y7 h4] at hq;have h17:=A3u s (by omega);refine C3X (A8e s (by omega)) ?_;refine hc.c 0 rfl rfl ?_;have hsz:=W5 s;have hwr:=fun Sa w hK=>A5E gc b (chL room r) Z5 (I0 s) (by decide) ⟨by show _<=room;omega,by show room<=_;omega⟩ (by omega) (by show (((c3f Z5 r) Z5).getD sc0).s.size<=_;rw [B4V];show r.s.size<=_;omega) (by show 1<1000000;decide) Sa w hK;rw [B02,hsz] at hwr;by_cases h5:room<E9 s
 ·rw [y6 h5] at hq hwr;obtain⟨S1,Sa,h1,h2,h3,hO⟩:=hc.row;refine⟨(hwr Sa _ hO).mono fun en wq hq=>?_⟩;obtain⟨e1,hT,Sn,hSn,hO⟩:=hq;have hc:=hc.turnO (Sep.stab y8 ya) h1 h2 h3 hT hSn hO y9;refine⟨_,e1,?_⟩;obtain⟨Sm,hm0,hkp,hm1,hag⟩:=hc.again;refine⟨(A3y gj gc b ⟨chL room r,first,recs,false⟩ 5 Sm _ hm0 ⟨_,_,hm1⟩).mono fun en wq hq=>?_⟩;obtain⟨e1,hT,Sn,hSn,A2,cap2,hO⟩:=hq;obtain⟨S2,hc⟩:=hag hT hSn hO ya y9;refine⟨_,e1,?_⟩;subst hq;exact JourK.leave hc rfl rfl _
 rw [y7 h5] at hq hwr;obtain⟨S1,Sa,h1,h2,h3,hO⟩:=hc.row;refine⟨(hwr Sa _ hO).mono fun en wq hq=>?_⟩;obtain⟨e1,hT,Sn,hSn,hO⟩:=hq;have hc:=hc.turnO (Sep.stab y8 ya) h1 h2 h3 hT hSn hO y9;refine⟨_,e1,?_⟩;obtain⟨Sm,hm0,hkp,hm1,hag⟩:=hc.again;refine⟨(A3y gj gc b ⟨chL (room-E9 s) ⟨r.s++I0 s,r.pressed,r.kept⟩,first,recs,false⟩ 0 Sm _ hm0 ⟨_,_,hm1⟩).mono fun en wq hq=>?_⟩;obtain⟨e1,hT,Sn,hSn,A2,cap2,hO⟩:=hq;obtain⟨S2,hc⟩:=hag hT hSn hO ya y9;refine⟨_,e1,?_⟩;refine hc.c 0 rfl rfl ?_;refine hc.n fun gv wgv hgv hc=>?_;have hc:=hc.now Sep.swap (Sep.stab (Sep.stab y8 y9) ya);refine B5S (m:=1) Tryz.underlying114 B0n rfl hc (Sep.stab y8 y9) (hc.cells 0 rfl) rfl (by decide) rfl (by show recs.length+1<=_;omega) (by decide) ?_;intro A3 cap3 w3 S3 hc;have hc:=hc.drop.now Sep.swap (Sep.stab (Sep.stab y8 ya) y9);refine hc.s 0 rfl fun wS hS hc=>?_;cases press with
 | false=>
  subst hq;exact JourK.leave hc (by rw [List.map_append];rfl) (by rw [z6];rfl) _
 | true=>
  obtain⟨Sm,hm0,hkp,hm1,hag⟩:=hc.again;have hJ:JourK gj gc b (JL (room-E9 s) ⟨r.s++I0 s,r.pressed,r.kept⟩ first (recs++[s]) false) Sm _:=⟨A3,cap3,by
   have e1:(recs++[s]).length=recs.length+1:=by simp
   have e2:(recs++[s]).map Value.string=recs.map Value.string++[Value.string s]:=by simp
   show ObjK gj _ (A3w gc first A3 (recs++[s]).length cap3 false) (RecK _ A3 (recs++[s]).length cap3 ((recs++[s]).map Value.string)) (ChestK gc b _) Sm _;rw [e1,e2];exact hm1⟩
  refine⟨(A8d gj gc b (room-E9 s) ⟨r.s++I0 s,r.pressed,r.kept⟩ first (recs++[s]) false Sm _ hm0 hJ).mono fun en wq hq2=>?_⟩;obtain⟨e1,hT,Sn,hSn,A2,cap2,hO⟩:=hq2;obtain⟨S2,hc⟩:=hag hT hSn hO ya y9;refine⟨_,e1,?_⟩;subst hq;exact JourK.leave hc rfl rfl _
theorem B03 (gj gc b:Nat) (J:Jour) (S:Nat->Prop) (w:World) (hK:JourK gj gc b J S w):Calls Tryz.prog 71 #[.pointer (some ⟨gj,0,none⟩)] w (C8 (.string J.first) w):=by obtain⟨A,cap,hO⟩:=hK;refine vE Tryz.func71 ?_;refine⟨.bool false,fun w=>B3C gj _ _ w,?_⟩;refine⟨_,(hO.2.1.cell 1).trans rfl,?_⟩;exact⟨rfl,Below.refl _ _⟩
theorem A5U (l:List ByteArray):(l.map fun s=>[Value.string s]).flatten=l.map Value.string:=by
 induction l with
 | nil=>rfl
 | cons a r ih=>rw [List.map_cons,List.flatten_cons,ih];rfl
theorem A8f (l:List ByteArray):Flat 1 (l.map fun s=>[Value.string s]):=Flat.map (fun s=>[Value.string s]) (fun a=>⟨rfl,rfl⟩) l
theorem A6V (gj gc b:Nat) (J:Jour) (hn:J.recs.length<=1000000) (S:Nat->Prop) (w:World) (hK:JourK gj gc b J S w):Calls Tryz.prog 72 #[.pointer (some ⟨gj,0,none⟩)] w (B2g 9 1 J.recs.length (J.recs.map Value.string) w):=by obtain⟨A,cap,hO⟩:=hK;have hR:=(hO.left ya).row;rw [<-A5U] at hR;refine vE Tryz.func72 ?_;refine⟨.bool false,fun w=>B3C gj _ _ w,?_⟩;refine⟨_,(hO.2.1.cell 2).trans rfl,?_⟩;refine⟨(A8P A J.recs.length cap _ (A8f _) (zj _) hn S w hR).mono fun en wq hq=>?_⟩;obtain⟨A2,cap2,e1,hb,ho⟩:=hq;refine⟨_,e1,A2,cap2,rfl,hb,?_⟩;rw [A5U] at ho;exact ho
theorem B04 {t:List UInt8} (h:(A0F t).2.2=0):(A0F t).2.1<=t.length/\(vK (A0F t).1=2->(vS (A0F t).1).size<=t.length):=by
 have hp:J5 6 t=A0F t:=by
  have e:A0F t=if (J5 6 t).2.2=0/\A2z (J5 6 t).1=false then (V0,0,1) else J5 6 t:=rfl
  rw [e] at h ⊢;split
  ·rename_i hc;rw [y6 hc] at h;cases h
  ·rfl
 obtain⟨h1,h2,h3⟩:=A68 6 t (A0F t).1 (A0F t).2.1 (by rw [hp];rw [<-h]);refine⟨h1,fun hk=>?_⟩;have hl:=F6 (A0F t).1;have e:(J1 (A0F t).1).length<=t.length:=by rw [h2,zf];omega
 generalize (A0F t).1=v at*;obtain⟨k,n,s,l⟩:=v;have hk:k=2:=hk;subst hk;have e2:I2 (.mk 2 n s l)=s.data.toList:=rfl;rw [e2] at hl;have e3:s.data.toList.length=s.size:=T3 s;show s.size<=_;omega
theorem A2H (s:ByteArray) (k:Nat) (h:k<=s.size):s.extract k s.size=⟨(s.data.toList.drop k).toArray⟩:=by have e:=P8 s.data.toList k s.size;rw [show (⟨s.data.toList.toArray⟩:ByteArray)=s from rfl] at e;rw [e,List.take_of_length_le (by rw [zg,T3];exact zc _)]
theorem B5d (s:ByteArray) (k:Nat):s.extract 0 k=⟨(s.data.toList.take k).toArray⟩:=by have e:=P8 s.data.toList 0 k;rw [show (⟨s.data.toList.toArray⟩:ByteArray)=s from rfl] at e;rw [e,List.drop_zero,Nat.sub_zero]
theorem A7d (s:ByteArray) (hs:s.size<=1000000000) (w:World) (hw:Env w):Calls Tryz.prog 126 #[.string s] w (C8 (.tuple #[.string (A2A s.data.toList).1,.int .i64 ((A2A s.data.toList).2.1:Nat),.int .i64 (A2A s.data.toList).2.2]) w):=by
 obtain⟨q,hq⟩:∃ q,q=A2A s.data.toList:=⟨_,rfl⟩;rw [<-hq];unfold A2A at hq;have hlen:s.data.toList.length=s.size:=T3 s;have hm:=A8O s (by omega) w;refine vE Tryz.func126 ?_;have hc:=CtxF.start w no (fun _ h=>h.elim) (R:=fun _ _=>True) trivial Stab.true;refine hc.q (hm) fun wQ hQ hc=>?_;cases hb:A19 s.data.toList with
 | false=>
  rw [y6 hb] at hq;subst hq;exact⟨rfl,hc.below⟩
 | true=>
 rw [y7 (by rw [hb];decide)] at hq;by_cases h8:s.size<8
 ·rw [y6 (by omega)] at hq;subst hq;refine dt (by omega) ?_;exact⟨rfl,hc.below⟩
 rw [y7 (by omega)] at hq;refine df (by omega) ?_;refine⟨⟨by omega,by omega,by omega⟩,?_⟩;have hg:=B8E (s.data.toList.drop 8) _ (by rw [zg];omega) (hw.below hc.below);rw [<-A2H s 8 (by omega)] at hg;have hz:=@B04 (s.data.toList.drop 8);rw [zg,hlen] at hz;generalize A0F (s.data.toList.drop 8)=g at*;obtain⟨v,n,e⟩:=g;simp only at hq hg hz;refine⟨hg.mono fun en wq hq2=>?_⟩;obtain⟨A1,c1,e1,hb2,hr1⟩:=hq2;have hc:=(hc.quiet hb2).1;refine⟨_,e1,?_⟩;refine hc.n fun g5 wg5 hg5 hc=>?_;refine hc.s 0 rfl fun wS hS hc=>?_;by_cases he2:e=2
 ·rw [y6 he2] at hq;subst hq;refine B0 (by rw [he2];rfl) ?_;subst he2;exact⟨rfl,hc.below⟩
 rw [y7 he2] at hq;refine C3X (by rw [y4];exact he2) ?_;have hr:=hc;refine vD (.Q [0,1,2,3,4,5,6,7,8,9,11,12,13,14] (.n 10 (.Q [15,16,17] .fin) .stop)) (Old _) (Old.start _) ?_;have hk:=hc.old0;have hc:=hc.drew;by_cases he0:e=0;rotate_left
 ·rw [y6 (.inl he0)] at hq;subst hq;refine B0 (by simpa using he0) ?_;refine⟨?_,trivial⟩;exact⟨rfl,hc.below⟩
 subst he0;refine⟨_,fun x hx=>Keeps.cell hx (hr.blk 0 rfl) (hr.blk 0 rfl).lt rfl,?_⟩;by_cases hk2:vK v=2;rotate_left
 ·rw [y6 (.inr (.inl hk2))] at hq;subst hq;refine B0 (by simpa using hk2) ?_;refine⟨?_,trivial⟩;exact⟨rfl,hc.below⟩
 refine C3X (by rw [hk2];rfl) ?_;obtain⟨hz1,hz2⟩:=hz rfl;have hz2:=hz2 hk2;refine⟨_,fun x hx=>Keeps.cell hx (hr.blk 0 rfl) (hr.blk 0 rfl).lt rfl,?_⟩;have hw8:IntKind.i64.wrap (8+(n:Int))=((8+n:Nat):Int):=by rw [IntWalk.i64_in _ ⟨by omega,by omega⟩];omega
 refine⟨⟨by decide,by rw [hw8];show (0:Int)<=_;omega,by rw [hw8];omega⟩,?_⟩;refine⟨hc.q (A3o (vS v) (by omega) _ (hw.below hc.below)) fun wA hA hc=>?_,trivial⟩;have hk:=Keeps.below hk (fun _ h=>h) hA;refine⟨hk,?_⟩;have e2:s.extract ((0:Nat):Int).toNat (IntKind.i64.wrap (8+(n:Int))).toNat=⟨(s.data.toList.take (8+n)).toArray⟩:=by rw [hw8,zh];exact B5d s (8+n)
 by_cases hl:J2 (vS v)=s.data.toList.take (8+n)
 ·rw [y7 (fun h=>h.elim (fun h=>h rfl) (fun h=>h.elim (fun h=>h hk2) (fun h=>h hl)))] at hq;refine C3X (by show (!D3 _ _)=false;rw [D2.2 (by rw [e2,hl])];rfl) ?_;refine hc.c 0 rfl rfl ?_;subst hq;refine⟨?_,hc.below⟩;rw [hw8];rfl
 ·rw [y6 (.inr (.inr hl))] at hq;subst hq;refine B0 (by
   show (!D3 _ _)=true;rw [Bool.not_eq_true',<-Bool.not_eq_true,D2,e2];intro h;apply hl;injection h with h
   exact List.toArray_inj h) ?_
  exact⟨rfl,hc.below⟩
def B5e (room:Int) (r:Scroll) (x0:ByteArray) (xs:List ByteArray) (n:Nat):Jour:=
 if (n:Int)<(r.s.size:Int) then JL (room+((r.s.size:Int)-n)) ⟨r.s.extract 0 n,if (n:Int)<r.pressed then n else r.pressed,true⟩ x0 xs false else JL room r x0 xs false
theorem B05 (room:Int) (r:Scroll) (n:Nat) (h:n<=r.s.size):A8N (chL room r) Z5 n=(chL (room+((r.s.size:Int)-n)) ⟨r.s.extract 0 n,if (n:Int)<r.pressed then n else r.pressed,true⟩,0):=by
 unfold A8N;rw [A06];have e2:A7U (chL room r).f (chL room r).k Z5=1:=by unfold A7U;rw [A06];rfl
 simp only;rw [y7 (by omega),e2,zh];show (Chest.mk (room+((r.s.size:Int)-n)) (A4U (c3f Z5 r) Z5 _) 1,(0:Int))=_;rw [A3x];rfl
theorem _root_.Go.Vc.EnvFree.sub0 {G S:Nat->Prop} {w w1:World} {l:List LB} {os:List OR} {O:Kn} (h:EnvFree G w) (hc:CtxF no (bare w) S w1 l os (Sep 0 (Keep w G) O)):Env w1:=by obtain⟨S1,So,h1,h2,h3,h4⟩:=hc.row;exact (h.kept (G':=no) fun x hx hg=>⟨id,(h3 x hx hg).2⟩).1
theorem ChestK.start {gc b:Nat} {C:Chest} {Sx:Nat->Prop} {w:World} (hlt:∀ x,Sx x->x<w.heap.size) (h:ChestK gc b C Sx w):CtxF no (bare w) (fun x=>x<w.heap.size) w [] [] (Sep 0 (Keep w Sx) (ChestK gc b C)):=
 CtxF.enter (fun x hx=>hx) trivial trivial ⟨fun x=>x<w.heap.size/\¬ Sx x,Sx,fun x hx=>hx,fun x hx=>⟨hlt x hx,zb _⟩,fun x hx hg=>⟨⟨hx,hg⟩,rfl⟩,h⟩ (Sep.stab y8 y9)
theorem JourK.leave2 {gj gc b gr o n cap:Nat} {first:ByteArray} {down:Bool} {recs:List ByteArray} {C:Chest} {cur:List Value} {Sx S:Nat->Prop} {w w':World}
  (hc:CtxF no (bare w) S w' [(gr,9,cur),(gj,159,A3w gc first (some ⟨gr,o,none⟩) n cap down)] [] (Sep 0 (Keep w Sx) (ChestK gc b C))) (hn:n=recs.length) (h1:n<=cap) (h2:cap<=maxLen) (h3:o+cap<=cur.length) (h4:(cur.drop o).take n=recs.map Value.string) (v:Value):RetOb Sx w v (JourK gj gc b ⟨C,first,recs,down⟩) (.returned v) w':=by
 subst hn;obtain⟨⟨_,a1,a2,a3,_,b1,b2,_⟩⟩:Locs S 0 w' [(gr,9,cur),(gj,159,A3w gc first (some ⟨gr,o,none⟩) recs.length cap down)]/\True:=⟨hc.ctx.locs,trivial⟩;have hne:gj≠gr:=a3 _ (zu ..);obtain⟨Sk,So,k1,k2,k3,k4⟩:=hc.row;have hout:∀ x,¬ Sk x->Sx x\/w.heap.size<=x:=fun x hn=>by
  rcases zl x w.heap.size with hl | hl
  ·rcases Classical.em (Sx x) with hs | hs
   ·exact .inl hs
   ·exact (hn (k3 x hl hs).1).elim
  ·exact .inr hl
 refine⟨rfl,hc.leave k3,fun x=>x=gj\/x=gr\/So x,fun x hx=>?_,some ⟨gr,o,none⟩,cap,.inl rfl,hc.blk 1 rfl,fun x=>x=gr,So,fun x hx=>⟨⟨.inr (.inl hx),fun e=>hne (e.symm.trans hx)⟩,fun ho=>a1 (hx▸(k2 x ho).1)⟩,fun x hx=>⟨⟨.inr (.inr hx),fun e=>b1 (e▸(k2 x hx).1)⟩,zb _⟩,⟨by rw [zj],h1,h2,.inr ⟨gr,o,cur,rfl,rfl,hc.blk 0 rfl,h3,h4⟩⟩,k4⟩;rcases hx with rfl | rfl | hx
 ·exact⟨hout _ fun h=>b1 (k1 _ h).1,(hc.blk 1 rfl).lt⟩
 ·exact⟨hout _ fun h=>a1 (k1 _ h).1,(hc.blk 0 rfl).lt⟩
 ·exact⟨hout _ fun h=>(k1 _ h).2 hx,hc.ctx.lt _ (k2 x hx).1⟩
theorem Splits.le:∀ {l:List ByteArray} {t:List UInt8} {n m:Nat},Splits t l n->t.length=m->n<=m
 | [],t,n,m,h,e=>by rw [h.1];exact zb _
 | x::xs,t,n,m,⟨k,a,h1,h2,h3,h4,h5⟩,e=>by have:=Splits.le h5 rfl;rw [zg] at this;omega
end Go.Proofs.YtefdfaeieekioaaGreatDoor
