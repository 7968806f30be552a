import Derived.Test.YtfekddndgakneaaGreatDoorM12
set_option maxRecDepth 100000
set_option maxHeartbeats 40000000
set_option linter.unusedVariables false
set_option linter.unusedSimpArgs false
section
namespace Go.Proofs.YtfekddndgakneaaGreatDoor
open Go.Vc Go.RowKit Go.Fl Go.ChangeShapes Go.WideShapes Go.ChangeAt
def iC (n:Int):List Value:=[.int .i64 n]
theorem A8A {α:Type} {l:List α} {d:α} {i:Nat} (h:i<l.length):l.getD i d=l[i]:=by rw [List.getD_eq_getElem?_getD,List.getElem?_eq_getElem h];rfl
def L2 (l:List Int):List Value:=(l.map iC).flatten
theorem T6 (l:List Int):Flat 1 (l.map iC):=Flat.map iC (fun a=>⟨rfl,rfl⟩) l
theorem B2w (l:List Int):(L2 l).length=l.length:=by unfold L2;rw [(T6 l).len,List.length_map,Nat.mul_one]
theorem RowI'.elem {S:Nat->Prop} {w:World} {A:Option Addr} {n cap:Nat} {l:List Int} (hR:Row S w A n cap (L2 l)) (i:Nat) (hi:i<l.length):∃ ad,A=some ad/\w.cell? (ad.add (i*1))=some (.int .i64 l[i]):=by
 obtain⟨ad,e,h⟩:=Row.elemF hR (k:=1) (by decide) (T6 l) i (by rw [List.length_map];exact hi)
 rw [List.getElem_map] at h
 refine⟨ad,e,?_⟩
 have:=h.1
 rw [show (ad.add (i*1)).add 0=ad.add (i*1) from by rw [add_add,Nat.add_zero]] at this
 exact this
def A2m (l:List Int) (x:Int):Option Nat:=l.findIdx? (eqI x)
def F8 (l:List Int) (x:Int):Int:=match A2m l x with | some i=>i | none => -1
theorem A2Q {l:List Int} {x:Int} {i:Nat} (hi:i<l.length) (e:l[i]=x) (h:∀ j (hj:j<l.length),j<i->l[j]≠x):A2m l x=some i:=by
 unfold A2m
 rw [List.findIdx?_eq_some_iff_getElem]
 refine⟨hi,by rw [e];exact (Q3 _ _).2 rfl,fun j hj=>?_⟩
 rw [Bool.not_eq_true,Bool.eq_false_iff]
 intro hh
 exact h j (by omega) hj ((Q3 _ _).1 hh).symm
theorem A4u {l:List Int} {x:Int} (h:∀ j (hj:j<l.length),l[j]≠x):A2m l x=none:=by
 unfold A2m
 rw [List.findIdx?_eq_none_iff]
 intro y hy
 obtain⟨j,hj,rfl⟩:=List.getElem_of_mem hy
 rw [Bool.eq_false_iff]
 intro hh
 exact h j hj ((Q3 _ _).1 hh).symm
theorem A6z {l:List Int} {x:Int} {i:Nat} (h:A2m l x=some i):∃ hi:i<l.length,l[i]=x/\∀ j (hj:j<l.length),j<i->l[j]≠x:=by
 unfold A2m at h
 rw [List.findIdx?_eq_some_iff_getElem] at h
 obtain⟨hi,h1,h2⟩:=h
 refine⟨hi,((Q3 _ _).1 h1).symm,fun j hj hlt e=>?_⟩
 have:=h2 j hlt
 rw [e] at this
 exact this ((Q3 _ _).2 rfl)
theorem B2x {l:List Int} {x:Int}:(A2m l x).isSome=decide (x∈l):=by
 cases h:A2m l x with
 | some i=>
  obtain⟨hi,e,_⟩:=A6z h
  rw [decide_eq_true (e▸List.getElem_mem hi)]
  rfl
 | none=>
  unfold A2m at h
  rw [List.findIdx?_eq_none_iff] at h
  rw [decide_eq_false fun hm=>by have:=h x hm;rw [(Q3 _ _).2 rfl] at this;cases this]
  rfl
theorem B4p (l:List Int) (x:Int):decide (0<=F8 l x)=decide (x∈l):=by
 unfold F8
 rw [<-B2x]
 cases A2m l x with
 | some i=>exact decide_eq_true (by show (0:Int)<=(i:Int);omega)
 | none=>exact decide_eq_false (by decide)
def atI (l:List Int) (i:Int):Int:=if i<0\/(l.length:Int)<=i then 0 else l.getD i.toNat 0
def B8H (l:List Int):Int:=atI l 0
def A1v (l:List Int):Int:=atI l (l.length-1)
def B6k (l:List Int) (n:Int):Int:=if 0<=F8 l n then atI l (F8 l n+1) else 0
def B2y (l:List Int) (n:Int):Int:=atI l (F8 l n-1)
theorem Z2 (l:List Int) (x:Int) : -1<=F8 l x/\F8 l x<l.length:=by
 unfold F8
 cases h:A2m l x with
 | some i=>
  obtain⟨hi,_⟩:=A6z h
  show -1<=(i:Int)/\(i:Int)<l.length
  omega
 | none=>
  show (-1:Int) <= -1/\(-1:Int)<l.length
  omega
section
variable {S:Nat->Prop} {w:World} {A B:Option Addr} {cap cap':Nat}
theorem A0r (l:List Int) (x:Int) (hR:Row S w A l.length cap (L2 l)):Calls Tryz.prog 155 #[.slice A l.length cap,.int .i64 x] w (C7 (.int .i64 (F8 l x)) w):=by
 have hM:=C9 hR
 refine vE Tryz.func155 ?_
 refine⟨Nat,fun i=>[(0,.slice A l.length cap),(1,.int .i64 x),(7,.int .i64 (l.length:Int)),(8,.int .i64 (i:Int))],fun i w'=>i<=l.length/\(∀ j (hj:j<l.length),j<i->l[j]≠x)/\Below w.heap.size w w',fun i _=>l.length-i,0,⟨rfl,rfl,rfl,rfl,trivial⟩,⟨Nat.zero_le _,(fun j hj h=>absurd h (Nat.not_lt_zero _)),Below.refl _ _⟩,?_⟩
 rintro i w' u ⟨hi,hn,hb⟩
 by_cases hlt:i<l.length
 ·refine dt (by omega) ?_
  obtain⟨ad,rfl,hcell⟩:=RowI'.elem (hR.below hb) i hlt
  refine⟨⟨by omega,by omega⟩,?_⟩
  refine⟨_,by rw [Int.toNat_natCast];exact hcell,?_⟩
  by_cases hx:x=l[i]
  ·refine B6 (by show (x==l[i])=true;rw [beq_iff_eq];exact hx) ?_
   refine⟨?_,hb⟩
   unfold F8
   rw [A2Q hlt hx.symm hn];rfl
  ·refine B4 (by show (x==l[i])=false;rw [beq_eq_false_iff_ne];exact hx) ?_
   refine⟨i+1,⟨rfl,rfl,rfl,congrArg _ (C1 (by omega)),trivial⟩,⟨hlt,fun j hj hj2=>?_,hb⟩,by show l.length-(i+1)<l.length-i;omega⟩
   by_cases hji:j=i
   ·subst hji
    exact fun e=>hx e.symm
   ·exact hn j hj (by omega)
 ·refine df (by omega) ?_
  refine⟨?_,hb⟩
  unfold F8
  rw [A4u fun j hj=>hn j hj (by omega)];rfl
theorem A5r (l:List Int) (x:Int) (hR:Row S w A l.length cap (L2 l)):Calls Tryz.prog 157 #[.slice A l.length cap,.int .i64 x] w (C7 (.bool (decide (x∈l))) w):=by
 refine vE Tryz.func157 ?_
 refine C2 (A0r l x hR) ?_
 intro w1 h1
 refine⟨?_,h1⟩
 show Ending.returned (.bool (decide (0<=F8 l x)))=_
 rw [B4p]
theorem B0F (a b:List Int) (hR:Row S w A a.length cap (L2 a)) {S':Nat->Prop} (hR':Row S' w B b.length cap' (L2 b)):Calls Tryz.prog 60 #[.slice A a.length cap,.slice B b.length cap'] w (C7 (.bool (D7 eqI a b)) w):=by
 have hM:=C9 hR
 refine vE Tryz.func60 ?_
 by_cases hl:a.length=b.length
 rotate_left
 ·refine B6 (by show ((a.length:Int) != (b.length:Int))=true;rw [bne_iff_ne];omega) ?_
  rw [L4 _ _ _ hl]
  exact⟨rfl,Below.refl _ _⟩
 refine B4 (by show ((a.length:Int) != (b.length:Int))=false;rw [hl];simp) ?_
 refine⟨Nat,fun i=>[(0,.slice A a.length cap),(1,.slice B b.length cap'),(12,.int .i64 a.length),(13,.int .i64 i)],
  fun i w'=>i<=a.length/\D7 eqI (a.drop i) (b.drop i)=D7 eqI a b/\Below w.heap.size w w',fun i _=>a.length-i,0,⟨rfl,rfl,rfl,rfl,trivial⟩,⟨Nat.zero_le _,rfl,Below.refl _ _⟩,?_⟩
 rintro i w' u ⟨hi,he,hb⟩
 by_cases hlt:i<a.length
 ·refine dt (by omega) ?_
  obtain⟨ad,rfl,hcell⟩:=RowI'.elem (hR.below hb) i hlt
  obtain⟨bd,rfl,hcell'⟩:=RowI'.elem (hR'.below hb) i (by omega)
  rw [List.drop_eq_getElem_cons hlt,List.drop_eq_getElem_cons (show i<b.length by omega),D7] at he
  obtain⟨x,hx⟩:∃ x,x=a[i]:=⟨_,rfl⟩
  obtain⟨y,hy⟩:∃ y,y=b[i]'(by omega):=⟨_,rfl⟩
  rw [<-hx] at hcell he
  rw [<-hy] at hcell' he
  refine vD (.Q [0,1,2,3,4,5,6,7,8] .fin) (Keeps (fun b=>b<w'.heap.size) w') (Keeps.start _ _) ?_
  refine⟨⟨by omega,by omega⟩,?_⟩
  refine⟨_,fun z hz=>hz.look (by rw [Int.toNat_natCast];exact hcell),?_⟩
  refine⟨⟨by omega,by omega⟩,?_⟩
  refine⟨_,fun z hz=>hz.look (by rw [Int.toNat_natCast];exact hcell'),?_⟩
  have hb:=hb.drew
  by_cases hv:x=y
  ·rw [(Q3 x y).2 hv,Bool.true_and] at he
   refine B4 (by show (x != y)=false;rw [bne_eq_false_iff_eq];exact hv) ?_
   exact⟨i+1,⟨rfl,rfl,rfl,congrArg _ (C1 (by omega)),trivial⟩,⟨hlt,he,hb⟩,by show a.length-(i+1)<a.length-i;omega⟩
  ·have hf:eqI x y=false:=by rw [Bool.eq_false_iff];exact fun h=>hv ((Q3 x y).1 h)
   rw [hf] at he
   refine B6 (by show (x != y)=true;rw [bne_iff_ne];exact hv) ?_
   refine⟨?_,hb⟩
   rw [<-he]
   rfl
 ·refine df (by omega) ?_
  rw [List.drop_of_length_le (by omega),List.drop_of_length_le (by omega),D7] at he
  rw [<-he]
  exact⟨rfl,hb⟩
end
theorem B8 {S0 S:Nat->Prop} {w0 w:World} {l l':List LB} {os:List OR} {R:Kn} (hc:CtxF S0 w0 S w l os R) (h:l=l'):CtxF S0 w0 S w l' os R:=h▸hc
def I0 (r:Ros) (A:Option Addr) (cap:Nat):List Value:=[.int .i64 r.ep,.slice A r.l.length cap,.int .i64 r.new]
def RosR (r:Ros) (A:Option Addr) (cap:Nat):Kn:=fun S w=>Row S w A r.l.length cap (L2 r.l)
theorem RosR.stab (r:Ros) (A:Option Addr) (cap:Nat):Stab (RosR r A cap):=fun _ _ _ _ h f=>Row.fut h f
theorem RosR.below {r:Ros} {A:Option Addr} {cap:Nat} {S:Nat->Prop} {w w':World} (h:RosR r A cap S w) (hb:Below w.heap.size w w'):RosR r A cap S w':=Row.below h hb
theorem Ros0.rep (S:Nat->Prop) (w:World):RosR Ros0 none 0 S w:=B0Z _ _
section
variable {r q:Ros} {S:Nat->Prop} {w:World} {A B:Option Addr} {cap cap':Nat}
theorem B2z (hR:RosR r A cap S w) {S':Nat->Prop} (hQ:RosR q B cap' S' w):Calls Tryz.prog 34 #[.agg (I0 r A cap).toArray,.agg (I0 q B cap').toArray] w (C7 (.bool (eqR r q)) w):=by
 refine vE Tryz.func34 ?_
 have hc:=CtxF.start w no (fun _ h=>h.elim) (R:=fun _ _=>True) trivial Stab.true
 refine hc.n fun g2 wg2 hg2 hc=>?_
 refine hc.n fun g3 wg3 hg3 hc=>?_
 refine hc.c 1 rfl rfl ?_
 refine hc.c 0 rfl rfl ?_
 unfold eqR
 by_cases h1:r.ep=q.ep
 rotate_left
 ·have e:(r.ep==q.ep)=false:=by rw [beq_eq_false_iff_ne];exact h1
  rw [e]
  refine B4 e ?_
  exact⟨rfl,hc.below⟩
 rw [(beq_iff_eq (a:=r.ep) (b:=q.ep)).2 h1]
 refine B6 (by rw [beq_iff_eq];exact h1) ?_
 refine hc.c 1 rfl rfl ?_
 refine hc.c 0 rfl rfl ?_
 by_cases h2:r.new=q.new
 rotate_left
 ·have e:(r.new==q.new)=false:=by rw [beq_eq_false_iff_ne];exact h2
  rw [e]
  refine B4 e ?_
  exact⟨rfl,hc.below⟩
 rw [(beq_iff_eq (a:=r.new) (b:=q.new)).2 h2]
 refine B6 (by rw [beq_iff_eq];exact h2) ?_
 refine hc.c 1 rfl rfl ?_
 refine hc.c 0 rfl rfl ?_
 refine hc.q (B0F r.l q.l (hR.below hc.below) (hQ.below hc.below)) fun wQ hQ hc=>?_
 exact⟨rfl,hc.below⟩
theorem A89 (n:Int) (hR:RosR r A cap S w):Calls Tryz.prog 103 #[.agg (I0 r A cap).toArray,.int .i64 n] w (C7 (.bool (decide (n∈r.l))) w):=by
 refine vE Tryz.func103 ?_
 have hc:=CtxF.start w no (fun _ h=>h.elim) (R:=fun _ _=>True) trivial Stab.true
 refine hc.n fun g2 wg2 hg2 hc=>?_
 refine hc.c 0 rfl rfl ?_
 refine hc.q (A5r r.l n (hR.below hc.below)) fun wQ hQ hc=>?_
 exact⟨rfl,hc.below⟩
theorem A22 (i:Int) (hR:RosR r A cap S w):Calls Tryz.prog 108 #[.agg (I0 r A cap).toArray,.int .i64 i] w (C7 (.int .i64 (atI r.l i)) w):=by
 have hM:=C9 hR
 refine vE Tryz.func108 ?_
 have hc:=CtxF.start w no (fun _ h=>h.elim) (R:=fun _ _=>True) trivial Stab.true
 refine hc.n fun g2 wg2 hg2 hc=>?_
 unfold atI
 by_cases h0:i<0
 ·rw [if_pos (.inl h0)]
  refine dt h0 ?_
  exact⟨rfl,hc.below⟩
 refine df h0 ?_
 refine hc.c 0 rfl rfl ?_
 by_cases h1:(r.l.length:Int)<=i
 ·rw [if_pos (.inr h1)]
  refine dt h1 ?_
  exact⟨rfl,hc.below⟩
 refine df h1 ?_
 rw [if_neg (fun h=>h.elim h0 h1)]
 refine hc.c 0 rfl rfl ?_
 have hi:i.toNat<r.l.length:=by omega
 obtain⟨ad,rfl,hcell⟩:=RowI'.elem (hR.below hc.below) i.toNat hi
 refine⟨⟨by omega,by omega⟩,?_⟩
 refine⟨_,hcell,?_⟩
 rw [A8A hi]
 exact⟨rfl,hc.below⟩
theorem B20 (hR:RosR r A cap S w):Calls Tryz.prog 104 #[.agg (I0 r A cap).toArray] w (C7 (.int .i64 (B8H r.l)) w):=by
 refine vE Tryz.func104 ?_
 have hc:=CtxF.start w no (fun _ h=>h.elim) (R:=fun _ _=>True) trivial Stab.true
 refine hc.n fun g2 wg2 hg2 hc=>?_
 refine hc.a 0 rfl rfl ?_
 refine hc.q (A22 0 (hR.below hc.below)) fun wQ hQ hc=>?_
 exact⟨rfl,hc.below⟩
theorem A60 (hR:RosR r A cap S w):Calls Tryz.prog 65 #[.agg (I0 r A cap).toArray] w (C7 (.int .i64 (A1v r.l)) w):=by
 have hM:=C9 hR
 refine vE Tryz.func65 ?_
 have hc:=CtxF.start w no (fun _ h=>h.elim) (R:=fun _ _=>True) trivial Stab.true
 refine hc.n fun g2 wg2 hg2 hc=>?_
 refine hc.a 0 rfl rfl ?_
 refine hc.c 0 rfl rfl ?_
 have hw1:IntKind.i64.wrap ((r.l.length:Int)-1)=(r.l.length:Int)-1:=IntWalk.i64_in _ ⟨by omega,by omega⟩
 have h:=A22 ((r.l.length:Int)-1) (hR.below hc.below)
 rw [<-hw1] at h
 refine hc.q (h) fun wQ hQ hc=>?_
 refine⟨?_,hc.below⟩
 show Ending.returned (.int .i64 (atI r.l (IntKind.i64.wrap ((r.l.length:Int)-1))))=_
 rw [hw1]
 rfl
theorem B21 (n:Int) (hR:RosR r A cap S w):Calls Tryz.prog 105 #[.agg (I0 r A cap).toArray,.int .i64 n] w (C7 (.int .i64 (B6k r.l n)) w):=by
 have hM:=C9 hR
 have hs:=Z2 r.l n
 refine vE Tryz.func105 ?_
 have hc:=CtxF.start w no (fun _ h=>h.elim) (R:=fun _ _=>True) trivial Stab.true
 refine hc.n fun g2 wg2 hg2 hc=>?_
 refine hc.c 0 rfl rfl ?_
 refine hc.q (A0r r.l n (hR.below hc.below)) fun wQ hQ hc=>?_
 unfold B6k
 by_cases h0:0<=F8 r.l n
 ·rw [if_pos h0]
  refine dt h0 ?_
  refine hc.a 0 rfl rfl ?_
  have hw1:IntKind.i64.wrap (F8 r.l n+1)=F8 r.l n+1:=IntWalk.i64_in _ ⟨by omega,by omega⟩
  have h:=A22 (IntKind.i64.wrap (F8 r.l n+1)) (hR.below hc.below)
  refine hc.q (h) fun wQ hQ hc=>?_
  exact⟨by rw [hw1];rfl,hc.below⟩
 ·rw [if_neg h0]
  refine df h0 ?_
  exact⟨rfl,hc.below⟩
theorem B0G (n:Int) (hR:RosR r A cap S w):Calls Tryz.prog 106 #[.agg (I0 r A cap).toArray,.int .i64 n] w (C7 (.int .i64 (B2y r.l n)) w):=by
 have hM:=C9 hR
 have hs:=Z2 r.l n
 refine vE Tryz.func106 ?_
 have hc:=CtxF.start w no (fun _ h=>h.elim) (R:=fun _ _=>True) trivial Stab.true
 refine hc.n fun g2 wg2 hg2 hc=>?_
 have hw1:IntKind.i64.wrap (F8 r.l n-1)=F8 r.l n-1:=IntWalk.i64_in _ ⟨by omega,by omega⟩
 have hr:=hc
 refine vD (.Q [0,1,2,3] (.n 4 (.q 5 (.n 6 (.q 7 .fin) .stop)) .stop)) (Old _) (Old.start _) ?_
 have hk:=hc.old0
 have hc:=hc.drew
 refine⟨_,?_,fun x hx=>Keeps.cells hx (hr.blk 0 rfl) (hr.blk 0 rfl).lt,?_⟩
 ·rfl
 refine⟨_,fun x hx=>Keeps.cell hx (hr.blk 0 rfl) (hr.blk 0 rfl).lt rfl,?_⟩
 refine⟨hc.q (A0r r.l n (hR.below hc.below)) fun wA hA hc=>?_,trivial⟩
 have hk:=Keeps.below hk (fun _ h=>h) hA
 refine⟨hk,?_⟩
 refine⟨?_,trivial⟩
 have h:=A22 (IntKind.i64.wrap (F8 r.l n-1)) (hR.below hc.below)
 refine hc.q (h) fun wA hA hc=>?_
 have hk:=Keeps.below hk (fun _ h=>h) hA
 refine⟨hk,?_⟩
 refine⟨?_,hc.below⟩
 unfold B2y
 rw [hw1]
 rfl
end
def A5s (l:List Int):List Value:=(List.range 6).map fun (n:Nat)=>.bool (decide ((n:Int)∈l))
theorem B22 (l:List Int) (i:Nat) (h:i<6):(A5s l)[i]?=some (.bool (decide ((i:Int)∈l))):=by
 unfold A5s
 rw [List.getElem?_map,List.getElem?_range h]
 rfl
theorem B23 (l:List Int) (i:Nat) (h:i<6):(A5s l).set i (.bool true)=A5s (l++[(i:Int)]):=by
 unfold A5s
 apply List.ext_getElem?
 intro j
 by_cases hj:j<6
 ·rw [List.getElem?_map,List.getElem?_range hj]
  by_cases e:i=j
  ·subst e
   rw [List.getElem?_set_self (by simpa using h)]
   simp
  ·rw [List.getElem?_set_ne e,List.getElem?_map,List.getElem?_range hj]
   simp only [Option.map_some,List.mem_append,List.mem_singleton]
   congr 3
   have:¬ ((j:Int)=(i:Int)):=by omega
   simp [this]
 ·rw [List.getElem?_eq_none (by simp;omega),List.getElem?_eq_none (by simp;omega)]
theorem A4v {l:List Int} {x:Int}:(l++[x]).Nodup↔l.Nodup/\x ∉ l:=by
 rw [List.nodup_append]
 constructor
 ·rintro⟨h1,_,h3⟩
  exact⟨h1,fun hx=>h3 x hx x (List.mem_singleton.2 rfl) rfl⟩
 ·rintro⟨h1,h2⟩
  refine⟨h1,by simp,fun a ha b hb e=>?_⟩
  rw [List.mem_singleton] at hb
  subst hb e
  exact h2 ha
theorem B0H (l:List Int):A1v l=l.getLastD 0:=by
 unfold A1v atI
 cases l with
 | nil=>rfl
 | cons a r=>
  rw [if_neg (by simp only [List.length_cons];omega)]
  rw [show (((a::r).length:Int)-1).toNat=(a::r).length-1 from by omega,List.getD_eq_getElem?_getD,<-List.getLast?_eq_getElem?,List.getLast?_cons,List.getLastD_cons,List.getLastD_eq_getLast?]
  rfl
theorem A61 (r:Ros):A31 r=(if r.ep<1 then false else if J9<r.ep then false else if r.l.length<1 then false else if 5<r.l.length then false else (r.l.all inR&&(decide r.l.Nodup&&(r.new==0||(decide (1<r.l.length)&&r.new==A1v r.l))))):=by
 unfold A31
 rw [B0H]
 by_cases h1:r.ep<1
 ·rw [if_pos h1,decide_eq_false (by omega)];rfl
 rw [if_neg h1,decide_eq_true (show (1:Int)<=r.ep by omega)]
 by_cases h2:J9<r.ep
 ·rw [if_pos h2,decide_eq_false (show ¬ r.ep<=J9 by omega)];rfl
 rw [if_neg h2,decide_eq_true (show r.ep<=J9 by omega)]
 by_cases h3:r.l.length<1
 ·rw [if_pos h3,decide_eq_false (show ¬ 1<=r.l.length by omega)];rfl
 rw [if_neg h3,decide_eq_true (show 1<=r.l.length by omega)]
 by_cases h4:5<r.l.length
 ·rw [if_pos h4,decide_eq_false (show ¬ r.l.length<=5 by omega)];rfl
 rw [if_neg h4,decide_eq_true (show r.l.length<=5 by omega)]
 simp only [Bool.true_and]
 congr 3
 rw [Bool.eq_iff_iff,Bool.and_eq_true,Bool.and_eq_true,beq_iff_eq,beq_iff_eq]
 exact⟨fun h=>⟨h.1,h.2.symm⟩,fun h=>⟨h.1,h.2.symm⟩⟩
theorem W9 {r:Ros} {S:Nat->Prop} {w:World} {A:Option Addr} {cap:Nat} (hR:RosR r A cap S w):Calls Tryz.prog 38 #[.agg (I0 r A cap).toArray] w (C7 (.bool (A31 r)) w):=by
 have hM:=C9 hR
 have hmx:J9=1099511627776:=rfl
 rw [A61]
 refine vE Tryz.func38 ?_
 have hc:=CtxF.start w no (fun _ h=>h.elim) (R:=fun _ _=>True) trivial Stab.true
 refine hc.n fun g1 wg1 hg1 hc=>?_
 refine hc.c 0 rfl rfl ?_
 by_cases h1:r.ep<1
 ·rw [if_pos h1]
  refine dt h1 ?_
  exact⟨rfl,hc.below⟩
 rw [if_neg h1]
 refine df h1 ?_
 refine hc.c 0 rfl rfl ?_
 by_cases h2:J9<r.ep
 ·rw [if_pos h2]
  refine dt h2 ?_
  exact⟨rfl,hc.below⟩
 rw [if_neg h2]
 refine df h2 ?_
 refine hc.c 0 rfl rfl ?_
 by_cases h3:r.l.length<1
 ·rw [if_pos h3]
  refine dt (by omega) ?_
  exact⟨rfl,hc.below⟩
 rw [if_neg h3]
 refine df (by omega) ?_
 refine hc.c 0 rfl rfl ?_
 by_cases h4:5<r.l.length
 ·rw [if_pos h4]
  refine dt (by omega) ?_
  exact⟨rfl,hc.below⟩
 rw [if_neg h4]
 refine df (by omega) ?_
 refine hc.n fun g3 wg3 hg3 hc=>?_
 refine hc.s 0 rfl fun wS hS hc=>?_
 refine hc.c 1 rfl rfl ?_
 refine⟨Nat,fun i=>[(1,.pointer (some ⟨g1,0,none⟩)),(3,.pointer (some ⟨g3,0,none⟩)),(28,.slice A r.l.length cap),(29,.int .i64 (r.l.length:Int)),(30,.int .i64 (i:Int))],
  fun i wS=>i<=r.l.length/\(∀ n∈r.l.take i,inR n=true)/\(r.l.take i).Nodup/\∃ S,CtxF no w S wS [(g3,98,A5s (r.l.take i)),(g1,27,I0 r A cap)] [] (fun _ _=>True),fun i _=>r.l.length-i,0,⟨rfl,rfl,rfl,rfl,rfl,trivial⟩,⟨Nat.zero_le _,(fun n hn=>by cases hn),List.nodup_nil,_,hc⟩,?_⟩
 clear hc
 rintro i w1 u ⟨hi,hin,hnd,S',hc⟩
 by_cases hlt:i<r.l.length
 ·refine dt (by omega) ?_
  obtain⟨ad,rfl,hcell⟩:=RowI'.elem (hR.below hc.below) i hlt
  obtain⟨x,hx⟩:∃ x,x=r.l[i]:=⟨_,rfl⟩
  rw [<-hx] at hcell
  refine⟨⟨by omega,by omega⟩,?_⟩
  refine⟨_,by rw [Int.toNat_natCast];exact hcell,?_⟩
  have hxm:x∈r.l:=hx▸List.getElem_mem _
  have bad:inR x=false->(r.l.all inR)=false:=fun h=>by
   rw [Bool.eq_false_iff]
   intro hh
   rw [List.all_eq_true.1 hh x hxm] at h
   cases h
  by_cases l1:x<1
  ·rw [bad (by unfold inR;rw [decide_eq_false (show ¬ (1:Int)<=x by omega)];rfl)]
   refine dt l1 ?_
   exact⟨rfl,hc.below⟩
  refine df l1 ?_
  by_cases l5:5<x
  ·rw [bad (by unfold inR;rw [decide_eq_false (show ¬ x<=5 by omega),Bool.and_false])]
   refine dt l5 ?_
   exact⟨rfl,hc.below⟩
  refine df l5 ?_
  obtain⟨m,hm⟩:∃ m:Nat,x=(m:Int):=⟨x.toNat,by omega⟩
  subst hm
  have hm6:m<6:=by omega
  refine⟨⟨by omega,by omega⟩,?_⟩
  have hsc:w1.cell? ((⟨g3,0,none⟩:Addr).add ((m:Int).toNat*1))=some (.bool (decide ((m:Int)∈r.l.take i))):=by
   rw [Addr.add_lit,Nat.zero_add,Int.toNat_natCast,Nat.mul_one]
   exact hc.cell 0 rfl m (B22 _ m hm6)
  refine⟨_,hsc,?_⟩
  have htk:r.l.take (i+1)=r.l.take i++[(m:Int)]:=by rw [List.take_succ_eq_append_getElem hlt,<-hx]
  by_cases hin2:(m:Int)∈r.l.take i
  ·have hdup:¬ r.l.Nodup:=fun hn=>by
    have h9:=hn.sublist (List.take_sublist (i+1) r.l)
    rw [htk,A4v] at h9
    exact h9.2 hin2
   refine dt hin2 ?_
   rw [decide_eq_false hdup]
   simp only [Bool.false_and,Bool.and_false]
   exact⟨rfl,hc.below⟩
  refine df hin2 ?_
  refine⟨⟨by omega,by omega⟩,?_⟩
  generalize hae:((⟨g3,0,none⟩:Addr).add ((m:Int).toNat*1))=ae
  have hae:(⟨g3,m,none⟩:Addr)=ae:=by rw [<-hae,Addr.add_lit,Nat.zero_add,Int.toNat_natCast,Nat.mul_one]
  subst hae
  refine⟨hc.may 0 rfl m [.bool true] (by show m+1<=(A5s (r.l.take i)).length;unfold A5s;simp;omega) rfl,?_⟩
  intro wS hS
  have hS:E2 _ ⟨g3,m,none⟩ [.bool true] wS:=hS
  have hc:=(hc.set 0 rfl hS).1
  have hc:CtxF no w S' wS [(g3,98,(A5s (r.l.take i)).set m (.bool true)),(g1,27,I0 r (some ad) cap)] [] (fun _ _=>True):=hc
  rw [B23 _ _ hm6,<-htk] at hc
  refine⟨i+1,⟨rfl,rfl,rfl,rfl,congrArg _ (C1 (by omega)),trivial⟩,⟨hlt,fun n hn=>?_,?_,_,hc⟩,by show r.l.length-(i+1)<r.l.length-i;omega⟩
  ·rw [htk,List.mem_append,List.mem_singleton] at hn
   rcases hn with hn | rfl
   ·exact hin n hn
   ·unfold inR
    rw [decide_eq_true (show (1:Int)<=(m:Int) by omega),decide_eq_true (show (m:Int)<=5 by omega)]
    rfl
  ·rw [htk,A4v]
   exact⟨hnd,hin2⟩
 refine df (by omega) ?_
 obtain rfl:i=r.l.length:=by omega
 rw [List.take_length] at hin hnd
 rw [List.all_eq_true.2 hin,decide_eq_true hnd]
 simp only [Bool.true_and]
 by_cases hn0:r.new=0
 ·rw [(beq_iff_eq (a:=r.new) (b:=0)).2 hn0,Bool.true_or]
  have hr:=hc
  refine vD (.Q [0,1,2,3,4,5,6,7,8,9,10,11] (.n 12 (.Q [13,14,15,16] .fin) .stop)) (Old _) (Old.start _) ?_
  have hk:=hc.old0
  have hc:=hc.drew
  refine⟨_,fun x hx=>Keeps.cell hx (hr.blk 1 rfl) (hr.blk 1 rfl).lt rfl,?_⟩
  refine B6 (by show (r.new==0)=true;rw [hn0];rfl) ?_
  refine⟨?_,trivial⟩
  exact⟨rfl,hc.below⟩
 rw [show (r.new==0)=false from by rw [beq_eq_false_iff_ne];exact hn0,Bool.false_or]
 by_cases hl1:1<r.l.length
 ·rw [decide_eq_true hl1,Bool.true_and]
  have hr:=hc
  refine vD (.Q [0,1,2,3,4,5,6,7,8,9,10,11] (.n 12 (.Q [13,14,15,16] .fin) .stop)) (Old _) (Old.start _) ?_
  have hk:=hc.old0
  have hc:=hc.drew
  refine⟨_,fun x hx=>Keeps.cell hx (hr.blk 1 rfl) (hr.blk 1 rfl).lt rfl,?_⟩
  refine B4 (by show (r.new==0)=false;rw [beq_eq_false_iff_ne];exact hn0) ?_
  refine⟨_,fun x hx=>Keeps.cell hx (hr.blk 1 rfl) (hr.blk 1 rfl).lt rfl,?_⟩
  refine dt (by omega) ?_
  refine⟨_,fun x hx=>Keeps.cell hx (hr.blk 1 rfl) (hr.blk 1 rfl).lt rfl,?_⟩
  refine⟨_,?_,fun x hx=>Keeps.cells hx (hr.blk 1 rfl) (hr.blk 1 rfl).lt,?_⟩
  ·rfl
  refine⟨hc.q (A60 (hR.below hc.below)) fun wA hA hc=>?_,trivial⟩
  have hk:=Keeps.below hk (fun _ h=>h) hA
  refine⟨hk,?_⟩
  exact⟨rfl,hc.below⟩
 ·rw [decide_eq_false hl1,Bool.false_and]
  have hr:=hc
  refine vD (.Q [0,1,2,3,4,5,6,7,8,9,10,11] (.n 12 (.Q [13,14,15,16] .fin) .stop)) (Old _) (Old.start _) ?_
  have hk:=hc.old0
  have hc:=hc.drew
  refine⟨_,fun x hx=>Keeps.cell hx (hr.blk 1 rfl) (hr.blk 1 rfl).lt rfl,?_⟩
  refine B4 (by show (r.new==0)=false;rw [beq_eq_false_iff_ne];exact hn0) ?_
  refine⟨_,fun x hx=>Keeps.cell hx (hr.blk 1 rfl) (hr.blk 1 rfl).lt rfl,?_⟩
  refine df (by omega) ?_
  refine⟨?_,trivial⟩
  exact⟨rfl,hc.below⟩
end Go.Proofs.YtfekddndgakneaaGreatDoor
end
namespace Go.Proofs.YtfekddndgakneaaGreatDoor
open Go.Vc Go.RowKit Go.Fl Go.ChangeShapes Go.WideShapes Go.ChangeAt
structure WX where
 A:Option Addr
 cA:Nat
 B:Option Addr
 cB:Nat
 y:SX
def WX0:WX:=⟨none,0,none,0,SX0⟩
def wdC (v:Wd) (x:WX):List Value:=[.int .i64 v.kind,.int .i64 v.frm,.int .i64 v.to,.int .i64 v.ep,.int .i64 v.seq,.int .i64 v.req,.int .i64 v.til,.int .i64 v.res.err,.int .i64 v.res.ver,.int .i64 v.ros.ep,.slice x.A v.ros.l.length x.cA,.int .i64 v.ros.new,.slice x.B v.deeds.length x.cB,
 .int .i64 v.st.seq,.slice x.y.A v.st.l.length x.y.cap,.slice x.y.B v.st.ms.length x.y.cap',.int .i64 x.y.l0,.int .i64 x.y.l1,.int .i64 x.y.l2,.int .i64 x.y.l3,.int .i64 x.y.l4]
def WdR (v:Wd) (x:WX):Kn:=fun S w=>(RosR v.ros x.A x.cA S w/\Row S w x.B v.deeds.length x.cB (v.deeds.map dC).flatten)/\RepS S w v.st (stX v.st x.y)
theorem B24 {A:Option Addr} {n cap:Nat} {xs:List Value}:Stab (fun S w=>Row S w A n cap xs):=fun _ _ _ _ h f=>h.fut f
theorem WdR.stab (v:Wd) (x:WX):Stab (WdR v x):=((RosR.stab _ _ _).and B24).and (P8 _ _)
theorem WdR.below {v:Wd} {x:WX} {S:Nat->Prop} {w w':World} (h:WdR v x S w) (hb:Below w.heap.size w w'):WdR v x S w':=⟨⟨Row.below h.1.1 hb,h.1.2.below hb⟩,h.2.below hb⟩
theorem WdR.sub {v:Wd} {x:WX} {S S':Nat->Prop} {w:World} (h:WdR v x S w) (hs:∀ b,S b->S' b):WdR v x S' w:=WdR.stab _ _ _ _ _ _ h ⟨hs,fun _ _=>rfl⟩
theorem L7:(lay.ty 35).zero=wdC Wd0 WX0:=by kernel_rfl
theorem V2 (S:Nat->Prop) (w:World):WdR Wd0 WX0 S w:=⟨⟨B0Z _ _,B0Z _ _⟩,A9r _ _⟩
def B0a (n:Int):Bool:=!A2f n
theorem A9A (n:Int) (w:World):Calls Tryz.prog 31 #[.int .i64 n] w (C7 (.bool (A6w n)) w):=by
 refine vE Tryz.func31 ?_
 unfold A6w
 by_cases h:0<=n
 ·rw [decide_eq_true h]
  refine dt h ?_
  exact⟨rfl,Below.refl _ _⟩
 ·rw [decide_eq_false h]
  refine df h ?_
  exact⟨rfl,Below.refl _ _⟩
theorem B4q (n:Int) (w:World):Calls Tryz.prog 33 #[.int .i64 n] w (C7 (.bool (B0a n)) w):=by
 have hm:J9=1099511627776:=rfl
 refine vE Tryz.func33 ?_
 unfold B0a A2f
 by_cases h:n<0
 ·rw [decide_eq_false (show ¬ 0<=n by omega)]
  refine dt h ?_
  exact⟨rfl,Below.refl _ _⟩
 ·rw [decide_eq_true (show 0<=n by omega)]
  refine df h ?_
  refine⟨?_,Below.refl _ _⟩
  by_cases h2:n<=J9
  ·rw [decide_eq_true h2]
   show Ending.returned (.bool (decide (1099511627776<n)))=_
   rw [decide_eq_false (by omega)]
   rfl
  ·rw [decide_eq_false h2]
   show Ending.returned (.bool (decide (1099511627776<n)))=_
   rw [decide_eq_true (by omega)]
   rfl
theorem B4r (d:D) (hd:d.Ok) (w:World):Calls Tryz.prog 36 #[.agg (dC d).toArray] w (C7 (.bool (B8d d)) w):=by
 refine vE Tryz.func36 ?_
 have hc:=CtxF.start w no (fun _ h=>h.elim) (R:=fun _ _=>True) trivial Stab.true
 refine hc.n fun g1 wg1 hg1 hc=>?_
 refine hc.a 0 rfl rfl ?_
 refine hc.q (A0J d hd _) fun wQ hQ hc=>?_
 exact⟨rfl,hc.below⟩
theorem A8B (l:List Int) (A:Option Addr) (cap:Nat) (S:Nat->Prop) (w:World) (hR:Row S w A l.length cap (L2 l)):
  Calls Tryz.prog 59 #[.slice A l.length cap,.func (.func 33) #[] #[]] w (C7 (.int .i64 (B3Q (l.findIdx? B0a))) w):=by
 refine vE Tryz.func59 ?_
 have hM:=C9 hR
 refine⟨Nat,fun i=>[(0,.slice A l.length cap),(1,.func (.func 33) #[] #[]),(7,.int .i64 l.length),(8,.int .i64 i)],
  fun i w'=>i<=l.length/\(∀ j (hj:j<l.length),j<i->B0a l[j]=false)/\Below w.heap.size w w',fun i _=>l.length-i,0,
  ⟨rfl,rfl,rfl,rfl,trivial⟩,⟨Nat.zero_le _,fun j hj h=>absurd h (Nat.not_lt_zero _),Below.refl _ _⟩,?_⟩
 rintro i w' u ⟨hi,he,hb⟩
 by_cases hlt:i<l.length
 ·refine dt (by omega) ?_
  obtain⟨ad,rfl,hcell⟩:=RowI'.elem (hR.below hb) i hlt
  refine⟨⟨by omega,by omega⟩,?_⟩
  refine⟨_,by rw [Int.toNat_natCast];exact hcell,?_⟩
  refine C2 (B4q l[i] w') ?_
  intro w2 h2
  have hb2:=hb.trans (h2.mono hb.size)
  rcases Bool.eq_false_or_eq_true (B0a l[i]) with hv | hv
  ·refine B6 hv ?_
   refine⟨?_,hb2⟩
   rw [A3f B0a l i hlt hv he]
   rfl
  ·refine B4 hv ?_
   refine⟨i+1,⟨rfl,rfl,rfl,congrArg _ (C1 (by omega)),trivial⟩,⟨hlt,fun j hj h=>?_,hb2⟩,by show l.length-(i+1)<l.length-i;omega⟩
   rcases Nat.lt_succ_iff_lt_or_eq.1 h with h | h
   ·exact he j hj h
   ·subst h;exact hv
 ·refine df (by omega) ?_
  refine⟨?_,hb⟩
  rw [A3g B0a l (fun j hj=>he j hj (by omega))]
  rfl
theorem A4G (l:List Int) (A:Option Addr) (cap:Nat) (S:Nat->Prop) (w:World) (hR:Row S w A l.length cap (L2 l)):
  Calls Tryz.prog 32 #[.slice A l.length cap,.func (.func 33) #[] #[]] w (C7 (.bool (l.any B0a)) w):=by
 refine vE Tryz.func32 ?_
 refine C2 (A8B l A cap S w hR) ?_
 intro w2 h2
 exact⟨B7 (A5Z B0a l),h2⟩
theorem B7C {w:World} {g T:Nat} {xs:List Value} (hB:Blk w g T xs) (n:Nat) (hn:n<=maxLen):Row (fun b=>b=g) w (some ⟨g,0,none⟩) n n xs:=
 ⟨Nat.le_refl _,hn,fun _=>⟨_,rfl,rfl,fun j u hu=>by rw [Addr.add_lit,Nat.zero_add,hB.cell];exact hu⟩⟩
theorem B4s (l:List D):l.any B8d=!(l.all J4):=by
 induction l with
 | nil=>rfl
 | cons a r ih=>rw [List.any_cons,List.all_cons,ih];unfold B8d;cases J4 a<;>rfl
theorem A0s (v:Wd) (hvd:∀ d∈v.deeds,d.Ok) (hvk:∀ e∈v.st.l,G7 e.key) (x:WX) (S:Nat->Prop) (w:World) (hR:WdR v x S w):Calls Tryz.prog 12 #[.agg (wdC v x).toArray] w (C7 (.bool (J5 v)) w):=by
 have hm:J9=1099511627776:=rfl
 have hMd:=C9 hR.1.2
 have hno:(¬ ((1<=v.kind/\v.kind<=11)/\(0<=v.frm/\v.frm<=5)/\(0<=v.to/\v.to<=5)/\v.frm≠v.to/\(0<=v.res.err/\v.res.err<=13)))->J5 v=false:=fun h=>by
  rw [Bool.eq_false_iff]
  intro hh
  obtain⟨a,b,c,d,_,_,_,_,_,e⟩:=T5.1 (I9.1 hh).1
  exact h ⟨a,b,c,d,e⟩
 refine vE Tryz.func12 ?_
 have hc:=CtxF.start w no (fun _ h=>h.elim) (R:=fun _ _=>True) trivial Stab.true
 refine hc.n fun g1 wg1 hg1 hc=>?_
 refine hc.c 0 rfl rfl ?_
 refine hc.c 0 rfl rfl ?_
 refine hc.c 0 rfl rfl ?_
 refine hc.c 0 rfl rfl ?_
 refine hc.c 0 rfl rfl ?_
 refine hc.n fun g2 wg2 hg2 hc=>?_
 have hi:L2 [v.ep,v.seq,v.req,v.til,v.res.ver]=[.int .i64 v.ep,.int .i64 v.seq,.int .i64 v.req,.int .i64 v.til,.int .i64 v.res.ver]:=rfl
 refine hc.q (A4G [v.ep,v.seq,v.req,v.til,v.res.ver] (some ⟨g2,0,none⟩) 5 (fun b=>b=g2) _ (B7C (hc.blk 0 rfl) 5 (by decide))) fun wQ hQ hc=>?_
 refine hc.c 1 rfl rfl ?_
 by_cases k1:v.kind<1
 ·rw [hno (by omega)]
  refine dt k1 ?_
  exact⟨rfl,hc.below⟩
 refine df k1 ?_
 refine hc.c 1 rfl rfl ?_
 by_cases k2:11<v.kind
 ·rw [hno (by omega)]
  refine dt k2 ?_
  exact⟨rfl,hc.below⟩
 refine df k2 ?_
 refine hc.c 1 rfl rfl ?_
 have hn1:=A9A v.frm
 cases f1:A6w v.frm with
 | false=>
  have f1':¬ (0<=v.frm/\v.frm<=5):=fun h=>by rw [A0d.2 h] at f1;cases f1
  rw [f1] at hn1
  rw [hno (by omega)]
  refine hc.q (hn1 _) fun wQ hQ hc=>?_
  exact⟨rfl,hc.below⟩
 | true=>
 have f1':=A0d.1 f1
 rw [f1] at hn1
 refine hc.q (hn1 _) fun wQ hQ hc=>?_
 refine hc.c 1 rfl rfl ?_
 have hn2:=A9A v.to
 cases f2:A6w v.to with
 | false=>
  have f2':¬ (0<=v.to/\v.to<=5):=fun h=>by rw [A0d.2 h] at f2;cases f2
  rw [f2] at hn2
  rw [hno (by omega)]
  refine hc.q (hn2 _) fun wQ hQ hc=>?_
  exact⟨rfl,hc.below⟩
 | true=>
 have f2':=A0d.1 f2
 rw [f2] at hn2
 refine hc.q (hn2 _) fun wQ hQ hc=>?_
 refine hc.c 1 rfl rfl ?_
 refine hc.c 1 rfl rfl ?_
 by_cases e1:v.frm=v.to
 ·rw [hno (fun h=>h.2.2.2.1 e1)]
  refine B6 (by show (v.frm==v.to)=true;rw [beq_iff_eq];exact e1) ?_
  exact⟨rfl,hc.below⟩
 refine B4 (by show (v.frm==v.to)=false;rw [beq_eq_false_iff_ne];exact e1) ?_
 cases hb:[v.ep,v.seq,v.req,v.til,v.res.ver].any B0a with
 | true=>
  have hx:J5 v=false:=by
   rw [Bool.eq_false_iff]
   intro hh
   obtain⟨_,_,_,_,a,b,c,d,e,_⟩:=T5.1 (I9.1 hh).1
   simp only [List.any_cons,List.any_nil,Bool.or_false,Bool.or_eq_true,B0a,Bool.not_eq_true'] at hb
   rcases hb with hb | hb | hb | hb | hb
   ·rw [E4.2 a] at hb;cases hb
   ·rw [E4.2 b] at hb;cases hb
   ·rw [E4.2 c] at hb;cases hb
   ·rw [E4.2 d] at hb;cases hb
   ·rw [E4.2 e] at hb;cases hb
  rw [hx]
  exact⟨rfl,hc.below⟩
 | false=>
 refine hc.c 1 rfl rfl ?_
 by_cases r1:v.res.err<0
 ·rw [hno (by omega)]
  refine dt r1 ?_
  exact⟨rfl,hc.below⟩
 refine df r1 ?_
 refine hc.c 1 rfl rfl ?_
 by_cases r2:13<v.res.err
 ·rw [hno (by omega)]
  refine dt r2 ?_
  exact⟨rfl,hc.below⟩
 refine df r2 ?_
 have hhead:A99 v=true:=by
  simp only [List.any_cons,List.any_nil,Bool.or_false,Bool.or_eq_false_iff,B0a,Bool.not_eq_false'] at hb
  obtain⟨a,b,c,d,e⟩:=hb
  exact T5.2 ⟨by omega,f1',f2',e1,E4.1 a,E4.1 b,E4.1 c,E4.1 d,E4.1 e,by omega⟩
 unfold J5
 rw [hhead,Bool.true_and]
 refine⟨I0 v.ros x.A x.cA,rfl,hc.cellsAt 1 rfl 9 (I0 v.ros x.A x.cA) rfl,?_⟩
 have hq2:Calls Tryz.prog 34 [Value.agg (I0 v.ros x.A x.cA).toArray,Value.agg #[.int .i64 0,.slice none 0 0,.int .i64 0]].toArray wQ (C7 (.bool (eqR v.ros Ros0)) wQ):=B2z (RosR.below hR.1.1 hc.below) (Ros0.rep no wQ)
 refine hc.q (hq2) fun wQ hQ hc=>?_
 refine hc.c 1 rfl rfl ?_
 refine hc.q (A6u B8d 36 (by kernel_rfl) B4r v.deeds hvd x.B x.cB S _ (hR.1.2.below hc.below)) fun wQ hQ hc=>?_
 rw [B4s]
 cases hq:eqR v.ros Ros0 with
 | true=>
  rw [Bool.true_or,Bool.true_and]
  refine hc.c 1 rfl rfl ?_
  by_cases h60:v.deeds.length<=60
  rotate_left
  ·rw [decide_eq_false h60]
   refine df (by omega) ?_
   exact⟨rfl,hc.below⟩
  rw [decide_eq_true h60]
  refine dt (by omega) ?_
  cases hall:v.deeds.all J4 with
  | false=>exact⟨rfl,hc.below⟩
  | true=>
  refine⟨stX v.st x.y,rfl,hc.cellsAt 1 rfl 13 (stX v.st x.y) rfl,?_⟩
  refine hc.q (A1c v.st hvk (stX v.st x.y) S _ (hR.2.below hc.below)) fun wQ hQ hc=>?_
  exact⟨rfl,hc.below⟩
 | false=>
  rw [Bool.false_or]
  refine⟨I0 v.ros x.A x.cA,rfl,hc.cellsAt 1 rfl 9 (I0 v.ros x.A x.cA) rfl,?_⟩
  have hmr:=W9 (r:=v.ros) (A:=x.A) (cap:=x.cA) (S:=S) (w:=wQ) (RosR.below hR.1.1 hc.below)
  cases hmr2:A31 v.ros with
  | false=>
   rw [hmr2] at hmr
   refine hc.q (hmr) fun wQ hQ hc=>?_
   exact⟨rfl,hc.below⟩
  | true=>
  rw [hmr2] at hmr
  refine hc.q (hmr) fun wQ hQ hc=>?_
  rw [Bool.true_and]
  refine hc.c 1 rfl rfl ?_
  by_cases h60:v.deeds.length<=60
  rotate_left
  ·rw [decide_eq_false h60]
   refine df (by omega) ?_
   exact⟨rfl,hc.below⟩
  rw [decide_eq_true h60]
  refine dt (by omega) ?_
  cases hall:v.deeds.all J4 with
  | false=>exact⟨rfl,hc.below⟩
  | true=>
  refine⟨stX v.st x.y,rfl,hc.cellsAt 1 rfl 13 (stX v.st x.y) rfl,?_⟩
  refine hc.q (A1c v.st hvk (stX v.st x.y) S _ (hR.2.below hc.below)) fun wQ hQ hc=>?_
  exact⟨rfl,hc.below⟩
theorem B0I (a b:List D) (A B:Option Addr) (cap cap':Nat) (S S':Nat->Prop) (w:World) (hR:Row S w A a.length cap (a.map dC).flatten) (hR':Row S' w B b.length cap' (b.map dC).flatten):
  Calls Tryz.prog 45 #[.slice A a.length cap,.slice B b.length cap'] w (C7 (.bool (D7 eqD a b)) w):=by
 refine vE Tryz.func45 ?_
 have hM:=C9 hR
 by_cases hl:a.length=b.length
 rotate_left
 ·refine B6 (by show ((a.length:Int) != (b.length:Int))=true;rw [bne_iff_ne];omega) ?_
  rw [L4 _ _ _ hl]
  exact⟨rfl,Below.refl _ _⟩
 refine B4 (by show ((a.length:Int) != (b.length:Int))=false;rw [hl];simp) ?_
 refine⟨Nat,fun i=>[(0,.slice A a.length cap),(1,.slice B b.length cap'),(12,.int .i64 a.length),(13,.int .i64 i)],
  fun i w'=>i<=a.length/\D7 eqD (a.drop i) (b.drop i)=D7 eqD a b/\Below w.heap.size w w',fun i _=>a.length-i,0,
  ⟨rfl,rfl,rfl,rfl,trivial⟩,⟨Nat.zero_le _,rfl,Below.refl _ _⟩,?_⟩
 rintro i w' u ⟨hi,he,hb⟩
 by_cases hlt:i<a.length
 ·refine dt (by omega) ?_
  obtain⟨ad,rfl,hcell⟩:=RowD8.elem (hR.below hb) i hlt
  obtain⟨bd,rfl,hcell'⟩:=RowD8.elem (hR'.below hb) i (by omega)
  rw [List.drop_eq_getElem_cons hlt,List.drop_eq_getElem_cons (show i<b.length by omega),D7] at he
  generalize a[i]=x at*
  generalize b[i]'(by omega)=y at*
  refine vD (.Q [0,1,2,3,4,5,6,7,8] .fin) (Keeps (fun b=>b<w'.heap.size) w') (Keeps.start _ _) ?_
  refine⟨⟨by omega,by omega⟩,?_⟩
  refine⟨dC x,rfl,fun z hz=>hz.looks _ _ hcell,?_⟩
  refine⟨⟨by omega,by omega⟩,?_⟩
  refine⟨dC y,rfl,fun z hz=>hz.looks _ _ hcell',?_⟩
  refine⟨_,fun w=>A05 A7e (B1W 9998 · x y) _ _ w,?_⟩
  have hb:=hb.drew
  cases hv:eqD x y
  ·rw [hv] at he
   refine⟨?_,hb⟩
   rw [<-he]
   rfl
  ·rw [hv] at he
   refine⟨i+1,⟨rfl,rfl,rfl,congrArg _ (C1 (by omega)),trivial⟩,⟨hlt,he,hb⟩,by show a.length-(i+1)<a.length-i;omega⟩
 ·refine df (by omega) ?_
  rw [List.drop_of_length_le (by omega),List.drop_of_length_le (by omega),D7] at he
  rw [<-he]
  exact⟨rfl,hb⟩
def hdW (a b:Wd):Bool:=a.kind==b.kind&&(a.frm==b.frm&&(a.to==b.to&&(a.ep==b.ep&&a.seq==b.seq)))
def moW (a b:Wd):Bool:=a.req==b.req&&(a.til==b.til&&((a.res.err==b.res.err&&a.res.ver==b.res.ver)&&eqR a.ros b.ros))
theorem B6l {a b:Wd} (h:(a.kind==b.kind)=false):hdW a b=false:=by unfold hdW;rw [h];rfl
theorem B6m {a b:Wd} (h:(a.frm==b.frm)=false):hdW a b=false:=by unfold hdW;rw [h];simp
theorem B6n {a b:Wd} (h:(a.to==b.to)=false):hdW a b=false:=by unfold hdW;rw [h];simp
theorem B6o {a b:Wd} (h:(a.ep==b.ep)=false):hdW a b=false:=by unfold hdW;rw [h];simp
theorem B6p {a b:Wd} (h1:(a.kind==b.kind)=true) (h2:(a.frm==b.frm)=true) (h3:(a.to==b.to)=true) (h4:(a.ep==b.ep)=true):hdW a b=(a.seq==b.seq):=by unfold hdW;rw [h1,h2,h3,h4];rfl
theorem B6q {a b:Wd} (h:(a.req==b.req)=false):moW a b=false:=by unfold moW;rw [h];rfl
theorem B6r {a b:Wd} (h:(a.til==b.til)=false):moW a b=false:=by unfold moW;rw [h];simp
theorem B6s {a b:Wd} (h:(a.res.err==b.res.err&&a.res.ver==b.res.ver)=false):moW a b=false:=by unfold moW;rw [h];simp
theorem B6t {a b:Wd} (h1:(a.req==b.req)=true) (h2:(a.til==b.til)=true) (h3:(a.res.err==b.res.err&&a.res.ver==b.res.ver)=true):moW a b=eqR a.ros b.ros:=by unfold moW;rw [h1,h2,h3];rfl
theorem A5t (a b:Wd) (x y:WX) (S S':Nat->Prop) (w:World) (hA:WdR a x S w) (hB:WdR b y S' w):Calls Tryz.prog 14 #[.agg (wdC a x).toArray,.agg (wdC b y).toArray] w (C7 (.bool (eqW a b)) w):=by
 have e0:eqW a b=(hdW a b&&(moW a b&&(D7 eqD a.deeds b.deeds&&eqS a.st b.st))):=by unfold eqW hdW moW;rw [Bool.and_assoc]
 obtain⟨z,hz⟩:∃ z,z=eqW a b:=⟨_,rfl⟩
 obtain⟨hd,hhd⟩:∃ z,z=hdW a b:=⟨_,rfl⟩
 obtain⟨mo,hmo⟩:∃ z,z=moW a b:=⟨_,rfl⟩
 rw [<-hz]
 rw [e0,<-hhd,<-hmo] at hz
 refine A0c lay_ok Tryz.func14 rfl (by kernel_rfl) (by kernel_rfl) ?_
 refine SemC.cut lay_ok (fun (g:Nat × Nat)=>[(2,.pointer (some ⟨g.1,0,none⟩)),(3,.pointer (some ⟨g.2,0,none⟩)),(5,.bool hd)]) (fun g w'=>CtxF no w no w' [(g.2,35,wdC b y),(g.1,35,wdC a x)] [] (fun _ _=>True)) 1 (by kernel_rfl) ?_ ?_
 ·have hc:=CtxF.start w no (fun _ h=>h.elim) (R:=fun _ _=>True) trivial Stab.true
  refine hc.n fun g2 wg2 hg2 hc=>?_
  refine hc.n fun g3 wg3 hg3 hc=>?_
  refine hc.c 1 rfl rfl ?_
  refine hc.c 0 rfl rfl ?_
  rcases Bool.eq_false_or_eq_true (a.kind==b.kind) with h1 | h1
  rotate_left
  ·refine B4 h1 ?_
   exact⟨(g2,g3),⟨rfl,rfl,congrArg Value.bool (hhd.trans (B6l h1)).symm,trivial⟩,hc⟩
  refine B6 h1 ?_
  refine hc.c 1 rfl rfl ?_
  refine hc.c 0 rfl rfl ?_
  rcases Bool.eq_false_or_eq_true (a.frm==b.frm) with h2 | h2
  rotate_left
  ·refine B4 h2 ?_
   exact⟨(g2,g3),⟨rfl,rfl,congrArg Value.bool (hhd.trans (B6m h2)).symm,trivial⟩,hc⟩
  refine B6 h2 ?_
  refine hc.c 1 rfl rfl ?_
  refine hc.c 0 rfl rfl ?_
  rcases Bool.eq_false_or_eq_true (a.to==b.to) with h3 | h3
  rotate_left
  ·refine B4 h3 ?_
   exact⟨(g2,g3),⟨rfl,rfl,congrArg Value.bool (hhd.trans (B6n h3)).symm,trivial⟩,hc⟩
  refine B6 h3 ?_
  refine hc.c 1 rfl rfl ?_
  refine hc.c 0 rfl rfl ?_
  rcases Bool.eq_false_or_eq_true (a.ep==b.ep) with h4 | h4
  rotate_left
  ·refine B4 h4 ?_
   exact⟨(g2,g3),⟨rfl,rfl,congrArg Value.bool (hhd.trans (B6o h4)).symm,trivial⟩,hc⟩
  refine B6 h4 ?_
  refine hc.c 1 rfl rfl ?_
  refine hc.c 0 rfl rfl ?_
  exact⟨(g2,g3),⟨rfl,rfl,congrArg Value.bool (hhd.trans (B6p h1 h2 h3 h4)).symm,trivial⟩,hc⟩
 rintro⟨g2,g3⟩ u w1 hc
 refine SemC.cut lay_ok (fun (z:Unit)=>[(2,.pointer (some ⟨g2,0,none⟩)),(3,.pointer (some ⟨g3,0,none⟩)),(5,.bool hd),(6,.bool mo)]) (fun _ w'=>CtxF no w no w' [(g3,35,wdC b y),(g2,35,wdC a x)] [] (fun _ _=>True)) 0 (by kernel_rfl) ?_ ?_
 ·refine hc.c 1 rfl rfl ?_
  refine hc.c 0 rfl rfl ?_
  rcases Bool.eq_false_or_eq_true (a.req==b.req) with h1 | h1
  rotate_left
  ·refine B4 h1 ?_
   exact⟨(),⟨rfl,rfl,rfl,congrArg Value.bool (hmo.trans (B6q h1)).symm,trivial⟩,hc⟩
  refine B6 h1 ?_
  refine hc.c 1 rfl rfl ?_
  refine hc.c 0 rfl rfl ?_
  rcases Bool.eq_false_or_eq_true (a.til==b.til) with h2 | h2
  rotate_left
  ·refine B4 h2 ?_
   exact⟨(),⟨rfl,rfl,rfl,congrArg Value.bool (hmo.trans (B6r h2)).symm,trivial⟩,hc⟩
  refine B6 h2 ?_
  refine⟨[.int .i64 a.res.err,.int .i64 a.res.ver],rfl,hc.cellsAt 1 rfl 7 _ rfl,?_⟩
  refine⟨[.int .i64 b.res.err,.int .i64 b.res.ver],rfl,hc.cellsAt 0 rfl 7 _ rfl,?_⟩
  refine⟨_,fun w=>A3S B1X (A2s 9998 · a.res b.res) _ _ w,?_⟩
  rcases Bool.eq_false_or_eq_true (a.res.err==b.res.err&&a.res.ver==b.res.ver) with h3 | h3
  rotate_left
  ·refine B4 h3 ?_
   exact⟨(),⟨rfl,rfl,rfl,congrArg Value.bool (hmo.trans (B6s h3)).symm,trivial⟩,hc⟩
  refine B6 h3 ?_
  refine⟨I0 a.ros x.A x.cA,rfl,hc.cellsAt 1 rfl 9 (I0 a.ros x.A x.cA) rfl,?_⟩
  refine⟨I0 b.ros y.A y.cA,rfl,hc.cellsAt 0 rfl 9 (I0 b.ros y.A y.cA) rfl,?_⟩
  refine hc.q (B2z (RosR.below hA.1.1 hc.below) (RosR.below hB.1.1 hc.below)) fun wQ hQ hc=>?_
  exact⟨(),⟨rfl,rfl,rfl,congrArg Value.bool (hmo.trans (B6t h1 h2 h3)).symm,trivial⟩,hc⟩
 rintro⟨⟩ u w2 hc
 clear e0 hhd hmo
 refine SemC.vc lay_ok ?_
 cases hd with
 | false=>exact⟨B7 hz.symm,hc.below⟩
 | true=>
 cases mo with
 | false=>exact⟨B7 hz.symm,hc.below⟩
 | true=>
 simp only [Bool.true_and] at hz
 refine hc.c 1 rfl rfl ?_
 refine hc.c 0 rfl rfl ?_
 refine hc.q (B0I a.deeds b.deeds x.B y.B x.cB y.cB S S' _ (hA.1.2.below hc.below) (hB.1.2.below hc.below)) fun wQ hQ hc=>?_
 rcases Bool.eq_false_or_eq_true (D7 eqD a.deeds b.deeds) with h3 | h3
 rotate_left
 ·refine B4 h3 ?_
  rw [h3] at hz
  exact⟨B7 hz.symm,hc.below⟩
 refine B6 h3 ?_
 rw [h3,Bool.true_and] at hz
 refine⟨stX a.st x.y,rfl,hc.cellsAt 1 rfl 13 (stX a.st x.y) rfl,?_⟩
 refine⟨stX b.st y.y,rfl,hc.cellsAt 0 rfl 13 (stX b.st y.y) rfl,?_⟩
 refine hc.q (A8o a.st b.st (stX a.st x.y) (stX b.st y.y) (fun b=>S b\/S' b) _ ((hA.2.below hc.below).map fun h=>h.sub fun _ h=>.inl h) ((hB.2.below hc.below).map fun h=>h.sub fun _ h=>.inr h)) fun wQ hQ hc=>?_
 exact⟨B7 hz.symm,hc.below⟩
def vNC (n:Int):List Value:=[.int .i64 1,.int .i64 n,.string ⟨#[]⟩,.slice none 0 0]
def B4t (l:List Int):List Value:=(l.map vNC).flatten
theorem A5u (S:Nat->Prop) (w:World):∀ l:List Int,RepL S w (l.map I4) (B4t l)
 | []=>.nil _ _
 | n::r=>.cons (.leaf ..) (A5u S w r)
theorem A62 (l:List Int) (i:Nat) (h:i<l.length):B4t (l.take (i+1))=B4t (l.take i)++vNC l[i]:=by
 unfold B4t
 rw [List.take_add_one,List.getElem?_eq_getElem h,List.map_append,List.flatten_append]
 simp
theorem B0J (l:List Int) (A:Option Addr) (cap:Nat) (S0:Nat->Prop) (w:World) (hR:Row S0 w A l.length cap (L2 l)) (hn:l.length<=1000000):
  Calls Tryz.prog 78 #[.slice A l.length cap] w (B3R 79 4 l.length (B4t l) w):=by
 refine vE Tryz.func78 ?_
 have hc:=(CtxF.start w no (fun _ h=>h.elim) (R:=fun _ _=>True) trivial Stab.true).nil 79 4
 refine⟨Option Addr × Nat × Nat,fun (A',c,i)=>[(3,.slice A' i c),(6,.slice A l.length cap),(7,.int .i64 l.length),(8,.int .i64 i)],
  fun (A',c,i) w'=>i<=l.length/\CtxF no w no w' [] [⟨79,4,A',i,c,B4t (l.take i)⟩] (fun _ _=>True),fun (_,_,i) _=>l.length-i,(none,0,0),⟨rfl,rfl,rfl,rfl,trivial⟩,⟨Nat.zero_le _,hc⟩,?_⟩
 clear hc
 rintro⟨A',c,i⟩ w4 u ⟨hi,hc⟩
 by_cases hlt:i<l.length
 ·refine dt (by omega) ?_
  obtain⟨ad,rfl,hcell⟩:=RowI'.elem (hR.below hc.below) i hlt
  refine⟨⟨by omega,by omega⟩,?_⟩
  refine⟨_,by rw [Int.toNat_natCast];exact hcell,?_⟩
  refine hc.n fun g wg hg hc=>?_
  refine D1 Tryz.underlying77 P2 rfl (by decide) hc (ys:=vNC l[i]) (m:=1) rfl (hc.cells 0 rfl) rfl (by omega) (by decide) rfl rfl ?_
  intro A2 cap2 w11 hc
  exact⟨(A2,cap2,i+1),⟨rfl,rfl,rfl,congrArg _ (C1 (by omega)),trivial⟩,⟨hlt,by rw [A62 l i hlt];exact hc.drop⟩,by show l.length-(i+1)<l.length-i;omega⟩
 ·refine df (by omega) ?_
  have hi:i=l.length:=by omega
  subst hi
  rw [List.take_length] at hc
  exact⟨A',c,rfl,hc.below,hc.fst.row⟩
theorem B25 (l:List Int) (A:Option Addr) (cap:Nat) (S0:Nat->Prop) (w:World) (hR:Row S0 w A l.length cap (L2 l)) (hn:l.length<=1000000):
  Calls Tryz.prog 80 #[.slice A l.length cap] w (B3R 79 4 l.length (B4t l) w):=by
 refine vE Tryz.func80 ?_
 have hc:=(CtxF.start w no (fun _ h=>h.elim) (R:=fun _ _=>True) trivial Stab.true).nil 79 4
 refine⟨Option Addr × Nat × Nat,fun (A',c,i)=>[(3,.slice A' i c),(6,.slice A l.length cap),(7,.int .i64 l.length),(8,.int .i64 i)],
  fun (A',c,i) w'=>i<=l.length/\CtxF no w no w' [] [⟨79,4,A',i,c,B4t (l.take i)⟩] (fun _ _=>True),fun (_,_,i) _=>l.length-i,(none,0,0),⟨rfl,rfl,rfl,rfl,trivial⟩,⟨Nat.zero_le _,hc⟩,?_⟩
 clear hc
 rintro⟨A',c,i⟩ w4 u ⟨hi,hc⟩
 by_cases hlt:i<l.length
 ·refine dt (by omega) ?_
  obtain⟨ad,rfl,hcell⟩:=RowI'.elem (hR.below hc.below) i hlt
  refine⟨⟨by omega,by omega⟩,?_⟩
  refine⟨_,by rw [Int.toNat_natCast];exact hcell,?_⟩
  refine hc.n fun g wg hg hc=>?_
  refine D1 Tryz.underlying77 P2 rfl (by decide) hc (ys:=vNC l[i]) (m:=1) rfl (hc.cells 0 rfl) rfl (by omega) (by decide) rfl rfl ?_
  intro A2 cap2 w11 hc
  exact⟨(A2,cap2,i+1),⟨rfl,rfl,rfl,congrArg _ (C1 (by omega)),trivial⟩,⟨hlt,by rw [A62 l i hlt];exact hc.drop⟩,by show l.length-(i+1)<l.length-i;omega⟩
 ·refine df (by omega) ?_
  have hi:i=l.length:=by omega
  subst hi
  rw [List.take_length] at hc
  exact⟨A',c,rfl,hc.below,hc.fst.row⟩
theorem A5v (A:Option Addr) (n cap:Nat) (w:World):Calls Tryz.prog 79 #[.slice A n cap] w (C7 (.agg #[.int .i64 3,.int .i64 0,.string ⟨#[]⟩,.slice A n cap]) w):=by
 refine vE Tryz.func79 ?_
 have hc:=CtxF.start w no (fun _ h=>h.elim) (R:=fun _ _=>True) trivial Stab.true
 refine hc.n fun g2 wg2 hg2 hc=>?_
 refine hc.s 0 rfl fun wS hS hc=>?_
 refine hc.a 0 rfl rfl ?_
 exact⟨rfl,hc.below⟩
theorem RepC.row {S:Nat->Prop} {w:World} {l:List V} {xs:List Value} {A:Option Addr} {cap:Nat} (h:RepL S w l xs) (hR:Row S w A l.length cap xs):RepC S w (J3 l) [.int .i64 3,.int .i64 0,.string ⟨#[]⟩,.slice A l.length cap]:=by
 rw [J3,RepC]
 exact⟨A,cap,xs,rfl,h,hR⟩
theorem RepL.append {S:Nat->Prop} {w:World}:∀ {l m:List V} {xs ys:List Value},RepL S w l xs->RepL S w m ys->RepL S w (l++m) (xs++ys)
 | [],m,xs,ys,h,k=>by rw [RepL] at h;subst h;exact k
 | v::r,m,xs,ys,h,k=>by
  rw [RepL] at h
  obtain⟨c,y,h1,h2,rfl⟩:=h
  rw [List.cons_append,List.append_assoc]
  exact .cons h1 (RepL.append h2 k)
theorem Blk.part {w:World} {g T:Nat} {cs:List Value} (h:Blk w g T cs) (o:Nat) (xs:List Value) (hx:(cs.drop o).take xs.length=xs):Go.Vc.cellsAt w ⟨g,o,none⟩ xs 0:=C3 h o xs 0 fun j u hj=>by
 rw [Nat.add_zero,<-List.getElem?_drop]
 rw [<-hx,List.getElem?_take] at hj
 split at hj
 ·exact hj
 ·cases hj
theorem B26 (v:Wd) (hv:v.Ok) (hm:J5 v=true) (x:WX) (S:Nat->Prop) (w:World) (hR:WdR v x S w) (hw:Env w):Calls Tryz.prog 49 #[.agg (wdC v x).toArray] w (C7 (.string ⟨(O3 v).toArray⟩) w):=by
 have hd60:v.deeds.length<=60:=(I9.1 hm).2.2.1
 have hr5:=A5n hm
 refine vE Tryz.func49 ?_
 have hc:=CtxF.start w no (fun _ h=>h.elim) (R:=fun S w=>RepL S w [] []) (.nil _ _) (W6 _ _)
 refine hc.n fun g1 wg1 hg1 hc=>?_
 refine hc.c 0 rfl rfl ?_
 have hc:=hc.nil 79 4
 refine⟨Option Addr × Nat × Nat,fun (A',c,i)=>[(1,.pointer (some ⟨g1,0,none⟩)),(3,.slice A' i c),(8,.slice x.B v.deeds.length x.cB),(9,.int .i64 v.deeds.length),(10,.int .i64 i)],
  fun (A',c,i) w'=>i<=v.deeds.length/\∃ S xs,CtxF no w S w' [(g1,35,wdC v x)] [⟨79,4,A',i,c,xs⟩] (fun S w=>RepL S w ((v.deeds.take i).map E3) xs),
  fun (_,_,i) _=>v.deeds.length-i,(none,0,0),⟨rfl,rfl,rfl,rfl,rfl,trivial⟩,⟨Nat.zero_le _,no,[],hc⟩,?_⟩
 clear hc
 rintro⟨A',c,i⟩ w4 u ⟨hi,S1,xs,hc⟩
 by_cases hlt:i<v.deeds.length
 ·refine dt (by omega) ?_
  obtain⟨ad,hA,hcell⟩:=RowD8.elem (hR.1.2.below hc.below) i hlt
  obtain⟨d,hd⟩:∃ d,d=v.deeds[i]:=⟨_,rfl⟩
  have hdo:d.Ok:=by rw [hd];exact hv.deeds _ (List.getElem_mem _)
  rw [<-hd] at hcell
  rw [hA]
  refine⟨⟨by omega,by omega⟩,?_⟩
  refine⟨dC d,rfl,by rw [Int.toNat_natCast];exact hcell,?_⟩
  refine hc.n fun g5 wg5 hg5 hc=>?_
  refine hc.s 0 rfl fun wS hS hc=>?_
  refine hc.a 0 rfl rfl ?_
  refine⟨(A0P d hdo _).mono fun en w9 hq=>?_⟩
  obtain⟨k,n,s,A1,ln,c1,e1,h9,hrep⟩:=hq
  have hc:=(hc.call h9).1.know (hrep.sub fun b h=>h.elim (fun h=>h.elim) .inr) (E8 _ _)
  refine⟨_,e1,?_⟩
  refine hc.n fun g17 wg17 hg17 hc=>?_
  refine D1 Tryz.underlying77 P2 rfl (by decide) hc (ys:=[.int .i64 k,.int .i64 n,.string s,.slice A1 ln c1]) (m:=1) rfl (hc.cells 0 rfl) rfl (by omega) (by decide) rfl rfl ?_
  intro A2 cap2 w11 hc
  have et:(v.deeds.take (i+1)).map E3=(v.deeds.take i).map E3++[E3 d]:=by rw [List.take_add_one,List.getElem?_eq_getElem hlt,hd,List.map_append];rfl
  have hf:=hc.drop.drop.now (X:=fun S w=>RepL S w ((v.deeds.take i).map E3++[E3 d]) (xs++[.int .i64 k,.int .i64 n,.string s,.slice A1 ln c1])) (fun h=>RepL.snoc h.2 h.1) (W6 _ _)
  rw [<-et] at hf
  exact⟨(A2,cap2,i+1),⟨rfl,rfl,rfl,rfl,congrArg _ (C1 (by omega)),trivial⟩,⟨hlt,_,_,hf⟩,by show v.deeds.length-(i+1)<v.deeds.length-i;omega⟩
 refine df (by omega) ?_
 have hi:i=v.deeds.length:=by omega
 subst hi
 rw [List.take_length] at hc
 obtain⟨S2,_,hc⟩:=hc.told
 refine hc.c 0 rfl rfl ?_
 refine hc.c 0 rfl rfl ?_
 refine hc.c 0 rfl rfl ?_
 refine hc.c 0 rfl rfl ?_
 refine hc.c 0 rfl rfl ?_
 refine hc.c 0 rfl rfl ?_
 refine hc.c 0 rfl rfl ?_
 refine hc.c 0 rfl rfl ?_
 refine hc.c 0 rfl rfl ?_
 refine hc.c 0 rfl rfl ?_
 refine hc.c 0 rfl rfl ?_
 refine hc.n fun g46 wg46 hg46 hc=>?_
 refine⟨(B0J (A4F v) (some ⟨g46,0,none⟩) 11 (fun b=>b=g46) _ (B7C (hc.blk 0 rfl) 11 (by decide)) (by show 11<=1000000;decide)).mono fun en wq hq=>?_⟩
 obtain⟨A6,c6,e1,hq,ho⟩:=hq
 have hc:=(hc.fresh hq ho).drop
 refine⟨_,e1,?_⟩
 refine vD (.Q [0,1,2,3,6,8,9] (.n 4 (.n 5 (.n 7 (.n 10 (.q 11 (.n 12 (.n 13 (.q 14 .fin) .stop) .stop)) .stop) .stop) .stop) .stop)) (fun z=>Blk z g1 35 (wdC v x)) (hc.blk 0 rfl) ?_
 have hc:=hc.drew
 refine⟨_,fun z hz=>hz.cell 10,?_⟩
 refine⟨stX v.st x.y,rfl,fun z hz=>Blk.part hz 13 (stX v.st x.y) rfl,?_⟩
 refine⟨⟨(B25 v.ros.l x.A x.cA S _ (RosR.below hR.1.1 hc.below) (by omega)).mono fun en wq hq=>?_⟩,trivial⟩
 obtain⟨A7,c7,e1,hq,ho⟩:=hq
 have hc:=hc.fresh hq ho
 obtain⟨S3,_,hc⟩:=hc.told
 refine⟨_,e1,hc.blk 0 rfl,?_⟩
 refine⟨hc.q (A5v A7 v.ros.l.length c7 _) fun wQ hQ hc=>?_,trivial⟩
 refine⟨hc.blk 0 rfl,?_⟩
 refine⟨hc.q (A5v A' v.deeds.length c _) fun wQ hQ hc=>?_,trivial⟩
 refine⟨hc.blk 0 rfl,?_⟩
 refine⟨hc.q (A2u v.st (fun e he=>(hv.st.l e he).key) (stX v.st x.y) S _ (hR.2.below hc.below) (hw.tab.below hc.below)) fun wQ hQ hc=>?_,trivial⟩
 refine⟨hc.blk 0 rfl,?_⟩
 refine⟨hc.n fun g60 wg60 hg60 hc=>?_,trivial⟩
 refine⟨hc.blk 1 rfl,?_⟩
 refine⟨D1 Tryz.underlying77 P2 rfl (by decide) hc (ys:=[.int .i64 3,.int .i64 0,.string ⟨#[]⟩,.slice A7 v.ros.l.length c7,.int .i64 3,.int .i64 0,.string ⟨#[]⟩,.slice A' v.deeds.length c,.int .i64 2,.int .i64 0,.string ⟨(E1 v.st).toArray⟩,.slice none 0 0]) (m:=3) rfl (hc.cells 0 rfl) rfl (show 11+3<=34359738368 by decide) (by decide) rfl rfl ?_,trivial⟩
 intro A9 c9 w9 hc
 refine⟨hc.blk 1 rfl,?_⟩
 obtain⟨S4,_,hc⟩:=hc.told
 refine hc.q (A5v A9 14 c9 _) fun wQ hQ hc=>?_
 have hrow:=hc.row
 have hL:RepL S4 wQ ((A4F v).map I4++[J3 (v.ros.l.map I4),J3 (v.deeds.map E3),vStr ⟨(E1 v.st).toArray⟩]) (B4t (A4F v)++[.int .i64 3,.int .i64 0,.string ⟨#[]⟩,.slice A7 v.ros.l.length c7,.int .i64 3,.int .i64 0,.string ⟨#[]⟩,.slice A' v.deeds.length c,.int .i64 2,.int .i64 0,.string ⟨(E1 v.st).toArray⟩,.slice none 0 0]):=by
  refine RepL.append (A5u _ _ _) (.cons (c:=[_,_,_,_]) ?_ (.cons (c:=[_,_,_,_]) ?_ (.cons (c:=[_,_,_,_]) (.leaf ..) (.nil _ _))))
  ·have:=RepC.row (A5u S4 wQ v.ros.l) (A:=A7) (cap:=c7) (by rw [List.length_map];exact hrow.1.2)
   rwa [List.length_map] at this
  ·have:=RepC.row hrow.1.1.1 (A:=A') (cap:=c) (by rw [List.length_map];exact hrow.1.1.2)
   rwa [List.length_map] at this
 have hC:=RepC.row hL hrow.2
 have ht:=A3v hv hm
 rw [A21 hv hm] at ht ⊢
 have hp:=X8 (A0B v) (A88 hv hm) (by omega) _ _ _ _ _ _ _ wQ hC (hw.tab.below hc.below)
 have e:A2W (A0B v)=I8 (A0B v):=A21 hv hm
 rw [e] at hp
 refine hc.q (hp) fun wQ hQ hc=>?_
 exact⟨rfl,hc.below⟩
structure Wd.Bare (v:Wd):Prop where
 deeds:∀ d∈v.deeds,d.Ok
 key:∀ e∈v.st.l,G7 e.key
 five:v.st.lows.length=5
theorem Wd.Ok.bare {v:Wd} (h:v.Ok):v.Bare:=⟨h.deeds,fun e he=>(h.st.l e he).key,h.five⟩
theorem K8 (v:Wd) (hb:v.Bare) (x:WX) (S:Nat->Prop) (w:World) (hR:WdR v x S w) (hw:Env w):Calls Tryz.prog 16 #[.agg (wdC v x).toArray] w (C7 (.string ⟨(Z6 v).toArray⟩) w):=by
 refine vE Tryz.func16 ?_
 have hc:=CtxF.start w no (fun _ h=>h.elim) (R:=fun _ _=>True) trivial Stab.true
 refine hc.n fun g1 wg1 hg1 hc=>?_
 refine hc.a 0 rfl rfl ?_
 refine hc.q (A0s v hb.deeds hb.key x S _ (hR.below hc.below)) fun wQ hQ hc=>?_
 unfold Z6
 cases hm:J5 v with
 | false=>exact⟨rfl,hc.below⟩
 | true=>
 have hv:=Wd.ok_of hm hb.deeds hb.five
 have hl:=A3v hv hm
 have hsz:(⟨(O3 v).toArray⟩:ByteArray).size=(O3 v).length:=H2 _
 refine hc.a 0 rfl rfl ?_
 refine hc.q (B26 v hv hm x S _ (hR.below hc.below) (hw.below hc.below)) fun wQ hQ hc=>?_
 rw [if_pos rfl]
 refine A1G no Tryz.underlying9 Tryz.underlying45 Tryz.underlying5 (by rw [hsz];exact Nat.le_trans hl (by decide)) ?_
 intro g cap w5 h5 hRw
 have hc:=(hc.quiet h5).1
 refine hc.q (A0G (L0 ⟨(O3 v).toArray⟩).symm (by rw [hsz];exact Nat.le_trans hl (by decide)) _ hRw) fun wQ hQ hc=>?_
 refine hc.q (A1R (A1Q _ _ ⟨by decide,by decide⟩) _) fun wQ hQ hc=>?_
 have h7:=D5 (O3 v)
 refine⟨?_,?_⟩
 ·show (U0 (O3 v)).toArray.size+(O3 v).toArray.size<=_
  rw [List.size_toArray,List.size_toArray]
  omega
 refine⟨?_,hc.below⟩
 rw [<-V9]
 rfl
structure WdO (n0:Nat) (v:Wd) (x:WX) (N:Nat->Prop) (w:World):Prop where
 ros:w.ownsRow n0 3 1 (.slice x.A v.ros.l.length x.cA) v.ros.l.length (L2 v.ros.l)
 deeds:w.ownsRow n0 60 8 (.slice x.B v.deeds.length x.cB) v.deeds.length (v.deeds.map dC).flatten
 two:∀ a b,x.A=some a->x.B=some b->a.block≠b.block
 st:RepS N w v.st (stX v.st x.y)
 new:∀ y,N y->n0<=y/\y<w.heap.size
 outA:∀ a,x.A=some a->¬ N a.block
 outB:∀ a,x.B=some a->¬ N a.block
theorem WdO.zero (n0:Nat) (w:World):WdO n0 Wd0 WX0 no w:=⟨World.ownsRow_nil ..,World.ownsRow_nil ..,(fun a b h=>by cases h),(V2 no w).2,fun y h=>h.elim,fun a h=>(by cases h),fun a h=>(by cases h)⟩
theorem WdO.wd {n0:Nat} {v:Wd} {x:WX} {N S:Nat->Prop} {w:World} (h:WdO n0 v x N w) (hS:∀ b,n0<=b->b<w.heap.size->S b):WdR v x S w:=
 ⟨⟨A1d h.ros hS,A1d h.deeds hS⟩,P8 _ _ _ _ _ _ h.st ⟨fun y hy=>hS y (h.new y hy).1 (h.new y hy).2,fun _ _=>rfl⟩⟩
abbrev B3V (v:Wd) (x:WX):OR:=⟨3,1,x.A,v.ros.l.length,x.cA,L2 v.ros.l⟩
abbrev B7D (v:Wd) (x:WX):OR:=⟨60,8,x.B,v.deeds.length,x.cB,(v.deeds.map dC).flatten⟩
theorem _root_.Go.Vc.CtxF.wdO {S:Nat->Prop} {w0 w:World} {l:List LB} {v:Wd} {x:WX} {R:Kn} (hc:CtxF no w0 S w l [B3V v x,B7D v x] R) (h:R S w->RepS S w v.st (stX v.st x.y)):WdO w0.heap.size v x S w:=
 ⟨hc.fst.row,hc.rest.fst.row,fun a b ha hb=>hc.own.2.1 _ (List.mem_cons_self ..) a b ha hb,h hc.row,fun y hy=>⟨(hc.ctx.new y hy).resolve_left id,hc.ctx.lt y hy⟩,fun a ha=>(hc.fst.out a ha).1,fun a ha=>(hc.rest.fst.out a ha).1⟩
theorem _root_.Go.Vc.CtxF.wdR {S0 S:Nat->Prop} {w0 w:World} {l:List LB} {os:List OR} {v:Wd} {x:WX} {R:Kn} (hc:CtxF S0 w0 S w l (B3V v x::B7D v x::os) R) (h:R S w->RepS S w v.st (stX v.st x.y)):WdR v x (fun _=>True) w:=
 ⟨⟨A1d hc.fst.row (fun _ _ _=>trivial),A1d hc.rest.fst.row (fun _ _ _=>trivial)⟩,P8 _ _ _ _ _ _ (h hc.row) ⟨fun _ _=>trivial,fun _ _=>rfl⟩⟩
theorem _root_.Go.Vc.CtxF.freshW {S:Nat->Prop} {w0 w w':World} {l:List LB} {os:List OR} {R:Kn} (hc:CtxF no w0 S w l os R) (hb:Below w.heap.size w w') {v:Wd} {x:WX} {N:Nat->Prop} (h:WdO w.heap.size v x N w'):
  CtxF no w0 (fun y=>(S y/\¬ no y)\/N y) w' l (B3V v x::B7D v x::os) (fun S w=>R S w/\RepS S w v.st (stX v.st x.y)):=by
 have h1:CtxF no w0 (fun y=>(S y/\¬ no y)\/N y) w' l os (fun S w=>R S w/\RepS S w v.st (stX v.st x.y)):=hc.turn (Sa:=no) (Sn:=N) (fun x h=>h.elim) (Turn.below hb) (fun y hy=>⟨.inr (h.new y hy).1,(h.new y hy).2⟩)
  ⟨hc.stab _ _ _ _ hc.row ⟨fun y hy=>.inl ⟨hy,id⟩,fun y hy=>hb.block y (hc.ctx.lt y hy)⟩,P8 _ _ _ _ _ _ h.st ⟨fun y hy=>.inr hy,fun _ _=>rfl⟩⟩ (hc.stab.and (P8 _ _))
 have oD:=(hc.ctx.fresh hb h.deeds).2.2
 have oI:=(hc.ctx.fresh hb h.ros).2.2
 have hlt:∀ p∈os,∀ b,p.A=some b->b.block<w.heap.size:=fun p hp b hb'=>((hc.own.mem p hp).lt hb').2
 have h2:=h1.hold (e:=60) (sz:=8) (n:=v.deeds.length) (cap:=x.cB) (A:=x.B) (xs:=(v.deeds.map dC).flatten) ⟨oD.row,fun a ha=>⟨fun e=>e.elim (fun e=>(oD.out a ha).1 e.1) (h.outB a ha),(oD.out a ha).2⟩⟩ (fun p hp a b ha hb' e1=>by
  have ho:=h.deeds
  rw [ha] at ho
  have:=(ho.lt a.block rfl).1
  have:=hlt p hp b hb'
  omega)
 refine h2.hold (e:=3) (sz:=1) (n:=v.ros.l.length) (cap:=x.cA) (A:=x.A) (xs:=L2 v.ros.l) ⟨oI.row,fun a ha=>⟨fun e=>e.elim (fun e=>(oI.out a ha).1 e.1) (h.outA a ha),(oI.out a ha).2⟩⟩ (fun p hp a b ha hb'=>?_)
 cases hp with
 | head=>exact h.two a b ha hb'
 | tail _ hp=>
  intro e1
  have ho:=h.ros
  rw [ha] at ho
  have:=(ho.lt a.block rfl).1
  have:=hlt p hp b hb'
  omega
theorem Q6 {S:Nat->Prop} {w:World} {ad:Addr} {n cap:Nat} {xs:List Value} (hR:Row S w (some ad) n cap xs) {j:Nat} {u:Value} (h:xs[j]?=some u):w.cell? (ad.add j)=some u:=by
 have hne:xs≠[]:=fun e=>by rw [e] at h;cases h
 obtain⟨a,e,_,hc⟩:=hR.2.2 hne
 cases e
 exact hc j u h
theorem RepL.part {S:Nat->Prop} {w:World} {l:List V} {xs:List Value} (h:RepL S w l xs) (i:Nat) (hi:i<l.length):
  ∃ A cap,RepC S w l[i] (D2 l[i] A cap)/\xs[i*4+1]?=some (.int .i64 (vN l[i]))/\xs[i*4+2]?=some (.string (vS l[i]))/\xs[i*4+3]?=some (.slice A (vL l[i]).length cap):=by
 obtain⟨cs,h1,h2⟩:=h.get i hi
 obtain⟨A,cap,rfl⟩:=h1.cells
 exact⟨A,cap,h1,h2 1 _ rfl,h2 2 _ rfl,h2 3 _ rfl⟩
theorem B27 {v:V} {i:Nat} (h:i<(vL v).length):atV v i=(vL v)[i]:=by unfold atV;rw [A8A h]
theorem RepL.partV {S:Nat->Prop} {w:World} {v:V} {xs:List Value} (h:RepL S w (vL v) xs) (i:Nat) (hi:i<(vL v).length):
  ∃ A cap,RepC S w (atV v i) (D2 (atV v i) A cap)/\xs[i*4+1]?=some (.int .i64 (vN (atV v i)))/\xs[i*4+2]?=some (.string (vS (atV v i)))/\xs[i*4+3]?=some (.slice A (vL (atV v i)).length cap):=by
 rw [B27 hi]
 exact h.part i hi
def wdL (a:Wd) (A:Option Addr) (n c:Nat) (B:Option Addr) (m c':Nat) (st:List Value):List Value:=[.int .i64 a.kind,.int .i64 a.frm,.int .i64 a.to,.int .i64 a.ep,.int .i64 a.seq,.int .i64 a.req,.int .i64 a.til,.int .i64 a.res.err,.int .i64 a.res.ver,.int .i64 a.ros.ep,.slice A n c,.int .i64 a.ros.new,.slice B m c']++st
def B8I (q:Option Wd) (w:World) (en:Ending) (w':World):Prop:=∃ u x N,en=.returned (.tuple #[.agg (wdC u x).toArray,.bool q.isSome])/\Below w.heap.size w w'/\WdO w.heap.size u x N w'/\∀ t,q=some t->u=t
theorem B0K (l:List Int) (i:Nat) (h:i<l.length):L2 (l.take (i+1))=L2 (l.take i)++[.int .i64 l[i]]:=by
 unfold L2
 rw [List.take_add_one,List.getElem?_eq_getElem h,List.map_append,List.flatten_append]
 rfl
theorem B28 (v:V) (A:Option Addr) (cap:Nat) (S:Nat->Prop) (w:World) (hr:RepC S w v (D2 v A cap)) (hd:∀ x∈vL (atV v 12),(N9 x).Ok) (h11:(vL (atV v 11)).length<=6000) (h12:(vL (atV v 12)).length<=6000) (hs:(vS (atV v 13)).size<=1073741824) (hw:Env w):
  Calls Tryz.prog 53 #[.slice A (vL v).length cap] w (B8I (A1u v) w):=by
 obtain⟨xs,hL,hR⟩:=hr.rows
 obtain⟨q,hq⟩:∃ q,q=A1u v:=⟨_,rfl⟩
 rw [<-hq]
 unfold A1u at hq
 refine vE Tryz.func53 ?_
 have hc:=CtxF.start w no (fun _ h=>h.elim) (R:=fun _ _=>True) trivial Stab.true
 refine hc.n fun g2 wg2 hg2 hc=>?_
 rw [L7] at hc
 by_cases h14:(vL v).length=14
 rotate_left
 ·refine B6 (by show (((vL v).length:Int) != 14)=true;rw [bne_iff_ne];omega) ?_
  refine hc.s 0 rfl fun wS hS hc=>?_
  refine hc.a 0 rfl rfl ?_
  rw [if_pos h14] at hq
  subst hq
  exact⟨Wd0,WX0,no,rfl,hc.below,WdO.zero _ _,fun t h=>by cases h⟩
 refine B4 (by show (((vL v).length:Int) != 14)=false;rw [bne_eq_false_iff_eq];omega) ?_
 rw [if_neg (fun h=>h h14)] at hq
 obtain⟨ad,rfl⟩:∃ ad,A=some ad:=by
  obtain⟨ad,_,e,_⟩:=Rep.elem hL hR 0 (by omega)
  exact⟨ad,e⟩
 obtain⟨bk,off,sub⟩:=ad
 have P:=fun i hi=>hL.partV i hi
 obtain⟨_,_,_,p0,_,_⟩:=P 0 (by omega)
 obtain⟨_,_,_,p1,_,_⟩:=P 1 (by omega)
 obtain⟨_,_,_,p2,_,_⟩:=P 2 (by omega)
 obtain⟨_,_,_,p3,_,_⟩:=P 3 (by omega)
 obtain⟨_,_,_,p4,_,_⟩:=P 4 (by omega)
 obtain⟨_,_,_,p5,_,_⟩:=P 5 (by omega)
 obtain⟨_,_,_,p6,_,_⟩:=P 6 (by omega)
 obtain⟨_,_,_,p7,_,_⟩:=P 7 (by omega)
 obtain⟨_,_,_,p8,_,_⟩:=P 8 (by omega)
 obtain⟨_,_,_,p9,_,_⟩:=P 9 (by omega)
 obtain⟨_,_,_,p10,_,_⟩:=P 10 (by omega)
 obtain⟨A11,c11,r11,_,_,p11⟩:=P 11 (by omega)
 obtain⟨A12,c12,r12,_,_,p12⟩:=P 12 (by omega)
 obtain⟨_,_,_,_,p13,_⟩:=P 13 (by omega)
 clear P
 generalize hn0:vN (atV v 0)=n0 at p0
 generalize hn1:vN (atV v 1)=n1 at p1
 generalize hn2:vN (atV v 2)=n2 at p2
 generalize hn3:vN (atV v 3)=n3 at p3
 generalize hn4:vN (atV v 4)=n4 at p4
 generalize hn5:vN (atV v 5)=n5 at p5
 generalize hn6:vN (atV v 6)=n6 at p6
 generalize hn7:vN (atV v 7)=n7 at p7
 generalize hn8:vN (atV v 8)=n8 at p8
 generalize hn9:vN (atV v 9)=n9 at p9
 generalize hn10:vN (atV v 10)=n10 at p10
 have hR0:=hR.below hc.below
 have hr:=hc
 refine vD (.Q [0,1,2,3,4,5,6,7,8,9,10,11,12,13,14,15,16,17,18,19,20,21,22,23,24,25,26,27,28] (.n 29 (.z 30) .stop)) (Old _) (Old.start _) ?_
 have hk:=hc.old0
 have hc:=hc.drew
 refine⟨⟨by decide,by rw [h14];decide⟩,?_⟩
 refine⟨_,fun y hy=>Keeps.look hy (Q6 hR0 p0),?_⟩
 refine⟨⟨by decide,by rw [h14];decide⟩,?_⟩
 refine⟨_,fun y hy=>Keeps.look hy (Q6 hR0 p1),?_⟩
 refine⟨⟨by decide,by rw [h14];decide⟩,?_⟩
 refine⟨_,fun y hy=>Keeps.look hy (Q6 hR0 p2),?_⟩
 refine⟨⟨by decide,by rw [h14];decide⟩,?_⟩
 refine⟨_,fun y hy=>Keeps.look hy (Q6 hR0 p3),?_⟩
 refine⟨⟨by decide,by rw [h14];decide⟩,?_⟩
 refine⟨_,fun y hy=>Keeps.look hy (Q6 hR0 p4),?_⟩
 refine⟨⟨by decide,by rw [h14];decide⟩,?_⟩
 refine⟨_,fun y hy=>Keeps.look hy (Q6 hR0 p5),?_⟩
 refine⟨⟨by decide,by rw [h14];decide⟩,?_⟩
 refine⟨_,fun y hy=>Keeps.look hy (Q6 hR0 p6),?_⟩
 refine⟨hc.n fun g4 wg4 hg4 hc=>?_,trivial⟩
 rw [L7] at hc
 have hk:=Keeps.below hk (fun _ h=>h) hg4.below
 refine⟨hk,?_⟩
 refine hc.s 0 rfl fun wS hS hc=>?_
 have hc:=B8 hc (l':=[(g4,35,[.int .i64 n0,.int .i64 n1,.int .i64 n2,.int .i64 n3,.int .i64 n4,.int .i64 n5,.int .i64 n6,.int .i64 0,.int .i64 0,.int .i64 0,.slice none 0 0,.int .i64 0,.slice none 0 0,.int .i64 0,.slice none 0 0,.slice none 0 0,.int .i64 0,.int .i64 0,.int .i64 0,.int .i64 0,.int .i64 0]),(g2,35,wdC Wd0 WX0)]) (by kernel_rfl)
 have hR0:=hR.below hc.below
 have hr:=hc
 refine vD (.Q [0,1,2,3,4,5,6,7,8,9] (.z 10)) (Old _) (Old.start _) ?_
 have hk:=hc.old0
 have hc:=hc.drew
 refine⟨⟨by decide,by rw [h14];decide⟩,?_⟩
 refine⟨_,fun y hy=>Keeps.look hy (Q6 hR0 p7),?_⟩
 refine⟨⟨by decide,by rw [h14];decide⟩,?_⟩
 refine⟨_,fun y hy=>Keeps.look hy (Q6 hR0 p8),?_⟩
 refine hc.s 0 rfl fun wS hS hc=>?_
 have hR0:=hR.below hc.below
 have hr:=hc
 refine vD (.Q [0,1,2,3,4,5,6,7,8,9] (.z 10)) (Old _) (Old.start _) ?_
 have hk:=hc.old0
 have hc:=hc.drew
 refine⟨⟨by decide,by rw [h14];decide⟩,?_⟩
 refine⟨_,fun y hy=>Keeps.look hy (Q6 hR0 p9),?_⟩
 refine⟨⟨by decide,by rw [h14];decide⟩,?_⟩
 refine⟨_,fun y hy=>Keeps.look hy (Q6 hR0 p10),?_⟩
 refine hc.s 0 rfl fun wS hS hc=>?_
 refine⟨⟨by decide,by rw [h14];decide⟩,?_⟩
 refine⟨_,Q6 (hR.below hc.below) p11,?_⟩
 obtain⟨a,ha⟩:∃ a,a=B0B v:=⟨_,rfl⟩
 have hc:=B8 hc (l':=[(g4,35,[.int .i64 n0,.int .i64 n1,.int .i64 n2,.int .i64 n3,.int .i64 n4,.int .i64 n5,.int .i64 n6,.int .i64 n7,.int .i64 n8,.int .i64 n9,.slice none 0 0,.int .i64 n10,.slice none 0 0,.int .i64 0,.slice none 0 0,.slice none 0 0,.int .i64 0,.int .i64 0,.int .i64 0,.int .i64 0,.int .i64 0]),(g2,35,wdC Wd0 WX0)]) (by kernel_rfl)
 have ew:[Value.int .i64 n0,.int .i64 n1,.int .i64 n2,.int .i64 n3,.int .i64 n4,.int .i64 n5,.int .i64 n6,.int .i64 n7,.int .i64 n8,.int .i64 n9,.slice none 0 0,.int .i64 n10,.slice none 0 0,.int .i64 0,.slice none 0 0,.slice none 0 0,.int .i64 0,.int .i64 0,.int .i64 0,.int .i64 0,.int .i64 0]=wdL a none 0 0 none 0 0 (stX Stt0 SX0):=by
  rw [ha,<-hn0,<-hn1,<-hn2,<-hn3,<-hn4,<-hn5,<-hn6,<-hn7,<-hn8,<-hn9,<-hn10]
  rfl
 rw [ew] at hc
 clear ew
 have hc:=hc.nil 3 1
 obtain⟨ys,hL1,hR1⟩:=r11.rows
 obtain⟨ns,hns⟩:∃ ns,ns=(vL (atV v 11)).map vN:=⟨_,rfl⟩
 have hnl:ns.length=(vL (atV v 11)).length:=by rw [hns,List.length_map]
 refine⟨Option Addr × Nat × Nat,fun (A',c,i)=>[(0,.slice (some ⟨bk,off,sub⟩) (vL v).length cap),(2,.pointer (some ⟨g2,0,none⟩)),(4,.pointer (some ⟨g4,0,none⟩)),(69,.slice A11 (vL (atV v 11)).length c11),(70,.int .i64 (vL (atV v 11)).length),(71,.int .i64 i)],
  fun (A',c,i) w'=>i<=(vL (atV v 11)).length/\CtxF no w no w' [(g4,35,wdL a A' i c none 0 0 (stX Stt0 SX0)),(g2,35,wdC Wd0 WX0)] [⟨3,1,A',i,c,L2 (ns.take i)⟩] (fun _ _=>True),
  fun (_,_,i) _=>(vL (atV v 11)).length-i,(none,0,0),⟨rfl,rfl,rfl,rfl,rfl,rfl,trivial⟩,⟨Nat.zero_le _,hc⟩,?_⟩
 clear hc
 rintro⟨B1,d1,i⟩ w4 u ⟨hi,hc⟩
 by_cases hlt:i<(vL (atV v 11)).length
 ·refine dt (by omega) ?_
  obtain⟨bd,cs,rfl,hrep,hl4,hcell⟩:=Rep.elem hL1 hR1 i hlt
  have hcell:=cellsAt_later hc.below _ _ hcell
  obtain⟨A2,cap2,rfl⟩:=hrep.cells
  refine⟨⟨by omega,by omega⟩,?_⟩
  refine⟨D2 (vL (atV v 11))[i] A2 cap2,rfl,by rw [Int.toNat_natCast];exact hcell,?_⟩
  refine hc.n fun g6 wg6 hg6 hc=>?_
  refine hc.s 0 rfl fun wS hS hc=>?_
  refine hc.c 1 rfl rfl ?_
  refine hc.c 0 rfl rfl ?_
  refine hc.n fun g80 wg80 hg80 hc=>?_
  have en:ns[i]'(by omega)=vN (vL (atV v 11))[i]:=by simp only [hns,List.getElem_map]
  refine D1 Tryz.underlying25 A4s rfl (by decide) hc (ys:=[.int .i64 (vN (vL (atV v 11))[i])]) (m:=1) rfl (hc.cells 0 rfl) rfl (by omega) (by decide) rfl rfl ?_
  intro A3 c3 w11 hc
  refine hc.s 2 rfl fun wS hS hc=>?_
  refine⟨(A3,c3,i+1),⟨rfl,rfl,rfl,rfl,rfl,congrArg _ (C1 (by omega)),trivial⟩,⟨hlt,?_⟩,by show (vL (atV v 11)).length-(i+1)<(vL (atV v 11)).length-i;omega⟩
  rw [B0K ns i (by omega),en]
  exact hc.drop.drop
 refine df (by omega) ?_
 have hi:i=(vL (atV v 11)).length:=by omega
 subst hi
 rw [List.take_of_length_le (by omega)] at hc
 refine⟨⟨by decide,by rw [h14];decide⟩,?_⟩
 refine⟨_,Q6 (hR.below hc.below) p12,?_⟩
 have hc:=hc.nil 60 8
 obtain⟨zs,hL2,hR2⟩:=r12.rows
 refine⟨Option Addr × Nat × Nat,fun (A',c,i)=>[(0,.slice (some ⟨bk,off,sub⟩) (vL v).length cap),(2,.pointer (some ⟨g2,0,none⟩)),(4,.pointer (some ⟨g4,0,none⟩)),(88,.slice A12 (vL (atV v 12)).length c12),(89,.int .i64 (vL (atV v 12)).length),(90,.int .i64 i)],
  fun (A',c,i) w'=>i<=(vL (atV v 12)).length/\(∀ x∈(vL (atV v 12)).take i,(ofD x).2=true)/\CtxF no w no w' [(g4,35,wdL a B1 (vL (atV v 11)).length d1 A' i c (stX Stt0 SX0)),(g2,35,wdC Wd0 WX0)] [⟨60,8,A',i,c,(((vL (atV v 12)).take i).map fun x=>dC (ofD x).1).flatten⟩,⟨3,1,B1,(vL (atV v 11)).length,d1,L2 ns⟩] (fun _ _=>True),
  fun (_,_,i) _=>(vL (atV v 12)).length-i,(none,0,0),⟨rfl,rfl,rfl,rfl,rfl,rfl,trivial⟩,⟨Nat.zero_le _,(fun x hx=>by cases hx),hc⟩,?_⟩
 clear hc
 rintro⟨B2,d2,i⟩ w4 u ⟨hi,hall,hc⟩
 by_cases hlt:i<(vL (atV v 12)).length
 ·refine dt (by omega) ?_
  obtain⟨bd,cs,rfl,hrep,hl4,hcell⟩:=Rep.elem hL2 hR2 i hlt
  have hcell:=cellsAt_later hc.below _ _ hcell
  obtain⟨A2,cap2,rfl⟩:=hrep.cells
  have hdo:=hd _ (List.getElem_mem hlt)
  have hmem:(vL (atV v 12))[i]∈vL (atV v 12):=List.getElem_mem hlt
  have htk:(vL (atV v 12)).take (i+1)=(vL (atV v 12)).take i++[(vL (atV v 12))[i]]:=by rw [List.take_add_one,List.getElem?_eq_getElem hlt];rfl
  obtain⟨x,hx⟩:∃ x,x=(vL (atV v 12))[i]:=⟨_,rfl⟩
  rw [<-hx] at hrep hcell hdo hmem htk
  refine⟨⟨by omega,by omega⟩,?_⟩
  refine⟨D2 x A2 cap2,rfl,by rw [Int.toNat_natCast];exact hcell,?_⟩
  refine hc.n fun g8 wg8 hg8 hc=>?_
  refine hc.s 0 rfl fun wS hS hc=>?_
  refine hc.a 0 rfl rfl ?_
  refine hc.q (A8d x (vK x) (vN x) (vS x) A2 (vL x).length cap2 S _ (hrep.below hc.below) hdo) fun wQ hQ hc=>?_
  refine hc.n fun g9 wg9 hg9 hc=>?_
  refine hc.s 0 rfl fun wS hS hc=>?_
  cases hb:(ofD x).2 with
  | false=>
   refine hc.s 3 rfl fun wS hS hc=>?_
   refine hc.a 3 rfl rfl ?_
   rw [if_pos (by rw [List.all_eq_false];exact⟨x,hmem,by rw [hb];decide⟩)] at hq
   subst hq
   exact⟨Wd0,WX0,no,rfl,hc.below,WdO.zero _ _,fun t h=>by cases h⟩
  | true=>
  refine hc.c 2 rfl rfl ?_
  refine hc.a 0 rfl rfl ?_
  refine hc.n fun g105 wg105 hg105 hc=>?_
  refine D1 Tryz.underlying28 A00 rfl (by decide) hc (ys:=dC (ofD x).1) (m:=1) rfl (hc.cells 0 rfl) rfl (by omega) (by decide) rfl rfl ?_
  intro A3 c3 w11 hc
  refine hc.s 3 rfl fun wS hS hc=>?_
  refine⟨(A3,c3,i+1),⟨rfl,rfl,rfl,rfl,rfl,congrArg _ (C1 (by omega)),trivial⟩,⟨hlt,fun y hy=>?_,?_⟩,by show (vL (atV v 12)).length-(i+1)<(vL (atV v 12)).length-i;omega⟩
  ·rw [htk,List.mem_append,List.mem_singleton] at hy
   rcases hy with hy | rfl
   ·exact hall y hy
   ·exact hb
  ·have e:(((vL (atV v 12)).take (i+1)).map fun x=>dC (ofD x).1).flatten=(((vL (atV v 12)).take i).map fun x=>dC (ofD x).1).flatten++dC (ofD x).1:=by rw [htk,List.map_append,List.flatten_append];simp
   rw [e]
   exact hc.drop.drop.drop
 refine df (by omega) ?_
 have hi:i=(vL (atV v 12)).length:=by omega
 subst hi
 rw [List.take_length] at hc hall
 rw [if_neg (by rw [Bool.not_eq_false,List.all_eq_true];exact hall)] at hq
 refine⟨⟨by decide,by rw [h14];decide⟩,?_⟩
 refine⟨_,Q6 (hR.below hc.below) p13,?_⟩
 have hbr:=fun w hw=>A3c (vS (atV v 13)).data.toList (by rw [L0];exact hs) w hw
 refine⟨(hbr _ (hw.below hc.below)).mono fun en wq hq2=>?_⟩
 obtain⟨cs,e1,hq2,hrep⟩:=hq2
 obtain⟨y,rfl⟩:=hrep.stX
 have hc:=(hc.call hq2).1.know (X:=fun S w=>RepS S w (Q2 (vS (atV v 13)).data.toList).1 (stX (Q2 (vS (atV v 13)).data.toList).1 y)) (hrep.map fun h=>h.sub fun b h=>h.elim (fun h=>h.elim) .inr) (P8 _ _)
 refine⟨_,e1,?_⟩
 obtain⟨s,hsq⟩:∃ s,s=Q2 (vS (atV v 13)).data.toList:=⟨_,rfl⟩
 rw [<-hsq] at hc hq ⊢
 have ea:a.deeds=(vL (atV v 12)).map (fun x=>(ofD x).1)/\a.ros.l=ns/\a.st=s.1:=by rw [ha,hns,hsq];exact⟨rfl,rfl,rfl⟩
 clear hsq hrep
 obtain⟨s,er⟩:=s
 refine hc.n fun g11 wg11 hg11 hc=>?_
 refine hc.s 0 rfl fun wS hS hc=>?_
 refine hc.a 0 rfl rfl ?_
 refine hc.s 1 rfl fun wS hS hc=>?_
 have hc:=B8 hc (l':=[(g11,33,stX s y),(g4,35,wdL a B1 (vL (atV v 11)).length d1 B2 (vL (atV v 12)).length d2 (stX s y)),(g2,35,wdC Wd0 WX0)]) (by kernel_rfl)
 refine hc.a 1 rfl rfl ?_
 refine hc.s 2 rfl fun wS hS hc=>?_
 have hc:=B8 hc (l':=[(g11,33,stX s y),(g4,35,wdL a B1 (vL (atV v 11)).length d1 B2 (vL (atV v 12)).length d2 (stX s y)),(g2,35,wdL a B1 (vL (atV v 11)).length d1 B2 (vL (atV v 12)).length d2 (stX s y))]) (by kernel_rfl)
 refine hc.a 2 rfl rfl ?_
 obtain⟨e1,e2,e3⟩:=ea
 have ed:(a.deeds.map dC)=(vL (atV v 12)).map fun x=>dC (ofD x).1:=by rw [e1,List.map_map];rfl
 have hcs:=hc.swap
 have hwd:WdO w.heap.size a ⟨B1,d1,B2,d2,y⟩ _ _:=CtxF.wdO (v:=a) (x:=⟨B1,d1,B2,d2,y⟩) (by
  show CtxF _ _ _ _ _ [⟨3,1,B1,a.ros.l.length,d1,L2 a.ros.l⟩,⟨60,8,B2,a.deeds.length,d2,(a.deeds.map dC).flatten⟩] _
  rw [ed,e2,hnl,e1,List.length_map]
  exact hcs) (fun h=>by
  rw [e3]
  exact h.2)
 refine⟨a,⟨B1,d1,B2,d2,y⟩,_,?_,hc.below,hwd,?_⟩
 ·have el:a.ros.l.length=(vL (atV v 11)).length:=by rw [e2,hnl]
  have em:a.deeds.length=(vL (atV v 12)).length:=by rw [e1,List.length_map]
  have ew:wdC a ⟨B1,d1,B2,d2,y⟩=wdL a B1 (vL (atV v 11)).length d1 B2 (vL (atV v 12)).length d2 (stX s y):=by
   unfold wdC
   rw [el,em,e3]
   rfl
  rw [ew]
  by_cases h0:er=0
  ·subst h0
   rw [if_neg (fun h=>h rfl)] at hq
   rw [hq]
   rfl
  ·rw [if_pos h0] at hq
   rw [hq]
   show Ending.returned (.tuple #[_,.bool (er==0)])=_
   rw [show (er==0)=false from by rw [beq_eq_false_iff_ne];exact h0]
   rfl
 ·intro t ht
  rw [hq] at ht
  split at ht
  ·cases ht
  ·rw [ha]
   exact Option.some.inj ht
theorem B5W:okV V0:=by unfold V0;rw [okV,okL];exact⟨by unfold B9;omega,trivial⟩
theorem B4u (t:List UInt8):okV (M7 t).1:=by
 by_cases he:(M7 t).2=0
 ·exact (A5I (show M7 t=((M7 t).1,0) by rw [<-he])).2.2
 ·have e:(M7 t).1=V0:=by
   unfold M7 at he ⊢
   simp only at he ⊢
   split at he
   ·rename_i h;rw [if_pos h]
   ·exact absurd rfl he
  rw [e]
  exact B5W
theorem B82 {v:V} (h:okV v):B9 (vN v):=by
 obtain⟨k,n,s,l⟩:=v
 rw [okV] at h
 exact h.1
theorem B5X {v x:V} (h:okV v) (hx:x∈vL v):okV x:=by
 obtain⟨k,n,s,l⟩:=v
 rw [okV] at h
 exact A3J h.2 hx
theorem B5Y {v:V} (h:okV v) (i:Nat):okV (atV v i):=by
 by_cases hi:i<(vL v).length
 ·rw [B27 hi]
  exact B5X h (List.getElem_mem hi)
 ·have e:atV v i=V0:=by unfold atV;rw [List.getD_eq_getElem?_getD,List.getElem?_eq_none (by omega)];rfl
  rw [e]
  exact B5W
theorem A9B (t:List UInt8) (ht:t.length<=1073741824):∀ x∈vL (atV (M7 t).1 12),(N9 x).Ok:=by
 intro x hx
 have ho:=B5X (B5Y (B4u t) 12) hx
 have hs:=((A3b t).at 12).mem.2 x hx
 have n:=fun i=>B82 (B5Y ho i)
 have s:∀ i,G7 (vS (atV x i)):=fun i=>by
  have:=(hs.at i).str
  unfold G7
  omega
 exact⟨n 0,s 1,s 2,n 3,n 4,s 5,n 6,n 7⟩
theorem B8J:D0.Ok:=by
 refine⟨?_,?_,?_,?_,?_,?_,?_,?_⟩<;>first | (show B9 0;unfold B9;decide) | (show G7 ⟨#[]⟩;unfold G7;exact Nat.zero_le _)
theorem B8K {x:V} (h:(N9 x).Ok):(ofD x).1.Ok:=by
 unfold ofD
 split
 ·exact B8J
 ·split
  ·exact B8J
  ·exact h
theorem A63 (t:List UInt8) (ht:t.length<=1073741824):(∀ e∈(Q2 t).1.l,G7 e.key)/\(Q2 t).1.lows.length=5:=by
 have eR:Q2 t=if (M7 t).2≠0 then (Stt0,1) else if E1 (A2j (M7 t).1)=[]\/E1 (A2j (M7 t).1)≠t then (Stt0,1) else (A2j (M7 t).1,0):=rfl
 have h0:(∀ e∈Stt0.l,G7 e.key)/\Stt0.lows.length=5:=⟨(fun e he=>by cases he),rfl⟩
 rw [eR]
 split
 ·exact h0
 ·split
  ·exact h0
  ·refine⟨fun e he=>?_,rfl⟩
   obtain⟨x,hx,rfl⟩:=List.mem_map.1 he
   have:=(((A3b t).at 1).mem.2 x hx |>.at 0).str
   show G7 (vS (atV x 0))
   unfold G7
   omega
theorem A4w (t:List UInt8) (ht:t.length<=1073741824):(B0B (M7 t).1).Bare:=by
 have hs:=((A3b t).at 13).str
 have hr:=A63 (vS (atV (M7 t).1 13)).data.toList (by rw [L0];omega)
 refine⟨fun d hd=>?_,hr.1,hr.2⟩
 obtain⟨x,hx,rfl⟩:=List.mem_map.1 hd
 exact B8K (A9B t ht x hx)
theorem A3w {v:V} {u:Wd} (h:A1u v=some u):u=B0B v:=by
 unfold A1u at h
 split at h
 ·cases h
 ·split at h
  ·cases h
  ·split at h
   ·cases h
   ·exact (Option.some.inj h).symm
def RetWdo (q:Option Wd) (w:World) (en:Ending) (w':World):Prop:=∃ x N,en=.returned (.tuple #[.agg (wdC (q.getD Wd0) x).toArray,.int .i64 (if q.isSome then 0 else 1)])/\Below w.heap.size w w'/\WdO w.heap.size (q.getD Wd0) x N w'
theorem RetWdo.none {w w':World} (h:Below w.heap.size w w'):RetWdo none w (.returned (.tuple #[.agg (wdC Wd0 WX0).toArray,.int .i64 1])) w':=⟨WX0,no,rfl,h,WdO.zero _ _⟩
def RetWd (q:Option Wd) (w:World) (en:Ending) (w':World):Prop:=∃ x,en=.returned (.tuple #[.agg (wdC (q.getD Wd0) x).toArray,.int .i64 (if q.isSome then 0 else 1)])/\Below w.heap.size w w'/\WdR (q.getD Wd0) x (ext no w w') w'
theorem RetWd.none {w w':World} (h:Below w.heap.size w w'):RetWd none w (.returned (.tuple #[.agg (wdC Wd0 WX0).toArray,.int .i64 1])) w':=⟨WX0,rfl,h,V2 _ _⟩
theorem A9C (s:ByteArray) (hs:s.size<=1073741824) (w:World) (hw:Env w):Calls Tryz.prog 17 #[.string s] w (RetWdo (A56 s.data.toList) w):=by
 obtain⟨q,hq⟩:∃ q,q=A56 s.data.toList:=⟨_,rfl⟩
 rw [<-hq]
 unfold A56 at hq
 have hlen:s.data.toList.length=s.size:=L0 s
 refine vE Tryz.func17 ?_
 have hc:=CtxF.start w no (fun _ h=>h.elim) (R:=fun _ _=>True) trivial Stab.true
 refine hc.n fun g2 wg2 hg2 hc=>?_
 rw [L7] at hc
 by_cases h8:s.size<8
 ·refine dt (by omega) ?_
  refine hc.s 0 rfl fun wS hS hc=>?_
  have hc:=B8 hc (l':=[(g2,35,wdC Wd0 WX0)]) (by kernel_rfl)
  refine hc.a 0 rfl rfl ?_
  rw [if_pos (by omega)] at hq
  subst hq
  exact RetWdo.none hc.below
 refine df (by omega) ?_
 rw [if_neg (by omega)] at hq
 refine⟨⟨by omega,by omega,by omega⟩,?_⟩
 have hdl:(s.data.toList.drop 8).length<=1073741824:=by rw [List.length_drop];omega
 have hg:=B4F (s.data.toList.drop 8) _ hdl (hw.below hc.below)
 have hdk:=A9B (s.data.toList.drop 8) hdl
 have hsm:=A3b (s.data.toList.drop 8)
 have hbr:=A4w (s.data.toList.drop 8) hdl
 rw [<-V1 s 8 (by omega)] at hg
 obtain⟨p,hp⟩:∃ p,p=M7 (s.data.toList.drop 8):=⟨_,rfl⟩
 rw [<-hp] at hg hq hdk hsm hbr
 obtain⟨v,er⟩:=p
 clear hp
 simp only at hg hq hdk hsm hbr
 refine⟨hg.mono fun en wq hq2=>?_⟩
 obtain⟨A1,c1,e1,hb2,hr1⟩:=hq2
 have hc:=(hc.call hb2).1.know (hr1.sub fun b h=>h.elim (fun h=>h.elim) .inr) (E8 _ _)
 refine⟨_,e1,?_⟩
 refine hc.n fun g4 wg4 hg4 hc=>?_
 refine hc.s 0 rfl fun wS hS hc=>?_
 refine hc.c 0 rfl rfl ?_
 have h13:=(hsm.at 13).str
 refine⟨(B28 v A1 c1 _ _ hc.row.2 hdk (hsm.at 11).mem.1 (hsm.at 12).mem.1 (by omega) (hw.below hc.below)).mono fun en wq hq2=>?_⟩
 obtain⟨u,x,N,e1,hb3,hWo,hu⟩:=hq2
 have hc:=hc.freshW hb3 hWo
 refine⟨_,e1,?_⟩
 refine hc.n fun g6 wg6 hg6 hc=>?_
 rw [L7] at hc
 refine hc.s 0 rfl fun wS hS hc=>?_
 have hc:=B8 hc (l':=[(g6,35,wdC u x),(g4,79,D2 v A1 c1),(g2,35,wdC Wd0 WX0)]) (by kernel_rfl)
 by_cases he:er=0
 rotate_left
 ·refine B6 (by show (er != 0)=true;rw [bne_iff_ne];exact he) ?_
  refine hc.s 2 rfl fun wS hS hc=>?_
  have hc:=B8 hc (l':=[(g6,35,wdC u x),(g4,79,D2 v A1 c1),(g2,35,wdC Wd0 WX0)]) (by kernel_rfl)
  refine hc.a 2 rfl rfl ?_
  rw [if_pos he] at hq
  subst hq
  exact RetWdo.none hc.below
 refine B4 (by show (er != 0)=false;rw [bne_eq_false_iff_eq];exact he) ?_
 rw [if_neg (fun h=>h he)] at hq
 obtain⟨pv,hpv⟩:∃ p,p=A1u v:=⟨_,rfl⟩
 rw [<-hpv] at hq hu e1 ⊢
 cases pv with
 | none=>
  refine hc.s 2 rfl fun wS hS hc=>?_
  have hc:=B8 hc (l':=[(g6,35,wdC u x),(g4,79,D2 v A1 c1),(g2,35,wdC Wd0 WX0)]) (by kernel_rfl)
  refine hc.a 2 rfl rfl ?_
  subst hq
  exact RetWdo.none hc.below
 | some u'=>
 obtain rfl:=hu u' rfl
 have hub:u.Bare:=by rw [A3w hpv.symm];exact hbr
 simp only at hq
 refine hc.a 0 rfl rfl ?_
 refine hc.q (K8 u hub x _ _ (hc.wdR fun h=>h.2) (hw.below hc.below)) fun wQ hQ hc=>?_
 by_cases h1:Z6 u=s.data.toList
 ·refine B4 (by
   show (!C8 ⟨(Z6 u).toArray⟩ s)=false
   rw [h1]
   have:C8 ⟨s.data.toList.toArray⟩ s=true:=C5.2 rfl
   rw [this]
   rfl) ?_
  refine hc.a 0 rfl rfl ?_
  refine hc.s 2 rfl fun wS hS hc=>?_
  have hc:=B8 hc (l':=[(g6,35,wdC u x),(g4,79,D2 v A1 c1),(g2,35,wdC u x)]) (by kernel_rfl)
  refine hc.a 2 rfl rfl ?_
  rw [if_pos h1] at hq
  subst hq
  exact⟨x,_,rfl,hc.below,hc.wdO fun h=>h.2⟩
 ·refine B6 (by
   show (!C8 ⟨(Z6 u).toArray⟩ s)=true
   rw [Bool.not_eq_true',<-Bool.not_eq_true,C5]
   intro h
   apply h1
   rw [<-h]) ?_
  refine hc.s 2 rfl fun wS hS hc=>?_
  have hc:=B8 hc (l':=[(g6,35,wdC u x),(g4,79,D2 v A1 c1),(g2,35,wdC Wd0 WX0)]) (by kernel_rfl)
  refine hc.a 2 rfl rfl ?_
  rw [if_neg h1] at hq
  subst hq
  exact RetWdo.none hc.below
theorem A1w (s:ByteArray) (hs:s.size<=1073741824) (w:World) (hw:Env w):Calls Tryz.prog 17 #[.string s] w (RetWd (A56 s.data.toList) w):=by
 refine (A9C s hs w hw).mono fun en w' h=>?_
 obtain⟨x,N,e,hb,hW⟩:=h
 exact⟨x,e,hb,hW.wd fun b h1 h2=>.inr ⟨h1,h2⟩⟩
def flC (A:Option Addr) (n cap:Nat):List Value:=[.slice A n cap]
def FlockK (gf:Nat) (F:List ByteArray):Kn:=fun S w=>∃ A cap,ObjK gf 85 (flC A F.length cap) (RecK 9 A F.length cap (F.map Value.string)) (fun _ _=>True) S w
theorem FlockK.stab (gf:Nat) (F:List ByteArray):Stab (FlockK gf F):=fun S w S' w' h f=>by
 obtain⟨A,cap,h⟩:=h
 exact⟨A,cap,ObjK.stab (RecK.stab _ _ _ _ _) Stab.true _ _ _ _ h f⟩
theorem FlockK.row {gf:Nat} {F:List ByteArray} {S:Nat->Prop} {w:World} (h:FlockK gf F S w):∃ A cap,Blk w gf 85 (flC A F.length cap)/\Row S w A F.length cap (F.map Value.string):=by
 obtain⟨A,cap,h⟩:=h
 exact⟨A,cap,h.2.1,(h.left (RecK.stab _ _ _ _ _)).row⟩
theorem FlockK.leave {gf n cap:Nat} {A:Option Addr} {F:List ByteArray} {xs:List Value} {Sx S:Nat->Prop} {w w':World}
  (hc:CtxF no (bare w) S w' [(gf,85,flC A n cap)] [] (Sep 0 (Sep 0 (Keep w Sx) (RecK 9 A n cap xs)) (fun _ _=>True))) (hx:xs=F.map Value.string) (hn:n=F.length) (v:Value):RetOb Sx w v (FlockK gf F) (.returned v) w':=by
 subst hx
 subst hn
 obtain⟨h1,h2,Sn,h3,h4⟩:=ObjK.leave hc v
 exact⟨h1,h2,Sn,h3,A,cap,h4⟩
theorem B8L (g:Nat) (ox oy:Operand) (w:World):(do eqGuard BinOp.eql 49 ox oy (.pointer (some ⟨g,0,none⟩)) (.pointer none);Go.binOp BinOp.eql 49 (.pointer (some ⟨g,0,none⟩)) (.pointer none):Sem Value).run Tryz.prog w=.ok (.bool false) w:=by kernel_rfl
theorem A23 (w:World):Calls Tryz.prog 20 #[] w (fun en w'=>∃ gf,en=.returned (.pointer (some ⟨gf,0,none⟩))/\Below w.heap.size w w'/\FlockK gf [] (ext no w w') w'):=by
 refine vE Tryz.func20 ?_
 intro g w1 h1
 have hg:g=w.heap.size:=h1.1
 have hl:=h1.blk.lt
 exact⟨g,rfl,h1.below,none,0,.inr ⟨by omega,hl⟩,h1.blk,⟨fun _=>False,fun _=>False,fun x h=>h.elim,fun x h=>h.elim,RecK.nil _ _ _,trivial⟩⟩
theorem J2 (gf:Nat) (F:List ByteArray) (S:Nat->Prop) (w:World) (hK:FlockK gf F S w):Calls Tryz.prog 24 #[.pointer (some ⟨gf,0,none⟩)] w (C7 (.int .i64 F.length) w):=by
 obtain⟨A,cap,hB,hR⟩:=hK.row
 refine vE Tryz.func24 ?_
 refine⟨.bool false,fun w=>B8L gf _ _ w,?_⟩
 refine⟨_,hB.cell 0,?_⟩
 exact⟨rfl,Below.refl _ _⟩
def A64 (F:List ByteArray) (v:Wd):List ByteArray × Bool:=if J5 v=false\/300<=F.length then (F,false) else (F++[⟨(Z6 v).toArray⟩],true)
theorem A0e (gf:Nat) (F:List ByteArray) (v:Wd) (hb:v.Bare) (x:WX) (Sw:Nat->Prop) (Sx:Nat->Prop) (w:World) (hR:WdR v x Sw w) (hlt:∀ x,Sx x->x<w.heap.size) (he:EnvFree Sx w) (hK:FlockK gf F Sx w):
  Calls Tryz.prog 21 #[.pointer (some ⟨gf,0,none⟩),.agg (wdC v x).toArray] w (RetOb Sx w (.bool (A64 F v).2) (FlockK gf (A64 F v).1)):=by
 obtain⟨q,hq⟩:∃ q,q=A64 F v:=⟨_,rfl⟩
 rw [<-hq]
 unfold A64 at hq
 obtain⟨A,cap,hO⟩:=hK
 have hc:=hO.enter hlt (RecK.stab _ _ _ _ _) Stab.true
 refine vE Tryz.func21 ?_
 refine hc.n fun g3 wg3 hg3 hc=>?_
 refine⟨wdC v x,rfl,hc.cells 0 rfl,?_⟩
 refine hc.q (K8 v hb x Sw _ (hR.below hg3.below) (he.now hc.drop)) fun wQ hQ hc=>?_
 have hc:=hc.drop
 refine⟨.bool false,fun w=>B8L gf _ _ w,?_⟩
 cases hm:J5 v with
 | false=>
  rw [if_pos (.inl hm)] at hq
  subst hq
  refine B6 (by rw [A5p hm];exact C5.2 rfl) ?_
  exact FlockK.leave hc rfl rfl _
 | true=>
 refine B4 (by
  cases h:C8 ⟨(Z6 v).toArray⟩ ⟨#[]⟩ with
  | false=>rfl
  | true=>
   rw [C5] at h
   exact absurd (by simpa using h) (A79 hm)) ?_
 refine hc.c 0 rfl rfl ?_
 by_cases h3:300<=F.length
 ·rw [if_pos (.inr h3)] at hq
  subst hq
  refine dt (by omega) ?_
  exact FlockK.leave hc rfl rfl _
 rw [if_neg (fun h=>h.elim (fun h=>by rw [hm] at h;cases h) h3)] at hq
 subst hq
 refine df (by omega) ?_
 refine hc.c 0 rfl rfl ?_
 refine hc.n fun gv wgv hgv hc=>?_
 have hc:=hc.now Sep.swap (Sep.stab (Sep.stab (Keep.stab _ _) Stab.true) (RecK.stab _ _ _ _ _))
 refine B2T (m:=1) Tryz.underlying83 A4e rfl hc (Sep.stab (Keep.stab _ _) Stab.true) (hc.cells 0 rfl) rfl (by decide) rfl (by omega) (by decide) ?_
 intro A3 cap3 w3 S3 hc
 have hc:=hc.drop.now Sep.swap (Sep.stab (Sep.stab (Keep.stab _ _) (RecK.stab _ _ _ _ _)) Stab.true)
 refine hc.s 0 rfl fun wS hS hc=>?_
 exact FlockK.leave hc (by rw [List.map_append];rfl) (by rw [List.length_append];rfl) _
theorem FlockK.later {gf:Nat} {F:List ByteArray} {S:Nat->Prop} {w w':World} (h:FlockK gf F S w) (hlt:∀ x,S x->x<w.heap.size) (hb:Below w.heap.size w w'):FlockK gf F S w':=
 FlockK.stab gf F S w S w' h ⟨fun _ h=>h,fun b hs=>hb.block b (hlt b hs)⟩
def X0 (F:List ByteArray) (i:Int):Option Wd:=if i<0\/(F.length:Int)<=i then none else A56 (F.getD i.toNat ⟨#[]⟩).data.toList
def RetPko (q:Option Wd) (w:World) (en:Ending) (w':World):Prop:=∃ x N,en=.returned (.tuple #[.agg (wdC (q.getD Wd0) x).toArray,.bool q.isSome])/\Below w.heap.size w w'/\WdO w.heap.size (q.getD Wd0) x N w'
theorem RetPko.none {w w':World} (h:Below w.heap.size w w'):RetPko none w (.returned (.tuple #[.agg (wdC Wd0 WX0).toArray,.bool false])) w':=⟨WX0,no,rfl,h,WdO.zero _ _⟩
def RetPk (q:Option Wd) (w:World) (en:Ending) (w':World):Prop:=∃ x,en=.returned (.tuple #[.agg (wdC (q.getD Wd0) x).toArray,.bool q.isSome])/\Below w.heap.size w w'/\WdR (q.getD Wd0) x (ext no w w') w'
theorem RetPk.none {w w':World} (h:Below w.heap.size w w'):RetPk none w (.returned (.tuple #[.agg (wdC Wd0 WX0).toArray,.bool false])) w':=⟨WX0,rfl,h,V2 _ _⟩
theorem A65 (gf:Nat) (F:List ByteArray) (hF:∀ s∈F,s.size<=1073741824) (i:Int) (S:Nat->Prop) (w:World) (hlt:∀ x,S x->x<w.heap.size) (hw:Env w) (hK:FlockK gf F S w):
  Calls Tryz.prog 22 #[.pointer (some ⟨gf,0,none⟩),.int .i64 i] w (RetPko (X0 F i) w):=by
 obtain⟨q,hq⟩:∃ q,q=X0 F i:=⟨_,rfl⟩
 rw [<-hq]
 unfold X0 at hq
 obtain⟨A,cap,hB,hR⟩:=hK.row
 refine vE Tryz.func22 ?_
 have hc:=CtxF.start w no (fun _ h=>h.elim) (R:=fun _ _=>True) trivial Stab.true
 refine hc.n fun g4 wg4 hg4 hc=>?_
 rw [L7] at hc
 by_cases h0:i<0
 ·refine dt h0 ?_
  refine hc.s 0 rfl fun wS hS hc=>?_
  have hc:=B8 hc (l':=[(g4,35,wdC Wd0 WX0)]) (by kernel_rfl)
  refine hc.a 0 rfl rfl ?_
  rw [if_pos (.inl h0)] at hq
  subst hq
  exact RetPko.none hc.below
 refine df h0 ?_
 refine hc.q (J2 gf F S _ (hK.later hlt hc.below)) fun wQ hQ hc=>?_
 by_cases h1:(F.length:Int)<=i
 ·refine dt h1 ?_
  refine hc.s 0 rfl fun wS hS hc=>?_
  have hc:=B8 hc (l':=[(g4,35,wdC Wd0 WX0)]) (by kernel_rfl)
  refine hc.a 0 rfl rfl ?_
  rw [if_pos (.inr h1)] at hq
  subst hq
  exact RetPko.none hc.below
 refine df h1 ?_
 rw [if_neg (by omega)] at hq
 have hin:i.toNat<F.length:=by omega
 obtain⟨s,hs⟩:∃ s,s=F[i.toNat]:=⟨_,rfl⟩
 have hsF:s.size<=1073741824:=hF s (by rw [hs];exact List.getElem_mem _)
 rw [A8A hin,<-hs] at hq
 have hx:(F.map Value.string)[i.toNat]?=some (.string s):=by rw [List.getElem?_map,List.getElem?_eq_getElem hin,hs];rfl
 have hne:F.map Value.string≠[]:=fun e=>by rw [e] at hx;cases hx
 obtain⟨ad,hA,_,_⟩:=hR.2.2 hne
 have hB':Blk wQ gf 85 (flC A F.length cap):=hB.of_eq (hc.below.block _ hB.lt)
 subst hA
 refine⟨_,hB'.cell 0,?_⟩
 refine⟨⟨by omega,by omega⟩,?_⟩
 refine⟨_,by rw [Nat.mul_one];exact Q6 (hR.below hc.below) hx,?_⟩
 refine⟨(A9C s hsF _ (hw.below hc.below)).mono fun en wq hq2=>?_⟩
 obtain⟨x,N,e1,hb,hWo⟩:=hq2
 rw [<-hq] at e1 hWo
 have hc:=hc.freshW hb hWo
 refine⟨_,e1,?_⟩
 refine hc.n fun g6 wg6 hg6 hc=>?_
 rw [L7] at hc
 refine hc.s 0 rfl fun wS hS hc=>?_
 have hc:=B8 hc (l':=[(g6,35,wdC (q.getD Wd0) x),(g4,35,wdC Wd0 WX0)]) (by kernel_rfl)
 refine⟨wdC (q.getD Wd0) x,rfl,hc.cells 0 rfl,?_⟩
 refine hc.s 1 rfl fun wS hS hc=>?_
 have hc:=B8 hc (l':=[(g6,35,wdC (q.getD Wd0) x),(g4,35,wdC (q.getD Wd0) x)]) (by kernel_rfl)
 refine⟨wdC (q.getD Wd0) x,rfl,hc.cells 1 rfl,?_⟩
 refine⟨x,_,?_,hc.below,hc.wdO fun h=>h.2⟩
 cases q<;>rfl
theorem X1 (gf:Nat) (F:List ByteArray) (hF:∀ s∈F,s.size<=1073741824) (i:Int) (S:Nat->Prop) (w:World) (hlt:∀ x,S x->x<w.heap.size) (hw:Env w) (hK:FlockK gf F S w):
  Calls Tryz.prog 22 #[.pointer (some ⟨gf,0,none⟩),.int .i64 i] w (RetPk (X0 F i) w):=by
 refine (A65 gf F hF i S w hlt hw hK).mono fun en w' h=>?_
 obtain⟨x,N,e,hb,hW⟩:=h
 exact⟨x,e,hb,hW.wd fun b h1 h2=>.inr ⟨h1,h2⟩⟩
def A0w (F:List ByteArray):Nat:=(F.map fun s=>s.size).sum
theorem B0L (F:List ByteArray) (i:Nat) (h:i<F.length):A0w (F.take (i+1))=A0w (F.take i)+F[i].size:=by
 unfold A0w
 rw [List.take_add_one,List.getElem?_eq_getElem h,List.map_append,List.sum_append]
 simp
theorem A9D (F:List ByteArray) (hF:∀ s∈F,s.size<=1000000):A0w F<=1000000*F.length:=by
 induction F with
 | nil=>exact Nat.zero_le _
 | cons a r ih=>
  have h1:=hF a (List.mem_cons_self ..)
  have h2:=ih fun s hs=>hF s (List.mem_cons_of_mem _ hs)
  unfold A0w at h2 ⊢
  rw [List.map_cons,List.sum_cons,List.length_cons]
  omega
theorem K3 (gf:Nat) (F:List ByteArray) (hF:∀ s∈F,s.size<=1000000) (hn:F.length<=1000000) (S:Nat->Prop) (w:World) (hlt:∀ x,S x->x<w.heap.size) (hK:FlockK gf F S w):
  Calls Tryz.prog 25 #[.pointer (some ⟨gf,0,none⟩)] w (C7 (.int .i64 (A0w F:Nat)) w):=by
 obtain⟨A,cap,hB,hR⟩:=hK.row
 refine vE Tryz.func25 ?_
 refine C2 (J2 gf F S _ hK) ?_
 intro w1 h1
 refine⟨Nat,fun i=>[(0,.pointer (some ⟨gf,0,none⟩)),(3,.int .i64 (A0w (F.take i):Nat)),(6,.int .i64 F.length),(7,.int .i64 i)],
  fun i w'=>i<=F.length/\Below w.heap.size w w',fun i _=>F.length-i,0,⟨rfl,rfl,rfl,rfl,trivial⟩,⟨Nat.zero_le _,h1⟩,?_⟩
 rintro i w' u ⟨hi,hb⟩
 by_cases hlt2:i<F.length
 ·refine dt (by omega) ?_
  obtain⟨s,hs⟩:∃ s,s=F[i]:=⟨_,rfl⟩
  have hsF:s.size<=1000000:=hF s (by rw [hs];exact List.getElem_mem _)
  have hx:(F.map Value.string)[i]?=some (.string s):=by rw [List.getElem?_map,List.getElem?_eq_getElem hlt2,hs];rfl
  have hne:F.map Value.string≠[]:=fun e=>by rw [e] at hx;cases hx
  obtain⟨ad,hA,_,_⟩:=hR.2.2 hne
  have hB':Blk w' gf 85 (flC A F.length cap):=hB.of_eq (hb.block _ hB.lt)
  have hR':Row S w' (some ad) F.length cap (F.map Value.string):=hA▸hR.below hb
  refine⟨.slice (some ad) F.length cap,by rw [<-hA];exact hB'.cell 0,?_⟩
  refine⟨⟨by omega,by omega⟩,?_⟩
  refine⟨_,by rw [Int.toNat_natCast,Nat.mul_one];exact Q6 hR' hx,?_⟩
  have hle:=A9D (F.take i) fun s hs=>hF s (List.mem_of_mem_take hs)
  rw [List.length_take] at hle
  have e:IntKind.i64.wrap (((A0w (F.take i):Nat):Int)+(s.size:Int))=((A0w (F.take (i+1)):Nat):Int):=by
   rw [B0L F i hlt2,<-hs,IntWalk.i64_in _ ⟨by omega,by omega⟩]
   omega
  exact⟨i+1,⟨rfl,congrArg _ e,rfl,congrArg _ (C1 (by omega)),trivial⟩,⟨hlt2,hb⟩,by show F.length-(i+1)<F.length-i;omega⟩
 ·refine df (by omega) ?_
  have hi:i=F.length:=by omega
  subst hi
  refine⟨?_,hb⟩
  rw [List.take_length]
  rfl
end Go.Proofs.YtfekddndgakneaaGreatDoor
section
namespace Go.Proofs.YtfekddndgakneaaGreatDoor
open Go.Vc Go.RowKit Go.Fl Go.ChangeShapes Go.WideShapes Go.ChangeAt
section
variable {r q:Ros} {S:Nat->Prop} {w:World} {A B:Option Addr} {cap cap':Nat}
theorem B29 (x:Int) (hR:RosR r A cap S w):Calls Tryz.prog 71 #[.agg (I0 r A cap).toArray,.int .i64 x] w (C7 (.int .i64 (F8 r.l x)) w):=by
 have hM:=C9 hR
 refine vE Tryz.func71 ?_
 have hc:=CtxF.start w no (fun _ h=>h.elim) (R:=fun _ _=>True) trivial Stab.true
 refine hc.n fun g2 wg2 hg2 hc=>?_
 refine⟨Nat,fun i=>[(1,.int .i64 x),(2,.pointer (some ⟨g2,0,none⟩)),(5,.int .i64 (i:Int))],fun i w'=>i<=r.l.length/\(∀ j (hj:j<r.l.length),j<i->r.l[j]≠x)/\CtxF no w no w' [(g2,27,I0 r A cap)] [] (fun _ _=>True),fun i _=>r.l.length-i,0,⟨rfl,rfl,rfl,trivial⟩,⟨Nat.zero_le _,(fun j hj h=>absurd h (Nat.not_lt_zero _)),hc⟩,?_⟩
 clear hc
 rintro i w' u ⟨hi,hn,hc⟩
 refine hc.c 0 rfl rfl ?_
 by_cases hlt:i<r.l.length
 ·refine dt (by omega) ?_
  refine hc.c 0 rfl rfl ?_
  obtain⟨ad,rfl,hcell⟩:=RowI'.elem (hR.below hc.below) i hlt
  refine⟨⟨by omega,by omega⟩,?_⟩
  refine⟨_,by rw [Int.toNat_natCast];exact hcell,?_⟩
  by_cases hx:r.l[i]=x
  ·refine B6 (by show (r.l[i]==x)=true;rw [beq_iff_eq];exact hx) ?_
   refine⟨?_,hc.below⟩
   unfold F8
   rw [A2Q hlt hx hn];rfl
  ·refine B4 (by show (r.l[i]==x)=false;rw [beq_eq_false_iff_ne];exact hx) ?_
   refine⟨i+1,⟨rfl,rfl,congrArg _ (C1 (by omega)),trivial⟩,⟨hlt,fun j hj hj2=>?_,hc⟩,by show r.l.length-(i+1)<r.l.length-i;omega⟩
   by_cases hji:j=i
   ·subst hji
    exact hx
   ·exact hn j hj (by omega)
 ·refine df (by omega) ?_
  refine⟨?_,hc.below⟩
  unfold F8
  rw [A4u fun j hj=>hn j hj (by omega)];rfl
theorem B3A {r q:Ros} (h:r≠q):eqR r q=false:=by rw [Bool.eq_false_iff];exact fun e=>h (A2P.1 e)
theorem B6u {r q:Ros} (h1:r.ep=q.ep) (h2:r.new=q.new):eqR r q=D7 eqI r.l q.l:=by
 unfold eqR
 rw [(beq_iff_eq (a:=r.ep) (b:=q.ep)).2 h1,(beq_iff_eq (a:=r.new) (b:=q.new)).2 h2]
 rfl
theorem A9E (hR:RosR r A cap S w) {S':Nat->Prop} (hQ:RosR q B cap' S' w):Calls Tryz.prog 43 #[.agg (I0 r A cap).toArray,.agg (I0 q B cap').toArray] w (C7 (.bool (eqR r q)) w):=by
 have hM:=C9 hR
 have hM':=C9 hQ
 obtain⟨z,hz⟩:∃ z,z=eqR r q:=⟨_,rfl⟩
 rw [<-hz]
 refine vE Tryz.func43 ?_
 have hc:=CtxF.start w no (fun _ h=>h.elim) (R:=fun _ _=>True) trivial Stab.true
 refine hc.n fun g2 wg2 hg2 hc=>?_
 refine hc.n fun g3 wg3 hg3 hc=>?_
 refine hc.c 1 rfl rfl ?_
 refine hc.c 0 rfl rfl ?_
 by_cases h1:r.ep=q.ep
 rotate_left
 ·refine B6 (by show (r.ep != q.ep)=true;rw [bne_iff_ne];exact h1) ?_
  exact⟨B7 (hz.trans (B3A fun e=>h1 (congrArg Ros.ep e))).symm,hc.below⟩
 refine B4 (by show (r.ep != q.ep)=false;rw [bne_eq_false_iff_eq];exact h1) ?_
 refine hc.c 1 rfl rfl ?_
 refine hc.c 0 rfl rfl ?_
 by_cases h2:r.new=q.new
 rotate_left
 ·refine B6 (by show (r.new != q.new)=true;rw [bne_iff_ne];exact h2) ?_
  exact⟨B7 (hz.trans (B3A fun e=>h2 (congrArg Ros.new e))).symm,hc.below⟩
 refine B4 (by show (r.new != q.new)=false;rw [bne_eq_false_iff_eq];exact h2) ?_
 refine hc.c 1 rfl rfl ?_
 refine hc.c 0 rfl rfl ?_
 by_cases hl:r.l.length=q.l.length
 rotate_left
 ·refine B6 (by show ((r.l.length:Int) != (q.l.length:Int))=true;rw [bne_iff_ne];omega) ?_
  exact⟨B7 (hz.trans (B3A fun e=>hl (congrArg (fun r=>r.l.length) e))).symm,hc.below⟩
 refine B4 (by show ((r.l.length:Int) != (q.l.length:Int))=false;rw [bne_eq_false_iff_eq];omega) ?_
 have hz:z=D7 eqI r.l q.l:=hz.trans (B6u h1 h2)
 clear h1 h2
 refine⟨Nat,fun i=>[(2,.pointer (some ⟨g2,0,none⟩)),(3,.pointer (some ⟨g3,0,none⟩)),(5,.int .i64 (i:Int))],
  fun i w'=>i<=r.l.length/\D7 eqI (r.l.drop i) (q.l.drop i)=D7 eqI r.l q.l/\CtxF no w no w' [(g3,27,I0 q B cap'),(g2,27,I0 r A cap)] [] (fun _ _=>True),fun i _=>r.l.length-i,0,⟨rfl,rfl,rfl,trivial⟩,⟨Nat.zero_le _,rfl,hc⟩,?_⟩
 clear hc
 rintro i w' u ⟨hi,he,hc⟩
 refine hc.c 1 rfl rfl ?_
 by_cases hlt:i<r.l.length
 ·refine dt (by omega) ?_
  obtain⟨ad,rfl,hcell⟩:=RowI'.elem (hR.below hc.below) i hlt
  obtain⟨bd,rfl,hcell'⟩:=RowI'.elem (hQ.below hc.below) i (by omega)
  rw [List.drop_eq_getElem_cons hlt,List.drop_eq_getElem_cons (show i<q.l.length by omega),D7] at he
  obtain⟨x,hx⟩:∃ x,x=r.l[i]:=⟨_,rfl⟩
  obtain⟨y,hy⟩:∃ y,y=q.l[i]'(by omega):=⟨_,rfl⟩
  rw [<-hx] at hcell he
  rw [<-hy] at hcell' he
  have hr:=hc
  refine vD (.Q [0,1,2,3,4,5,6,7,8,9,10] .fin) (Old _) (Old.start _) ?_
  have hk:=hc.old0
  have hc:=hc.drew
  refine⟨_,fun x hx=>Keeps.cell hx (hr.blk 1 rfl) (hr.blk 1 rfl).lt rfl,?_⟩
  refine⟨⟨by omega,by omega⟩,?_⟩
  refine⟨_,fun z hz=>Keeps.look hz (by rw [Int.toNat_natCast];exact hcell),?_⟩
  refine⟨_,fun x hx=>Keeps.cell hx (hr.blk 0 rfl) (hr.blk 0 rfl).lt rfl,?_⟩
  refine⟨⟨by omega,by omega⟩,?_⟩
  refine⟨_,fun z hz=>Keeps.look hz (by rw [Int.toNat_natCast];exact hcell'),?_⟩
  by_cases hv:x=y
  ·rw [(Q3 x y).2 hv,Bool.true_and] at he
   refine B4 (by show (x != y)=false;rw [bne_eq_false_iff_eq];exact hv) ?_
   exact⟨i+1,⟨rfl,rfl,congrArg _ (C1 (by omega)),trivial⟩,⟨hlt,he,hc⟩,by show r.l.length-(i+1)<r.l.length-i;omega⟩
  ·have hf:eqI x y=false:=by rw [Bool.eq_false_iff];exact fun h=>hv ((Q3 x y).1 h)
   rw [hf] at he
   refine B6 (by show (x != y)=true;rw [bne_iff_ne];exact hv) ?_
   refine⟨?_,hc.below⟩
   exact B7 (hz.trans he.symm).symm
 ·refine df (by omega) ?_
  rw [List.drop_of_length_le (by omega),List.drop_of_length_le (by omega),D7] at he
  exact⟨B7 (hz.trans he.symm).symm,hc.below⟩
end
theorem B0M {l:List Int} (h:∀ i (hi:i<l.length),F8 l l[i]=(i:Int)):l.Nodup:=by
 show List.Pairwise (·≠·) l
 rw [List.pairwise_iff_getElem]
 intro i j hi hj hij e
 have h1:=h i hi
 have h2:=h j hj
 rw [e,h2] at h1
 omega
theorem B0N {l:List Int} (h:l.Nodup) (i:Nat) (hi:i<l.length):F8 l l[i]=(i:Int):=by
 unfold F8
 rw [A2Q hi rfl fun j hj hlt e=>List.pairwise_iff_getElem.1 (show List.Pairwise (·≠·) l from h) j i hj hi hlt e]
def B8M (r:Ros):Bool:=decide (r.ep<1)||(decide (J9<r.ep)||(decide (r.l.length<1)||(decide (5<r.l.length)||(!(r.new==0)&&(decide (r.l.length<2)||!(A1v r.l==r.new))))))
theorem B4v (r:Ros):A31 r=(!(B8M r)&&(r.l.all inR&&decide r.l.Nodup)):=by
 rw [A61]
 unfold B8M
 by_cases h1:r.ep<1
 ·rw [if_pos h1,decide_eq_true h1];rfl
 rw [if_neg h1,decide_eq_false h1]
 by_cases h2:J9<r.ep
 ·rw [if_pos h2,decide_eq_true h2];rfl
 rw [if_neg h2,decide_eq_false h2]
 by_cases h3:r.l.length<1
 ·rw [if_pos h3,decide_eq_true h3];rfl
 rw [if_neg h3,decide_eq_false h3]
 by_cases h4:5<r.l.length
 ·rw [if_pos h4,decide_eq_true h4];rfl
 rw [if_neg h4,decide_eq_false h4]
 by_cases h5:r.new=0
 ·rw [(beq_iff_eq (a:=r.new) (b:=0)).2 h5]
  simp
 rw [show (r.new==0)=false from by rw [beq_eq_false_iff_ne];exact h5]
 by_cases h6:r.l.length<2
 ·rw [decide_eq_true h6,decide_eq_false (show ¬ 1<r.l.length by omega)]
  simp
 rw [decide_eq_false h6,decide_eq_true (show 1<r.l.length by omega)]
 by_cases h7:A1v r.l=r.new
 ·rw [(beq_iff_eq (a:=r.new) (b:=A1v r.l)).2 h7.symm,(beq_iff_eq (a:=A1v r.l) (b:=r.new)).2 h7]
  simp
 ·rw [show (r.new==A1v r.l)=false from by rw [beq_eq_false_iff_ne];exact fun e=>h7 e.symm,show (A1v r.l==r.new)=false from by rw [beq_eq_false_iff_ne];exact h7]
  simp
theorem B4w {l:List Int} (h:1<=l.length):A1v l=l[l.length-1]'(by omega):=by
 unfold A1v atI
 rw [if_neg (by omega),show ((l.length:Int)-1).toNat=l.length-1 from by omega,A8A (by omega)]
theorem B8N {l:List Int} {i:Nat} (h:i<l.length) (hb:¬ (1<=l[i]/\l[i]<=5)):l.all inR=false:=by
 rw [Bool.eq_false_iff]
 intro hh
 have:=List.all_eq_true.1 hh l[i] (List.getElem_mem h)
 unfold inR at this
 rw [Bool.and_eq_true,decide_eq_true_eq,decide_eq_true_eq] at this
 exact hb this
theorem B0O {r:Ros} {S:Nat->Prop} {w:World} {A:Option Addr} {cap:Nat} (hR:RosR r A cap S w):Calls Tryz.prog 44 #[.agg (I0 r A cap).toArray] w (C7 (.bool (A31 r)) w):=by
 have hM:=C9 hR
 have hmx:J9=1099511627776:=rfl
 rw [B4v]
 refine vE Tryz.func44 ?_
 have hc:=CtxF.start w no (fun _ h=>h.elim) (R:=fun _ _=>True) trivial Stab.true
 refine hc.n fun g1 wg1 hg1 hc=>?_
 refine Drawn.join (α:=Bool) (fun b=>[(1,.pointer (some ⟨g1,0,none⟩)),(47,.bool b)]) (fun b wS=>b=B8M r/\CtxF no w no wS [(g1,27,I0 r A cap)] [] (fun _ _=>True)) ?_ ?_
 ·unfold B8M
  have hr:=hc
  refine vD (.Q [0,1,2,3,4,5,6,7,8,9,10,11,12,13,14,15,16,17,18,19,20,21,22,23,24,25,26,27,28,29,30,31,32,33,34,35,36,37,38,39,40,41,42,43] .fin) (Old _) (Old.start _) ?_
  have hk:=hc.old0
  have hc:=hc.drew
  refine⟨_,fun x hx=>Keeps.cell hx (hr.blk 0 rfl) (hr.blk 0 rfl).lt rfl,?_⟩
  by_cases h1:r.ep<1
  ·rw [decide_eq_true h1]
   refine dt h1 ?_
   exact⟨true,⟨rfl,rfl,trivial⟩,rfl,hc⟩
  rw [decide_eq_false h1]
  refine df h1 ?_
  refine⟨_,fun x hx=>Keeps.cell hx (hr.blk 0 rfl) (hr.blk 0 rfl).lt rfl,?_⟩
  by_cases h2:J9<r.ep
  ·rw [decide_eq_true h2]
   refine dt h2 ?_
   exact⟨true,⟨rfl,rfl,trivial⟩,rfl,hc⟩
  rw [decide_eq_false h2]
  refine df h2 ?_
  refine⟨_,fun x hx=>Keeps.cell hx (hr.blk 0 rfl) (hr.blk 0 rfl).lt rfl,?_⟩
  by_cases h3:r.l.length<1
  ·rw [decide_eq_true h3]
   refine dt (by omega) ?_
   exact⟨true,⟨rfl,rfl,trivial⟩,rfl,hc⟩
  rw [decide_eq_false h3]
  refine df (by omega) ?_
  refine⟨_,fun x hx=>Keeps.cell hx (hr.blk 0 rfl) (hr.blk 0 rfl).lt rfl,?_⟩
  by_cases h4:5<r.l.length
  ·rw [decide_eq_true h4]
   refine dt (by omega) ?_
   exact⟨true,⟨rfl,rfl,trivial⟩,rfl,hc⟩
  rw [decide_eq_false h4]
  refine df (by omega) ?_
  refine⟨_,fun x hx=>Keeps.cell hx (hr.blk 0 rfl) (hr.blk 0 rfl).lt rfl,?_⟩
  by_cases h5:r.new=0
  ·rw [(beq_iff_eq (a:=r.new) (b:=0)).2 h5]
   refine B4 (by show (r.new != 0)=false;rw [bne_eq_false_iff_eq];exact h5) ?_
   exact⟨false,⟨rfl,rfl,trivial⟩,rfl,hc⟩
  rw [show (r.new==0)=false from by rw [beq_eq_false_iff_ne];exact h5]
  refine B6 (by show (r.new != 0)=true;rw [bne_iff_ne];exact h5) ?_
  refine⟨_,fun x hx=>Keeps.cell hx (hr.blk 0 rfl) (hr.blk 0 rfl).lt rfl,?_⟩
  by_cases h6:r.l.length<2
  ·rw [decide_eq_true h6]
   refine dt (by omega) ?_
   exact⟨true,⟨rfl,rfl,trivial⟩,rfl,hc⟩
  rw [decide_eq_false h6]
  refine df (by omega) ?_
  refine⟨_,fun x hx=>Keeps.cell hx (hr.blk 0 rfl) (hr.blk 0 rfl).lt rfl,?_⟩
  refine⟨_,fun x hx=>Keeps.cell hx (hr.blk 0 rfl) (hr.blk 0 rfl).lt rfl,?_⟩
  have hw1:IntKind.i64.wrap ((r.l.length:Int)-1)=((r.l.length-1:Nat):Int):=by rw [IntWalk.i64_in _ ⟨by omega,by omega⟩];omega
  have hlt:r.l.length-1<r.l.length:=by omega
  obtain⟨ad,rfl,hcell⟩:=RowI'.elem (hR.below hc.below) (r.l.length-1) hlt
  refine⟨⟨by rw [hw1];omega,by rw [hw1];omega⟩,?_⟩
  refine⟨_,fun z hz=>Keeps.look hz (by rw [hw1,Int.toNat_natCast];exact hcell),?_⟩
  refine⟨_,fun x hx=>Keeps.cell hx (hr.blk 0 rfl) (hr.blk 0 rfl).lt rfl,?_⟩
  refine⟨!(A1v r.l==r.new),⟨rfl,?_,trivial⟩,by simp,hc⟩
  rw [B4w (by omega)]
  rfl
 clear hc
 rintro b u w1 ⟨hbr,hc⟩
 cases hb:B8M r with
 | true=>
  rw [hb] at hbr
  subst hbr
  exact⟨rfl,hc.below⟩
 | false=>
 rw [hb] at hbr
 subst hbr
 simp only [Bool.not_false,Bool.true_and]
 refine⟨Nat,fun i=>[(1,.pointer (some ⟨g1,0,none⟩)),(3,.int .i64 (i:Int))],
  fun i wS=>i<=r.l.length/\(∀ n∈r.l.take i,inR n=true)/\(∀ j (hj:j<r.l.length),j<i->F8 r.l r.l[j]=(j:Int))/\CtxF no w no wS [(g1,27,I0 r A cap)] [] (fun _ _=>True),fun i _=>r.l.length-i,0,⟨rfl,rfl,trivial⟩,⟨Nat.zero_le _,(fun n hn=>by cases hn),(fun j hj h=>absurd h (Nat.not_lt_zero _)),hc⟩,?_⟩
 clear hc
 rintro i w1 u ⟨hi,hin,hsp,hc⟩
 refine hc.c 0 rfl rfl ?_
 by_cases hlt:i<r.l.length
 ·refine dt (by omega) ?_
  obtain⟨ad,rfl,hcell⟩:=RowI'.elem (hR.below hc.below) i hlt
  obtain⟨x,hx⟩:∃ x,x=r.l[i]:=⟨_,rfl⟩
  have bad:=B8N (l:=r.l) hlt
  have hsx:=hsp
  rw [<-hx] at hcell bad
  by_cases l1:x<1
  ·rw [bad (by omega)]
   have hr:=hc
   refine vD (.Q [0,1,2,3,4,5,6,7,8,9,10,11,12,13,14,15,16,17,18,19,20,22] (.n 21 (.Q [23,24] .fin) .stop)) (Old _) (Old.start _) ?_
   have hk:=hc.old0
   have hc:=hc.drew
   refine⟨_,fun x hx=>Keeps.cell hx (hr.blk 0 rfl) (hr.blk 0 rfl).lt rfl,?_⟩
   refine⟨⟨by omega,by omega⟩,?_⟩
   refine⟨_,fun z hz=>Keeps.look hz (by rw [Int.toNat_natCast];exact hcell),?_⟩
   refine dt l1 ?_
   refine⟨?_,trivial⟩
   skip
   exact⟨rfl,hc.below⟩
  by_cases l5:5<x
  ·rw [bad (by omega)]
   have hr:=hc
   refine vD (.Q [0,1,2,3,4,5,6,7,8,9,10,11,12,13,14,15,16,17,18,19,20,22] (.n 21 (.Q [23,24] .fin) .stop)) (Old _) (Old.start _) ?_
   have hk:=hc.old0
   have hc:=hc.drew
   refine⟨_,fun x hx=>Keeps.cell hx (hr.blk 0 rfl) (hr.blk 0 rfl).lt rfl,?_⟩
   refine⟨⟨by omega,by omega⟩,?_⟩
   refine⟨_,fun z hz=>Keeps.look hz (by rw [Int.toNat_natCast];exact hcell),?_⟩
   refine df l1 ?_
   refine⟨_,fun x hx=>Keeps.cell hx (hr.blk 0 rfl) (hr.blk 0 rfl).lt rfl,?_⟩
   refine⟨⟨by omega,by omega⟩,?_⟩
   refine⟨_,fun z hz=>Keeps.look hz (by rw [Int.toNat_natCast];exact hcell),?_⟩
   refine dt l5 ?_
   refine⟨?_,trivial⟩
   skip
   exact⟨rfl,hc.below⟩
  refine Drawn.join (α:=Unit) (fun _=>[(1,.pointer (some ⟨g1,0,none⟩)),(3,.int .i64 (i:Int)),(79,.bool (F8 r.l x != (i:Int)))]) (fun _ wS=>CtxF no w no wS [(g1,27,I0 r (some ad) cap)] [] (fun _ _=>True)) ?_ ?_
  ·have hr:=hc
   refine vD (.Q [0,1,2,3,4,5,6,7,8,9,10,11,12,13,14,15,16,17,18,19,20,22] (.n 21 (.Q [23,24] .fin) .stop)) (Old _) (Old.start _) ?_
   have hk:=hc.old0
   have hc:=hc.drew
   refine⟨_,fun x hx=>Keeps.cell hx (hr.blk 0 rfl) (hr.blk 0 rfl).lt rfl,?_⟩
   refine⟨⟨by omega,by omega⟩,?_⟩
   refine⟨_,fun z hz=>Keeps.look hz (by rw [Int.toNat_natCast];exact hcell),?_⟩
   refine df l1 ?_
   refine⟨_,fun x hx=>Keeps.cell hx (hr.blk 0 rfl) (hr.blk 0 rfl).lt rfl,?_⟩
   refine⟨⟨by omega,by omega⟩,?_⟩
   refine⟨_,fun z hz=>Keeps.look hz (by rw [Int.toNat_natCast];exact hcell),?_⟩
   refine df l5 ?_
   refine⟨_,?_,fun x hx=>Keeps.cells hx (hr.blk 0 rfl) (hr.blk 0 rfl).lt,?_⟩
   ·rfl
   refine⟨_,fun x hx=>Keeps.cell hx (hr.blk 0 rfl) (hr.blk 0 rfl).lt rfl,?_⟩
   refine⟨⟨by omega,by omega⟩,?_⟩
   refine⟨_,fun z hz=>Keeps.look hz (by rw [Int.toNat_natCast];exact hcell),?_⟩
   refine⟨hc.q (B29 x (hR.below hc.below)) fun wA hA hc=>?_,trivial⟩
   have hk:=Keeps.below hk (fun _ h=>h) hA
   refine⟨hk,?_⟩
   exact⟨(),⟨rfl,rfl,rfl,trivial⟩,hc⟩
  clear hc
  rintro⟨⟩ u2 w2 hc
  by_cases hs:F8 r.l x=(i:Int)
  ·refine B4 (by show (F8 r.l x != (i:Int))=false;rw [bne_eq_false_iff_eq];exact hs) ?_
   have htk:r.l.take (i+1)=r.l.take i++[x]:=by rw [List.take_succ_eq_append_getElem hlt,<-hx]
   refine⟨i+1,⟨rfl,congrArg _ (C1 (by omega)),trivial⟩,⟨hlt,fun n hn=>?_,fun j hj hlt2=>?_,hc⟩,by show r.l.length-(i+1)<r.l.length-i;omega⟩
   ·rw [htk,List.mem_append,List.mem_singleton] at hn
    rcases hn with hn | rfl
    ·exact hin n hn
    ·unfold inR
     rw [decide_eq_true (show (1:Int)<=n by omega),decide_eq_true (show n<=5 by omega)]
     rfl
   ·by_cases hji:j=i
    ·subst hji
     rw [<-hx]
     exact hs
    ·exact hsp j hj (by omega)
  ·refine B6 (by show (F8 r.l x != (i:Int))=true;rw [bne_iff_ne];exact hs) ?_
   have hnd:¬ r.l.Nodup:=fun h=>hs (by rw [hx];exact B0N h i hlt)
   rw [decide_eq_false hnd,Bool.and_false]
   exact⟨rfl,hc.below⟩
 refine df (by omega) ?_
 obtain rfl:i=r.l.length:=by omega
 rw [List.take_length] at hin
 rw [List.all_eq_true.2 hin,decide_eq_true (B0M fun i hi=>hsp i hi hi)]
 exact⟨rfl,hc.below⟩
def B8O (q:Ros):Ros × Bool:=if A31 q then (q,true) else (Ros0,false)
def B8e (r:Ros) (n:Int):Ros × Bool:=if A31 r&&r.new==0 then B8O ⟨r.ep+1,r.l++[n],n⟩ else (Ros0,false)
def B3W (r:Ros) (n:Int):Ros:=⟨r.ep+1,r.l.take (F8 r.l n).toNat++r.l.drop ((F8 r.l n).toNat+1),if r.new=n then 0 else r.new⟩
def B3B (r:Ros) (n:Int):Ros × Bool:=if A31 r&&decide (0<=F8 r.l n) then B8O (B3W r n) else (Ros0,false)
def B4x (q:Ros × Bool) (S:Nat->Prop) (w:World) (en:Ending) (w':World):Prop:=∃ A cap,en=.returned (.tuple #[.agg (I0 q.1 A cap).toArray,.bool q.2])/\Below w.heap.size w w'/\RosR q.1 A cap (ext S w w') w'
theorem A3x {q:Ros} {S:Nat->Prop} {w:World} {A:Option Addr} {cap:Nat} (hR:RosR q A cap S w):Calls Tryz.prog 153 #[.agg (I0 q A cap).toArray] w (B4x (B8O q) S w):=by
 refine vE Tryz.func153 ?_
 have hc:=CtxF.start w no (fun _ h=>h.elim) (R:=fun _ _=>True) trivial Stab.true
 refine hc.n fun g1 wg1 hg1 hc=>?_
 refine hc.n fun g2 wg2 hg2 hc=>?_
 refine hc.a 1 rfl rfl ?_
 refine hc.q (W9 (hR.below hc.below)) fun wQ hQ hc=>?_
 unfold B8O
 cases hm:A31 q with
 | false=>
  rw [if_neg (by decide)]
  refine hc.s 0 rfl fun wS hS hc=>?_
  refine hc.a 0 rfl rfl ?_
  exact⟨none,0,rfl,hc.below,Ros0.rep _ _⟩
 | true=>
  rw [if_pos rfl]
  refine hc.a 1 rfl rfl ?_
  refine hc.s 0 rfl fun wS hS hc=>?_
  refine hc.a 0 rfl rfl ?_
  exact⟨A,cap,rfl,hc.below,(hR.below hc.below).sub fun _ h=>.inl h⟩
theorem A66 (l:List Int) (n:Int):L2 (l++[n])=L2 l++[.int .i64 n]:=by unfold L2;simp [iC]
theorem A67 {r:Ros} (n:Int) {S:Nat->Prop} {w:World} {A:Option Addr} {cap:Nat} (hR:RosR r A cap S w):Calls Tryz.prog 101 #[.agg (I0 r A cap).toArray,.int .i64 n] w (B4x (B8e r n) no w):=by
 refine vE Tryz.func101 ?_
 have hc:=CtxF.start w no (fun _ h=>h.elim) (R:=fun _ _=>True) trivial Stab.true
 refine hc.n fun g2 wg2 hg2 hc=>?_
 refine hc.n fun g4 wg4 hg4 hc=>?_
 refine hc.a 1 rfl rfl ?_
 refine hc.q (W9 (hR.below hc.below)) fun wQ hQ hc=>?_
 unfold B8e
 cases hm:A31 r with
 | false=>
  rw [Bool.false_and,if_neg (by decide)]
  refine hc.s 0 rfl fun wS hS hc=>?_
  refine hc.a 0 rfl rfl ?_
  exact⟨none,0,rfl,hc.below,Ros0.rep _ _⟩
 | true=>
 obtain⟨⟨p1,p2⟩,⟨p3,p4⟩,_⟩:=A0o.1 hm
 have hmx:J9=1099511627776:=rfl
 rw [Bool.true_and]
 refine hc.c 1 rfl rfl ?_
 by_cases h0:r.new=0
 rotate_left
 ·rw [show (r.new==0)=false from by rw [beq_eq_false_iff_ne];exact h0,if_neg (by decide)]
  refine B6 (by show (r.new != 0)=true;rw [bne_iff_ne];exact h0) ?_
  refine hc.s 0 rfl fun wS hS hc=>?_
  refine hc.a 0 rfl rfl ?_
  exact⟨none,0,rfl,hc.below,Ros0.rep _ _⟩
 rw [(beq_iff_eq (a:=r.new) (b:=0)).2 h0,if_pos rfl]
 refine B4 (by show (r.new != 0)=false;rw [bne_eq_false_iff_eq];exact h0) ?_
 have hw1:IntKind.i64.wrap (r.ep+1)=r.ep+1:=IntWalk.i64_in _ ⟨by omega,by omega⟩
 refine vD (.Q [0,1,2,3,4,6,9] (.n 5 (.n 7 (.n 8 (.q 10 (.n 11 (.Q [12,13] (.n 14 (.q 15 .fin) .stop)) .stop)) .stop) .stop) (.n 7 (.n 5 (.n 8 (.q 10 (.n 11 (.Q [12,13] (.n 14 (.q 15 .fin) .stop)) .stop)) .stop) .stop) .stop))) (fun z=>Blk z g2 27 (I0 r A cap)) (hc.blk 1 rfl) ?_
 have hc:=hc.drew
 refine⟨_,fun z hz=>hz.cell 0,?_⟩
 refine⟨_,fun z hz=>hz.cell 1,?_⟩
 refine⟨?_,?_⟩
 ·skip
  refine⟨(A0n A r.l.length cap _ (T6 _) (List.length_map _) (by omega) S _ (hR.below hc.below)).mono fun en wq hq=>?_⟩
  obtain⟨A2,cap2,e1,hb,ho⟩:=hq
  have hc:=hc.fresh hb ho
  refine⟨_,e1,(hc.blk 1 rfl),?_⟩
  refine⟨hc.n fun gv wgv hgv hc=>?_,trivial⟩
  refine⟨(hc.blk 2 rfl),?_⟩
  refine⟨D1 (m:=1) Tryz.underlying25 A4s rfl (by decide) hc (by rfl) (hc.cells 0 rfl) rfl (by omega) (by decide) rfl rfl ?_,trivial⟩
  intro A3 c3 w3 hc
  refine⟨(hc.blk 2 rfl),?_⟩
  refine⟨?_,trivial⟩
  obtain⟨S2,_,hc⟩:=hc.told
  have hq:RosR ⟨r.ep+1,r.l++[n],n⟩ A3 c3 S2 w3:=by
   have h2:=hc.row.2
   show Row S2 w3 A3 (r.l++[n]).length c3 (L2 (r.l++[n]))
   rw [A66,List.length_append]
   exact h2
  have has:=A3x hq
  unfold I0 at has
  rw [<-hw1,show (r.l++[n]).length=r.l.length+1 from by rw [List.length_append];rfl] at has
  refine⟨has.mono fun en wq hq=>?_⟩
  obtain⟨A4,c4,e1,hb,hr4⟩:=hq
  have hc:=(hc.call hb).1.know hr4 (RosR.stab _ _ _)
  refine⟨_,e1,(hc.blk 2 rfl),?_⟩
  refine⟨hc.s 1 rfl fun wS hS hc=>?_,trivial⟩
  refine⟨(hc.blk 2 rfl),?_⟩
  refine hc.a 1 rfl rfl ?_
  have ho:=hc.out.2
  rw [hw1] at ho ⊢
  exact⟨_,_,rfl,hc.below,ho⟩
 refine⟨hc.n fun gv wgv hgv hc=>?_,trivial⟩
 refine⟨(hc.blk 2 rfl),?_⟩
 refine⟨⟨(A0n A r.l.length cap _ (T6 _) (List.length_map _) (by omega) S _ (hR.below hc.below)).mono fun en wq hq=>?_⟩,trivial⟩
 obtain⟨A2,cap2,e1,hb,ho⟩:=hq
 have hc:=hc.fresh hb ho
 refine⟨_,e1,(hc.blk 2 rfl),?_⟩
 refine⟨D1 (m:=1) Tryz.underlying25 A4s rfl (by decide) hc (by rfl) (hc.cells 0 rfl) rfl (by omega) (by decide) rfl rfl ?_,trivial⟩
 intro A3 c3 w3 hc
 refine⟨(hc.blk 2 rfl),?_⟩
 refine⟨?_,trivial⟩
 obtain⟨S2,_,hc⟩:=hc.told
 have hq:RosR ⟨r.ep+1,r.l++[n],n⟩ A3 c3 S2 w3:=by
  have h2:=hc.row.2
  show Row S2 w3 A3 (r.l++[n]).length c3 (L2 (r.l++[n]))
  rw [A66,List.length_append]
  exact h2
 have has:=A3x hq
 unfold I0 at has
 rw [<-hw1,show (r.l++[n]).length=r.l.length+1 from by rw [List.length_append];rfl] at has
 refine⟨has.mono fun en wq hq=>?_⟩
 obtain⟨A4,c4,e1,hb,hr4⟩:=hq
 have hc:=(hc.call hb).1.know hr4 (RosR.stab _ _ _)
 refine⟨_,e1,(hc.blk 2 rfl),?_⟩
 refine⟨hc.s 1 rfl fun wS hS hc=>?_,trivial⟩
 refine⟨(hc.blk 2 rfl),?_⟩
 refine hc.a 1 rfl rfl ?_
 have ho:=hc.out.2
 rw [hw1] at ho ⊢
 exact⟨_,_,rfl,hc.below,ho⟩
end Go.Proofs.YtfekddndgakneaaGreatDoor
end
