import Derived.Test.YtefdfaeieekioaaGreatDoorZ14
set_option maxRecDepth 100000
set_option maxHeartbeats 40000000
set_option linter.unusedVariables false
set_option linter.unusedSimpArgs false
namespace Go.Proofs.YtefdfaeieekioaaGreatDoor
open Go.Vc Go.RowKit Go.Fl
def A2 (H:Sh) (dn:List Wd):Lk:=lk 1 H (R2 1) 6 dn
def B2 (H:Sh):Lk:=lk 2 H (R2 1) 6 []
theorem C41 (H:Sh) (dn:List Wd):V7 (A2 H dn)=0:=(by kernel_rfl:A04 [1,2] 1=0)
theorem C4R (H:Sh) (dn:List Wd):A1I (A2 H dn)=2:=(by kernel_rfl:A5O [1,2] 1=2)
theorem C4V (H:Sh) (dn:List Wd):A1H (A2 H dn)=false:=(by kernel_rfl:(A2q [1,2]==1)=false)
theorem C4o (H:Sh) (dn:List Wd):B8J (A2 H dn).r.l=(A2 H dn).id:=(by kernel_rfl:B8J [1,2]=1)
theorem C4N (H:Sh):V7 (B2 H)=1:=(by kernel_rfl:A04 [1,2] 2=1)
theorem C4S (H:Sh):A1H (B2 H)=true:=(by kernel_rfl:(A2q [1,2]==2)=true)
theorem C4g {H:Sh} {n:Nat} {dn:List Wd} {now:Int} (hf:Fit H n) (he:H.k.ep=1) (ht:now<=6):H6 (A2 H dn) now=true:=B1I hf (by show (1:Int)∈[(1:Int),2];decide) (by show (0:Int)≠1;decide) he ht
theorem C4h {H:Sh} {n:Nat} {now:Int} (hf:Fit H n) (he:H.k.ep=1) (ht:now<=6):H6 (B2 H) now=true:=B1I hf (by show (2:Int)∈[(1:Int),2];decide) (by show (0:Int)≠2;decide) he ht
theorem C4e {H:Sh} {n:Nat} {dn:List Wd} (hf:Fit H n):(A2 H dn).Ok:=B8N (by decide) hf (B9p (by decide)) (by unfold B3;decide)
theorem C4p {H:Sh} {n:Nat} (hf:Fit H n):(B2 H).Ok:=B8N (by decide) hf (B9p (by decide)) (by unfold B3;decide)
structure GoodG (G:List D):Prop where
 len:G.length<=8
 d:∀ d∈G,d.Ok/\L3 d=true/\S6 d.req=1
structure Two (G:List D) (na nb:Nat) (Ha Hb:Sh):Prop where
 g:GoodG G
 ab:na<=nb
 bG:nb<=G.length
 fa:Fit Ha (2+G.length+na)
 fb:Fit Hb (2+2*nb)
 ka:Ha.k=⟨U0 A4z (G.take na),G.drop na,1,0⟩
 kb:Hb.k=⟨U0 A4z (G.take nb),[],1,0⟩
theorem C4W {G:List D} (h:GoodG G) (n:Nat) (hn:n<=G.length):(U0 A4z (G.take n)).seq=n:=by
 have hl:(G.take n).length=n:=by rw [zf];omega
 have h8:=h.len;rw [W4 (G.take n) B4Y rfl (fun d hd=>(h.d d (List.mem_of_mem_take hd)).2.1) (by rw [hl];show (0:Int)+(n:Int)<=1099511627776;omega),hl];show (0:Int)+n=n;omega
theorem Two.sa {G:List D} {na nb:Nat} {Ha Hb:Sh} (h:Two G na nb Ha Hb):Ha.k.b.seq=na/\Ha.k.seq=G.length/\Ha.k.pend=G.drop na/\Ha.k.ep=1:=by have h1:=C4W h.g na (zo h.ab h.bG);have h2:=h.ab;have h3:=h.bG;refine⟨by rw [h.ka];exact h1,?_,by rw [h.ka],by rw [h.ka]⟩;rw [h.ka];show (U0 A4z (G.take na)).seq+((G.drop na).length:Int)=_;rw [h1,zg];omega
theorem Two.sb {G:List D} {na nb:Nat} {Ha Hb:Sh} (h:Two G na nb Ha Hb):Hb.k.b.seq=nb/\Hb.k.seq=nb/\Hb.k.pend=[]/\Hb.k.ep=1:=by have h1:=C4W h.g nb h.bG;refine⟨by rw [h.kb];exact h1,?_,by rw [h.kb],by rw [h.kb]⟩;rw [h.kb];show (U0 A4z (G.take nb)).seq+((0:Nat):Int)=_;rw [h1];omega
def C4M (s:Nat) (l:List D):Wd:=wd 4 1 2 1 s 0 l
def C4m (s:Nat):Wd:=wd 6 2 1 1 s 0 []
def C42 (s:Nat):Wd:=wd 5 2 1 1 s 0 []
def C4T (q:Int) (r:Res):Wd:=⟨7,2,1,1,0,q,0,r,Ros0,[],A4z⟩
def beat (f:Int):Wd:=wd 1 f 0 1 0 0 []
inductive Wq (G:List D) (nb:Nat):Wd->Prop
 | beat (f:Int):Wq G nb (beat f)
 | pass (s:Nat) (l:List D) (hs:s+l.length<=G.length) (hl:l=(G.drop s).take l.length):Wq G nb (C4M s l)
 | ack (s:Nat) (hs:s<=nb):Wq G nb (C4m s)
 | need (s:Nat) (hs:s<=nb):Wq G nb (C42 s)
 | done (q:Int) (r:Res) (hq:S6 q=1):Wq G nb (C4T q r)
theorem Wq.mono {G G':List D} {nb nb':Nat} {w:Wd} (h:Wq G nb w) (hG:∃ t,G'=G++t) (hn:nb<=nb'):Wq G' nb' w:=by
 obtain⟨t,rfl⟩:=hG;cases h with
 | beat f=>exact .beat f
 | pass s l hs hl=>
  refine .pass s l (by rw [z6];omega) ?_;rw [List.drop_append_of_le_length (by omega),List.take_append_of_le_length (by rw [zg];omega)];exact hl
 | ack s hs=>exact .ack s (by omega)
 | need s hs=>exact .need s (by omega)
 | done q r hq=>exact .done q r hq
theorem C5D {H:Sh} {n:Nat} (hf:Fit H n) (he:H.k.ep=1) {s:Nat} {l:List D} (hs:s<=1000) (hl:l.length<=60) (hd:∀ d∈l,L3 d=true):B9Y (B2 H) (C4M s l) 2=A32 (B2 H) (C4M s l):=by
 have hz:(0:Int)<=E3:=by show (0:Int)<=1099511627776;decide
 have hm:A51 (C4M s l)=true:=B5m (by decide) (by decide) (by decide) (by decide) (by decide) ⟨by omega,by show (s:Int)<=1099511627776;omega⟩ ⟨Int.le_refl _,hz⟩ hl hd;rw [A8x rfl hm (by show (4:Int)≠2;decide),B1J (by show (4:Int)≠7;decide) (by show (4:Int)≠10;decide) (by show (4:Int)≠9;decide) rfl (by show (1:Int)≠0;decide) (C4h hf he (by decide)),y7 (show ¬ (C4M s l).kind=3 from by show ¬ (4:Int)=3;decide),y6 (show (C4M s l).kind=4 from rfl)]
theorem C4i:∀ (l:List D) {H:Sh} {n:Nat},Fit H n->n+l.length<=390->(∀ d∈l,d.Ok/\L3 d=true)->H.k.pend.length+l.length<=60->H.k.seq+l.length<=E3->Fit (A0T H l) (n+l.length)/\(A0T H l).k=⟨H.k.b,H.k.pend++l,H.k.ep,H.k.ln⟩
 | [],H,n,hf,_,_,_,_=>⟨hf,by show H.k=_;rw [zw]⟩
 | d::t,H,n,hf,hn,hd,hp,hs=>by
  rw [zi] at hn hp hs;obtain⟨h1,h2⟩:=hd d (zu ..);rcases hf.add (by omega) h1 with ⟨_,hc,e⟩ | ⟨_,hc,e⟩ | ⟨hm',e⟩;rotate_left
  ·exact absurd (show B2B H.k (.add d) from ⟨by omega,by omega⟩) hc
  ·rw [h2] at hm';cases hm'
  have hk:=A2K H d true;have hf1:=hf.write (by omega) (r:=.add d) ⟨h2,h1⟩ hc true;have hl1:(H.write (.add d) true).k.pend.length=H.k.pend.length+1:=by rw [hk];show (H.k.pend++[d]).length=_;rw [z6];rfl
  have hs1:(H.write (.add d) true).k.seq=H.k.seq+1:=by rw [hk];show H.k.b.seq+((H.k.pend++[d]).length:Int)=H.k.b.seq+(H.k.pend.length:Int)+1;rw [z6];show H.k.b.seq+((H.k.pend.length+1:Nat):Int)=_;omega
  obtain⟨r1,r2⟩:=C4i t hf1 (by omega) (fun x hx=>hd x (zt _ hx)) (by omega) (by rw [hs1];omega);have e1:A0T H (d::t)=A0T (H.write (.add d) true) t:=by show (if (M8 H d).2≠0 then (M8 H d).1 else A0T (M8 H d).1 t)=_;rw [e,y7 (fun h=>h rfl)]
  rw [e1,zi];refine⟨by rw [show n+(t.length+1)=n+1+t.length by omega];exact r1,?_⟩;rw [r2,hk];show (⟨H.k.b,(H.k.pend++[d])++t,H.k.ep,H.k.ln⟩:Known)=_;rw [zv];rfl
theorem C43 {G:List D} {s nb n:Nat} (h1:s<=nb) (h2:nb<=s+n):((G.drop s).take n).drop (nb-s)=(G.drop nb).take (s+n-nb):=by
 rw [List.drop_take,List.drop_drop];congr 1
 ·omega
 ·congr 1;omega
theorem C5E {α:Type} {l:List α} {n:Nat} (h:l.length<=n):l.drop n=[]:=zq h
theorem C4q {G:List D} {na nb:Nat} {Ha Hb:Sh} (h:Two G na nb Ha Hb) {s:Nat} {l:List D} (hs:s+l.length<=G.length) (hl:l=(G.drop s).take l.length):
  (nb<s/\B9Y (B2 Hb) (C4M s l) 2=(B2 Hb,[C42 nb]))\/(s<=nb/\∃ Hb' ds,Two G na (max nb (s+l.length)) Ha Hb'/\B9Y (B2 Hb) (C4M s l) 2=(B2 Hb',ds++[C4m (max nb (s+l.length))])/\ds.length=max nb (s+l.length)-nb/\∀ u∈ds,∃ q r,u=C4T q r/\S6 q=1):=by
 obtain⟨b1,b2,b3,b4⟩:=h.sb;have h8:=h.g.len;have hlG:∀ d∈l,d∈G:=fun d hd=>by rw [hl] at hd;exact List.mem_of_mem_drop (List.mem_of_mem_take hd)
 rw [C5D h.fb b4 (by omega) (by omega) (fun d hd=>(h.g.d d (hlG d hd)).2.1)];unfold A32;rw [C4N,y7 (fun h=>h.elim (by decide) fun h=>h rfl)];by_cases hlt:nb<s
 ·refine .inl ⟨hlt,?_⟩;rw [y6 (show (B2 Hb).k.seq<(C4M s l).seq from by show Hb.k.seq<(s:Int);omega)];unfold E4;rw [C4N,y7 (by decide)];show (_,[wd 5 2 1 1 Hb.k.seq 0 []])=_;rw [b2];rfl
 refine .inr ⟨by omega,?_⟩;rw [y7 (show ¬ (B2 Hb).k.seq<(C4M s l).seq from by show ¬ Hb.k.seq<(s:Int);omega)];show ∃ Hb' ds,_/\B7I (B2 Hb) (B3H (B2 Hb) (l.drop (min (Hb.k.seq-(s:Int)) (l.length:Int)).toNat)) (s:Int)=_/\_;by_cases hle:s+l.length<=nb
 ·rw [C5E (l:=l) (by rw [b2];omega)];refine⟨Hb,[],by rw [Nat.max_eq_left hle];exact h,?_,by rw [Nat.max_eq_left hle,Nat.sub_self];rfl,fun u hu=>by cases hu⟩;unfold B7I;rw [y7 (show ¬ (B2 Hb).k.seq<(B3H (B2 Hb) []).k.seq from by show ¬ Hb.k.seq<Hb.k.seq;omega)];show (B2 Hb,[]++A2M (B2 Hb) Hb.k.seq (s:Int))=_;unfold A2M;rw [C4S,y6 rfl];unfold E4;rw [C4N,y7 (by decide),Nat.max_eq_left hle];show (B2 Hb,[]++[wd 6 2 1 1 Hb.k.seq 0 []])=_;rw [b2];rfl
 have hm:max nb (s+l.length)=s+l.length:=by omega
 rw [hm];obtain⟨l',hl'⟩:∃ l',l'=(G.drop nb).take (s+l.length-nb):=⟨_,rfl⟩;have e1:l.drop (min (Hb.k.seq-(s:Int)) (l.length:Int)).toNat=l':=by rw [b2,show (min ((nb:Int)-(s:Int)) (l.length:Int)).toNat=nb-s by omega,hl',<-C43 (by omega) (by omega),<-hl]
 rw [e1];have hll:l'.length=s+l.length-nb:=by rw [hl',zf,zg];omega
 have hlG':∀ d∈l',d∈G:=fun d hd=>by rw [hl'] at hd;exact List.mem_of_mem_drop (List.mem_of_mem_take hd)
 obtain⟨f1,k1⟩:=C4i l' h.fb (by have:=h.bG;omega) (fun d hd=>⟨(h.g.d d (hlG' d hd)).1,(h.g.d d (hlG' d hd)).2.1⟩) (by rw [b3];show 0+_<=_;omega) (by rw [b2];show (nb:Int)+(l'.length:Int)<=1099511627776;omega);obtain⟨H1,hH1⟩:∃ H1,H1=A0T Hb l':=⟨_,rfl⟩;have eA:B3H (B2 Hb) l'=B2 H1:=by rw [hH1];rfl
 rw [eA];rw [<-hH1] at f1 k1;rw [b3,List.nil_append,b4] at k1;have q1:H1.k.b.seq=nb:=by rw [k1];exact b1
 have q2:H1.k.pend=l':=by rw [k1]
 have q3:H1.k.seq=((s+l.length:Nat):Int):=by show H1.k.b.seq+(H1.k.pend.length:Int)=_;rw [q1,q2,hll];omega
 obtain⟨H2,k2,f2,c2,r2⟩:=A6X (id:=2) (r:=R2 1) (til:=6) (dn:=[]) f1 (by have:=h.bG;omega) (m:=H1.k.seq) (by rw [q3];unfold B3;omega) (Int.le_refl _);have hj:(H1.k.seq-H1.k.b.seq).toNat=l'.length:=by rw [q3,q1];omega
 rw [hj] at k2;have hk2:H2.k=⟨U0 A4z (G.take (s+l.length)),[],1,0⟩:=by rw [k2,k1];show (⟨U0 Hb.k.b (l'.take l'.length),l'.drop l'.length,1,Hb.k.ln⟩:Known)=_;rw [List.take_length,List.drop_length,h.kb];show (⟨U0 (U0 A4z (G.take nb)) l',[],1,0⟩:Known)=_;rw [<-A5J,hl',show G.take nb++(G.drop nb).take (s+l.length-nb)=G.take (s+l.length) from by rw [<-List.take_add,show nb+(s+l.length-nb)=s+l.length by omega]]
 have q4:H2.k.seq=((s+l.length:Nat):Int):=by rw [hk2];show (U0 A4z (G.take (s+l.length))).seq+((0:Nat):Int)=_;rw [C4W h.g _ hs];omega
 have hz:∀ p∈(H1.k.pend.map fun d=>d.req).zip (C2 H1.k H1.k.seq).2,S6 p.1=1:=fun p hp=>by obtain⟨d,hd,e⟩:=List.mem_map.1 (List.of_mem_zip hp).1;rw [q2] at hd;rw [<-e];exact (h.g.d d (hlG' d hd)).2.2
 have hcm:K6 (B2 H1)=(B2 H2,((H1.k.pend.map fun d=>d.req).zip (C2 H1.k H1.k.seq).2).map fun p=>A1G (B2 H2) (B5i p.1 p.2)):=by unfold K6;have e1:F8 (B2 H1) (B2 H1).k.seq=B2 H2:=c2;have e2:(E2 (B2 H1).H (B2 H1).k.seq).2.1=(C2 H1.k H1.k.seq).2:=r2;rw [e1,e2];exact B9o _ (fun p hp=>by rw [hz p hp];show (1:Int)≠2;decide)
 refine⟨H2,((H1.k.pend.map fun d=>d.req).zip (C2 H1.k H1.k.seq).2).map fun p=>A1G (B2 H2) (B5i p.1 p.2),⟨h.g,zo h.ab (by omega),hs,h.fa,f2.mono (by omega),h.ka,hk2⟩,?_,?_,fun u hu=>?_⟩
 ·unfold B7I;rw [y6 (show (B2 Hb).k.seq<(B2 H1).k.seq from by show Hb.k.seq<H1.k.seq;rw [b2,q3];omega)];have eo:onL (B2 H1) (B2 Hb).k.seq=K6 (B2 H1):=y6 (C4S H1);rw [eo,hcm];unfold A2M;rw [C4S,y6 rfl];unfold E4;rw [C4N,y7 (by decide)];show (B2 H2,_++[wd 6 2 1 1 H2.k.seq 0 []])=_;rw [q4];rfl
 ·rw [zj,List.length_zip,zj,(A3F _ _).1,hj,q2,Nat.min_self,Nat.min_self,hll]
 ·obtain⟨p,hp,rfl⟩:=List.mem_map.1 hu;refine⟨p.1,p.2,?_,hz p hp⟩;show (⟨7,2,S6 p.1,1,0,p.1,0,p.2,Ros0,[],A4z⟩:Wd)=_;rw [hz p hp];rfl
theorem C4r {H:Sh} {n:Nat} {dn:List Wd} (hf:Fit H n) (he:H.k.ep=1) {k:Int} {s:Nat} (hk:k=5\/k=6) (hs:s<=1000):B9Y (A2 H dn) (wd k 2 1 1 s 0 []) 2=if k=5 then (A2 H dn,B5j (A2 H dn) (wd k 2 1 1 s 0 [])) else B4X (A2 H dn) (wd k 2 1 1 s 0 []):=by
 have hz:(0:Int)<=E3:=by show (0:Int)<=1099511627776;decide
 have hm:A51 (wd k 2 1 1 s 0 [])=true:=B5m (by omega) (by decide) (by decide) (by decide) (by decide) ⟨by omega,by show (s:Int)<=1099511627776;omega⟩ ⟨Int.le_refl _,hz⟩ (by decide) (fun d hd=>by cases hd);rw [A8x rfl hm (by show k≠2;omega),B1J (by show k≠7;omega) (by show k≠10;omega) (by show k≠9;omega) rfl (by show (1:Int)≠0;decide) (C4g hf he (by decide)),y7 (show ¬ (wd k 2 1 1 s 0 []).kind=3 from by show ¬ k=3;omega),y7 (show ¬ (wd k 2 1 1 s 0 []).kind=4 from by show ¬ k=4;omega)];show (if k=5 then _ else if k=6 then _ else _)=_;by_cases h5:k=5
 ·rw [y6 h5,y6 h5]
 ·rw [y7 h5,y7 h5,y6 (by omega)]
theorem C4f {H:Sh} {m:Int} (hd:H.down=false) (h1:m<=H.k.seq) (h2:(C2 H.k m).2.length=0):E2 H m=(H,[],0):=by unfold E2;rw [hd,y7 (by decide),y7 (by omega),y6 h2]
theorem C48 {G:List D} {na nb:Nat} {Ha Hb:Sh} (h:Two G na nb Ha Hb) (dn:List Wd) {s:Nat} (hs:s<=nb):∃ Ha',Two G (max na s) nb Ha' Hb/\B9Y (A2 Ha dn) (C4m s) 2=(A2 Ha' dn,[]):=by
 obtain⟨a1,a2,a3,a4⟩:=h.sa;have h8:=h.g.len;have hbG:=h.bG;have hab:=h.ab;unfold C4m;rw [C4r h.fa a4 (.inr rfl) (by omega),y7 (by decide)];unfold B4X;rw [C4R,y7 (fun h=>h.elim (by decide) fun h=>h rfl)];have hmin:min (wd 6 2 1 1 (s:Int) 0 []).seq (A2 Ha dn).k.seq=(s:Int):=by show min (s:Int) Ha.k.seq=_;rw [a2];omega
 rw [hmin];have fin:∀ (H':Sh) (c:Prop) [Decidable c] (v:Wd),(A2 H' dn,if c then E4 (A2 H' dn) v else [])=(A2 H' dn,[]):=fun H' c _ v=>by unfold E4;rw [C41,y6 rfl];split<;>rfl
 by_cases hle:s<=na
 ·have hc:F8 (A2 Ha dn) (s:Int)=A2 Ha dn:=by show lk 1 (E2 Ha s).1 (R2 1) 6 dn=_;rw [C4f h.fa.down (by rw [a2];omega) (by rw [(A3F _ _).1,a1,show ((s:Int)-(na:Int)).toNat=0 by omega];exact Nat.zero_min _)];rfl
  rw [hc];exact⟨Ha,by rw [Nat.max_eq_left hle];exact h,fin _ _ _⟩
 ·obtain⟨H1,k1,f1,c1,_⟩:=A6X (id:=1) (r:=R2 1) (til:=6) (dn:=dn) h.fa (by omega) (m:=(s:Int)) (by unfold B3;omega) (by rw [a2];omega);have hc:F8 (A2 Ha dn) (s:Int)=A2 H1 dn:=c1;rw [hc];refine⟨H1,?_,fin _ _ _⟩;rw [show max na s=s by omega];refine⟨h.g,hs,hbG,f1.mono (by omega),h.fb,?_,h.kb⟩;rw [k1,a1,show ((s:Int)-(na:Int)).toNat=s-na by omega,h.ka];show (⟨U0 (U0 A4z (G.take na)) ((G.drop na).take (s-na)),(G.drop na).drop (s-na),1,0⟩:Known)=_;rw [<-A5J,<-List.take_add,List.drop_drop,show na+(s-na)=s by omega]
theorem C5F {G:List D} {na nb:Nat} {Ha Hb:Sh} (h:Two G na nb Ha Hb) (dn:List Wd) {s:Nat} (hs:s<=nb):B9Y (A2 Ha dn) (C42 s) 2=(A2 Ha dn,if na<=s/\s<G.length then [C4M s ((G.drop s).take 6)] else []):=by
 obtain⟨a1,a2,a3,a4⟩:=h.sa;have h8:=h.g.len;have hbG:=h.bG;unfold C42;rw [C4r h.fa a4 (.inl rfl) (by omega),y6 rfl];unfold B5j;rw [C4R,y7 (fun h=>h.elim (by decide) fun h=>h rfl),y7 (fun h=>absurd h.2 (by show (2:Int)≠0;decide))];show (_,if Ha.k.b.seq<=(s:Int)/\(s:Int)<Ha.k.seq then A31 (A2 Ha dn) (s:Int) else [])=_;rw [a1,a2];by_cases hc:na<=s/\s<G.length
 ·rw [y6 ⟨by omega,by omega⟩,y6 hc];unfold A31 A2L;rw [C4R];show (_,[(⟨4,1,2,1,(s:Int),0,0,r00,Ros0,(Ha.k.pend.drop ((s:Int)-Ha.k.b.seq).toNat).take 6,A4z⟩:Wd)])=_;rw [a1,a3,show ((s:Int)-(na:Int)).toNat=s-na by omega,List.drop_drop,show na+(s-na)=s by omega];rfl
 ·rw [y7 (fun h=>hc ⟨by omega,by omega⟩),y7 hc]
theorem C4s (H:Sh) (dn:List Wd) (q:Int) (r:Res):∃ dn',B9Y (A2 H dn) (C4T q r) 2=(A2 H dn',[])/\dn'.length<=dn.length+1:=by
 cases hm:A51 (C4T q r) with
 | false=>exact⟨dn,C09 (.inr hm),by omega⟩
 | true=>
  rw [A8x rfl hm (by show (7:Int)≠2;decide)];unfold T7;rw [y6 (show (C4T q r).kind=7 from rfl)];unfold Z1;split
  ·exact⟨dn++[C4T q r],rfl,by rw [z6];exact zc _⟩
  ·exact⟨dn,rfl,by omega⟩
def C4K (lost:List Bool):Nat->Lk->Lk->List Wd->Nat->Lk × Lk × Nat
 | 0,a,b,_,st=>(a,b,st)
 | _+1,a,b,[],st=>(a,b,st)
 | k+1,a,b,w::q,st=>
  if st+1<=lost.length/\lost.getD st false=true then C4K lost k a b q (st+1)
  else if w.to=1 then C4K lost k (B9Y a w 2).1 b (q++(B9Y a w 2).2) (st+1)
  else if w.to=2 then C4K lost k a (B9Y b w 2).1 (q++(B9Y b w 2).2) (st+1)
  else C4K lost k a b q (st+1)
theorem C4O (lost:List Bool) (k:Nat) (a b:Lk) (st:Nat):C4K lost k a b [] st=(a,b,st):=by cases k<;>rfl
theorem C4t {G:List D} {na nb:Nat} {Ha Hb:Sh} (h:Two G na nb Ha Hb) (dn:List Wd) {w:Wd} (hw:Wq G nb w) (ht:w.to=1):
  ∃ na' Ha' dn' ws,B9Y (A2 Ha dn) w 2=(A2 Ha' dn',ws)/\Two G na' nb Ha' Hb/\dn'.length<=dn.length+1/\ws.length<=1/\∀ u∈ws,Wq G nb u:=by
 have h8:=h.g.len;have hbG:=h.bG;cases hw with
 | beat f=>exact absurd ht (by show (0:Int)≠1;decide)
 | pass s l hs hl=>exact absurd ht (by show (2:Int)≠1;decide)
 | ack s hs=>
  obtain⟨Ha',hT,e⟩:=C48 h dn hs;exact⟨_,Ha',dn,[],e,hT,by omega,by decide,fun u hu=>by cases hu⟩
 | need s hs=>
  refine⟨na,Ha,dn,_,C5F h dn hs,h,by omega,by split<;>exact nle rfl,fun u hu=>?_⟩;split at hu
  ·rename_i hc;rw [List.mem_singleton.1 hu];refine .pass s _ ?_ ?_
   ·rw [zf,zg];omega
   ·rw [zf,zg];exact (List.take_eq_take_iff.2 (by rw [zg];omega))
  ·cases hu
 | done q r hq=>
  obtain⟨dn',e,hl⟩:=C4s Ha dn q r;exact⟨na,Ha,dn',[],e,h,hl,by decide,fun u hu=>by cases hu⟩
theorem C4u {G:List D} {na nb:Nat} {Ha Hb:Sh} (h:Two G na nb Ha Hb) {w:Wd} (hw:Wq G nb w) (ht:w.to=2):
  ∃ nb' Hb' ws,B9Y (B2 Hb) w 2=(B2 Hb',ws)/\Two G na nb' Ha Hb'/\nb<=nb'/\ws.length<=9/\∀ u∈ws,Wq G nb' u:=by
 have h8:=h.g.len;cases hw with
 | beat f=>exact absurd ht (by show (0:Int)≠2;decide)
 | ack s hs=>exact absurd ht (by show (1:Int)≠2;decide)
 | need s hs=>exact absurd ht (by show (1:Int)≠2;decide)
 | done q r hq=>exact absurd ht (by show (1:Int)≠2;decide)
 | pass s l hs hl=>
  rcases C4q h hs hl with ⟨_,e⟩ | ⟨_,Hb',ds,hT,e,hdl,hds⟩
  ·refine⟨nb,Hb,_,e,h,zc _,(by show 1<=9;decide),fun u hu=>?_⟩;rw [List.mem_singleton.1 hu];exact .need nb (zc _)
  ·refine⟨_,Hb',_,e,hT,Nat.le_max_left _ _,by rw [z6,hdl];show max nb (s+l.length)-nb+1<=9;omega,fun u hu=>?_⟩;rcases List.mem_append.1 hu with hu | hu
   ·obtain⟨q,r,rfl,hq⟩:=hds u hu;exact .done q r hq
   ·rw [List.mem_singleton.1 hu];exact .ack _ (zc _)
theorem C4L {G:List D} (lost:List Bool):∀ (k:Nat) {na nb:Nat} {Ha Hb:Sh} (dn:List Wd) (q:List Wd) (st:Nat),Two G na nb Ha Hb->(∀ u∈q,Wq G nb u)->
  ∃ na' nb' Ha' Hb' dn' st',C4K lost k (A2 Ha dn) (B2 Hb) q st=(A2 Ha' dn',B2 Hb',st')/\Two G na' nb' Ha' Hb'/\dn'.length<=dn.length+k/\st'<=st+k
 | 0,na,nb,Ha,Hb,dn,q,st,h,hq=>⟨na,nb,Ha,Hb,dn,st,rfl,h,zc _,zc _⟩
 | k+1,na,nb,Ha,Hb,dn,[],st,h,hq=>⟨na,nb,Ha,Hb,dn,st,rfl,h,by omega,by omega⟩
 | k+1,na,nb,Ha,Hb,dn,w::q,st,h,hq=>by
  have hw:=hq w (zu ..);have hq':∀ u∈q,Wq G nb u:=fun u hu=>hq u (zt _ hu);unfold C4K;by_cases hl:st+1<=lost.length/\lost.getD st false=true
  ·rw [y6 hl];obtain⟨na',nb',Ha',Hb',dn',st',e,hT,h1,h2⟩:=C4L lost k dn q (st+1) h hq';exact⟨na',nb',Ha',Hb',dn',st',e,hT,by omega,by omega⟩
  rw [y7 hl];by_cases h1:w.to=1
  ·rw [y6 h1];obtain⟨na1,Ha1,dn1,ws,e1,hT1,hd1,_,hw1⟩:=C4t h dn hw h1;rw [e1];obtain⟨na',nb',Ha',Hb',dn',st',e,hT,h1,h2⟩:=C4L lost k dn1 (q++ws) (st+1) hT1 (fun u hu=>(List.mem_append.1 hu).elim (hq' u) (hw1 u));exact⟨na',nb',Ha',Hb',dn',st',e,hT,by omega,by omega⟩
  rw [y7 h1];by_cases h2:w.to=2
  ·rw [y6 h2];obtain⟨nb1,Hb1,ws,e1,hT1,hle,_,hw1⟩:=C4u h hw h2;rw [e1];obtain⟨na',nb',Ha',Hb',dn',st',e,hT,h1,h2⟩:=C4L lost k dn (q++ws) (st+1) hT1 (fun u hu=>(List.mem_append.1 hu).elim (fun h=>(hq' u h).mono ⟨[],(zw _).symm⟩ hle) (hw1 u));exact⟨na',nb',Ha',Hb',dn',st',e,hT,by omega,by omega⟩
  rw [y7 h2];obtain⟨na',nb',Ha',Hb',dn',st',e,hT,h1,h2⟩:=C4L lost k dn q (st+1) h hq';exact⟨na',nb',Ha',Hb',dn',st',e,hT,by omega,by omega⟩
theorem C4P (k:Nat) (a b:Lk) (w:Wd) (q:List Wd) (st:Nat):C4K [] (k+1) a b (w::q) st=if w.to=1 then C4K [] k (B9Y a w 2).1 b (q++(B9Y a w 2).2) (st+1) else if w.to=2 then C4K [] k a (B9Y b w 2).1 (q++(B9Y b w 2).2) (st+1) else C4K [] k a b q (st+1):=by show (if st+1<=([]:List Bool).length/\([]:List Bool).getD st false=true then _ else _)=_;rw [y7 (fun h=>by have:=h.1;show False;exact absurd this (Nat.not_succ_le_zero _))]
theorem C4Q (k:Nat) (a b:Lk) (f:Int) (q:List Wd) (st:Nat):C4K [] (k+1) a b (beat f::q) st=C4K [] k a b q (st+1):=by rw [C4P,y7 (by show ¬ (0:Int)=1;decide),y7 (by show ¬ (0:Int)=2;decide)]
theorem C4U:∀ (ds:List Wd) (k:Nat) (H:Sh) (dn:List Wd) (b:Lk) (q:List Wd) (st:Nat),(∀ u∈ds,∃ q r,u=C4T q r/\S6 q=1)->∃ dn',C4K [] (ds.length+k) (A2 H dn) b (ds++q) st=C4K [] k (A2 H dn') b q (st+ds.length)/\dn'.length<=dn.length+ds.length
 | [],k,H,dn,b,q,st,h=>⟨dn,by rw [List.nil_append,List.length_nil,zm,Nat.add_zero],zc _⟩
 | u::ds,k,H,dn,b,q,st,h=>by obtain⟨x,r,rfl,hx⟩:=h u (zu ..);obtain⟨dn1,e1,h1⟩:=C4s H dn x r;obtain⟨dn2,e2,h2⟩:=C4U ds k H dn1 b q (st+1) (fun u hu=>h u (zt _ hu));refine⟨dn2,?_,by rw [zi];omega⟩;rw [zi,show ds.length+1+k=(ds.length+k)+1 by omega,List.cons_append,C4P,y6 (show (C4T x r).to=1 from rfl),e1,zw,e2,show st+1+ds.length=st+(ds.length+1) by omega]
theorem C4X {G:List D} {na nb:Nat} {Ha Hb:Sh} (h:Two G na nb Ha Hb) (dn:List Wd) {s:Nat} (hs:s<=nb) (k:Nat) (q:List Wd) (st:Nat):∃ Ha',Two G (max na s) nb Ha' Hb/\C4K [] (k+1) (A2 Ha dn) (B2 Hb) (C4m s::q) st=C4K [] k (A2 Ha' dn) (B2 Hb) q (st+1):=by obtain⟨Ha',hT,e⟩:=C48 h dn hs;refine⟨Ha',hT,?_⟩;rw [C4P,y6 (show (C4m s).to=1 from rfl),e,zw]
theorem C4v {G:List D} {na nb:Nat} {Ha Hb:Sh} (h:Two G na nb Ha Hb) (dn:List Wd):B9t (A2 Ha dn) 2=[beat 1]++if na<G.length then [C4M na ((G.drop na).take 6)] else []:=by
 obtain⟨a1,a2,a3,a4⟩:=h.sa;have hpl:(A2 Ha dn).k.pend.length=G.length-na:=by show Ha.k.pend.length=_;rw [a3,zg]
 unfold B9t;rw [y7 (by show ¬ Ha.down=true;rw [h.fa.down];decide),y7 (fun h=>by have:=h.2;unfold Z2 at this;simp [A2,lk,R2] at this),y7 (fun h=>absurd h.2 (by show (0:Int)≠1;decide)),zw,y7 (by rw [C4g h.fa a4 (by decide)];decide),C4V,y7 (show ¬ ((false:Bool)=true) by decide),zw,hpl];by_cases hp:na<G.length
 ·rw [y6 ⟨rfl,by omega⟩,y6 hp];unfold A31 A2L;rw [C4R];show [(wd 1 1 0 1 0 0 []:Wd)]++[(⟨4,1,2,1,Ha.k.b.seq,0,0,r00,Ros0,(Ha.k.pend.drop (Ha.k.b.seq-Ha.k.b.seq).toNat).take 6,A4z⟩:Wd)]=_;rw [a1,a3,Int.sub_self];rfl
 ·rw [y7 (fun h=>by have:=h.2;omega),y7 hp];rfl
theorem C4w {G:List D} {na nb:Nat} {Ha Hb:Sh} (h:Two G na nb Ha Hb):B9t (B2 Hb) 2=[beat 2,C4m nb]:=by obtain⟨b1,b2,b3,b4⟩:=h.sb;unfold B9t;rw [y7 (by show ¬ Hb.down=true;rw [h.fb.down];decide),y7 (fun h=>by have:=h.2;unfold Z2 at this;simp [B2,lk,R2] at this),y7 (fun h=>absurd h.2 (by show (0:Int)≠2;decide)),zw,y7 (by rw [C4h h.fb b4 (by decide)];decide),C4S,y7 (fun h=>by cases h.1),y6 rfl,List.nil_append];unfold E4;rw [C4N,y7 (by decide)];show [(wd 1 2 0 1 0 0 []:Wd)]++[wd 6 2 1 1 Hb.k.seq 0 []]=_;rw [b2];rfl
theorem C4b {G:List D} {na nb:Nat} {Ha Hb:Sh} (h:Two G na nb Ha Hb) (dn:List Wd) (st:Nat):
  ∃ Ha' Hb' dn' st',C4K [] 80 (A2 Ha dn) (B2 Hb) (B9t (A2 Ha dn) 2++B9t (B2 Hb) 2) st=(A2 Ha' dn',B2 Hb',st')/\Two G (max nb (min (na+6) G.length)) (max nb (min (na+6) G.length)) Ha' Hb'/\dn'.length<=dn.length+80/\st'<=st+80:=by
 have h8:=h.g.len;have hbG:=h.bG;have hab:=h.ab;rw [C4v h dn,C4w h];by_cases hp:na<G.length
 ·rw [y6 hp];obtain⟨l,hl⟩:∃ l,l=(G.drop na).take 6:=⟨_,rfl⟩;have hll:l.length=min 6 (G.length-na):=by rw [hl,zf,zg]
  have hl2:l=(G.drop na).take l.length:=by rw [hll,hl];exact List.take_eq_take_iff.2 (by rw [zg];omega)
  rw [<-hl];show ∃ Ha' Hb' dn' st',C4K [] 80 (A2 Ha dn) (B2 Hb) (beat 1::C4M na l::beat 2::[C4m nb]) st=_/\_;rcases C4q h (by rw [hll];omega) hl2 with ⟨hlt,_⟩ | ⟨_,Hb1,ds,hT,e,hdl,hds⟩
  ·omega
  rw [show max nb (na+l.length)=max nb (min (na+6) G.length) by rw [hll];omega] at hT e hdl;obtain⟨nb1,hnb1⟩:∃ n,n=max nb (min (na+6) G.length):=⟨_,rfl⟩;rw [<-hnb1] at hT e hdl ⊢;rw [C4Q,C4P,y7 (by show ¬ (2:Int)=1;decide),y6 (show (C4M na l).to=2 from rfl),e];show ∃ Ha' Hb' dn' st',C4K [] 78 (A2 Ha dn) (B2 Hb1) (beat 2::C4m nb::(ds++[C4m nb1])) (st+1+1)=_/\_;rw [C4Q];obtain⟨Ha1,hT1,e1⟩:=C4X hT dn (s:=nb) (by omega) 76 (ds++[C4m nb1]) (st+1+1+1);rw [e1];obtain⟨dn2,e2,h2⟩:=C4U ds (76-ds.length) Ha1 dn (B2 Hb1) [C4m nb1] (st+1+1+1+1) hds;rw [show ds.length+(76-ds.length)=76 by omega] at e2;rw [e2];obtain⟨Ha3,hT3,e3⟩:=C4X hT1 dn2 (s:=nb1) (zc _) (75-ds.length) [] (st+1+1+1+1+ds.length);rw [show 75-ds.length+1=76-ds.length by omega] at e3;rw [e3,C4O];rw [show max (max na nb) nb1=nb1 by omega] at hT3;exact⟨Ha3,Hb1,dn2,_,rfl,hT3,by omega,by omega⟩
 ·rw [y7 hp];have hna:na=G.length:=by omega
  have hnb:nb=na:=by omega
  show ∃ Ha' Hb' dn' st',C4K [] 80 (A2 Ha dn) (B2 Hb) (beat 1::beat 2::[C4m nb]) st=_/\_;rw [C4Q,C4Q];obtain⟨Ha1,hT1,e1⟩:=C4X h dn (s:=nb) (zc _) 77 [] (st+1+1);rw [e1,C4O];rw [show max nb (min (na+6) G.length)=max na nb by omega];refine⟨Ha1,Hb,dn,_,rfl,?_,by omega,by omega⟩;rw [show max na nb=nb by omega] at hT1 ⊢;exact hT1
theorem C4j {G:List D} {na nb:Nat} {Ha Hb:Sh} (h:Two G na nb Ha Hb) (dn:List Wd) (hG:G.length<8) {d:D} (hd:d.Ok) (hh:S6 d.req=1):
  ∃ G' Ha' dn' ws,C3q (A2 Ha dn) d 1=(A2 Ha' dn',ws)/\Two G' na nb Ha' Hb/\(∃ t,G'=G++t/\t.length<=1)/\dn'.length<=dn.length+1/\ws.length<=1/\∀ u∈ws,Wq G' nb u:=by
 obtain⟨a1,a2,a3,a4⟩:=h.sa;have hbG:=h.bG;have hab:=h.ab;have same:∀ dn',dn'.length<=dn.length+1->C3q (A2 Ha dn) d 1=(A2 Ha dn',[])->∃ G' Ha' dn' ws,C3q (A2 Ha dn) d 1=(A2 Ha' dn',ws)/\Two G' na nb Ha' Hb/\(∃ t,G'=G++t/\t.length<=1)/\dn'.length<=dn.length+1/\ws.length<=1/\∀ u∈ws,Wq G' nb u:=fun dn' hl e=>
  ⟨G,Ha,dn',[],e,h,⟨[],(zw _).symm,by decide⟩,hl,by decide,fun u hu=>by cases hu⟩
 cases hm:L3 d with
 | false=>exact same dn (by omega) (by unfold C3q;rw [y6 (.inr hm)])
 | true=>
 have e0:C3q (A2 Ha dn) d 1=if (B6t Ha.k.b d.req).2=true then toldL (A2 Ha dn) d.req (B6t Ha.k.b d.req).1 else if Ha.k.pend.any (fun x=>x.req==d.req)=true then (A2 Ha dn,[]) else if (M8 Ha d).2≠0 then ({ A2 Ha dn with H:=(M8 Ha d).1 },[]) else onL { A2 Ha dn with H:=(M8 Ha d).1 } Ha.k.seq:=by unfold C3q;rw [y7 (fun h=>h.elim (by show ¬ (1:Int)=0;decide) (by rw [hm];decide)),y6 (C4o Ha dn),B1J (by show (3:Int)≠7;decide) (by show (3:Int)≠10;decide) (by show (3:Int)≠9;decide) rfl (by show (1:Int)≠0;decide) (C4g h.fa a4 (by decide)),y6 (show (C3m (A2 Ha dn) d).kind=3 from rfl)];unfold B09;rw [y7 (fun h=>h (C4o Ha dn))];rfl
 by_cases ht:(B6t Ha.k.b d.req).2=true
 ·rw [y6 ht] at e0;have e1:toldL (A2 Ha dn) d.req (B6t Ha.k.b d.req).1=(Z1 (A2 Ha dn) (A1G (A2 Ha dn) (B5i d.req (B6t Ha.k.b d.req).1)),[]):=y6 (show S6 d.req=1 from hh);rw [e1] at e0;unfold Z1 at e0;split at e0
  ·exact same _ (by rw [z6];exact zc _) e0
  ·exact same dn (by omega) e0
 rw [y7 ht] at e0;by_cases hpd:Ha.k.pend.any (fun x=>x.req==d.req)=true
 ·rw [y6 hpd] at e0;exact same dn (by omega) e0
 rw [y7 hpd] at e0;have hpl:Ha.k.pend.length=G.length-na:=by rw [a3,zg]
 rcases h.fa.add (by omega) hd with ⟨_,hc,e⟩ | ⟨_,hc,e⟩ | ⟨hm',e⟩;rotate_left
 ·exact absurd (show B2B Ha.k (.add d) from ⟨by omega,by rw [a2];show (G.length:Int)<1099511627776;omega⟩) hc
 ·rw [hm] at hm';cases hm'
 have hk:=A2K Ha d true;have hf1:=h.fa.write (by omega) (r:=.add d) ⟨hm,hd⟩ hc true;rw [e,y7 (fun h=>h rfl)] at e0;obtain⟨H1,hH1⟩:∃ H1,H1=Ha.write (.add d) true:=⟨_,rfl⟩;rw [<-hH1] at hk hf1 e0;have hk1:H1.k=⟨U0 A4z ((G++[d]).take na),(G++[d]).drop na,1,0⟩:=by rw [hk,h.ka,List.take_append_of_le_length (by omega),List.drop_append_of_le_length (by omega)]
 have hT:Two (G++[d]) na nb H1 Hb:=by
  refine⟨⟨by rw [z6];exact hG,fun x hx=>?_⟩,hab,by rw [z6];omega,by rw [z6,show 2+(G.length+[d].length)+na=2+G.length+na+1 by show 2+(G.length+1)+na=_;omega];exact hf1,h.fb,hk1,?_⟩
  ·rcases List.mem_append.1 hx with hx | hx
   ·exact h.g.d x hx
   ·rw [List.mem_singleton.1 hx];exact⟨hd,hm,hh⟩
  ·rw [h.kb,List.take_append_of_le_length hbG]
 refine⟨G++[d],H1,dn,[C4M G.length [d]],?_,hT,⟨[d],rfl,zc 1⟩,by omega,zc 1,fun u hu=>?_⟩
 ·rw [e0];show onL (A2 H1 dn) Ha.k.seq=_;unfold onL;rw [C4V,y7 (by decide)];unfold A31 A2L;rw [C4R];show (_,[(⟨4,1,2,1,Ha.k.seq,0,0,r00,Ros0,(H1.k.pend.drop (Ha.k.seq-H1.k.b.seq).toNat).take 6,A4z⟩:Wd)])=_;have hb1:H1.k.b.seq=na:=hT.sa.1;rw [a2,hb1,hk1];show (_,[(⟨4,1,2,1,(G.length:Int),0,0,r00,Ros0,(((G++[d]).drop na).drop ((G.length:Int)-(na:Int)).toNat).take 6,A4z⟩:Wd)])=_;rw [List.drop_drop,show na+((G.length:Int)-(na:Int)).toNat=G.length by omega,List.drop_left];rfl
 ·rw [List.mem_singleton.1 hu];refine .pass G.length [d] (by rw [z6];exact zc _) ?_;rw [List.drop_left];rfl
end Go.Proofs.YtefdfaeieekioaaGreatDoor
section
namespace Go.Vc
open Go Go.RowKit
section
variable {P:Program}
theorem C4Y {w:World} {t ty e:TypeId} {i:TypeInfo} (ht:P.underlying t=some (.slice e)) (hi:P.info? e=some i) (b:Addr) (n cap:Nat) (a:Addr) (m c:Nat) (news:List Value) (hl:news.length=m*i.size) (hnews:∀ j u,news[j]?=some u->w.cell? (a.add j)=some u)
  (hms:C7 w (b.add (n*i.size)) news 0) (hroom:n+m<=cap):
  (Builtin.append_ #[t,t] ty #[.slice (some b) n cap,.slice (some a) m c]).run P w=.ok (.slice (some b) (n+m) cap) (stored w (b.add (n*i.size)) news 0):=by
 have hf:=run_firstCells_some (P:=P) w i.size m a m c news hl hnews;have hst:=J9 (P:=P) news w 0 hms;simp [Builtin.append_,run_underlying ht,sizeOf,typeInfo,hi,Builtin.lenOf,hroom,hf,hst]
end
def Que (e sz n:Nat) (xs:List Value) (v:Value) (x:LB):Prop:=∃ g o cap cur,x=(g,e,cur)/\v=.slice (some ⟨g,o,none⟩) n cap/\o+cap*sz<=cur.length/\n<=cap/\cap<=maxLen/\(cur.drop o).take (n*sz)=xs/\xs.length=n*sz
theorem putAt_drop {cur ys:List Value} {o k:Nat} (h:o+k+ys.length<=cur.length):((C0 cur (o+k) ys).drop o).take (k+ys.length)=(cur.drop o).take k++ys:=by
 have e:(cur.take (o+k)).drop o=(cur.drop o).take k:=by rw [List.drop_take];congr 1;omega
 have hk:((cur.drop o).take k).length=k:=by rw [zf,zg];omega
 rw [E5 _ _ _ h,zv,List.drop_append_of_le_length (by rw [zf];omega),e,<-zv];exact List.take_left' (by rw [z6,hk])
section
variable {P:Program} {S0 S:Nat->Prop} {w0 w:World} {l:List LB} {os:List OR} {R:Kn} {n m c e sz bytes:Nat} {B:Option Addr} {xs ys:List Value} {z:Value} {K:Value->World->Prop} {x:LB}
theorem C4Z {t T:Nat} {cs:Array Bool} {S1:Nat->Prop} (ht:P.underlying t=some (.slice e)) (hi:(P.info? e).map (fun i=>(i.zero,i.size,i.bytes))=some (some z,sz,bytes)) (hzs:z.cells.size=sz) (hsz:0<sz)
  (hc:CtxF S0 w0 S w (x::l) os R) {v:Value} (hQ:Que e sz n xs v x) (hR:Row S1 w B m c ys) (hl:ys.length=m*sz) (h1:D7 ys=true) (h63:n+m<=34359738368) (hby:bytes<=4096)
  (k:∀ v' x' w',CtxF S0 w0 S w' (x'::l) os R->Que e sz (n+m) (xs++ys) v' x'->K v' w'):
  ∃ v' w',(builtin .append #[t,t] T cs #[v,.slice B m c]).run P w=.ok (.value v') w'/\K v' w':=by
 obtain⟨g,o,cap,cur,rfl,rfl,hcap,hn,hmx,hxs,hxl⟩:=hQ;obtain⟨i,h2,h3,h4,h5⟩:=info_parts hi;subst h4;subst h5;have hbytes:(n+m)*i.bytes<=140737488355328:=zo (Nat.mul_le_mul h63 hby) (by decide);have done:∀ v' w',(Builtin.append_ #[t,t] T #[.slice (some ⟨g,o,none⟩) n cap,.slice B m c]).run P w=.ok v' w'->K v' w'->∃ v' w',(builtin .append #[t,t] T cs #[.slice (some ⟨g,o,none⟩) n cap,.slice B m c]).run P w=.ok (.value v') w'/\K v' w':=fun v' w' hr hk=>by refine⟨v',w',?_,hk⟩;show (do pure (Next.value (<-Builtin.append_ #[t,t] T #[.slice (some ⟨g,o,none⟩) n cap,.slice B m c])):Sem Next).run P w=_;simp only [Sem.run_bind,hr,Result.andThen_ok,Sem.run_pure]
 cases B with
 | none=>
  have hys:ys=[]:=by
   rcases ys with _ | ⟨y,r⟩
   ·rfl
   ·obtain⟨ad',e1,_⟩:=hR.get (i:=0) (by simp);cases e1
  subst hys;have hm:m=0:=by
   rcases Nat.eq_zero_or_pos m with h | h
   ·exact h
   ·have:=Nat.mul_pos h hsz;rw [<-hl] at this;simp at this
  subst hm;refine done _ w ?_ (k (.slice (some ⟨g,o,none⟩) n cap) _ w hc ⟨g,o,cap,cur,rfl,rfl,hcap,hn,hmx,by rw [zw];exact hxs,by rw [zw];exact hxl⟩);simp [Builtin.append_,run_underlying ht,sizeOf,typeInfo,h2,Builtin.lenOf,Builtin.firstCells,hn,storeCells]
 | some ad=>
  have hys:∀ j u,ys[j]?=some u->w.cell? (ad.add j)=some u:=fun j u hj=>by obtain⟨hjl,_⟩:=List.getElem?_eq_some_iff.1 hj;obtain⟨ad',e1,hcell⟩:=hR.get (i:=j) hjl;cases e1;exact hcell j u hj
  by_cases hroom:n+m<=cap
  ·have hfit:o+n*i.size+ys.length<=cur.length:=by rw [hl];have:=Nat.mul_le_mul_right i.size hroom;rw [Nat.add_mul] at this;omega
   have ha:(⟨g,o,none⟩:Addr).add (n*i.size)=⟨g,o+n*i.size,none⟩:=Addr.add_lit ..;have hms:=hc.may 0 rfl (o+n*i.size) ys hfit h1;have hr:=C4Y (P:=P) (w:=w) (ty:=T) ht h2 ⟨g,o,none⟩ n cap ad m c ys hl hys (by rw [ha];exact hms) hroom;rw [ha] at hr;have hs:=(hc.set 0 rfl (rfl:D0 w ⟨g,o+n*i.size,none⟩ ys (stored w ⟨g,o+n*i.size,none⟩ ys 0))).1;refine done _ _ hr (k _ (g,e,C0 cur (o+n*i.size) ys) _ hs ⟨g,o,cap,_,rfl,rfl,by rw [putAt_len];exact hcap,hroom,hmx,?_,by rw [z6,hxl,hl,Nat.add_mul]⟩);rw [Nat.add_mul,<-hl,putAt_drop hfit,hxs]
  ·have holds:∀ j u,xs[j]?=some u->w.cell? ((⟨g,o,none⟩:Addr).add j)=some u:=fun j u hj=>by
    rw [<-hxs,List.getElem?_take] at hj;split at hj
    ·rw [List.getElem?_drop] at hj;rw [Addr.add_lit];exact hc.cell 0 rfl (o+j) hj
    ·cases hj
   have hg:=run_append_grow (P:=P) w t T e i z ht h2 h3 ⟨g,o,none⟩ n cap xs hxl holds ad m c ys hl hys (by omega) (by omega) (growslice_fits (by omega) hbytes);have hge:=grownCap_ge w (n+m) cap e;have hcm:grownCap w (n+m) cap e<=maxLen:=grownCap_le_maxLen w (n+m) cap e (by simp only [maxLen];omega);have hN:New w.drew (xs++ys++(Builtin.zeroCells z.cells (grownCap w (n+m) cap e-(n+m))).toList) e w.heap.size (w.drew.alloc (.cells (xs.toArray++ys.toArray++Builtin.zeroCells z.cells (grownCap w (n+m) cap e-(n+m))) e)):=by refine⟨rfl,?_⟩;congr 2;simp
   have hc2:=(hc.drew.loc hN).1.swapL.drop;refine done _ _ hg (k _ _ _ hc2 ⟨w.heap.size,0,grownCap w (n+m) cap e,_,rfl,rfl,?_,hge,hcm,?_,by rw [z6,hxl,hl,Nat.add_mul]⟩)
   ·rw [zm,z6,z6,hxl,hl,Array.length_toList,size_zeroCells,hzs,<-Nat.add_mul,<-Nat.add_mul];exact Nat.mul_le_mul_right _ (by omega)
   ·rw [List.drop_zero,Nat.add_mul,<-hxl,<-hl,<-z6,List.take_left]
end
end Go.Vc
end
section
namespace Go.Proofs.YtefdfaeieekioaaGreatDoor
open Go.Vc Go.RowKit Go.Fl Go.ChangeShapes Go.WideShapes Go.ChangeAt
open Go.Vc (Sep)
section
variable {w0 w:World} {S G:Nat->Prop} {l:List LB} {os:List OR} {Q X K:Kn} {g:Lg} {L L':Lk} {ws:List Wd} {f:Nat} {args:Array Value}
theorem _root_.Go.Vc.CtxF.heard2 (hc:CtxF no (bare w0) S w l os (Sep 0 (Sep 0 Q X) (LinkK g L))) (sQ:Stab Q) (sX:Stab X) (hKp:∀ S w',Q S w'->Keep w0 G S w') (he:EnvFree G w0)
  (hC:∀ Sx S1:Nat->Prop,(∀ x,Sx x->x<w.heap.size)->EnvFree Sx w->LinkK g L Sx w->(∀ y,S1 y->y<w.heap.size/\¬ Sx y)->Q S1 w->Calls Tryz.prog f args w (RetWL Sx w (LinkK g L') ws)):
  Calls Tryz.prog f args w (fun en w'=>∃ A c css S',en=.returned (.slice A ws.length c)/\CtxF no (bare w0) S' w' l (orW ws A c css::os) (Sep 0 (Sep 0 (fun S w=>Q S w/\WsR ws css S w) X) (LinkK g L'))):=by
 obtain⟨S1,Sa,h1,h2,⟨Sq,Sx,q1,q2,hQ,hX⟩,hO⟩:=hc.row;have hen:EnvFree Sa w:=he.kept fun x hx hg=>⟨fun h=>(h1 x (q1 x ((hKp _ _ hQ) x hx hg).1).1).2 h,((hKp _ _ hQ) x hx hg).2⟩;refine (hC Sa Sq (fun x hx=>hc.ctx.lt x (h2 x hx).1) hen hO (fun y hy=>⟨hc.ctx.lt y (h1 y (q1 y hy).1).1,(h1 y (q1 y hy).1).2⟩) hQ).mono fun en wq hq=>?_;obtain⟨A,c,css,N,Sn,e,hT,hSn,hO',hr,hW,hN,hA⟩:=hq;have h:=CtxF.turnW (w0:=bare w0) (R:=Sep 0 Q X) hc (Sep.stab sQ sX) h1 h2 ⟨Sq,Sx,q1,q2,hQ,hX⟩ hT hSn hO' yg hr hW hN hA;refine⟨A,c,css,_,e,h.now (fun _=>⟨fun x=>S1 x\/N x,Sn,fun x hx=>?_,fun x hx=>⟨.inr (.inl hx),zb _⟩,⟨fun x=>Sq x\/N x,Sx,fun x hx=>?_,fun x hx=>⟨.inl (q2 x hx).1,zb _⟩,⟨?_,?_⟩,?_⟩,hO'⟩) (Sep.stab (Sep.stab (sQ.and (WsR.stab _ _)) sX) yg)⟩
 ·rcases hx with hx | hx
  ·refine⟨.inl ⟨(h1 x hx).1,(h1 x hx).2⟩,fun h=>?_⟩;rcases (hSn x h).1 with k | k
   ·exact (h1 x hx).2 k
   ·have:=hc.ctx.lt x (h1 x hx).1;omega
  ·exact⟨.inr (.inr hx),(hN x hx).2.2⟩
 ·rcases hx with hx | hx
  ·exact⟨.inl (q1 x hx).1,(q1 x hx).2⟩
  ·refine⟨.inr hx,fun h=>?_⟩;have hs:=h1 x (q2 x h).1;rcases (hN x hx).1 with k | k
   ·exact hs.2 k
   ·have:=hc.ctx.lt x hs.1;omega
 ·exact sQ _ _ _ _ hQ ⟨fun _ h=>.inl h,fun x hx=>hT.block x (hc.ctx.lt x (h1 x (q1 x hx).1).1) (h1 x (q1 x hx).1).2⟩
 ·exact WsR.stab _ _ _ _ _ _ hW ⟨fun _ h=>.inr h,fun _ _=>rfl⟩
 ·exact sX _ _ _ _ hX ⟨fun _ h=>h,fun x hx=>hT.block x (hc.ctx.lt x (h1 x (q2 x hx).1).1) (h1 x (q2 x hx).1).2⟩
theorem _root_.Go.Vc.CtxF.swap2 {A B:Kn} (hc:CtxF no (bare w0) S w l os (Sep 0 (Sep 0 Q A) B)) (sQ:Stab Q) (sA:Stab A) (sB:Stab B):CtxF no (bare w0) S w l os (Sep 0 (Sep 0 Q B) A):=
 hc.now Sep.swap (Sep.stab (Sep.stab sQ sB) sA)
theorem _root_.Go.Vc.CtxF.now2 {Q' A B:Kn} (hc:CtxF no (bare w0) S w l os (Sep 0 (Sep 0 Q A) B)) (sQ:Stab Q') (sA:Stab A) (sB:Stab B) (h:∀ S,Q S w->Q' S w):CtxF no (bare w0) S w l os (Sep 0 (Sep 0 Q' A) B):=
 hc.now (fun hh=>hh.mono (fun _ h2=>h2.mono h fun _ h=>h) fun _ h=>h) (Sep.stab (Sep.stab sQ sA) sB)
end
def RunK (ga gb:Lg) (gs:Nat) (st:Nat) (A:Option Addr) (n c:Nat) (xs:List Value) (a b:Lk):Kn:=ObjK gs 3 [.int .i64 (st:Int)] (Sep 0 (fun _ _=>True) (OwnK 43 21 A n c xs)) (Sep 0 (LinkK gb b) (LinkK ga a))
theorem RunK.stab (ga gb:Lg) (gs st:Nat) (A:Option Addr) (n c:Nat) (xs:List Value) (a b:Lk):Stab (RunK ga gb gs st A n c xs a b):=ObjK.stab (Sep.stab Stab.true (OwnK.stab _ _ _ _ _ _)) (Sep.stab yg yg)
def EndK (ga gb:Lg) (gs:Nat) (st:Nat) (a b:Lk):Kn:=ObjK gs 3 [.int .i64 (st:Int)] (fun _ _=>True) (Sep 0 (LinkK gb b) (LinkK ga a))
theorem EndK.stab (ga gb:Lg) (gs st:Nat) (a b:Lk):Stab (EndK ga gb gs st a b):=ObjK.stab Stab.true (Sep.stab yg yg)
def Kq (w:World) (Sx:Nat->Prop) (Lo:Option Addr) (lost:List Bool) (cl:Nat) (q:List Wd) (css:List (List Value)):Kn:=fun S w'=>(Keep w Sx S w'/\Row S w' Lo lost.length cl (lost.map fun b=>[Value.bool b]).flatten)/\WsR q css S w'
theorem Kq.stab (w:World) (Sx:Nat->Prop) (Lo:Option Addr) (lost:List Bool) (cl:Nat) (q:List Wd) (css:List (List Value)):Stab (Kq w Sx Lo lost cl q css):=(y8.and A2F).and (WsR.stab _ _)
theorem yi {w:World} {Sx:Nat->Prop} {Lo:Option Addr} {lost:List Bool} {cl:Nat} {q:List Wd} {css:List (List Value)}:Stab (Kq w Sx Lo lost cl q css):=Kq.stab _ _ _ _ _ _ _
structure RS where
 k:Nat
 na:Nat
 nb:Nat
 Ha:Sh
 Hb:Sh
 dn:List Wd
 q:List Wd
 st:Nat
 g:Nat
 o:Nat
 cap:Nat
 cur:List Value
theorem C5G {G:List D} (h:GoodG G) {nb:Nat} {u:Wd} (hu:Wq G nb u):∀ d∈u.deeds,d.Ok:=fun d hd=>by
 cases hu with
 | beat f=>cases hd
 | ack s hs=>cases hd
 | need s hs=>cases hd
 | done q r hq=>cases hd
 | pass s l hs hl=>
  have hd:d∈l:=hd;rw [hl] at hd;exact (h.d d (List.mem_of_mem_drop (List.mem_of_mem_take hd))).1
theorem C49 (g:Lg) {G:List D} {na nb:Nat} {Ha Hb:Sh} (h:Two G na nb Ha Hb) {dn:List Wd} (hd:dn.length<=900000) {u:Wd} (hu:Wq G nb u) (ht:u.to=1) (x:WX):A5a g (A2 Ha dn) 17 u x 2 (B9Y (A2 Ha dn) u 2):=by
 have h8:=h.g.len;have hbG:=h.bG;have hL:=C4e (dn:=dn) h.fa;cases hu with
 | beat f=>exact absurd ht (by show (0:Int)≠1;decide)
 | pass s l hs hl=>exact absurd ht (by show (2:Int)≠1;decide)
 | ack s hs=>exact A5d g _ hL 2 1 1 s 0 (by unfold B3;omega) x 2
 | need s hs=>exact B9l g _ hL 2 1 1 s 0 x 2
 | done q r hq=>exact A2P g _ hL _ (fun d hd=>by cases hd) (fun e he=>by cases he) x 2 (fun _ _ _ Sx w hlt he hK Sv hvd hR=>by have e:T7 (A2 Ha dn) (C4T q r) 2=(Z1 (A2 Ha dn) (C4T q r),[]):=y6 rfl;rw [e];exact A8n g _ (zo hd (by decide)) _ ⟨rfl,rfl,rfl⟩ rfl x Sv Sx 2 w hR hlt hK) (fun _ _ h=>by cases h)
theorem C5A (g:Lg) {G:List D} {na nb:Nat} {Ha Hb:Sh} (h:Two G na nb Ha Hb) {u:Wd} (hu:Wq G nb u) (ht:u.to=2) (x:WX):A5a g (B2 Hb) 17 u x 2 (B9Y (B2 Hb) u 2):=by
 have h8:=h.g.len;have hok:=C5G h.g hu;have hL:=C4p h.fb;cases hu with
 | beat f=>exact absurd ht (by show (0:Int)≠2;decide)
 | ack s hs=>exact absurd ht (by show (1:Int)≠2;decide)
 | need s hs=>exact absurd ht (by show (1:Int)≠2;decide)
 | done q r hq=>exact absurd ht (by show (1:Int)≠2;decide)
 | pass s l hs hl=>exact A39 g _ hL (zb _) 1 2 1 s 0 (by unfold B3;omega) l hok x 2 A6
end Go.Proofs.YtefdfaeieekioaaGreatDoor
end
section
namespace Go.Proofs.YtefdfaeieekioaaGreatDoor
open Go.Vc Go.RowKit Go.Fl Go.ChangeShapes Go.WideShapes Go.ChangeAt
open Go.Vc (Sep)
theorem RowBl.elem {S:Nat->Prop} {w:World} {A:Option Addr} {n cap:Nat} {l:List Bool} (hR:Row S w A n cap (l.map fun b=>[Value.bool b]).flatten) (i:Nat) (hi:i<l.length):∃ ad,A=some ad/\Go.Vc.cellsAt w (ad.add (i*1)) [.bool l[i]] 0:=by obtain⟨ad,e,h⟩:=Row.elemF hR (by decide) (Flat.map (fun b:Bool=>[Value.bool b]) (fun e=>⟨rfl,rfl⟩) l) i (by rw [zj];exact hi);rw [List.getElem_map] at h;exact⟨ad,e,h⟩
theorem C4a {ga gb:Lg} {gs st:Nat} {w w':World} {S Sx:Nat->Prop} {os:List OR} {Lo:Option Addr} {lost:List Bool} {cl:Nat} {q:List Wd} {css:List (List Value)} {a b:Lk} (hc:CtxF no (bare w) S w' [(gs,3,[.int .i64 (st:Int)])] os (Sep 0 (Sep 0 (Kq w Sx Lo lost cl q css) (LinkK gb b)) (LinkK ga a))):RetOb Sx w (.tuple #[]) (EndK ga gb gs st a b) (.returned (.tuple #[])) w':=by have h1:=hc.now (X:=Sep 0 (Sep 0 (Keep w Sx) (fun _ _=>True)) (Sep 0 (LinkK gb b) (LinkK ga a))) (fun h=>(Sep.outer h).mono (fun S h=>⟨S,no,fun x hx=>⟨hx,id⟩,fun x hx=>hx.elim,h.1.1,trivial⟩) fun _ h=>h) (Sep.stab (Sep.stab y8 Stab.true) (Sep.stab yg yg));obtain⟨S9,h2⟩:=CtxF.pushH h1 y8 Stab.true (Sep.stab yg yg);exact h2.endO _
theorem C4x {cur:List Value} {o:Nat} {u:List Value} {r:List (List Value)} {n:Nat} (hu:u.length=21) (h:(cur.drop o).take ((n+1)*21)=(u::r).flatten):(cur.drop o).take 21=u/\(cur.drop (o+21)).take (n*21)=r.flatten:=by rw [List.flatten_cons] at h;have e1:=y5 (List.take 21) h;rw [List.take_take,Nat.min_eq_left (by omega),List.take_left' hu] at e1;have e2:=y5 (List.drop 21) h;rw [List.drop_take,List.drop_drop,List.drop_left' hu] at e2;refine⟨e1,?_⟩;rw [<-e2];congr 1;omega
theorem C44 {g o cap:Nat} {cur:List Value} {u:List Value} {t:List (List Value)} {n:Nat} (hu:u.length=21) (ht:t.length=n) (hcl:o+cap*21<=cur.length) (hnc:n+1<=cap) (hcm:cap<=maxLen) (hct:(cur.drop o).take ((n+1)*21)=(u::t).flatten) (hF:Flat 21 t):
  ∃ o2,Value.slice (if (cap:Int)=1 then some (⟨g,o,none⟩:Addr) else (some (⟨g,o,none⟩:Addr)).map (·.add ((1:Int).toNat*21))) (((n+1:Nat):Int)-1).toNat ((cap:Int)-1).toNat=.slice (some ⟨g,o2,none⟩) n (cap-1)/\o2+(cap-1)*21<=cur.length/\n<=cap-1/\cap-1<=maxLen/\(cur.drop o2).take (n*21)=t.flatten:=by
 obtain⟨h1,h2⟩:=C4x hu hct;by_cases hc:cap=1
 ·subst hc;have hn:n=0:=by omega
  subst hn;have ht0:t=[]:=zn ht;subst ht0;exact⟨o,by rw [y6 (show ((1:Nat):Int)=1 from rfl)];rfl,by omega,zb _,zb _,by rw [Nat.zero_mul,List.take_zero];rfl⟩
 ·refine⟨o+21,?_,by omega,by omega,by omega,h2⟩;rw [y7 (by omega)];show Value.slice (some ((⟨g,o,none⟩:Addr).add ((1:Int).toNat*21))) _ _=_;rw [Addr.add_lit,show (1:Int).toNat*21=21 from rfl,show (((n+1:Nat):Int)-1).toNat=n by omega,show ((cap:Int)-1).toNat=cap-1 by omega]
theorem C4y (lost:List Bool) (k:Nat) (a b:Lk) (u:Wd) (r:List Wd) (st:Nat):C4K lost (k+1) a b (u::r) st=if st+1<=lost.length/\lost.getD st false=true then C4K lost k a b r (st+1) else if u.to=1 then C4K lost k (B9Y a u 2).1 b (r++(B9Y a u 2).2) (st+1) else if u.to=2 then C4K lost k a (B9Y b u 2).1 (r++(B9Y b u 2).2) (st+1) else C4K lost k a b r (st+1):=rfl
theorem C4k {T sz n:Nat} {xs:List Value} {v v':Value} {c:LB} (e:v=v') (h:Que T sz n xs v' c):Que T sz n xs v c:=e▸h
theorem C45 (ga gb:Lg) {G:List D} {na nb:Nat} {Ha Hb:Sh} (hT:Two G na nb Ha Hb) (dn:List Wd) (hdn:dn.length<=800000) (q:List Wd) (hq:∀ u∈q,Wq G nb u) (hql:q.length<=1000) (gs st:Nat) (hst:st<=1000000) (A:Option Addr) (c:Nat) (css:List (List Value)) (Lo:Option Addr) (lost:List Bool) (cl:Nat) (Sx:Nat->Prop) (w:World) (hlt:∀ x,Sx x->x<w.heap.size) (he:EnvFree Sx w)
  (hK:RunK ga gb gs st A q.length c css.flatten (A2 Ha dn) (B2 Hb) Sx w) (Sv:Nat->Prop) (hvd:∀ y,Sv y->y<w.heap.size/\¬ Sx y) (hW:WsR q css Sv w) (hLo:Row Sv w Lo lost.length cl (lost.map fun b=>[Value.bool b]).flatten) (R:Lk × Lk × Nat) (hR:C4K lost 80 (A2 Ha dn) (B2 Hb) q st=R):
  Calls Tryz.prog 19 #[.pointer (some ⟨ga.gl,0,none⟩),.pointer (some ⟨gb.gl,0,none⟩),.slice A q.length c,.slice Lo lost.length cl,.pointer (some ⟨gs,0,none⟩)] w (RetOb Sx w (.tuple #[]) (EndK ga gb gs R.2.2 R.1 R.2.1)):=by
 have hmL:=D4 hLo;have hc:=CtxF.enterO hlt hK (RunK.stab _ _ _ _ _ _ _ _ _ _);obtain⟨S1,hc⟩:=CtxF.pullH hc y8 (Sep.stab Stab.true (OwnK.stab _ _ _ _ _ _)) (Sep.stab yg yg);obtain⟨S2,hc⟩:=CtxF.pull hc y8 Stab.true (Sep.stab yg yg);have hc:CtxF no (bare w) S2 w [(gs,3,[.int .i64 (st:Int)])] [orW q A c css] (Sep 0 (Sep 0 (Kq w Sx Lo lost cl q css) (LinkK gb (B2 Hb))) (LinkK ga (A2 Ha dn))):=hc.now (fun h=>(Sep.inner h).mono (fun _ h=>h.mono (fun S h=>by have hk:=h.left y8;exact⟨⟨hk,Keep.of hk A2F hLo hvd⟩,Keep.of hk (WsR.stab _ _) hW hvd⟩) fun _ h=>h) fun _ h=>h) (Sep.stab (Sep.stab yi yg) yg);refine vE Tryz.func19 ?_;cases A with
 | none=>
  have hn:q.length=0:=by
   rcases hc.fst.row.2 with ⟨_,h⟩ | ⟨g,cp,cur,h,_⟩
   ·exact h
   ·cases h
  have hqn:q=[]:=zn hn;rw [hqn,C4O] at hR;subst hR;refine⟨Unit,fun _=>[(2,.slice none q.length c),(10,.int .i64 0)],fun _ w'=>∃ S,CtxF no (bare w) S w' [(gs,3,[.int .i64 (st:Int)])] [orW q none c css] (Sep 0 (Sep 0 (Kq w Sx Lo lost cl q css) (LinkK gb (B2 Hb))) (LinkK ga (A2 Ha dn))),fun _ _=>0,(),⟨rfl,rfl,trivial⟩,⟨_,hc⟩,?_⟩;clear hc;rintro⟨⟩ w1 u1 ⟨S,hc⟩;refine df (by rw [hn];decide) ?_;exact C4a hc
 | some ad=>
 obtain⟨g,cur,e0,hcO,hcl,hct,hnc,hcm⟩:=hc.opened rfl;clear hc;cases e0;have hc:=hcO;clear hcO;refine⟨RS,fun r=>[(0,.pointer (some ⟨ga.gl,0,none⟩)),(1,.pointer (some ⟨gb.gl,0,none⟩)),(2,.slice (some ⟨r.g,r.o,none⟩) r.q.length r.cap),(3,.slice Lo lost.length cl),(4,.pointer (some ⟨gs,0,none⟩)),(10,.int .i64 (r.k:Int))],
  fun r w'=>r.k<=80/\Two G r.na r.nb r.Ha r.Hb/\(∀ u∈r.q,Wq G r.nb u)/\r.dn.length<=dn.length+r.k/\r.st<=st+r.k/\r.q.length<=1000+9*r.k/\C4K lost (80-r.k) (A2 r.Ha r.dn) (B2 r.Hb) r.q r.st=R/\∃ css S,(r.o+r.cap*21<=r.cur.length/\r.q.length<=r.cap/\r.cap<=maxLen/\(r.cur.drop r.o).take (r.q.length*21)=css.flatten)/\CtxF no (bare w) S w' [(r.g,43,r.cur),(gs,3,[.int .i64 (r.st:Int)])] [] (Sep 0 (Sep 0 (Kq w Sx Lo lost cl r.q css) (LinkK gb (B2 r.Hb))) (LinkK ga (A2 r.Ha r.dn))),
  fun r _=>80-r.k,⟨0,na,nb,Ha,Hb,dn,q,st,g,0,c,cur⟩,⟨rfl,rfl,rfl,rfl,rfl,rfl,trivial⟩,⟨zb _,hT,hq,zc _,zc _,by show q.length<=1000+9*0;omega,hR,css,_,⟨by show 0+c*21<=cur.length;omega,hnc,hcm,hct⟩,hc⟩,?_⟩
 clear hc hK hR hct hcl hnc hcm hT hq hW hql;rintro⟨k,na,nb,Ha,Hb,dn1,q,st',g,o,cap,cur⟩ w1 u1 ⟨hk,hT,hq,hdn1,hst1,hql,hR,css,S,⟨hcl,hnc,hcm,hct⟩,hc⟩;dsimp only at hk hT hq hdn1 hst1 hql hR hcl hnc hcm hct hc;cases q with
 | nil=>
  rw [C4O] at hR;subst hR;exact C4a hc.drop
 | cons u r=>
 refine dt (by show (0:Int)<((r.length+1:Nat):Int);omega) ?_;by_cases h80:k<80;rotate_left
 ·refine df (by show ¬ (k:Int)<80;omega) ?_;have e:80-k=0:=by omega
  rw [e] at hR;have hR:(A2 Ha dn1,B2 Hb,st')=R:=hR;subst hR;exact C4a hc.drop
 refine dt (by show (k:Int)<80;omega) ?_;obtain⟨_,_,_,_,⟨Sq,_,_,_,hQ,_⟩,_⟩:=hc.row;obtain⟨xu,t,ecss,hWu,hWr⟩:=hQ.2;subst ecss;have htl:t.length=r.length:=hWr.len;have hFt:=hWr.flat;clear hQ hWu hWr;have hc:=hc.now2 (Q':=fun S w'=>Kq w Sx Lo lost cl r t S w'/\WdR u xu S w') (yi.and yb) yg yg (fun S h=>by obtain⟨x',t',e',k1,k2⟩:=h.2;obtain⟨e3,e4⟩:=List.cons.inj e';rw [e4];exact⟨⟨h.1,k2⟩,by rw [B5p e3];exact k1⟩);have hlu:(u::r).length=r.length+1:=rfl;rw [hlu] at hct hnc;have hux:(wdC u xu).length=21:=rfl;obtain⟨hc21,_⟩:=C4x hux hct;obtain⟨o2,e9,f1,f2,f3,f4⟩:=C44 (g:=g) hux htl hcl hnc hcm hct hFt;have hu0:=hq u (zu ..);have hqr:∀ v∈r,Wq G nb v:=fun v hv=>hq v (zt _ hv);rw [hlu] at hql;rw [show 80-k=(80-(k+1))+1 by omega,C4y] at hR;refine⟨⟨by decide,by show (0:Int)<((r.length+1:Nat):Int);omega⟩,?_⟩;refine⟨wdC u xu,rfl,by show Go.Vc.cellsAt w1 ((⟨g,o,none⟩:Addr).add ((0:Int).toNat*21)) (wdC u xu) 0;rw [Addr.add_lit];exact hc.cellsAt 0 rfl o (wdC u xu) hc21,?_⟩;refine hc.n fun g11 wg11 hg11 hc=>?_;rw [C05] at hc;refine hc.s 0 rfl fun wS hS hc=>?_;have hc:=I9 hc (l':=[(g11,43,wdC u xu),(g,43,cur),(gs,3,[.int .i64 (st':Int)])]) (by kernel_rfl);refine⟨⟨by show (0:Int)<=1;decide,by show (1:Int)<=((r.length+1:Nat):Int);omega,by show ((r.length+1:Nat):Int)<=(cap:Int);omega,by show (cap:Int)<=(cap:Int);omega⟩,?_⟩;refine hc.c 2 rfl rfl ?_;refine hc.s 2 rfl fun wS hS hc=>?_;have hc:=I9 hc (l':=[(g11,43,wdC u xu),(g,43,cur),(gs,3,[.int .i64 (IntKind.i64.wrap ((st':Int)+1))])]) (by kernel_rfl);rw [C3 (n:=st') (by omega)] at hc;refine hc.c 2 rfl rfl ?_;by_cases hle:st'+1<=lost.length
 ·refine dt (by omega) ?_;refine hc.c 2 rfl rfl ?_;obtain⟨adL,hAL,hcL⟩:=RowBl.elem (Keep.of (S1:=fun _=>True) (fun x hx hg=>⟨trivial,by obtain⟨_,_,_,_,⟨Sq,_,_,_,hQ,_⟩,_⟩:=hc.row;exact (hQ.1.1.1 x hx hg).2⟩) A2F hLo hvd) st' (by omega);subst hAL;have ew:IntKind.i64.wrap (((st'+1:Nat):Int)-1)=(st':Int):=by rw [show (((st'+1:Nat):Int)-1)=(st':Int) by omega];exact IntWalk.i64_in _ ⟨by omega,by omega⟩
  refine⟨⟨by rw [ew];omega,by rw [ew];omega⟩,?_⟩;refine⟨_,by rw [ew,show adL.add ((st':Int).toNat*1)=adL.add (st'*1) from rfl];exact hcL.1,?_⟩;have hgd:lost.getD st' false=lost[st']:=by rw [List.getD_eq_getElem?_getD,List.getElem?_eq_getElem (show st'<lost.length by omega)];rfl
  by_cases hb:lost[st']=true
  ·refine B0 hb ?_;rw [y6 ⟨hle,hgd.trans hb⟩] at hR;exact⟨⟨k+1,na,nb,Ha,Hb,dn1,r,st'+1,g,o2,cap-1,cur⟩,⟨rfl,rfl,e9,rfl,rfl,y5 _ (C3 (n:=k) (by omega)),trivial⟩,⟨by show k+1<=80;omega,hT,hqr,by show dn1.length<=dn.length+(k+1);omega,by show st'+1<=st+(k+1);omega,by show r.length<=1000+9*(k+1);omega,hR,t,_,⟨f1,f2,f3,f4⟩,(hc.drop).now2 yi yg yg (fun S h=>h.1)⟩,by show 80-(k+1)<80-k;omega⟩
  ·refine C3X (Bool.eq_false_iff.2 hb) ?_;have hnl:¬ (st'+1<=lost.length/\lost.getD st' false=true):=(fun h=>hb (hgd.symm.trans h.2));rw [y7 hnl] at hR;refine hc.c 0 rfl rfl ?_;by_cases h1:u.to=1
   ·refine B0 (by show (u.to==1)=true;rw [h1];rfl) ?_;rw [y6 h1] at hR;obtain⟨na2,Ha2,dn2,ws,e2,hT2,hd2,hwl,hws⟩:=C4t hT dn1 hu0 h1;have hear:=C49 ga hT (dn:=dn1) (by omega) hu0 h1 xu;rw [e2] at hR hear;refine⟨wdC u xu,rfl,hc.cells 0 rfl,?_⟩;have hc:=hc.drop;refine⟨(hc.heard2 (yi.and yb) yg (fun S w' h=>h.1.1.1) he (L':=A2 Ha2 dn2) (ws:=ws) (fun Sy S1 hlt he hK hvd hr=>hear Sy _ hlt he hK S1 hvd hr.2)).mono fun en wq9 hq9=>?_⟩;obtain⟨A9,c9,css9,S9,e1,hc⟩:=hq9;refine⟨_,e1,?_⟩;obtain⟨S8,hrow9⟩:=W7 hc;have hW9:∃ S,WsR ws css9 S wq9:=by obtain⟨_,_,_,_,⟨Sq,_,_,_,hQ,_⟩,_⟩:=hc.row;exact⟨Sq,hQ.2⟩
    obtain⟨SW,hW9⟩:=hW9;have hl9:=hW9.len;refine C4Z Tryz.underlying32 B9Z rfl (by decide) hc (C4k e9 ⟨g,o2,cap-1,cur,rfl,rfl,f1,f2,f3,f4,by rw [hFt.len,htl]⟩) hrow9 (by rw [hW9.flat.len,hl9]) hW9.flat.ones (by omega) (by decide) ?_;intro v2 x2 w2 hc hQ2;obtain⟨g2,o3,cap2,cur2,rfl,rfl,i1,i2,i3,i4,i5⟩:=hQ2;exact⟨⟨k+1,na2,nb,Ha2,Hb,dn2,r++ws,st'+1,g2,o3,cap2,cur2⟩,⟨rfl,rfl,(show Value.slice (some ⟨g2,o3,none⟩) (r.length+ws.length) cap2=.slice (some ⟨g2,o3,none⟩) (r++ws).length cap2 by rw [z6]),rfl,rfl,y5 _ (C3 (n:=k) (by omega)),trivial⟩,⟨by show k+1<=80;omega,hT2,(fun v hv=>(List.mem_append.1 hv).elim (hqr v) (hws v)),by show dn2.length<=dn.length+(k+1);omega,by show st'+1<=st+(k+1);omega,by show (r++ws).length<=1000+9*(k+1);rw [z6];omega,hR,t++css9,_,⟨i1,by show (r++ws).length<=cap2;rw [z6];exact i2,i3,by show (cur2.drop o3).take ((r++ws).length*21)=_;rw [z6,zr];exact i4⟩,hc.rest.now2 yi yg yg (fun S h=>⟨h.1.1.1,h.1.1.2.append h.2⟩)⟩,by show 80-(k+1)<80-k;omega⟩
   refine C3X (by show (u.to==1)=false;rw [y4];exact h1) ?_;rw [y7 h1] at hR;refine hc.c 0 rfl rfl ?_;by_cases h2:u.to=2
   ·refine B0 (by show (u.to==2)=true;rw [h2];rfl) ?_;rw [y6 h2] at hR;obtain⟨nb2,Hb2,ws,e2,hT2,hle2,hwl,hws⟩:=C4u hT hu0 h2;have hear:=C5A gb hT hu0 h2 xu;rw [e2] at hR hear;refine⟨wdC u xu,rfl,hc.cells 0 rfl,?_⟩;have hc:=hc.drop.swap2 (yi.and yb) yg yg;refine⟨(hc.heard2 (yi.and yb) yg (fun S w' h=>h.1.1.1) he (L':=B2 Hb2) (ws:=ws) (fun Sy S1 hlt he hK hvd hr=>hear Sy _ hlt he hK S1 hvd hr.2)).mono fun en wq9 hq9=>?_⟩;obtain⟨A9,c9,css9,S9,e1,hc⟩:=hq9;refine⟨_,e1,?_⟩;obtain⟨S8,hrow9⟩:=W7 hc;have hW9:∃ S,WsR ws css9 S wq9:=by obtain⟨_,_,_,_,⟨Sq,_,_,_,hQ,_⟩,_⟩:=hc.row;exact⟨Sq,hQ.2⟩
    obtain⟨SW,hW9⟩:=hW9;have hl9:=hW9.len;refine C4Z Tryz.underlying32 B9Z rfl (by decide) hc (C4k e9 ⟨g,o2,cap-1,cur,rfl,rfl,f1,f2,f3,f4,by rw [hFt.len,htl]⟩) hrow9 (by rw [hW9.flat.len,hl9]) hW9.flat.ones (by omega) (by decide) ?_;intro v2 x2 w2 hc hQ2;obtain⟨g2,o3,cap2,cur2,rfl,rfl,i1,i2,i3,i4,i5⟩:=hQ2;exact⟨⟨k+1,na,nb2,Ha,Hb2,dn1,r++ws,st'+1,g2,o3,cap2,cur2⟩,⟨rfl,rfl,(show Value.slice (some ⟨g2,o3,none⟩) (r.length+ws.length) cap2=.slice (some ⟨g2,o3,none⟩) (r++ws).length cap2 by rw [z6]),rfl,rfl,y5 _ (C3 (n:=k) (by omega)),trivial⟩,⟨by show k+1<=80;omega,hT2,(fun v hv=>(List.mem_append.1 hv).elim (fun h=>(hqr v h).mono ⟨[],(zw _).symm⟩ hle2) (hws v)),by show dn1.length<=dn.length+(k+1);omega,by show st'+1<=st+(k+1);omega,by show (r++ws).length<=1000+9*(k+1);rw [z6];omega,hR,t++css9,_,⟨i1,by show (r++ws).length<=cap2;rw [z6];exact i2,i3,by show (cur2.drop o3).take ((r++ws).length*21)=_;rw [z6,zr];exact i4⟩,(hc.rest.swap2 ((yi.and yb).and (WsR.stab _ _)) yg yg).now2 yi yg yg (fun S h=>⟨h.1.1.1,h.1.1.2.append h.2⟩)⟩,by show 80-(k+1)<80-k;omega⟩
   refine C3X (by show (u.to==2)=false;rw [y4];exact h2) ?_;rw [y7 h2] at hR;exact⟨⟨k+1,na,nb,Ha,Hb,dn1,r,st'+1,g,o2,cap-1,cur⟩,⟨rfl,rfl,e9,rfl,rfl,y5 _ (C3 (n:=k) (by omega)),trivial⟩,⟨by show k+1<=80;omega,hT,hqr,by show dn1.length<=dn.length+(k+1);omega,by show st'+1<=st+(k+1);omega,by show r.length<=1000+9*(k+1);omega,hR,t,_,⟨f1,f2,f3,f4⟩,(hc.drop).now2 yi yg yg (fun S h=>h.1)⟩,by show 80-(k+1)<80-k;omega⟩
 ·refine df (by omega) ?_;have hnl:¬ (st'+1<=lost.length/\lost.getD st' false=true):=(fun h=>hle h.1);rw [y7 hnl] at hR;refine hc.c 0 rfl rfl ?_;by_cases h1:u.to=1
  ·refine B0 (by show (u.to==1)=true;rw [h1];rfl) ?_;rw [y6 h1] at hR;obtain⟨na2,Ha2,dn2,ws,e2,hT2,hd2,hwl,hws⟩:=C4t hT dn1 hu0 h1;have hear:=C49 ga hT (dn:=dn1) (by omega) hu0 h1 xu;rw [e2] at hR hear;refine⟨wdC u xu,rfl,hc.cells 0 rfl,?_⟩;have hc:=hc.drop;refine⟨(hc.heard2 (yi.and yb) yg (fun S w' h=>h.1.1.1) he (L':=A2 Ha2 dn2) (ws:=ws) (fun Sy S1 hlt he hK hvd hr=>hear Sy _ hlt he hK S1 hvd hr.2)).mono fun en wq9 hq9=>?_⟩;obtain⟨A9,c9,css9,S9,e1,hc⟩:=hq9;refine⟨_,e1,?_⟩;obtain⟨S8,hrow9⟩:=W7 hc;have hW9:∃ S,WsR ws css9 S wq9:=by obtain⟨_,_,_,_,⟨Sq,_,_,_,hQ,_⟩,_⟩:=hc.row;exact⟨Sq,hQ.2⟩
   obtain⟨SW,hW9⟩:=hW9;have hl9:=hW9.len;refine C4Z Tryz.underlying32 B9Z rfl (by decide) hc (C4k e9 ⟨g,o2,cap-1,cur,rfl,rfl,f1,f2,f3,f4,by rw [hFt.len,htl]⟩) hrow9 (by rw [hW9.flat.len,hl9]) hW9.flat.ones (by omega) (by decide) ?_;intro v2 x2 w2 hc hQ2;obtain⟨g2,o3,cap2,cur2,rfl,rfl,i1,i2,i3,i4,i5⟩:=hQ2;exact⟨⟨k+1,na2,nb,Ha2,Hb,dn2,r++ws,st'+1,g2,o3,cap2,cur2⟩,⟨rfl,rfl,(show Value.slice (some ⟨g2,o3,none⟩) (r.length+ws.length) cap2=.slice (some ⟨g2,o3,none⟩) (r++ws).length cap2 by rw [z6]),rfl,rfl,y5 _ (C3 (n:=k) (by omega)),trivial⟩,⟨by show k+1<=80;omega,hT2,(fun v hv=>(List.mem_append.1 hv).elim (hqr v) (hws v)),by show dn2.length<=dn.length+(k+1);omega,by show st'+1<=st+(k+1);omega,by show (r++ws).length<=1000+9*(k+1);rw [z6];omega,hR,t++css9,_,⟨i1,by show (r++ws).length<=cap2;rw [z6];exact i2,i3,by show (cur2.drop o3).take ((r++ws).length*21)=_;rw [z6,zr];exact i4⟩,hc.rest.now2 yi yg yg (fun S h=>⟨h.1.1.1,h.1.1.2.append h.2⟩)⟩,by show 80-(k+1)<80-k;omega⟩
  refine C3X (by show (u.to==1)=false;rw [y4];exact h1) ?_;rw [y7 h1] at hR;refine hc.c 0 rfl rfl ?_;by_cases h2:u.to=2
  ·refine B0 (by show (u.to==2)=true;rw [h2];rfl) ?_;rw [y6 h2] at hR;obtain⟨nb2,Hb2,ws,e2,hT2,hle2,hwl,hws⟩:=C4u hT hu0 h2;have hear:=C5A gb hT hu0 h2 xu;rw [e2] at hR hear;refine⟨wdC u xu,rfl,hc.cells 0 rfl,?_⟩;have hc:=hc.drop.swap2 (yi.and yb) yg yg;refine⟨(hc.heard2 (yi.and yb) yg (fun S w' h=>h.1.1.1) he (L':=B2 Hb2) (ws:=ws) (fun Sy S1 hlt he hK hvd hr=>hear Sy _ hlt he hK S1 hvd hr.2)).mono fun en wq9 hq9=>?_⟩;obtain⟨A9,c9,css9,S9,e1,hc⟩:=hq9;refine⟨_,e1,?_⟩;obtain⟨S8,hrow9⟩:=W7 hc;have hW9:∃ S,WsR ws css9 S wq9:=by obtain⟨_,_,_,_,⟨Sq,_,_,_,hQ,_⟩,_⟩:=hc.row;exact⟨Sq,hQ.2⟩
   obtain⟨SW,hW9⟩:=hW9;have hl9:=hW9.len;refine C4Z Tryz.underlying32 B9Z rfl (by decide) hc (C4k e9 ⟨g,o2,cap-1,cur,rfl,rfl,f1,f2,f3,f4,by rw [hFt.len,htl]⟩) hrow9 (by rw [hW9.flat.len,hl9]) hW9.flat.ones (by omega) (by decide) ?_;intro v2 x2 w2 hc hQ2;obtain⟨g2,o3,cap2,cur2,rfl,rfl,i1,i2,i3,i4,i5⟩:=hQ2;exact⟨⟨k+1,na,nb2,Ha,Hb2,dn1,r++ws,st'+1,g2,o3,cap2,cur2⟩,⟨rfl,rfl,(show Value.slice (some ⟨g2,o3,none⟩) (r.length+ws.length) cap2=.slice (some ⟨g2,o3,none⟩) (r++ws).length cap2 by rw [z6]),rfl,rfl,y5 _ (C3 (n:=k) (by omega)),trivial⟩,⟨by show k+1<=80;omega,hT2,(fun v hv=>(List.mem_append.1 hv).elim (fun h=>(hqr v h).mono ⟨[],(zw _).symm⟩ hle2) (hws v)),by show dn1.length<=dn.length+(k+1);omega,by show st'+1<=st+(k+1);omega,by show (r++ws).length<=1000+9*(k+1);rw [z6];omega,hR,t++css9,_,⟨i1,by show (r++ws).length<=cap2;rw [z6];exact i2,i3,by show (cur2.drop o3).take ((r++ws).length*21)=_;rw [z6,zr];exact i4⟩,(hc.rest.swap2 ((yi.and yb).and (WsR.stab _ _)) yg yg).now2 yi yg yg (fun S h=>⟨h.1.1.1,h.1.1.2.append h.2⟩)⟩,by show 80-(k+1)<80-k;omega⟩
  refine C3X (by show (u.to==2)=false;rw [y4];exact h2) ?_;rw [y7 h2] at hR;exact⟨⟨k+1,na,nb,Ha,Hb,dn1,r,st'+1,g,o2,cap-1,cur⟩,⟨rfl,rfl,e9,rfl,rfl,y5 _ (C3 (n:=k) (by omega)),trivial⟩,⟨by show k+1<=80;omega,hT,hqr,by show dn1.length<=dn.length+(k+1);omega,by show st'+1<=st+(k+1);omega,by show r.length<=1000+9*(k+1);omega,hR,t,_,⟨f1,f2,f3,f4⟩,(hc.drop).now2 yi yg yg (fun S h=>h.1)⟩,by show 80-(k+1)<80-k;omega⟩
end Go.Proofs.YtefdfaeieekioaaGreatDoor
end
section
namespace Go.Proofs.YtefdfaeieekioaaGreatDoor
open Go.Vc Go.RowKit Go.Fl Go.ChangeShapes Go.WideShapes Go.ChangeAt
open Go.Vc (Sep)
theorem C46:∃ H,Fit H 2/\H.k=⟨A4z,[],1,0⟩/\B9Y (lk 1 (H0 1048576) Ros0 0 []) (O2 1 (R2 1) 6) 0=(A2 H [],[]):=by obtain⟨H,k,f,s⟩:=B1K (id:=1) (r0:=Ros0) (til0:=0) (now:=0) (dn:=[]) (til:=6) (r:=R2 1) Fit.h0 (by decide) (by decide) (B9p (by decide)) (by show (1:Int)∈[(1:Int),2];decide) C1B (by decide) (by show (0:Int)<1;decide);exact⟨H,f.mono (by decide),k,s⟩
theorem C47:∃ H,Fit H 2/\H.k=⟨A4z,[],1,0⟩/\B9Y (lk 2 (H0 1048576) Ros0 0 []) (O2 2 (R2 1) 6) 0=(B2 H,[]):=by
 obtain⟨H1,_,k1,f1,s1⟩:=B3T (id:=2) (r0:=Ros0) (til0:=0) (now:=0) (dn:=[]) (til:=6) (r:=R2 1) Fit.h0 (by decide) (by decide) (B9p (by decide)) (by show (2:Int)∈[(1:Int),2];decide) (by decide) (by show (0:Int)<1;decide);have k1:H1.k=⟨A4z,[],1,0⟩:=k1;rw [y6 ⟨C4h f1 (by rw [k1]) (by decide),C4S H1⟩] at s1;have hs:H1.k.seq=0:=by rw [k1];rfl
 have hb:H1.k.b.seq=0:=by rw [k1];rfl
 have hp:H1.k.pend=[]:=by rw [k1]
 obtain⟨H2,k2,f2,c2,_⟩:=A6X (id:=2) (r:=R2 1) (til:=6) (dn:=[]) f1 (by decide) (m:=0) (by unfold B3;decide) (by rw [hs];exact Int.le_refl _);rw [hb,k1] at k2;refine⟨H2,f2,k2,?_⟩;rw [s1];unfold K6;have e1:F8 (lk 2 H1 (R2 1) 6 []) (lk 2 H1 (R2 1) 6 []).k.seq=lk 2 H2 (R2 1) 6 []:=by show F8 (lk 2 H1 (R2 1) 6 []) H1.k.seq=_;rw [hs];exact c2
 have e2:(lk 2 H1 (R2 1) 6 []).k.pend=[]:=hp;rw [e1,e2];rfl
theorem C4z {Ha Hb:Sh} (fa:Fit Ha 2) (fb:Fit Hb 2) (ka:Ha.k=⟨A4z,[],1,0⟩) (kb:Hb.k=⟨A4z,[],1,0⟩):Two [] 0 0 Ha Hb:=
 ⟨⟨zb _,fun d hd=>by cases hd⟩,zc _,zc _,fa,fb,ka,kb⟩
theorem C4c {G:List D} {na nb:Nat} {Ha Hb:Sh} (h:Two G na nb Ha Hb) (dn:List Wd):(∀ u∈B9t (A2 Ha dn) 2++B9t (B2 Hb) 2,Wq G nb u)/\(B9t (A2 Ha dn) 2).length<=2/\(B9t (B2 Hb) 2).length<=2:=by
 rw [C4v h dn,C4w h];refine⟨fun u hu=>?_,?_,zc _⟩
 ·rcases List.mem_append.1 hu with hu | hu
  ·rcases List.mem_append.1 hu with hu | hu
   ·rw [List.mem_singleton.1 hu];exact .beat 1
   ·split at hu
    ·rw [List.mem_singleton.1 hu];refine .pass na _ ?_ ?_
     ·rw [zf,zg];omega
     ·exact (List.take_eq_take_iff.2 (by rw [zf,zg];omega))
    ·cases hu
  ·rcases List.mem_cons.1 hu with rfl | hu
   ·exact .beat 2
   ·rw [List.mem_singleton.1 hu];exact .ack nb (zc _)
 ·split<;>exact nle rfl
theorem C5B {G:List D} {na nb:Nat} {Ha Hb:Sh} (h:Two G na nb Ha Hb) (ha:na=nb):eqS Ha.k.b Hb.k.b=true:=by subst ha;rw [h.ka,h.kb];exact C3a.2 rfl
theorem C4d {G:List D} {na nb:Nat} {Ha Hb:Sh} (h:Two G na nb Ha Hb) (dn:List Wd) (ha:na=G.length):readyL (A2 Ha dn) ⟨#[]⟩ 3=true/\readyL (B2 Hb) ⟨#[]⟩ 3=true:=by
 have e1:(A2 Ha dn).k.pend=[]:=h.sa.2.2.1.trans (zq (Nat.le_of_eq ha.symm));have e2:(B2 Hb).k.pend=[]:=h.sb.2.2.1;constructor
 ·unfold readyL;rw [C4g h.fa h.sa.2.2.2 (by decide),e1];rfl
 ·unfold readyL;rw [C4h h.fb h.sb.2.2.2 (by decide),e2];rfl
section
variable {w0 w:World} {S:Nat->Prop} {l:List LB} {os:List OR} {o:OR} {Q X O:Kn} {ga gb:Lg}
theorem _root_.Go.Vc.CtxF.toldQ (hc:CtxF no (bare w0) S w l (o::os) (Sep 0 (Sep 0 Q X) O)) (sQ:Stab Q) (sX:Stab X) (sO:Stab O):∃ S',CtxF no (bare w0) S' w l os (Sep 0 (Sep 0 (fun S w=>Q S w/\Row S w o.A o.n o.cap o.xs) X) O):=by obtain⟨S',h⟩:=hc.toldR sQ sX sO;exact⟨S',h.now (fun h=>h.mono (fun S h=>(Sep.inner h).mono (fun S h=>⟨h.left sQ,h.right A2F⟩) fun _ h=>h) fun _ h=>h) (Sep.stab (Sep.stab (sQ.and A2F) sX) sO)⟩
theorem _root_.Go.Vc.CtxF.envNow {R:Kn} (hc:CtxF no (bare w0) S w l os R) (he:EnvFree no w0) (h:R S w->Keep w0 no S w):Env w:=
 (he.kept (G':=no) fun x hx _=>⟨id,(h hc.row x hx id).2⟩).1
theorem Keep.below {R:Kn} (hc:CtxF no (bare w0) S w l os R) (h:R S w->Keep w0 no S w):Below w0.heap.size w0 w:=by
 have hT:=hc.leave (h hc.row);refine⟨hT.os,hT.tape,hT.output,?_,fun x hx=>hT.block x hx id⟩;rcases Nat.eq_zero_or_pos w0.heap.size with h0 | h0
 ·omega
 ·have:=heap_lt (hT.block (w0.heap.size-1) (by omega) id) (by omega);omega
theorem _root_.Go.Vc.CtxF.ran {gs st:Nat} {q:List Wd} {A:Option Addr} {c:Nat} {css:List (List Value)} {G:List D} {na nb:Nat} {Ha Hb:Sh} {dn:List Wd} {Lo:Option Addr} {lost:List Bool} {cl:Nat} {R:Lk × Lk × Nat}
  (hc:CtxF no (bare w0) S w [(gs,3,[.int .i64 (st:Int)])] [orW q A c css] (Sep 0 (Sep 0 (fun S w=>Keep w0 no S w/\WsR q css S w) (LinkK gb (B2 Hb))) (LinkK ga (A2 Ha dn)))) (he:EnvFree no w0)
  (hT:Two G na nb Ha Hb) (hdn:dn.length<=800000) (hq:∀ u∈q,Wq G nb u) (hql:q.length<=1000) (hst:st<=1000000) (hLo:∀ S,Keep w0 no S w->Row S w Lo lost.length cl (lost.map fun b=>[Value.bool b]).flatten) (hR:C4K lost 80 (A2 Ha dn) (B2 Hb) q st=R):
  Calls Tryz.prog 19 #[.pointer (some ⟨ga.gl,0,none⟩),.pointer (some ⟨gb.gl,0,none⟩),.slice A q.length c,.slice Lo lost.length cl,.pointer (some ⟨gs,0,none⟩)] w (fun en w'=>en=.returned (.tuple #[])/\∃ S',CtxF no (bare w0) S' w' [(gs,3,[.int .i64 (R.2.2:Int)])] [] (Sep 0 (Sep 0 (Keep w0 no) (LinkK gb R.2.1)) (LinkK ga R.1))):=by
 have sQ:Stab (fun S w=>Keep w0 no S w/\WsR q css S w):=y8.and (WsR.stab _ _);have hc:=hc.now (X:=Sep 0 (Sep 0 (fun S w=>Keep w0 no S w/\WsR q css S w) (fun _ _=>True)) (Sep 0 (LinkK gb (B2 Hb)) (LinkK ga (A2 Ha dn)))) (fun h=>(Sep.outer h).mono (fun S h=>⟨S,no,fun x hx=>⟨hx,id⟩,fun x hx=>hx.elim,h,trivial⟩) fun _ h=>h) (Sep.stab (Sep.stab sQ Stab.true) (Sep.stab yg yg));obtain⟨S2,hc⟩:=CtxF.push hc sQ Stab.true (Sep.stab yg yg);obtain⟨S3,hc⟩:=CtxF.pushH hc sQ (Sep.stab Stab.true (OwnK.stab _ _ _ _ _ _)) (Sep.stab yg yg);obtain⟨S1,Sa,h1,h2,hQ,hO⟩:=hc.row;have hvd:∀ y,S1 y->y<w.heap.size/\¬ Sa y:=fun y hy=>⟨hc.ctx.lt y (h1 y hy).1,(h1 y hy).2⟩;refine (C45 ga gb hT dn hdn q hq hql gs st hst A c css Lo lost cl Sa w (fun x hx=>hc.ctx.lt x (h2 x hx).1) (he.kept fun x hx hg=>⟨fun h=>(h1 x (hQ.1 x hx hg).1).2 h,(hQ.1 x hx hg).2⟩) hO S1 hvd hQ.2 (hLo _ hQ.1) R hR).mono fun en wq hq=>?_;obtain⟨e,hT2,Sn,hSn,hO2⟩:=hq;have hc:=CtxF.turnO (w0:=bare w0) hc sQ h1 h2 hQ hT2 hSn hO2 (EndK.stab _ _ _ _ _ _);obtain⟨S4,hc⟩:=CtxF.pullH hc sQ Stab.true (Sep.stab yg yg);exact⟨e,_,hc.now (fun h=>(Sep.inner h).mono (fun S h=>h.mono (fun S h=>(h.left sQ).1) fun _ h=>h) fun _ h=>h) (Sep.stab (Sep.stab y8 yg) yg)⟩
end
end Go.Proofs.YtefdfaeieekioaaGreatDoor
end
