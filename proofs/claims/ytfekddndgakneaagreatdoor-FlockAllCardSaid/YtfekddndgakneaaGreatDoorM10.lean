import Derived.Test.YtfekddndgakneaaGreatDoorM09
set_option maxRecDepth 100000
set_option maxHeartbeats 40000000
set_option linter.unusedVariables false
set_option linter.unusedSimpArgs false
namespace Go.Proofs.YtfekddndgakneaaGreatDoor
open Go.Vc Go.RowKit Go.Fl
theorem A3j {d:Nat} (h:d<16):hv (B7U d)=d:=by
 unfold hv
 rw [A19 d h]
 by_cases h1:d<10
 ·rw [if_pos h1,if_pos (by omega)]
  push_cast
  omega
 ·rw [if_neg h1,if_neg (by omega)]
  push_cast
  omega
theorem A4g {d:Nat} (h:d<16):N3 (B7U d)=true:=by
 unfold N3
 rw [A19 d h,Bool.or_eq_true,Bool.and_eq_true,Bool.and_eq_true]
 simp only [decide_eq_true_eq]
 by_cases h1:d<10
 ·rw [if_pos h1]
  omega
 ·rw [if_neg h1]
  omega
theorem A3k (a:Int) (q:Nat):(a / 2 ^ (12-4*q) % 16).toNat<16:=by omega
theorem A1m {a:Int} (h0:0<=a) (h1:a<65536):J0 (A7S a)=a:=by
 show (((0*16+hv (dig a 0))*16+hv (dig a 1))*16+hv (dig a 2))*16+hv (dig a 3)=a
 unfold dig
 rw [A3j (A3k a 0),A3j (A3k a 1),A3j (A3k a 2),A3j (A3k a 3)]
 have e0:(2:Int) ^ (12-4*0)=4096:=by decide
 have e1:(2:Int) ^ (12-4*1)=256:=by decide
 have e2:(2:Int) ^ (12-4*2)=16:=by decide
 have e3:(2:Int) ^ (12-4*3)=1:=by decide
 rw [e0,e1,e2,e3]
 omega
theorem A2I {z:Int × Int} (h:zOk z):R6 (V8 z)=(z,true):=by
 obtain⟨⟨a0,a1⟩,b0,b1⟩:=h
 have hp:pp (V8 z) 8=z:=by
  show (J0 (A7S z.1),J0 (A7S z.2))=z
  rw [A1m a0 (by omega),A1m b0 (by omega)]
 have hall:(V8 z).all N3=true:=by
  show ([dig z.1 0,dig z.1 1,dig z.1 2,dig z.1 3,dig z.2 0,dig z.2 1,dig z.2 2,dig z.2 3]:List UInt8).all N3=true
  unfold dig
  simp only [List.all_cons,List.all_nil,A4g (A3k _ _),Bool.and_true]
 unfold R6
 rw [hp,if_pos ⟨rfl,hall,a1,b1⟩]
theorem B77 {z:Int × Int} (h:zOk z) (k:Nat) (hk:k<8):(R6 ((V8 z).take k++List.replicate (8-k) 48)).2=true:=by
 obtain⟨⟨a0,a1⟩,b0,b1⟩:=h
 have key:∀ l:List UInt8,l.length=8->l.all N3=true->J0 ((l.take 8).take 4)<65521->J0 ((l.take 8).drop 4)<65521->(R6 l).2=true:=fun l h1 h2 h3 h4=>by
  unfold R6
  rw [if_pos ⟨h1,h2,h3,h4⟩]
 have ha:=A1m a0 (by omega)
 have hb:=A1m b0 (by omega)
 have ex:∀ a:Int,J0 (A7S a)=(((0*16+hv (dig a 0))*16+hv (dig a 1))*16+hv (dig a 2))*16+hv (dig a 3):=fun _=>rfl
 rw [ex] at ha hb
 have hd:∀ (a:Int) (q:Nat),0<=hv (dig a q)/\hv (dig a q)<16/\N3 (dig a q)=true:=fun a q=>by
  unfold dig
  rw [A3j (A3k a q)]
  have:=A3k a q
  exact⟨by omega,by omega,A4g this⟩
 have p0:=hd z.1 0
 have p1:=hd z.1 1
 have p2:=hd z.1 2
 have p3:=hd z.1 3
 have q0:=hd z.2 0
 have q1:=hd z.2 1
 have q2:=hd z.2 2
 have q3:=hd z.2 3
 have h48:hv 48=0:=by decide
 have x48:N3 48=true:=by decide
 have e:V8 z=[dig z.1 0,dig z.1 1,dig z.1 2,dig z.1 3,dig z.2 0,dig z.2 1,dig z.2 2,dig z.2 3]:=rfl
 rw [e]
 generalize dig z.1 0=c0 at*
 generalize dig z.1 1=c1 at*
 generalize dig z.1 2=c2 at*
 generalize dig z.1 3=c3 at*
 generalize dig z.2 0=c4 at*
 generalize dig z.2 1=c5 at*
 generalize dig z.2 2=c6 at*
 generalize dig z.2 3=c7 at*
 have hv4:∀ a b c d:UInt8,J0 [a,b,c,d]=(((0*16+hv a)*16+hv b)*16+hv c)*16+hv d:=fun _ _ _ _=>rfl
 rcases (by omega:k=0\/k=1\/k=2\/k=3\/k=4\/k=5\/k=6\/k=7) with rfl | rfl | rfl | rfl | rfl | rfl | rfl | rfl
 ·refine key [48,48,48,48,48,48,48,48] rfl (by simp [x48]) ?_ ?_
  ·show J0 [48,48,48,48]<65521
   rw [hv4];omega
  ·show J0 [48,48,48,48]<65521
   rw [hv4];omega
 ·refine key [c0,48,48,48,48,48,48,48] rfl (by simp [x48,p0.2.2]) ?_ ?_
  ·show J0 [c0,48,48,48]<65521
   rw [hv4];omega
  ·show J0 [48,48,48,48]<65521
   rw [hv4];omega
 ·refine key [c0,c1,48,48,48,48,48,48] rfl (by simp [x48,p0.2.2,p1.2.2]) ?_ ?_
  ·show J0 [c0,c1,48,48]<65521
   rw [hv4];omega
  ·show J0 [48,48,48,48]<65521
   rw [hv4];omega
 ·refine key [c0,c1,c2,48,48,48,48,48] rfl (by simp [x48,p0.2.2,p1.2.2,p2.2.2]) ?_ ?_
  ·show J0 [c0,c1,c2,48]<65521
   rw [hv4];omega
  ·show J0 [48,48,48,48]<65521
   rw [hv4];omega
 ·refine key [c0,c1,c2,c3,48,48,48,48] rfl (by simp [x48,p0.2.2,p1.2.2,p2.2.2,p3.2.2]) ?_ ?_
  ·show J0 [c0,c1,c2,c3]<65521
   rw [hv4];omega
  ·show J0 [48,48,48,48]<65521
   rw [hv4];omega
 ·refine key [c0,c1,c2,c3,c4,48,48,48] rfl (by simp [x48,p0.2.2,p1.2.2,p2.2.2,p3.2.2,q0.2.2]) ?_ ?_
  ·show J0 [c0,c1,c2,c3]<65521
   rw [hv4];omega
  ·show J0 [c4,48,48,48]<65521
   rw [hv4];omega
 ·refine key [c0,c1,c2,c3,c4,c5,48,48] rfl (by simp [x48,p0.2.2,p1.2.2,p2.2.2,p3.2.2,q0.2.2,q1.2.2]) ?_ ?_
  ·show J0 [c0,c1,c2,c3]<65521
   rw [hv4];omega
  ·show J0 [c4,c5,48,48]<65521
   rw [hv4];omega
 ·refine key [c0,c1,c2,c3,c4,c5,c6,48] rfl (by simp [x48,p0.2.2,p1.2.2,p2.2.2,p3.2.2,q0.2.2,q1.2.2,q2.2.2]) ?_ ?_
  ·show J0 [c0,c1,c2,c3]<65521
   rw [hv4];omega
  ·show J0 [c4,c5,c6,48]<65521
   rw [hv4];omega
def A0Y (t:List UInt8):ByteArray × Nat × Int:=
 if A06 t=false then (⟨#[]⟩,0,3) else if t.length<8 then (⟨#[]⟩,0,2)
 else if (V3 (t.drop 8)).2.2=2 then (⟨#[]⟩,0,2)
 else if (V3 (t.drop 8)).2.2≠0\/vK (V3 (t.drop 8)).1≠2\/H9 (vS (V3 (t.drop 8)).1)≠t.take (8+(V3 (t.drop 8)).2.1) then (⟨#[]⟩,0,3)
 else (vS (V3 (t.drop 8)).1,8+(V3 (t.drop 8)).2.1,0)
theorem A4h:∀ (l:List UInt8) (i n j:Nat),(∀ c∈l,dgt c=true)->i+l.length<=7->(0<i->l≠[]->0<n)->(i=0->∀ c t,l=c::t->t≠[]->c≠48)->T7 (l.take j) i n=(0,0,2)
 | [],i,n,j,hd,h7,hn,hz=>by rw [List.take_nil];rfl
 | c::t,i,n,0,hd,h7,hn,hz=>rfl
 | c::t,i,n,j+1,hd,h7,hn,hz=>by
  have hc:=hd c (by simp)
  have hc':=O6.1 hc
  simp only [List.length_cons] at h7
  rw [List.take_succ_cons,T7,if_neg (fun h=>by rw [h.1] at hc';revert hc';decide),if_neg (fun h=>by
   rcases h with h | h | h
   ·rw [hc] at h;cases h
   ·omega
   ·have:=hn h.1 (by simp);omega),A4h t (i+1) _ j (fun x hx=>hd x (by simp [hx])) (by omega) (fun _ ht=>?_) (fun h=>by omega)]
  rcases Nat.eq_zero_or_pos i with h | h
  ·have h48:=hz h c t rfl ht
   have:c.toNat≠48:=fun e=>h48 (UInt8.toNat_inj.1 e)
   omega
  ·have:=hn h (by simp);omega
theorem A9w (v:V) (h:(G6 v).length<10000000) (j:Nat) (hj:j<(I8 v).length):V3 ((I8 v).take j)=(V0,0,2):=by
 have hlen:=D8 v
 have hd:=O7 (G6 v).length
 have h7:=F2 h
 have h0:0<(Lib.decDigits (G6 v).length).length:=List.length_pos_iff.2 hd.1
 have key:N4 6 ((I8 v).take j)=(V0,0,2):=by
  rw [U7]
  rcases Nat.lt_or_ge (Lib.decDigits (G6 v).length).length j with hlt | hge
  ·have e:(Lib.decDigits (G6 v).length++58::(G6 v++[A6N v])).take j=Lib.decDigits (G6 v).length++58::(G6 v++[A6N v]).take (j-(Lib.decDigits (G6 v).length).length-1):=by
    rw [List.take_append,List.take_of_length_le (Nat.le_of_lt hlt)]
    congr 1
    obtain⟨m,hm⟩:∃ m,j-(Lib.decDigits (G6 v).length).length=m+1:=⟨j-(Lib.decDigits (G6 v).length).length-1,by omega⟩
    rw [hm,List.take_succ_cons]
    rfl
   rw [e]
   have hs:=A5E (Lib.decDigits (G6 v).length) ((G6 v++[A6N v]).take (j-(Lib.decDigits (G6 v).length).length-1)) 0 0 hd.2.1 (by omega) (by omega) (fun h=>by omega) (fun _=>hd.2.2.2)
   rw [hd.2.2.1,Nat.zero_add] at hs
   unfold N4
   rw [hs]
   simp only [ne_eq,not_true_eq_false,if_false]
   rw [if_pos]
   rw [List.length_append,List.length_cons,List.length_take,List.length_append]
   simp only [List.length_cons,List.length_nil]
   omega
  ·have hs:=A4h (Lib.decDigits (G6 v).length) 0 0 j hd.2.1 (by omega) (fun h=>by omega) (fun _=>hd.2.2.2)
   rw [List.take_append_of_le_length hge]
   unfold N4
   rw [hs]
   rfl
 unfold V3
 rw [key]
 rfl
theorem B4V (s:ByteArray) (h:s.size<=400000):A2W (vStr s)=I8 (vStr s):=by
 have h7:(Lib.decDigits (G6 (vStr s)).length).length<=7:=F2 (show s.data.toList.length<_ by rw [Array.length_toList];show s.size<_;omega)
 have hm:A0t (vStr s)=true:=by kernel_rfl
 unfold A2W
 rw [hm,decide_eq_true h7]
 rfl
theorem Q9 (s:ByteArray) (h:s.size<=400000):H9 s=U0 s.data.toList++I8 (vStr s):=by
 unfold H9
 rw [if_neg (by omega),B4V s h]
theorem A1n (s:ByteArray) (h:s.size<=400000):10<=(H9 s).length:=by
 rw [Q9 s h,List.length_append,D5]
 have h1:=D8 (vStr s)
 have h2:=List.length_pos_iff.2 (O7 (G6 (vStr s)).length).1
 omega
theorem A2c (s:List UInt8) (r:List UInt8):A06 (U0 s++r)=true:=by
 have hl:=D5 s
 unfold A06
 rw [List.take_append_of_le_length (by omega),List.take_of_length_le (by omega),List.length_append,show 8-((U0 s).length+r.length)=0 from by omega]
 show (R6 (U0 s++[])).2=true
 rw [List.append_nil]
 unfold U0
 rw [A2I (A1Q _ _ ⟨by decide,by decide⟩)]
theorem B78 (s r:List UInt8):(U0 s++r).drop 8=r:=by
 have hl:=D5 s
 rw [List.drop_append_of_le_length (by omega),List.drop_of_length_le (by omega),List.nil_append]
theorem A4i (s:ByteArray) (h:s.size<=400000) (r:List UInt8):A0Y (H9 s++r)=(s,(H9 s).length,0):=by
 have hl:=D5 s.data.toList
 have ht:(G6 (vStr s)).length<10000000:=show s.data.toList.length<_ by rw [Array.length_toList];show s.size<_;omega
 have hm:A0t (vStr s)=true:=by kernel_rfl
 have hg:V3 (I8 (vStr s)++r)=(vStr s,(I8 (vStr s)).length,0):=by
  unfold V3
  rw [A5G 6 (vStr s) (by unfold A0t at hm;exact of_decide_eq_true hm) ⟨⟨by decide,by decide⟩,trivial⟩ ht r]
  simp only [hm]
  rfl
 have hlen:(H9 s).length=8+(I8 (vStr s)).length:=by rw [Q9 s h,List.length_append,hl]
 unfold A0Y
 rw [Q9 s h,List.append_assoc,A2c,B78,hg,if_neg (by decide),if_neg (by rw [List.length_append];omega)]
 simp only
 rw [if_neg (by decide),if_neg]
 ·show (s,8+_,_)=_
  rw [List.length_append,hl]
 ·rintro (e | e | e)
  ·exact e rfl
  ·exact e rfl
  ·apply e
   show H9 s=_
   rw [Q9 s h,<-List.append_assoc,List.take_left' (by rw [List.length_append,hl])]
theorem A3l (s:ByteArray) (h:s.size<=400000) (k:Nat) (hk:k<(H9 s).length):(A0Y ((H9 s).take k)).2.2=2:=by
 have hl:=D5 s.data.toList
 have ht:(G6 (vStr s)).length<10000000:=show s.data.toList.length<_ by rw [Array.length_toList];show s.size<_;omega
 have hlen:(H9 s).length=8+(I8 (vStr s)).length:=by rw [Q9 s h,List.length_append,hl]
 rcases Nat.lt_or_ge k 8 with h8 | h8
 ·have e:(H9 s).take k=(U0 s.data.toList).take k:=by rw [Q9 s h,List.take_append_of_le_length (by omega)]
  have hlk:((U0 s.data.toList).take k).length=k:=by rw [List.length_take];omega
  have hm:A06 ((U0 s.data.toList).take k)=true:=by
   unfold A06
   rw [hlk,List.take_of_length_le (by omega)]
   exact B77 (A1Q _ _ ⟨by decide,by decide⟩) k h8
  unfold A0Y
  rw [e,hm,if_neg (by decide),if_pos (by omega)]
 ·have e:(H9 s).take k=U0 s.data.toList++(I8 (vStr s)).take (k-8):=by
   rw [Q9 s h,List.take_append,List.take_of_length_le (by omega),hl]
  have hg:=A9w (vStr s) ht (k-8) (by omega)
  unfold A0Y
  rw [e,A2c,B78,hg,if_neg (by decide)]
  split<;>rfl
def C6:List ByteArray->List UInt8
 | []=>[]
 | s::r=>H9 s++C6 r
theorem U8:∀ a b:List ByteArray,C6 (a++b)=C6 a++C6 b
 | [],b=>rfl
 | s::r,b=>by rw [List.cons_append,C6,C6,U8 r b,List.append_assoc]
def Splits:List UInt8->List ByteArray->Nat->Prop
 | t,[],at_=>at_=0/\(t=[]\/(A0Y t).2.2=2)
 | t,x::xs,at_=>∃ n a,A0Y t=(x,n,0)/\0<n/\n<=t.length/\at_=n+a/\Splits (t.drop n) xs a
theorem Splits.leaves:∀ (l:List ByteArray) (p:List UInt8),(∀ x∈l,x.size<=400000)->(p=[]\/(A0Y p).2.2=2)->Splits (C6 l++p) l (C6 l).length
 | [],p,_,hp=>⟨rfl,hp⟩
 | s::r,p,hl,hp=>by
  have hs:=hl s (List.mem_cons_self ..)
  have h10:=A1n s hs
  refine⟨(H9 s).length,(C6 r).length,?_,by omega,?_,?_,?_⟩
  ·rw [C6,List.append_assoc]
   exact A4i s hs _
  ·rw [C6,List.append_assoc,List.length_append]
   omega
  ·rw [C6,List.length_append]
  ·rw [C6,List.append_assoc,List.drop_left' rfl]
   exact Splits.leaves r p (fun x hx=>hl x (List.mem_cons_of_mem _ hx)) hp
theorem A3m:∀ (l:List ByteArray) (k:Nat),(∀ x∈l,x.size<=400000)->∃ m p,m<=l.length/\(C6 l).take k=C6 (l.take m)++p/\(p=[]\/(A0Y p).2.2=2)/\(C6 (l.take m)).length<=k/\∀ j,j<=l.length->(C6 (l.take j)).length<=k->j<=m
 | [],k,_=>⟨0,[],Nat.le_refl _,by simp [C6],.inl rfl,Nat.zero_le _,fun j hj _=>hj⟩
 | s::r,k,hl=>by
  have hs:=hl s (List.mem_cons_self ..)
  have h10:=A1n s hs
  rcases Nat.lt_or_ge k (H9 s).length with hk | hk
  ·refine⟨0,(H9 s).take k,Nat.zero_le _,?_,.inr (A3l s hs k hk),Nat.zero_le _,fun j hj hjk=>?_⟩
   ·rw [C6,List.take_append_of_le_length (Nat.le_of_lt hk)]
    rfl
   ·cases j with
    | zero=>exact Nat.le_refl _
    | succ j=>
     rw [List.take_succ_cons,C6,List.length_append] at hjk
     omega
  ·obtain⟨m,p,h1,h2,h3,h4,h5⟩:=A3m r (k-(H9 s).length) (fun x hx=>hl x (List.mem_cons_of_mem _ hx))
   refine⟨m+1,p,by rw [List.length_cons];omega,?_,h3,?_,fun j hj hjk=>?_⟩
   ·rw [C6,List.take_append,List.take_of_length_le hk,h2,List.take_succ_cons,C6,List.append_assoc]
   ·rw [List.take_succ_cons,C6,List.length_append]
    omega
   ·cases j with
    | zero=>exact Nat.zero_le _
    | succ j=>
     rw [List.take_succ_cons,C6,List.length_append] at hjk
     have:=h5 j (by rw [List.length_cons] at hj;omega) (by omega)
     omega
theorem B4W {s:Stt} {d:D} (h:Q1 s=true) (hd:J4 d=true) (hq:s.seq<J9):(doS s d).1.seq=s.seq+1:=by
 rw [B8y h hd hq]
 unfold doF
 split
 ·rfl
 split
 ·rfl
 split
 ·rfl
 simp only
 split<;>rfl
theorem A2J:∀ (l:List D) {s:Stt},Q1 s=true->s.lows.length=5->(∀ d∈l,J4 d=true)->s.seq+l.length<=J9->(A2l s l).seq=s.seq+l.length
 | [],s,h,h5,hd,hq=>by show s.seq=s.seq+((0:Nat):Int);omega
 | d::r,s,h,h5,hd,hq=>by
  rw [List.length_cons] at hq
  have e:=B4W h (hd d (List.mem_cons_self ..)) (by omega)
  have ih:=A2J r (A8j (d:=d) h5 h) (A6k d h5) (fun x hx=>hd x (List.mem_cons_of_mem _ hx)) (by omega)
  show (A2l (doS s d).1 r).seq=_
  rw [ih,e,List.length_cons]
  omega
def A2y:Stt->List D->List Res
 | _,[]=>[]
 | s,d::r=>(doS s d).2::A2y (doS s d).1 r
theorem A5a:∀ (s:Stt) (l:List D),(A2y s l).length=l.length
 | _,[]=>rfl
 | s,d::r=>by rw [A2y,List.length_cons,List.length_cons,A5a]
structure Known where
 b:Stt
 pend:List D
 ep:Int
 ln:Int
def Known0:Known:=⟨Stt0,[],0,0⟩
def Known.seq (k:Known):Int:=k.b.seq+k.pend.length
structure Known.Ok (k:Known):Prop where
 may:Q1 k.b=true
 lows:k.b.lows.length=5
 pend:∀ d∈k.pend,J4 d=true/\d.Ok
 len:k.pend.length<=60
 seq:k.b.seq+k.pend.length<=J9
 ep:B9 k.ep
 ln:B9 k.ln
theorem Known0.ok:Known0.Ok:=⟨by kernel_rfl,rfl,(fun d hd=>by cases hd),Nat.zero_le _,by decide,by unfold B9;decide,by unfold B9;decide⟩
def W7 (k:Known):V:=J3 [vStr ⟨(E1 k.b).toArray⟩,J3 (k.pend.map E3),I4 k.ep,I4 k.ln]
def A4D (k:Known):List UInt8:=A2W (W7 k)
theorem L9 {d:D} (h:J4 d=true):E3 d=H3 d:=by rw [E3,if_pos h]
theorem A5b (f:Nat) (d:D):cnt (f+2) (H3 d)=9:=by simp [H3,K0,O0,A3Q,A03]
theorem A4j {k:Known} (h:k.Ok):A0t (W7 k)=true:=by
 have hl:=h.len
 have h1:=M8 (cnt 4) (fun v=>(H6 4 v).1) 9 (k.pend.map E3) 1 (fun x hx=>by
  obtain⟨d,hd,rfl⟩:=List.mem_map.1 hx
  rw [L9 (h.pend d hd).1,A5b];decide) (by rw [List.length_map];omega)
 rw [List.length_map] at h1
 rw [A0t,decide_eq_true_eq,W7,K0,D6,A3Q,if_neg (by decide),D6,K0,if_neg (by omega),D6,O0,if_neg (by omega),D6,O0,if_neg (by omega),A03]
 omega
theorem A07 {s:Stt} (h5:s.lows.length=5) (h:Q1 s=true):(E1 s).length<=200009:=by
 have h1:=A1a s h5 h
 have h2:=F2 (u:=(G6 (A4O s)).length) (by omega)
 rw [A2C s h5 h,D8]
 omega
theorem A3n {d:D} (hk:d.Ok) (h:J4 d=true):(I8 (H3 d)).length<=1009:=by
 have h1:=A0O d hk h
 have h2:=F2 (u:=(G6 (H3 d)).length) (by omega)
 rw [D8]
 omega
theorem A3o {k:Known} (h:k.Ok):(G6 (W7 k)).length<=270000:=by
 have b1:=K5 1009 (k.pend.map E3) fun x hx=>by
  obtain⟨d,hd,rfl⟩:=List.mem_map.1 hx
  rw [L9 (h.pend d hd).1]
  exact A3n (h.pend d hd).2 (h.pend d hd).1
 rw [List.length_map] at b1
 have hl:=h.len
 have c1:=P4 (k.pend.map E3) 60540 (by omega) (by decide)
 have c2:=A07 h.lows h.may
 have c3:=P3 ⟨(E1 k.b).toArray⟩ (by show (E1 k.b).toArray.size<_;rw [List.size_toArray];omega)
 have e3:(⟨(E1 k.b).toArray⟩:ByteArray).size=(E1 k.b).length:=List.size_toArray ..
 have c4:=E7 k.ep h.ep
 have c5:=E7 k.ln h.ln
 rw [W7,A0R]
 simp only [L3,List.length_append,List.length_nil]
 omega
theorem A5c {d:D} (hk:d.Ok) (h:J4 d=true):okV (E3 d):=by rw [L9 h];exact A3M d hk
theorem A6o {k:Known} (h:k.Ok):okV (W7 k):=by
 refine K1 _ ?_
 simp only [okL]
 exact⟨A3R _,K1 _ (A04 _ _ fun d hd=>A5c (h.pend d hd).2 (h.pend d hd).1),L1 _ h.ep,L1 _ h.ln,trivial⟩
theorem A5d {v:V} (h:A0t v=true) (hl:(G6 v).length<10000000):A2W v=I8 v:=by
 have:=F2 hl
 rw [A2W,h]
 simp [this]
theorem A2z {k:Known} (h:k.Ok):A4D k=I8 (W7 k):=A5d (A4j h) (by have:=A3o h;omega)
theorem A3p {k:Known} (h:k.Ok):(A4D k).length<=270009:=by
 have h1:=A3o h
 have h2:=F2 (u:=(G6 (W7 k)).length) (by omega)
 rw [A2z h,D8]
 omega
theorem B4X {k:Known} (h:k.Ok):A4D k≠[]:=by rw [A2z h];exact B1M _
theorem A9x {k:Known} (h:k.Ok):M7 (A4D k)=(W7 k,0):=by
 rw [A2z h]
 exact A1T _ (A4j h) (A6o h) (by have:=A3o h;omega)
def FirstOk (s:ByteArray) (k:Known):Prop:=(s=⟨#[]⟩/\k=Known0)\/(s=⟨(A4D k).toArray⟩/\k.Ok)
theorem FirstOk.ok {s:ByteArray} {k:Known} (h:FirstOk s k):k.Ok:=by
 rcases h with ⟨_,rfl⟩ | ⟨_,h⟩
 ·exact Known0.ok
 ·exact h
theorem FirstOk.size {s:ByteArray} {k:Known} (h:FirstOk s k):s.size<=270009:=by
 rcases h with ⟨rfl,_⟩ | ⟨rfl,h⟩
 ·decide
 ·show (A4D k).toArray.size<=_
  rw [List.size_toArray]
  exact A3p h
inductive Rc where
 | add (d:D)
 | done (n:Int)
 | enter (n:Int)
def vRc:Rc->V
 | .add d=>J3 [I4 1,E3 d]
 | .done n=>J3 [I4 2,I4 n]
 | .enter n=>J3 [I4 3,I4 n]
def P9 (r:Rc):ByteArray:=⟨(A2W (vRc r)).toArray⟩
def Rc.Ok:Rc->Prop
 | .add d=>J4 d=true/\d.Ok
 | .done n=>B9 n
 | .enter n=>B9 n
theorem A1o {r:Rc} (h:r.Ok):A0t (vRc r)=true/\(G6 (vRc r)).length<=1100/\okV (vRc r):=by
 have n1:=E7 1 (by unfold B9;decide)
 have n2:=E7 2 (by unfold B9;decide)
 have n3:=E7 3 (by unfold B9;decide)
 have o1:B9 1:=by unfold B9;decide
 have o2:B9 2:=by unfold B9;decide
 have o3:B9 3:=by unfold B9;decide
 cases r with
 | add d=>
  obtain⟨h1,h2⟩:=h
  have hd:=A3n h2 h1
  refine⟨?_,?_,K1 _ ?_⟩
  ·rw [A0t,decide_eq_true_eq,vRc,L9 h1,K0,D6,O0,if_neg (by decide),D6,A5b,if_neg (by decide),A03]
   decide
  ·rw [vRc,L9 h1,A0R]
   simp only [L3,List.length_append,List.length_nil]
   omega
  ·simp only [okL]
   exact⟨L1 _ o1,A5c h2 h1,trivial⟩
 | done n=>
  have h:B9 n:=h
  have hd:=E7 n h
  refine⟨?_,?_,K1 _ ?_⟩
  ·rw [A0t,decide_eq_true_eq,vRc,K0,D6,O0,if_neg (by decide),D6,O0,if_neg (by decide),A03]
   decide
  ·rw [vRc,A0R]
   simp only [L3,List.length_append,List.length_nil]
   omega
  ·simp only [okL]
   exact⟨L1 _ o2,L1 _ h,trivial⟩
 | enter n=>
  have h:B9 n:=h
  have hd:=E7 n h
  refine⟨?_,?_,K1 _ ?_⟩
  ·rw [A0t,decide_eq_true_eq,vRc,K0,D6,O0,if_neg (by decide),D6,O0,if_neg (by decide),A03]
   decide
  ·rw [vRc,A0R]
   simp only [L3,List.length_append,List.length_nil]
   omega
  ·simp only [okL]
   exact⟨L1 _ o3,L1 _ h,trivial⟩
theorem A70 {r:Rc} (h:r.Ok):A2W (vRc r)=I8 (vRc r):=by
 obtain⟨h1,h2,_⟩:=A1o h
 exact A5d h1 (by omega)
theorem A71 {r:Rc} (h:r.Ok):(I8 (vRc r)).length<=1109:=by
 obtain⟨h1,h2,_⟩:=A1o h
 have h3:=F2 (u:=(G6 (vRc r)).length) (by omega)
 rw [D8]
 omega
theorem A3q {r:Rc} (h:r.Ok):(P9 r).size<=1109:=by
 show (A2W (vRc r)).toArray.size<=_
 rw [List.size_toArray,A70 h]
 exact A71 h
theorem B6b {r:Rc} (h:r.Ok):M7 (A2W (vRc r))=(vRc r,0):=by
 obtain⟨h1,h2,h3⟩:=A1o h
 rw [A70 h]
 exact A1T _ h1 h3 (by omega)
def K2 (k:Known) (n:Int):Known × List Res:=
 (⟨A2l k.b (k.pend.take (n-k.b.seq).toNat),k.pend.drop (n-k.b.seq).toNat,k.ep,k.ln⟩,A2y k.b (k.pend.take (n-k.b.seq).toNat))
def Y6 (k:Known):Rc->Known
 | .add d=>⟨k.b,k.pend++[d],k.ep,k.ln⟩
 | .done n=>(K2 k n).1
 | .enter n=>⟨k.b,k.pend,max k.ep n,k.ln⟩
def B4Y (k:Known):Rc->Prop
 | .add d=>k.pend.length<60/\k.seq<J9
 | .done n=>n<=k.seq
 | .enter n=>True
theorem Known.Ok.commit {k:Known} (h:k.Ok) (n:Int):(K2 k n).1.Ok:=by
 have hp:∀ d∈k.pend.take (n-k.b.seq).toNat,J4 d=true:=fun d hd=>(h.pend d (List.mem_of_mem_take hd)).1
 obtain⟨a,b,_⟩:=A80 (k.pend.take (n-k.b.seq).toNat) h.may h.lows
 have hs:=h.seq
 have hlen:(k.pend.take (n-k.b.seq).toNat).length+(k.pend.drop (n-k.b.seq).toNat).length=k.pend.length:=by rw [<-List.length_append,List.take_append_drop]
 have e:=A2J (k.pend.take (n-k.b.seq).toNat) h.may h.lows hp (by omega)
 refine⟨a,b,fun d hd=>h.pend d (List.mem_of_mem_drop hd),?_,?_,h.ep,h.ln⟩
 ·have:=h.len
  show (k.pend.drop _).length<=60
  omega
 ·show (A2l k.b (k.pend.take (n-k.b.seq).toNat)).seq+((k.pend.drop (n-k.b.seq).toNat).length:Int)<=J9
  rw [e]
  omega
theorem Known.Ok.step {k:Known} (h:k.Ok) {r:Rc} (hr:r.Ok) (hc:B4Y k r):(Y6 k r).Ok:=by
 cases r with
 | add d=>
  obtain⟨h1,h2⟩:=hc
  unfold Known.seq at h2
  refine⟨h.may,h.lows,fun x hx=>?_,?_,?_,h.ep,h.ln⟩
  ·rcases List.mem_append.1 hx with hx | hx
   ·exact h.pend x hx
   ·rw [List.mem_singleton.1 hx]
    exact hr
  ·show (k.pend++[d]).length<=60
   rw [List.length_append]
   exact h1
  ·show k.b.seq+((k.pend++[d]).length:Int)<=J9
   rw [List.length_append]
   simp only [List.length_cons,List.length_nil]
   omega
 | done n=>exact h.commit n
 | enter n=>
  refine⟨h.may,h.lows,h.pend,h.len,h.seq,?_,h.ln⟩
  have h1:=h.ep
  have h2:B9 n:=hr
  unfold B9 at*
  show -_<=max k.ep n/\max k.ep n<=_
  omega
def A2K (k:Known) (l:List Rc):Known:=l.foldl Y6 k
theorem A4k (k:Known) (l:List Rc) (r:Rc):A2K k (l++[r])=Y6 (A2K k l) r:=by
 unfold A2K
 rw [List.foldl_append]
 rfl
def Can:Known->List Rc->Prop
 | _,[]=>True
 | k,r::l=>r.Ok/\B4Y k r/\Can (Y6 k r) l
theorem Can.ok:∀ {l:List Rc} {k:Known},k.Ok->Can k l->(A2K k l).Ok
 | [],k,hk,_=>hk
 | r::l,k,hk,⟨h1,h2,h3⟩=>Can.ok (l:=l) (hk.step h1 h2) h3
theorem Can.snoc:∀ {l:List Rc} {k:Known} {r:Rc},Can k l->r.Ok->B4Y (A2K k l) r->Can k (l++[r])
 | [],k,r,_,h1,h2=>⟨h1,h2,trivial⟩
 | x::l,k,r,⟨a,b,c⟩,h1,h2=>⟨a,b,Can.snoc c h1 h2⟩
theorem Can.take:∀ {l:List Rc} {k:Known} (i:Nat),Can k l->Can k (l.take i)
 | [],k,i,_=>by rw [List.take_nil];trivial
 | x::l,k,0,_=>trivial
 | x::l,k,i+1,⟨a,b,c⟩=>⟨a,b,Can.take i c⟩
theorem Can.mem:∀ {l:List Rc} {k:Known},Can k l->∀ r∈l,r.Ok
 | x::l,k,⟨a,b,c⟩,r,hr=>by
  cases hr with
  | head=>exact a
  | tail _ h=>exact Can.mem c r h
structure Sh where
 tot:Int
 first:ByteArray
 base:Known
 l:List Rc
 np:Nat
 kept:Bool
 down:Bool
def Sh.texts (H:Sh):List ByteArray:=H.first::H.l.map P9
def Sh.txt (H:Sh):List UInt8:=C6 H.texts
def Sh.room (H:Sh):Int:=H.tot-H.txt.length
def Sh.k (H:Sh):Known:=A2K H.base H.l
def Sh.scr (H:Sh):Scroll:=⟨⟨H.txt.toArray⟩,((C6 (H.texts.take (1+H.np))).length:Nat),H.kept⟩
structure Sh.Ok (H:Sh):Prop where
 first:FirstOk H.first H.base
 can:Can H.base H.l
 np:H.np<=H.l.length
 tot:H.tot<=1048576
 room:0<=H.room
theorem Sh.Ok.k {H:Sh} (h:H.Ok):H.k.Ok:=Can.ok h.first.ok h.can
theorem Sh.Ok.size {H:Sh} (h:H.Ok):(H.txt.length:Int)<=1048576:=by
 have h1:=h.tot
 have h2:=h.room
 unfold Sh.room at h2
 omega
theorem Sh.Ok.sizes {H:Sh} (h:H.Ok):∀ x∈H.texts,x.size<=400000:=fun x hx=>by
 cases hx with
 | head=>have:=h.first.size;omega
 | tail _ hx=>
  obtain⟨r,hr,rfl⟩:=List.mem_map.1 hx
  have:=A3q (Can.mem h.can r hr)
  omega
theorem A0Z (l:List ByteArray) (i:Nat):(C6 (l.take i)).length<=(C6 l).length:=by
 have e:C6 l=C6 (l.take i)++C6 (l.drop i):=by rw [<-U8,List.take_append_drop]
 rw [e,List.length_append]
 omega
theorem A2d (l:List ByteArray) (s:ByteArray):C6 (l++[s])=C6 l++H9 s:=by
 rw [U8]
 show _++(H9 s++[])=_
 rw [List.append_nil]
def E9 (s:ByteArray):Int:=((H9 s).length:Nat)
theorem A5e (s:ByteArray) (h:s.size<=400000):10<=E9 s/\E9 s<=s.size+17:=by
 have h1:=A1n s h
 have h2:=P3 s (by omega)
 unfold E9
 rw [Q9 s h,List.length_append,D5] at*
 omega
def Sh.write (H:Sh) (r:Rc) (press:Bool):Sh:=⟨H.tot,H.first,H.base,H.l++[r],if press then H.l.length+1 else H.np,H.kept||press,H.down⟩
def Sh.fell (H:Sh):Sh:=⟨H.tot,H.first,H.base,H.l,H.np,H.kept,true⟩
theorem Sh.write_texts (H:Sh) (r:Rc) (p:Bool):(H.write r p).texts=H.texts++[P9 r]:=by
 show H.first::(H.l++[r]).map P9=H.first::H.l.map P9++[P9 r]
 rw [List.map_append]
 rfl
theorem Sh.write_txt (H:Sh) (r:Rc) (p:Bool):(H.write r p).txt=H.txt++H9 (P9 r):=by
 unfold Sh.txt
 rw [Sh.write_texts,A2d]
theorem Sh.write_room (H:Sh) (r:Rc) (p:Bool):(H.write r p).room=H.room-E9 (P9 r):=by
 unfold Sh.room E9
 rw [Sh.write_txt,List.length_append]
 show H.tot-_=_
 omega
theorem Sh.write_k (H:Sh) (r:Rc) (p:Bool):(H.write r p).k=Y6 H.k r:=A4k _ _ _
theorem Sh.Ok.write {H:Sh} (h:H.Ok) {r:Rc} (hr:r.Ok) (hc:B4Y H.k r) (p:Bool) (hroom:E9 (P9 r)<=H.room):(H.write r p).Ok:=by
 refine⟨h.first,Can.snoc h.can hr hc,?_,h.tot,?_⟩
 ·have:=h.np
  show (if p then H.l.length+1 else H.np)<=(H.l++[r]).length
  rw [List.length_append]
  simp only [List.length_cons,List.length_nil]
  split<;>omega
 ·rw [Sh.write_room]
  omega
theorem Sh.write_pressed {H:Sh} (h:H.Ok) (r:Rc) (p:Bool):((H.write r p).scr).pressed=if p then ((H.txt++H9 (P9 r)).length:Int) else H.scr.pressed:=by
 show ((C6 ((H.write r p).texts.take (1+if p then H.l.length+1 else H.np))).length:Int)=_
 rw [Sh.write_texts]
 have hlen:H.texts.length=H.l.length+1:=by
  show (H.first::H.l.map P9).length=_
  rw [List.length_cons,List.length_map]
 cases p with
 | true=>
  rw [if_pos rfl,if_pos rfl,List.take_of_length_le (by rw [List.length_append,hlen];simp only [List.length_cons,List.length_nil];omega),A2d]
  rfl
 | false=>
  have:=h.np
  rw [if_neg (by decide),if_neg (by decide),List.take_append_of_le_length (by omega)]
  rfl
theorem Sh.scr_le {H:Sh}:0<=H.scr.pressed/\H.scr.pressed<=H.txt.length:=by
 have:=A0Z H.texts (1+H.np)
 show 0<=((C6 (H.texts.take (1+H.np))).length:Int)/\((C6 (H.texts.take (1+H.np))).length:Int)<=((C6 H.texts).length:Int)
 omega
def Sh.cut (H:Sh) (i:Nat):Sh:=⟨H.tot,H.first,H.base,H.l.take i,i,true,false⟩
theorem Sh.cut_texts (H:Sh) (i:Nat):(H.cut i).texts=H.texts.take (i+1):=by
 show H.first::(H.l.take i).map P9=(H.first::H.l.map P9).take (i+1)
 rw [List.take_succ_cons,List.map_take]
theorem Sh.Ok.cut {H:Sh} (h:H.Ok) (i:Nat) (hi:i<=H.l.length):(H.cut i).Ok:=by
 refine⟨h.first,h.can.take i,?_,h.tot,?_⟩
 ·show i<=(H.l.take i).length
  rw [List.length_take]
  omega
 ·have:=A0Z H.texts (i+1)
  have h2:=h.room
  show 0<=H.tot-((C6 (H.cut i).texts).length:Int)
  rw [Sh.cut_texts]
  unfold Sh.room Sh.txt at h2
  omega
theorem Sh.tear {H:Sh} (h:H.Ok) (n:Nat) (hn:H.scr.pressed<=n):∃ i,H.np<=i/\i<=H.l.length/\Splits (H.txt.take n) (H.first::(H.cut i).l.map P9) (H.cut i).txt.length/\(H.cut i).txt=(H.txt.take n).take (H.cut i).txt.length/\(H.cut i).txt.length<=(H.txt.take n).length:=by
 obtain⟨m,p,h1,h2,h3,h4,h5⟩:=A3m H.texts n h.sizes
 have hlen:H.texts.length=H.l.length+1:=by
  show (H.first::H.l.map P9).length=_
  rw [List.length_cons,List.length_map]
 have hnp:=h5 (1+H.np) (by have:=h.np;omega) (by
  have hn:((C6 (H.texts.take (1+H.np))).length:Int)<=n:=hn
  omega)
 obtain⟨i,rfl⟩:∃ i,m=i+1:=⟨m-1,by omega⟩
 have et:(H.cut i).txt=C6 (H.texts.take (i+1)):=by
  unfold Sh.txt
  rw [Sh.cut_texts]
 have e2:H.txt.take n=(H.cut i).txt++p:=by rw [et];exact h2
 have ef:H.first::(H.cut i).l.map P9=(H.cut i).texts:=rfl
 refine⟨i,by omega,by omega,?_,?_,?_⟩
 ·rw [e2,ef]
  have hs:=Splits.leaves (H.cut i).texts p (fun x hx=>h.sizes x (by rw [Sh.cut_texts] at hx;exact List.mem_of_mem_take hx)) h3
  exact hs
 ·rw [e2,List.take_left' rfl]
 ·rw [e2,List.length_append]
  omega
end Go.Proofs.YtfekddndgakneaaGreatDoor
section
namespace Go.Vc
open Go Go.RowKit
open Go.Proofs.YtfekddndgakneaaGreatDoor (no)
def In (G:Nat->Prop) (R:Kn):Kn:=fun S w=>∃ Sr:Nat->Prop,(∀ x,Sr x->S x/\G x)/\R Sr w
theorem In.stab {G:Nat->Prop} {R:Kn} (hR:Stab R):Stab (In G R):=fun S w S' w' h f=>by
 obtain⟨Sr,h1,h2⟩:=h
 exact⟨Sr,fun x hx=>⟨f.1 x (h1 x hx).1,(h1 x hx).2⟩,hR _ _ _ _ h2 ⟨fun _ h=>h,fun x hx=>f.2 x (h1 x hx).1⟩⟩
def B9X (S:Nat->Prop) (w:World):Nat->Prop:=fun x=>S x\/w.heap.size<=x
def KL (w:World) (g:Nat) (S:Nat->Prop) (R:Kn):Kn:=fun S' w'=>Keep w (fun x=>x=g) S' w'/\In (B9X S w) R S' w'
theorem KL.stab {w:World} {g:Nat} {S:Nat->Prop} {R:Kn} (hR:Stab R):Stab (KL w g S R):=(Keep.stab _ _).and (In.stab hR)
section
variable {w w1 w':World} {S S1:Nat->Prop} {l:List LB} {os:List OR} {R:Kn} {g T:Nat} {cs cs':List Value}
theorem CtxF.enterL (hB:Blk w g T cs) (hS:∀ x,S x->x<w.heap.size/\x≠g) (hR:R S w) (hs:Stab R):CtxF no (bare w) (fun x=>x<w.heap.size/\x≠g) w [(g,T,cs)] [] (KL w g S R):=
 CtxF.enter (fun x hx=>hx.1) ⟨Nat.zero_le _,fun h=>h.2 rfl,hB,(fun x hx=>by cases hx),trivial⟩ trivial ⟨fun x hx hn=>⟨⟨hx,hn⟩,rfl⟩,S,fun x hx=>⟨hS x hx,.inl hx⟩,hR⟩ (KL.stab hs)
theorem CtxF.sizeL (hc:CtxF no (bare w) S1 w1 l os (KL w g S R)) (k:Nat) (hk:l[k]?=some (g,T,cs)):w.heap.size<=w1.heap.size:=by
 have hB:=(hc.blk k hk).lt
 by_cases e:g=w.heap.size-1
 ·omega
 ·rcases Nat.eq_zero_or_pos w.heap.size with h0 | h0
  ·omega
  ·have:=A0H (hc.row.1 (w.heap.size-1) (by omega) (fun h=>e h.symm)).2 (by omega)
   omega
theorem CtxF.inL (hc:CtxF no (bare w) S1 w1 l os (KL w g S R)) (hs:Stab R) (k:Nat) (hk:l[k]?=some (g,T,cs)):
  ∃ Sr:Nat->Prop,R Sr w1/\(∀ x,Sr x->S1 x)/\∀ {w':World} {l':List LB} {R':Kn} {os':List OR} {E:Nat->Prop},CtxF no (bare w) E w' l' os' R'/\Fut S1 w1 E w'->(∀ x,ext Sr w1 w' x->E x\/∃ o∈os',∃ a,o.A=some a/\a.block=x)->∀ {X:Kn},Stab X->X (fun x=>ext Sr w1 w' x/\E x) w'->CtxF no (bare w) E w' l' os' (KL w g S (fun S w=>R S w/\X S w)):=by
 have hsz:=hc.sizeL k hk
 obtain⟨hk1,Sr,h1,h2⟩:=hc.row
 refine⟨Sr,h2,fun x hx=>(h1 x hx).1,fun {w' l' R' os' E} hh hE {X} hX hx=>?_⟩
 obtain⟨hc',hf⟩:=hh
 refine hc'.now (fun _=>⟨Keep.stab _ _ _ _ _ _ hk1 hf,fun x=>ext Sr w1 w' x/\E x,fun x hx=>⟨hx.2,?_⟩,hs _ _ _ _ h2 ⟨fun x hx=>⟨.inl hx,hf.1 x (h1 x hx).1⟩,fun x hx=>hf.2 x (h1 x hx).1⟩,hx⟩) (KL.stab (hs.and hX))
 rcases hx.1 with h | h
 ·exact (h1 x h).2
 ·exact .inr (Nat.le_trans hsz h.1)
theorem CtxF.nowL {R':Kn} (hc:CtxF no (bare w) S1 w1 l os (KL w g S R)) (h:∀ S w,R S w->R' S w) (hs:Stab R'):CtxF no (bare w) S1 w1 l os (KL w g S R'):=
 hc.now (fun ⟨h1,Sr,h2,h3⟩=>⟨h1,Sr,h2,h _ _ h3⟩) (KL.stab hs)
theorem CtxF.toldL {o:OR} (hc:CtxF no (bare w) S1 w1 l (o::os) (KL w g S R)) (hs:Stab R) (k:Nat) (hk:l[k]?=some (g,T,cs)):∃ S2,CtxF no (bare w) S2 w1 l os (KL w g S (fun S w=>R S w/\Row S w o.A o.n o.cap o.xs)):=by
 have hnew:∀ a,o.A=some a->w.heap.size<=a.block:=fun a ha=>by
  rcases Nat.lt_or_ge a.block w.heap.size with h | h
  ·have h1:=hc.fst.out a ha
   have h2:=h1.2 _ (List.mem_of_getElem? hk)
   exact absurd (hc.row.1 a.block h (fun e=>h2 e.symm)).1 h1.1
  ·exact h
 obtain⟨S2,h2,hc2⟩:=hc.told
 refine⟨S2,hc2.now (fun hh=>?_) (KL.stab (hs.and fun _ _ _ _ h f=>h.fut f))⟩
 obtain⟨⟨hk1,Sr,j1,j2⟩,hR1,hR2,hR3⟩:=hh
 refine⟨hk1,fun x=>Sr x\/(S2 x/\∃ a,o.A=some a/\a.block=x),fun x hx=>?_,hs _ _ _ _ j2 ⟨fun x hx=>.inl hx,fun _ _=>rfl⟩,hR1,hR2,fun hx=>?_⟩
 ·rcases hx with hx | ⟨hx,a,ha,rfl⟩
  ·exact j1 x hx
  ·exact⟨hx,.inr (hnew a ha)⟩
 ·obtain⟨ad,e,hsa,hcl⟩:=hR3 hx
  exact⟨ad,e,.inr ⟨hsa,ad,e,rfl⟩,hcl⟩
theorem CtxF.leaveL (hc:CtxF no (bare w) S1 w' [(g,T,cs')] os (KL w g S R)) (hs:Stab R):Turn (fun x=>x=g) w w'/\Blk w' g T cs'/\∃ Sr:Nat->Prop,(∀ x,Sr x->S1 x/\ext S w w' x)/\R Sr w':=by
 obtain⟨hk1,Sr,h1,h2⟩:=hc.row
 refine⟨hc.leave hk1,hc.blk 0 rfl,Sr,fun x hx=>⟨(h1 x hx).1,?_⟩,h2⟩
 rcases (h1 x hx).2 with h | h
 ·exact .inl h
 ·exact .inr ⟨h,hc.ctx.lt x (h1 x hx).1⟩
end
end Go.Vc
namespace Go.Proofs.YtfekddndgakneaaGreatDoor
open Go.Vc Go.RowKit Go.Fl Go.ChangeShapes Go.WideShapes Go.ChangeAt
def knC (k:Known) (x:SX) (A:Option Addr) (cap:Nat):List Value:=[.int .i64 k.b.seq,.slice x.A k.b.l.length x.cap,.slice x.B k.b.ms.length x.cap',.int .i64 x.l0,.int .i64 x.l1,.int .i64 x.l2,.int .i64 x.l3,.int .i64 x.l4,.slice A k.pend.length cap,.int .i64 k.ep,.int .i64 k.ln]
def KnR (k:Known) (x:SX) (A:Option Addr) (cap:Nat):Kn:=fun S w=>RepS S w k.b (stX k.b x)/\Row S w A k.pend.length cap (k.pend.map dC).flatten
theorem KnR.stab (k:Known) (x:SX) (A:Option Addr) (cap:Nat):Stab (KnR k x A cap):=(P8 _ _).and fun _ _ _ _ h f=>h.fut f
theorem A1p (k:Known) (h:k.Ok) (x:SX) (A:Option Addr) (cap:Nat) (w:World):Calls Tryz.prog 152 #[.agg (knC k x A cap).toArray] w (C7 (.int .i64 k.seq) w):=by
 have hs:=h.seq
 have hl:=h.len
 have h0:=(E5.1 h.may).1.1
 have hm:J9=1099511627776:=rfl
 refine vE Tryz.func152 ?_
 have hc:=CtxF.start w no (fun _ h=>h.elim) (R:=fun _ _=>True) trivial Stab.true
 refine hc.n fun g1 wg1 hg1 hc=>?_
 refine hc.c 0 rfl rfl ?_
 refine hc.c 0 rfl rfl ?_
 refine⟨?_,hc.below⟩
 show Ending.returned (.int .i64 (IntKind.i64.wrap (k.b.seq+(k.pend.length:Int))))=_
 rw [IntWalk.i64_in _ ⟨by omega,by omega⟩]
 rfl
def RetKn (g T:Nat) (wrap:List Value->List Value) (S:Nat->Prop) (w:World) (v:Value) (k:Known) (en:Ending) (w':World):Prop:=
 en=.returned v/\Turn (fun x=>x=g) w w'/\∃ x A cap,Blk w' g T (wrap (knC k x A cap))/\KnR k x A cap (ext S w w') w'
theorem RetKn.mk {g T:Nat} {wrap:List Value->List Value} {S S1:Nat->Prop} {w w':World} {k:Known} {x:SX} {A:Option Addr} {cap:Nat} {cs:List Value} {os:List OR} (hc:CtxF no (bare w) S1 w' [(g,T,cs)] os (KL w g S (KnR k x A cap))) (e:cs=wrap (knC k x A cap)) (v:Value):RetKn g T wrap S w v k (.returned v) w':=by
 obtain⟨h1,h2,Sr,h3,h4⟩:=hc.leaveL (KnR.stab _ _ _ _)
 subst e
 exact⟨rfl,h1,x,A,cap,h2,KnR.stab _ _ _ _ _ _ _ _ h4 ⟨fun x hx=>(h3 x hx).2,fun _ _=>rfl⟩⟩
def A08 (k:Known) (d:D):Int:=if J4 d then (if 60<=k.pend.length\/J9<=k.seq then 5 else 0) else 1
def B2U (k:Known) (d:D):Known:=if A08 k d=0 then ⟨k.b,k.pend++[d],k.ep,k.ln⟩ else k
theorem B2V (k:Known) (h:k.Ok) (d:D) (hd:d.Ok) (x:SX) (A:Option Addr) (cap g:Nat) (S:Nat->Prop) (w:World) (hB:Blk w g 181 (knC k x A cap)) (hS:∀ x,S x->x<w.heap.size/\x≠g) (hR:KnR k x A cap S w):
  Calls Tryz.prog 146 #[.pointer (some ⟨g,0,none⟩),.agg (dC d).toArray] w (RetKn g 181 id S w (.int .i64 (A08 k d)) (B2U k d)):=by
 obtain⟨e,he⟩:∃ e,e=A08 k d:=⟨_,rfl⟩
 obtain⟨k',hk'⟩:∃ k',k'=B2U k d:=⟨_,rfl⟩
 unfold B2U at hk'
 rw [<-he] at hk'
 rw [<-he,show B2U k d=k' from by rw [hk',he];rfl]
 unfold A08 at he
 have hc:=CtxF.enterL hB hS hR (KnR.stab _ _ _ _)
 refine vE Tryz.func146 ?_
 refine hc.n fun g3 wg3 hg3 hc=>?_
 refine hc.a 0 rfl rfl ?_
 refine hc.q (A0J d hd _) fun wQ hQ hc=>?_
 cases hm:J4 d with
 | false=>
  rw [hm,if_neg (by decide)] at he
  rw [he,if_neg (by decide)] at hk'
  subst he hk'
  exact RetKn.mk hc.drop rfl _
 | true=>
 rw [hm,if_pos rfl] at he
 refine hc.c 1 rfl rfl ?_
 by_cases h60:60<=k.pend.length
 ·rw [if_pos (.inl h60)] at he
  rw [he,if_neg (by decide)] at hk'
  subst he hk'
  refine dt (by omega) ?_
  exact RetKn.mk hc.drop rfl _
 refine df (by omega) ?_
 refine hc.a 1 rfl rfl ?_
 refine hc.q (A1p k h x A cap _) fun wQ hQ hc=>?_
 by_cases hsq:J9<=k.seq
 ·rw [if_pos (.inr hsq)] at he
  rw [he,if_neg (by decide)] at hk'
  subst he hk'
  refine dt hsq ?_
  exact RetKn.mk hc.drop rfl _
 refine df hsq ?_
 rw [if_neg (fun h=>h.elim h60 hsq)] at he
 rw [he,if_pos rfl] at hk'
 subst he hk'
 refine vD (.Q [0,1,2,3,6] (.n 4 (.n 5 (.n 7 (.n 8 (.Q [9,10] (.n 11 .fin .stop)) .stop) .stop) (.n 7 (.n 5 (.n 8 (.Q [9,10] (.n 11 .fin .stop)) .stop) .stop) .stop)) (.n 7 (.n 4 (.n 5 (.n 8 (.Q [9,10] (.n 11 .fin .stop)) .stop) .stop) .stop) .stop))) (fun z=>Blk z g3 60 (dC d)) (hc.blk 0 rfl) ?_
 have hc:=hc.drew
 refine⟨dC d,rfl,fun z hz=>C3 hz 0 _ 0 (fun j v hj=>by simpa using hj),?_⟩
 refine⟨?_,?_⟩
 ·skip
  refine⟨_,hc.cell 1 rfl _ rfl,(hc.blk 0 rfl),?_⟩
  refine⟨?_,?_⟩
  ·skip
   obtain⟨Sr,hR1,hSr,hin⟩:=hc.inL (KnR.stab _ _ _ _) 1 rfl
   refine⟨(O8 A k.pend.length cap _ (O1 _) (List.length_map _) (by have:=h.len;omega) Sr _ hR1.2).mono fun en wq hq=>?_⟩
   obtain⟨A2,cap2,e1,hb,ho⟩:=hq
   have hc:=hc.fresh hb ho
   refine⟨_,e1,(hc.blk 0 rfl),?_⟩
   refine⟨hc.n fun gv wgv hgv hc=>?_,trivial⟩
   refine⟨(hc.blk 1 rfl),?_⟩
   refine⟨D1 (m:=1) Tryz.underlying28 A00 rfl (by decide) hc (by rfl) (hc.cells 0 rfl) rfl (by have:=h.len;show k.pend.length+1<=_;omega) (by decide) rfl rfl ?_,trivial⟩
   intro A3 cap3 w3 hc
   refine⟨(hc.blk 1 rfl),?_⟩
   refine⟨hc.s 2 rfl fun wS hS hc=>?_,trivial⟩
   refine⟨(hc.blk 1 rfl),?_⟩
   obtain⟨S2,hc⟩:=hc.toldL (KnR.stab _ _ _ _) 2 rfl
   have hc:=(hc.nowL (R':=KnR ⟨k.b,k.pend++[d],k.ep,k.ln⟩ x A3 cap3) (fun S w h=>⟨h.1.1,by
    have e1:((k.pend++[d]).map dC).flatten=(k.pend.map dC).flatten++dC d:=by simp
    have e2:(k.pend++[d]).length=k.pend.length+1:=by simp
    show Row S w A3 (k.pend++[d]).length cap3 ((k.pend++[d]).map dC).flatten
    rw [e1,e2]
    exact h.2⟩) (KnR.stab _ _ _ _)).drop.drop
   refine RetKn.mk hc ?_ _
   show _=knC ⟨k.b,k.pend++[d],k.ep,k.ln⟩ x A3 cap3
   unfold knC
   rw [show (k.pend++[d]).length=k.pend.length+1 from by simp]
   rfl
  refine⟨hc.n fun gv wgv hgv hc=>?_,trivial⟩
  refine⟨(hc.blk 1 rfl),?_⟩
  refine⟨?_,trivial⟩
  obtain⟨Sr,hR1,hSr,hin⟩:=hc.inL (KnR.stab _ _ _ _) 2 rfl
  refine⟨(O8 A k.pend.length cap _ (O1 _) (List.length_map _) (by have:=h.len;omega) Sr _ hR1.2).mono fun en wq hq=>?_⟩
  obtain⟨A2,cap2,e1,hb,ho⟩:=hq
  have hc:=hc.fresh hb ho
  refine⟨_,e1,(hc.blk 1 rfl),?_⟩
  refine⟨D1 (m:=1) Tryz.underlying28 A00 rfl (by decide) hc (by rfl) (hc.cells 0 rfl) rfl (by have:=h.len;show k.pend.length+1<=_;omega) (by decide) rfl rfl ?_,trivial⟩
  intro A3 cap3 w3 hc
  refine⟨(hc.blk 1 rfl),?_⟩
  refine⟨hc.s 2 rfl fun wS hS hc=>?_,trivial⟩
  refine⟨(hc.blk 1 rfl),?_⟩
  obtain⟨S2,hc⟩:=hc.toldL (KnR.stab _ _ _ _) 2 rfl
  have hc:=(hc.nowL (R':=KnR ⟨k.b,k.pend++[d],k.ep,k.ln⟩ x A3 cap3) (fun S w h=>⟨h.1.1,by
   have e1:((k.pend++[d]).map dC).flatten=(k.pend.map dC).flatten++dC d:=by simp
   have e2:(k.pend++[d]).length=k.pend.length+1:=by simp
   show Row S w A3 (k.pend++[d]).length cap3 ((k.pend++[d]).map dC).flatten
   rw [e1,e2]
   exact h.2⟩) (KnR.stab _ _ _ _)).drop.drop
  refine RetKn.mk hc ?_ _
  show _=knC ⟨k.b,k.pend++[d],k.ep,k.ln⟩ x A3 cap3
  unfold knC
  rw [show (k.pend++[d]).length=k.pend.length+1 from by simp]
  rfl
 refine⟨hc.n fun gv wgv hgv hc=>?_,trivial⟩
 refine⟨(hc.blk 1 rfl),?_⟩
 refine⟨⟨_,hc.cell 2 rfl _ rfl,(hc.blk 1 rfl),?_⟩,trivial⟩
 refine⟨?_,trivial⟩
 obtain⟨Sr,hR1,hSr,hin⟩:=hc.inL (KnR.stab _ _ _ _) 2 rfl
 refine⟨(O8 A k.pend.length cap _ (O1 _) (List.length_map _) (by have:=h.len;omega) Sr _ hR1.2).mono fun en wq hq=>?_⟩
 obtain⟨A2,cap2,e1,hb,ho⟩:=hq
 have hc:=hc.fresh hb ho
 refine⟨_,e1,(hc.blk 1 rfl),?_⟩
 refine⟨D1 (m:=1) Tryz.underlying28 A00 rfl (by decide) hc (by rfl) (hc.cells 0 rfl) rfl (by have:=h.len;show k.pend.length+1<=_;omega) (by decide) rfl rfl ?_,trivial⟩
 intro A3 cap3 w3 hc
 refine⟨(hc.blk 1 rfl),?_⟩
 refine⟨hc.s 2 rfl fun wS hS hc=>?_,trivial⟩
 refine⟨(hc.blk 1 rfl),?_⟩
 obtain⟨S2,hc⟩:=hc.toldL (KnR.stab _ _ _ _) 2 rfl
 have hc:=(hc.nowL (R':=KnR ⟨k.b,k.pend++[d],k.ep,k.ln⟩ x A3 cap3) (fun S w h=>⟨h.1.1,by
  have e1:((k.pend++[d]).map dC).flatten=(k.pend.map dC).flatten++dC d:=by simp
  have e2:(k.pend++[d]).length=k.pend.length+1:=by simp
  show Row S w A3 (k.pend++[d]).length cap3 ((k.pend++[d]).map dC).flatten
  rw [e1,e2]
  exact h.2⟩) (KnR.stab _ _ _ _)).drop.drop
 refine RetKn.mk hc ?_ _
 show _=knC ⟨k.b,k.pend++[d],k.ep,k.ln⟩ x A3 cap3
 unfold knC
 rw [show (k.pend++[d]).length=k.pend.length+1 from by simp]
 rfl
end Go.Proofs.YtfekddndgakneaaGreatDoor
end
namespace Go.Proofs.YtfekddndgakneaaGreatDoor
open Go.Vc Go.RowKit Go.Fl Go.ChangeShapes Go.WideShapes Go.ChangeAt
theorem O2 (n:Int) (w:World):Calls Tryz.prog 145 #[.int .i64 n] w (C7 (.agg #[.int .i64 1,.int .i64 n,.string ⟨#[]⟩,.slice none 0 0]) w):=by
 refine vE Tryz.func145 ?_
 have hc:=Ctx.start w no (fun _ h=>h.elim)
 refine hc.n fun gA wgA hgA hc=>?_
 refine hc.s 0 rfl fun wS hS hc=>?_
 refine hc.a 0 rfl rfl ?_
 exact⟨rfl,hc.below⟩
theorem M0 (A:Option Addr) (n cap:Nat) (w:World):Calls Tryz.prog 179 #[.slice A n cap] w (C7 (.agg #[.int .i64 3,.int .i64 0,.string ⟨#[]⟩,.slice A n cap]) w):=by
 refine vE Tryz.func179 ?_
 have hc:=Ctx.start w no (fun _ h=>h.elim)
 refine hc.n fun gA wgA hgA hc=>?_
 refine hc.s 0 rfl fun wS hS hc=>?_
 refine hc.a 0 rfl rfl ?_
 exact⟨rfl,hc.below⟩
theorem A5f (k:Known) (h:k.Ok) (x:SX) (A:Option Addr) (cap:Nat) (S0:Nat->Prop) (w:World) (hR:KnR k x A cap S0 w) (ht:Tab w):Calls Tryz.prog 176 #[.agg (knC k x A cap).toArray] w (C7 (.string ⟨(A4D k).toArray⟩) w):=by
 have hl:=h.len
 refine vE Tryz.func176 ?_
 have hc:=CtxF.start w no (fun _ h=>h.elim) (R:=fun S w=>RepL S w [] []) (.nil _ _) (W6 _ _)
 refine hc.n fun g1 wg1 hg1 hc=>?_
 refine hc.q (M0 none 0 0 _) fun wQ hQ hc=>?_
 refine hc.n fun g3 wg3 hg3 hc=>?_
 refine hc.s 0 rfl fun wS hS hc=>?_
 refine hc.c 1 rfl rfl ?_
 have hc:=hc.nil 79 4
 refine⟨Nat,fun i=>[(1,.pointer (some ⟨g1,0,none⟩)),(3,.pointer (some ⟨g3,0,none⟩)),(8,.slice A k.pend.length cap),(9,.int .i64 k.pend.length),(10,.int .i64 i)],
  fun i w'=>i<=k.pend.length/\∃ S A' cap' xs,CtxF no w S w' [(g3,79,[.int .i64 3,.int .i64 0,.string ⟨#[]⟩,.slice A' i cap']),(g1,181,knC k x A cap)] [⟨79,4,A',i,cap',xs⟩] (fun S w=>RepL S w ((k.pend.take i).map E3) xs),
  fun i _=>k.pend.length-i,0,⟨rfl,rfl,rfl,rfl,rfl,trivial⟩,⟨Nat.zero_le _,no,none,0,[],hc⟩,?_⟩
 clear hc
 rintro i w4 u ⟨hi,S,A',cap',xs,hc⟩
 by_cases hlt:i<k.pend.length
 ·refine dt (by omega) ?_
  obtain⟨ad,rfl,hcell⟩:=Row.elemF (hR.2.below hc.below) (by decide) (O1 _) i (by rw [List.length_map];exact hlt)
  rw [List.getElem_map] at hcell
  refine⟨⟨by omega,by omega⟩,?_⟩
  refine⟨dC k.pend[i],rfl,hcell,?_⟩
  have hd:=(h.pend k.pend[i] (List.getElem_mem hlt)).2
  generalize hx:k.pend[i]=d at*
  refine hc.n fun g5 wg5 hg5 hc=>?_
  refine hc.s 0 rfl fun wS hS hc=>?_
  refine vD (.Q [0,1,2] (.n 3 (.n 4 (.n 5 (.q 6 (.z 7)) .stop) .stop) .stop)) (fun z=>Blk z g3 79 [.int .i64 3,.int .i64 0,.string ⟨#[]⟩,.slice A' i cap']/\Blk z g5 60 (dC d)) ⟨hc.blk 1 rfl,hc.blk 0 rfl⟩ ?_
  have hc:=hc.drew
  refine⟨_,fun x hx=>hx.1.cell 3,?_⟩
  refine⟨(dC d),rfl,fun x hx=>C3 hx.2 0 _ 0 (fun j v hj=>by simpa using hj),?_⟩
  refine⟨⟨(A0P d hd _).mono fun en w9 hq=>?_⟩,trivial⟩
  obtain⟨kk,n,s,A1,ln,c1,e1,h9,hrep⟩:=hq
  have hc:=(hc.call h9).1.know (hrep.sub fun b h=>h.elim (fun h=>h.elim) .inr) (E8 _ _)
  refine⟨_,e1,⟨hc.blk 1 rfl,hc.blk 0 rfl⟩,?_⟩
  refine⟨hc.n fun g20 w10 h10 hc=>?_,trivial⟩
  refine⟨⟨hc.blk 2 rfl,hc.blk 1 rfl⟩,?_⟩
  refine⟨D1 Tryz.underlying77 P2 rfl (by decide) hc (ys:=[.int .i64 kk,.int .i64 n,.string s,.slice A1 ln c1]) (m:=1) rfl (hc.cells 0 rfl) rfl (by omega) (by decide) rfl rfl ?_,trivial⟩
  intro A2 cap2 w11 hc
  refine⟨⟨hc.blk 2 rfl,hc.blk 1 rfl⟩,?_⟩
  refine⟨hc.may 2 rfl 3 _ (Nat.le_refl 4) rfl,?_⟩
  intro w12 h12
  have hc:=(hc.set 2 rfl h12).1
  have et:(k.pend.take (i+1)).map E3=(k.pend.take i).map E3++[E3 d]:=by rw [List.take_add_one,List.getElem?_eq_getElem hlt,hx];simp
  have hf:=hc.drop.drop.now (X:=fun S w=>RepL S w ((k.pend.take i).map E3++[E3 d]) (xs++[.int .i64 kk,.int .i64 n,.string s,.slice A1 ln c1])) (fun h=>RepL.snoc h.2 h.1) (W6 _ _)
  rw [<-et] at hf
  exact⟨i+1,⟨rfl,rfl,rfl,rfl,congrArg _ (C1 (by omega)),trivial⟩,⟨hlt,_,A2,cap2,_,hf⟩,by show k.pend.length-(i+1)<k.pend.length-i;omega⟩
 ·refine df (by omega) ?_
  have hi:i=k.pend.length:=by omega
  subst hi
  rw [List.take_length] at hc
  obtain⟨S2,_,hc⟩:=hc.told
  have hc:=hc.now (X:=fun S w=>RepC S w (J3 (k.pend.map E3)) [.int .i64 3,.int .i64 0,.string ⟨#[]⟩,.slice A' k.pend.length cap']) (fun ho=>by
   rw [J3,RepC]
   exact⟨A',cap',xs,by rw [List.length_map],ho.1,by rw [List.length_map];exact ho.2⟩) (E8 _ _)
  have hr:=hc
  refine vD (.Q [0,1,4,5,6,8,9] (.n 2 (.q 3 (.n 7 (.n 10 (.n 11 (.n 12 (.n 13 (.q 14 .fin) .stop) .stop) .stop) .stop) .stop)) .stop)) (Old _) (Old.start _) ?_
  have hk:=hc.old0
  have hc:=hc.drew
  refine⟨stX k.b x,rfl,fun z hz=>Old.looks hz (hr.cellsAt 1 rfl 0 (stX k.b x) rfl),?_⟩
  refine⟨_,?_,fun x hx=>Keeps.cells hx (hr.blk 0 rfl) (hr.blk 0 rfl).lt,?_⟩
  ·rfl
  refine⟨_,fun x hx=>Keeps.cell hx (hr.blk 1 rfl) (hr.blk 1 rfl).lt rfl,?_⟩
  refine⟨_,fun x hx=>Keeps.cell hx (hr.blk 1 rfl) (hr.blk 1 rfl).lt rfl,?_⟩
  refine⟨hc.q (A2u k.b (A4c h.may h.lows) (stX k.b x) S0 _ (hR.1.below hc.below) (ht.below hc.below)) fun wA hA hc=>?_,trivial⟩
  have hk:=Keeps.below hk (fun _ h=>h) hA
  refine⟨hk,?_⟩
  refine⟨hc.q (O2 k.ep _) fun wA hA hc=>?_,trivial⟩
  have hk:=Keeps.below hk (fun _ h=>h) hA
  refine⟨hk,?_⟩
  refine⟨hc.q (O2 k.ln _) fun wA hA hc=>?_,trivial⟩
  have hk:=Keeps.below hk (fun _ h=>h) hA
  refine⟨hk,?_⟩
  refine⟨fun g6 w6 h6=>?_,trivial⟩
  have hc:=hc.made h6 4 4 rfl (by decide)
  have hk:=Keeps.below hk (fun _ h=>h) h6.below
  refine⟨hk,?_⟩
  refine⟨hc.q (M0 (some ⟨g6,0,none⟩) 4 4 _) fun wA hA hc=>?_,trivial⟩
  have hk:=Keeps.below hk (fun _ h=>h) hA
  refine⟨hk,?_⟩
  obtain⟨S3,_,hc⟩:=hc.told
  have hc:=hc.now (X:=fun S w=>RepC S w (W7 k) [.int .i64 3,.int .i64 0,.string ⟨#[]⟩,.slice (some ⟨g6,0,none⟩) 4 4]) (fun ho=>by
   rw [W7,J3,RepC]
   exact⟨some ⟨g6,0,none⟩,4,_,rfl,.cons (.leaf _ _ 2 0 ⟨(E1 k.b).toArray⟩) (.cons ho.1 (.cons (.leaf _ _ 1 k.ep ⟨#[]⟩) (.cons (.leaf _ _ 1 k.ln ⟨#[]⟩) (.nil _ _)))),ho.2⟩) (E8 _ _)
  have htl:=A3p h
  rw [A2z h] at htl
  refine⟨hc.q (X8 (W7 k) (A6o h) (by omega) 3 0 ⟨#[]⟩ (some ⟨g6,0,none⟩) 4 4 _ _ hc.row (ht.below hc.below)) fun wA hA hc=>?_,trivial⟩
  have hk:=Keeps.below hk (fun _ h=>h) hA
  refine⟨hk,?_⟩
  exact⟨rfl,hc.below⟩
def B79 (k:Known) (w:World) (en:Ending) (w':World):Prop:=∃ x A cap,en=.returned (.tuple #[.agg (knC k x A cap).toArray,.bool true])/\Below w.heap.size w w'/\KnR k x A cap (ext no w w') w'
theorem A2L (s:ByteArray):C8 s s=true:=C5.2 rfl
theorem B2W (s:ByteArray) (k:Known) (hf:FirstOk s k) (w:World) (hw:Env w):Calls Tryz.prog 139 #[.string s] w (B79 k w):=by
 have h:=hf.ok
 have hl:=h.len
 refine vE Tryz.func139 ?_
 have hc:=CtxF.start w no (fun _ h=>h.elim) (R:=fun _ _=>True) trivial Stab.true
 refine hc.n fun g2 wg2 hg2 hc=>?_
 rcases hf with ⟨rfl,rfl⟩ | ⟨rfl,_⟩
 ·refine hc.s 0 rfl fun wS hS hc=>?_
  refine hc.a 0 rfl rfl ?_
  exact⟨SX0,none,0,rfl,hc.below,A9r _ _,B0Z _ _⟩
 have hne:C8 (⟨(A4D k).toArray⟩:ByteArray) ⟨#[]⟩=false:=by
  rw [<-Bool.not_eq_true,C5]
  intro e
  apply B4X h
  injection e with e
  exact List.toArray_inj e
 refine B4 hne ?_
 have hal:=B4F (A4D k) _ (by have:=A3p h;omega) (hw.below hc.below)
 rw [A9x h] at hal
 refine⟨hal.mono fun en wq hq=>?_⟩
 obtain⟨A1,c1,e1,hb,hr1⟩:=hq
 obtain⟨xs,hL,hRw⟩:=hr1.rows
 have hRw:Row (ext no wg2 wq) wq A1 4 c1 xs:=hRw
 have hL:RepL (ext no wg2 wq) wq [vStr ⟨(E1 k.b).toArray⟩,J3 (k.pend.map E3),I4 k.ep,I4 k.ln] xs:=hL
 simp only [vStr,J3,I4,RepL,RepC] at hL
 obtain⟨d0,y0,⟨B0,e0,z0,rfl,_⟩,⟨d1,y1,⟨B1,e1',z1,rfl,hPL,hPR⟩,⟨d2,y2,⟨B2,e2,z2,rfl,_⟩,⟨d3,y3,⟨B3,e3,z3,rfl,_⟩,rfl,rfl⟩,rfl⟩,rfl⟩,rfl⟩:=hL
 have hc:=(hc.call hb).1.know (X:=fun S w=>Row S w A1 4 c1 ([.int .i64 2,.int .i64 0,.string ⟨(E1 k.b).toArray⟩,.slice B0 0 e0]++([.int .i64 3,.int .i64 0,.string ⟨#[]⟩,.slice B1 (k.pend.map E3).length e1']++([.int .i64 1,.int .i64 k.ep,.string ⟨#[]⟩,.slice B2 0 e2]++([.int .i64 1,.int .i64 k.ln,.string ⟨#[]⟩,.slice B3 0 e3]++[]))))/\RepL S w (k.pend.map E3) z1/\Row S w B1 (k.pend.map E3).length e1' z1)
  ⟨hRw.sub (fun b h=>h.elim (fun h=>h.elim) .inr),hPL.sub (fun b h=>h.elim (fun h=>h.elim) .inr),hPR.sub (fun b h=>h.elim (fun h=>h.elim) .inr)⟩ (Stab.and (fun _ _ _ _ h f=>h.fut f) (Stab.and (W6 _ _) (fun _ _ _ _ h f=>h.fut f)))
 refine⟨_,e1,?_⟩
 refine hc.n fun g4 wg4 hg4 hc=>?_
 refine hc.s 0 rfl fun wS hS hc=>?_
 refine hc.c 0 rfl rfl ?_
 obtain⟨ad,rfl,hSa,hcell⟩:=hc.row.2.1.2.2 (by simp)
 have hr:=hc
 refine vD (.Q [0,1,2,3,4,5,6,7,8,9,10] (.n 11 (.z 12) .stop)) (Old _) (Old.start _) ?_
 have hk:=hc.old0
 have hc:=hc.drew
 refine⟨_,fun x hx=>Keeps.cell hx (hr.blk 0 rfl) (hr.blk 0 rfl).lt rfl,?_⟩
 refine⟨⟨by decide,(show (2:Int)<4 by decide)⟩,?_⟩
 refine⟨_,fun x hx=>Keeps.look hx (hcell 9 _ rfl),?_⟩
 refine⟨_,fun x hx=>Keeps.cell hx (hr.blk 0 rfl) (hr.blk 0 rfl).lt rfl,?_⟩
 refine⟨⟨by decide,(show (3:Int)<4 by decide)⟩,?_⟩
 refine⟨_,fun x hx=>Keeps.look hx (hcell 13 _ rfl),?_⟩
 refine⟨hc.n fun g6 wg6 hg6 hc=>?_,trivial⟩
 have ng6:=Old.new hk hg6
 have hk:=Keeps.below hk (fun _ h=>h) hg6.below
 refine⟨hk,?_⟩
 refine hc.s 0 rfl fun wS hS hc=>?_
 refine hc.c 1 rfl rfl ?_
 obtain⟨ad',e',hSa',hcell⟩:=hc.row.2.1.2.2 (by simp)
 cases e'
 refine⟨⟨by decide,(show (1:Int)<4 by decide)⟩,?_⟩
 refine⟨_,hcell 7 _ rfl,?_⟩
 have hc:=hc.nil 60 8
 have hn:(k.pend.map E3).length=k.pend.length:=List.length_map _
 rw [hn] at*
 refine⟨Nat,fun i=>[(0,.string ⟨(A4D k).toArray⟩),(2,.pointer (some ⟨g2,0,none⟩)),(3,.bool false),(4,.pointer (some ⟨g4,0,none⟩)),(5,.int .i64 0),(6,.pointer (some ⟨g6,0,none⟩)),(43,.slice B1 k.pend.length e1'),(44,.int .i64 k.pend.length),(45,.int .i64 i)],
  fun i w'=>i<=k.pend.length/\∃ A2 c2,CtxF no w _ w' [(g6,181,knC ⟨Stt0,k.pend.take i,k.ep,k.ln⟩ SX0 A2 c2),(g4,79,D2 (W7 k) (some ad) c1),(g2,181,(lay.ty 181).zero)] [⟨60,8,A2,i,c2,((k.pend.take i).map dC).flatten⟩] _,fun i _=>k.pend.length-i,0,⟨rfl,rfl,rfl,rfl,rfl,rfl,rfl,rfl,rfl,trivial⟩,⟨Nat.zero_le _,none,0,hc⟩,?_⟩
 clear hc
 rintro i w4 u ⟨hi,A2,c2,hc⟩
 by_cases hlt:i<k.pend.length
 ·refine dt (by omega) ?_
  obtain⟨ad2,cs,rfl,hrep,hlen,hcells⟩:=Rep.elem hc.row.2.2.1 hc.row.2.2.2 i (by rw [List.length_map];exact hlt)
  rw [List.getElem_map] at hrep
  have hd:=h.pend k.pend[i] (List.getElem_mem hlt)
  generalize hx:k.pend[i]=d at*
  obtain⟨hd1,hd2⟩:=hd
  rw [L9 hd1] at hrep
  obtain⟨A5,c5,rfl⟩:=hrep.cells
  refine⟨⟨by omega,by omega⟩,?_⟩
  refine⟨_,hlen,hcells,?_⟩
  have hof:=fun S w hr=>A8d (H3 d) (vK (H3 d)) (vN (H3 d)) (vS (H3 d)) A5 (vL (H3 d)).length c5 S w hr (show (N9 (H3 d)).Ok from hd2)
  rw [A1Y d hd1] at hof
  have hst:=hc.stab
  have hc:=hc.know hrep (E8 _ _)
  refine hc.n fun g8 wg8 hg8 hc=>?_
  refine hc.s 0 rfl fun wS hS hc=>?_
  refine hc.a 0 rfl rfl ?_
  refine hc.q (hof _ _ hc.row.2) fun wQ hQ hc=>?_
  refine hc.n fun g9 wg9 hg9 hc=>?_
  refine hc.s 0 rfl fun wS hS hc=>?_
  refine hc.c 2 rfl rfl ?_
  refine hc.a 0 rfl rfl ?_
  refine hc.n fun gv wgv hgv hc=>?_
  refine D1 (m:=1) Tryz.underlying28 A00 rfl (by decide) hc (by rfl) (hc.cells 0 rfl) rfl (by omega) (by decide) (by show Value.slice A2 (k.pend.take i).length c2=Value.slice A2 i c2;rw [List.length_take,Nat.min_eq_left (Nat.le_of_lt hlt)]) rfl ?_
  intro A3 c3 w5 hc
  refine hc.s 3 rfl fun wS hS hc=>?_
  have et:k.pend.take (i+1)=k.pend.take i++[d]:=by rw [List.take_add_one,List.getElem?_eq_getElem hlt,hx];rfl
  have el:(k.pend.take i++[d]).length=i+1:=by rw [List.length_append,List.length_take];simp only [List.length_cons,List.length_nil];omega
  have hl1:(k.pend.take (i+1)).length=i+1:=by rw [et,el]
  refine⟨i+1,⟨rfl,rfl,rfl,rfl,rfl,rfl,rfl,rfl,congrArg _ (C1 (by omega)),trivial⟩,⟨hlt,A3,c3,?_⟩,by show k.pend.length-(i+1)<k.pend.length-i;omega⟩
  have hf:=hc.drop.drop.drop.now (fun h=>h.1) hst
  have e1:((k.pend.take (i+1)).map dC).flatten=((k.pend.take i).map dC).flatten++dC d:=by rw [et];simp
  have e2:knC ⟨Stt0,k.pend.take (i+1),k.ep,k.ln⟩ SX0 A3 c3=[.int .i64 Stt0.seq,.slice none 0 0,.slice none 0 0,.int .i64 0,.int .i64 0,.int .i64 0,.int .i64 0,.int .i64 0,.slice A3 (i+1) c3,.int .i64 k.ep,.int .i64 k.ln]:=by
   unfold knC
   rw [hl1]
   rfl
  rw [e1,e2]
  exact hf
 ·refine df (by omega) ?_
  have hi:i=k.pend.length:=by omega
  subst hi
  rw [List.take_length] at hc
  refine hc.c 1 rfl rfl ?_
  obtain⟨ad',e',hSa',hcell⟩:=hc.row.2.1.2.2 (by simp)
  cases e'
  refine⟨⟨by decide,(show (0:Int)<4 by decide)⟩,?_⟩
  refine⟨_,hcell 2 _ rfl,?_⟩
  have hbr:=A3c (E1 k.b) (A4Z h.lows h.may) _ (hw.below hc.below)
  rw [Y1 k.b h.lows h.may] at hbr
  refine⟨hbr.mono fun en wq hq=>?_⟩
  obtain⟨cS,e1,hq,hrep⟩:=hq
  obtain⟨xS,rfl⟩:=hrep.stX
  have hc:=(hc.call hq).1.know (X:=fun S w=>RepS S w k.b (stX k.b xS)) (hrep.map fun h=>h.sub fun b h=>h.elim (fun h=>h.elim) .inr) (P8 _ _)
  refine⟨_,e1,?_⟩
  refine hc.s 0 rfl fun wS hS hc=>?_
  obtain⟨S3,_,hc⟩:=hc.told
  have hc:=hc.now (X:=KnR k xS A2 c2) (fun h=>⟨h.1.2,h.2⟩) (KnR.stab _ _ _ _)
  refine vD (.Q [1,2,3,6] (.n 0 (.n 4 (.n 5 (.Q [7,8] (.n 9 (.q 10 .fin) .stop)) .stop) .stop) (.n 4 (.n 0 (.n 5 (.Q [7,8] (.n 9 (.q 10 .fin) .stop)) .stop) (.n 5 (.Q [7,8] (.n 0 (.n 9 (.q 10 .fin) .stop) .stop)) .stop)) .stop))) (fun _=>True) trivial ?_
  have hc:=hc.drew
  refine⟨?_,?_⟩
  ·skip
   refine hc.a' 0 rfl rfl ?_
   refine⟨hc.a' 0 rfl rfl ?_,trivial⟩
   refine⟨hc.q' (A5f k h xS A2 c2 S3 _ hc.row (hw.below hc.below).tab) fun wQ hQ hc=>?_,trivial⟩
   refine⟨hc.s' 2 rfl fun wS hS hc=>?_,trivial⟩
   refine hc.a 2 rfl rfl ?_
   refine⟨xS,A2,c2,?_,hc.below,hc.out⟩
   rw [A2L]
   rfl
  refine⟨hc.a' 0 rfl rfl ?_,trivial⟩
  refine⟨?_,?_⟩
  ·skip
   refine hc.a' 0 rfl rfl ?_
   refine⟨hc.q' (A5f k h xS A2 c2 S3 _ hc.row (hw.below hc.below).tab) fun wQ hQ hc=>?_,trivial⟩
   refine⟨hc.s' 2 rfl fun wS hS hc=>?_,trivial⟩
   refine hc.a 2 rfl rfl ?_
   refine⟨xS,A2,c2,?_,hc.below,hc.out⟩
   rw [A2L]
   rfl
  refine⟨hc.q' (A5f k h xS A2 c2 S3 _ hc.row (hw.below hc.below).tab) fun wQ hQ hc=>?_,trivial⟩
  refine⟨hc.a' 0 rfl rfl ?_,trivial⟩
  refine⟨hc.s' 2 rfl fun wS hS hc=>?_,trivial⟩
  refine hc.a 2 rfl rfl ?_
  refine⟨xS,A2,c2,?_,hc.below,hc.out⟩
  rw [A2L]
  rfl
def Y7 (p:Value) (dn:Bool) (cs:List Value):List Value:=p::(cs++[.bool dn])
def A1C (r:Res):List Value:=[.int .i64 r.err,.int .i64 r.ver]
theorem A2M:(Tryz.prog.info? 24).map (fun i=>(i.zero,i.size,i.bytes))=some (some (.agg #[.int .i64 0,.int .i64 0]),2,16):=by kernel_rfl
def kAt (k:Known) (i:Nat):Known:=⟨A2l k.b (k.pend.take i),k.pend.drop i,k.ep,k.ln⟩
theorem B5R {k:Known} (h:k.Ok) (i:Nat):(kAt k i).Ok:=by
 have:=h.commit (k.b.seq+i)
 unfold K2 at this
 rw [show (k.b.seq+(i:Int)-k.b.seq).toNat=i from by omega] at this
 exact this
theorem B2X {k:Known} (h:k.Ok) {i:Nat} (hi:i<=k.pend.length):(kAt k i).b.seq=k.b.seq+i:=by
 have hs:=h.seq
 have hl:(k.pend.take i).length=i:=by rw [List.length_take];omega
 have e:=A2J (k.pend.take i) h.may h.lows (fun d hd=>(h.pend d (List.mem_of_mem_take hd)).1) (by omega)
 rw [hl] at e
 exact e
theorem B2Y (s:Stt) (l:List D) (d:D):A2y s (l++[d])=A2y s l++[(doS (A2l s l) d).2]:=by
 induction l generalizing s with
 | nil=>rfl
 | cons a r ih=>rw [List.cons_append,A2y,ih,A2y];rfl
theorem A85 (k:Known) (i:Nat) (d:D) (r:List D) (h:(kAt k i).pend=d::r):kAt k (i+1)=⟨(doS (kAt k i).b d).1,r,k.ep,k.ln⟩/\A2y k.b (k.pend.take (i+1))=A2y k.b (k.pend.take i)++[(doS (kAt k i).b d).2]:=by
 have h:k.pend.drop i=d::r:=h
 have e1:k.pend.take (i+1)=k.pend.take i++[d]:=by
  have e2:=List.take_add (l:=k.pend) (i:=i) (j:=1)
  rw [e2,h]
  rfl
 have e2:k.pend.drop (i+1)=r:=by rw [<-List.drop_drop,h];rfl
 unfold kAt
 rw [e1,e2,A9s,B2Y]
 exact⟨rfl,rfl⟩
def U9 (k:Known) (n:Int):Known × List Res × Int:=if k.seq<n then (k,[],4) else ((K2 k n).1,(K2 k n).2,0)
def RetKc (g T:Nat) (wrap:List Value->List Value) (S:Nat->Prop) (w:World) (q:Known × List Res × Int) (en:Ending) (w':World):Prop:=
 ∃ A2 c2,en=.returned (.tuple #[.slice A2 q.2.1.length c2,.int .i64 q.2.2])/\Turn (fun x=>x=g) w w'/\∃ x A cap Sk,Blk w' g T (wrap (knC q.1 x A cap))/\(∀ y,Sk y->ext S w w' y/\∀ a,A2=some a->y≠a.block)/\KnR q.1 x A cap Sk w'/\
  w'.ownsRow w.heap.size 24 2 (.slice A2 q.2.1.length c2) q.2.1.length (q.2.1.map A1C).flatten
theorem RetKc.mk' {g T i:Nat} {wrap:List Value->List Value} {S S1:Nat->Prop} {w w':World} {k:Known} {l:List Res} {e:Int} {x:SX} {A A2:Option Addr} {cap c2:Nat} {cs:List Value} (hc:CtxF no (bare w) S1 w' [(g,T,cs)] [⟨24,2,A2,i,c2,(l.map A1C).flatten⟩] (KL w g S (KnR k x A cap))) (ec:cs=wrap (knC k x A cap)) (hl:l.length=i):RetKc g T wrap S w (k,l,e) (.returned (.tuple #[.slice A2 i c2,.int .i64 e])) w':=by
 subst hl
 subst ec
 obtain⟨h1,h2,Sr,h3,h4⟩:=hc.leaveL (KnR.stab _ _ _ _)
 have hout:=hc.fst.out
 have hnew:∀ a,A2=some a->w.heap.size<=a.block:=fun a ha=>by
  rcases Nat.lt_or_ge a.block w.heap.size with h | h
  ·have k1:=hout a ha
   have k2:=k1.2 _ (List.mem_cons_self ..)
   exact absurd (hc.row.1 a.block h (fun e=>k2 e.symm)).1 k1.1
  ·exact h
 refine⟨A2,c2,rfl,h1,x,A,cap,Sr,h2,fun y hy=>⟨(h3 y hy).2,fun a ha e=>(hout a ha).1 (e▸(h3 y hy).1)⟩,h4,hc.fst.row.1,?_⟩
 rcases hc.fst.row.2 with h | ⟨g',cp,cur,e1,_,h5⟩
 ·exact .inl h
 ·refine .inr ⟨g',cp,cur,e1,?_,h5⟩
  cases e1
  exact hnew _ rfl
theorem RetKc.mk {g T:Nat} {wrap:List Value->List Value} {S S1:Nat->Prop} {w w':World} {k:Known} {e:Int} {x:SX} {A A2:Option Addr} {cap c2:Nat} {cs:List Value} (hc:CtxF no (bare w) S1 w' [(g,T,cs)] [⟨24,2,A2,0,c2,[]⟩] (KL w g S (KnR k x A cap))) (ec:cs=wrap (knC k x A cap)):RetKc g T wrap S w (k,[],e) (.returned (.tuple #[.slice A2 0 c2,.int .i64 e])) w':=RetKc.mk' (l:=[]) hc ec rfl
theorem _root_.Go.Vc.CtxF.castL {S0 S:Nat->Prop} {w0 w:World} {g T:Nat} {cs cs':List Value} {l:List LB} {os:List OR} {R:Kn} (hc:CtxF S0 w0 S w ((g,T,cs)::l) os R) (e:cs=cs'):CtxF S0 w0 S w ((g,T,cs')::l) os R:=e▸hc
theorem A6p (l:List Res) (x:Res):((l++[x]).map A1C).flatten=(l.map A1C).flatten++A1C x:=by simp
theorem A4l {l r:List D} {d:D} {ad:Addr} {cap:Nat} {S:Nat->Prop} {w:World} (hl:l=d::r) (hR:Row S w (some ad) l.length cap (l.map dC).flatten):Row S w (if (cap:Int)=1 then some ad else (some ad).map (·.add ((1:Int).toNat*8))) r.length (cap-1) (r.map dC).flatten:=by
 have h:=Row.back hR 8 (by rw [(O1 l).len,List.length_map]) 1 1 rfl (by rw [hl,List.length_cons];omega)
 have e1:l.length-1=r.length:=by rw [hl];rfl
 have e2:((l.map dC).flatten).drop (1*8)=(r.map dC).flatten:=by
  rw [hl,List.map_cons,List.flatten_cons]
  exact List.drop_left' rfl
 rw [e1,e2] at h
 exact h
theorem P5 {w w1:World} {g T:Nat} {S S1:Nat->Prop} {l:List LB} {os:List OR} {ki:Known} {x:SX} {A:Option Addr} {cap:Nat} {cs:List Value} (hc:CtxF no (bare w) S1 w1 l os (KL w g S (KnR ki x A cap))) (k:Nat) (hk:l[k]?=some (g,T,cs)) (hko:ki.Ok) (d:D) (hd:d.Ok):
  Calls Tryz.prog 180 #[.agg (stX ki.b x).toArray,.agg (dC d).toArray] w1 (fun en wq=>∃ xS S2,en=.returned (.tuple #[.agg (stX (doS ki.b d).1 xS).toArray,.agg #[.int .i64 (doS ki.b d).2.err,.int .i64 (doS ki.b d).2.ver]])/\Below w1.heap.size w1 wq/\CtxF no (bare w) S2 wq l os (KL w g S (fun S w=>KnR ki x A cap S w/\RepS S w (doS ki.b d).1 (stX (doS ki.b d).1 xS)))):=by
 obtain⟨Sr,hR1,hSr,hin⟩:=hc.inL (KnR.stab _ _ _ _) k hk
 refine (A5Q ki.b d (A4c hko.may hko.lows) hd (stX ki.b x) Sr _ (fun b hb=>hc.ctx.lt b (hSr b hb)) hR1.1).mono fun en wq hq2=>?_
 obtain⟨cS,e1,hb,hrep⟩:=hq2
 obtain⟨xS,rfl⟩:=hrep.stX
 exact⟨xS,_,e1,hb,hin (hc.call hb) (fun x hx=>.inl (hx.elim (fun h=>.inl (hSr x h)) .inr)) (X:=fun S w=>RepS S w (doS ki.b d).1 (stX (doS ki.b d).1 xS)) (P8 _ _) (hrep.map fun h=>h.sub fun b hb=>⟨hb,hb.elim (fun h=>.inl (hSr b h)) .inr⟩)⟩
theorem B2Z (k:Known) (h:k.Ok) (d:D) (hd:d.Ok) (x:SX) (A:Option Addr) (cap g:Nat) (S:Nat->Prop) (w:World) (p:Value) (dn:Bool) (hB:Blk w g 183 (Y7 p dn (knC k x A cap))) (hS:∀ x,S x->x<w.heap.size/\x≠g) (hR:KnR k x A cap S w):
  Calls Tryz.prog 146 #[.pointer (some ⟨g,1,none⟩),.agg (dC d).toArray] w (RetKn g 183 (Y7 p dn) S w (.int .i64 (A08 k d)) (B2U k d)):=by
 obtain⟨e,he⟩:∃ e,e=A08 k d:=⟨_,rfl⟩
 obtain⟨k',hk'⟩:∃ k',k'=B2U k d:=⟨_,rfl⟩
 unfold B2U at hk'
 rw [<-he] at hk'
 rw [<-he,show B2U k d=k' from by rw [hk',he];rfl]
 unfold A08 at he
 have hc:=CtxF.enterL hB hS hR (KnR.stab _ _ _ _)
 refine vE Tryz.func146 ?_
 refine hc.n fun g3 wg3 hg3 hc=>?_
 refine hc.a 0 rfl rfl ?_
 refine hc.q (A0J d hd _) fun wQ hQ hc=>?_
 cases hm:J4 d with
 | false=>
  rw [hm,if_neg (by decide)] at he
  rw [he,if_neg (by decide)] at hk'
  subst he hk'
  exact RetKn.mk hc.drop rfl _
 | true=>
 rw [hm,if_pos rfl] at he
 refine hc.c 1 rfl rfl ?_
 by_cases h60:60<=k.pend.length
 ·rw [if_pos (.inl h60)] at he
  rw [he,if_neg (by decide)] at hk'
  subst he hk'
  refine dt (by omega) ?_
  exact RetKn.mk hc.drop rfl _
 refine df (by omega) ?_
 refine⟨knC k x A cap,rfl,hc.cellsAt 1 rfl 1 (knC k x A cap) rfl,?_⟩
 refine hc.q (A1p k h x A cap _) fun wQ hQ hc=>?_
 by_cases hsq:J9<=k.seq
 ·rw [if_pos (.inr hsq)] at he
  rw [he,if_neg (by decide)] at hk'
  subst he hk'
  refine dt hsq ?_
  exact RetKn.mk hc.drop rfl _
 refine df hsq ?_
 rw [if_neg (fun h=>h.elim h60 hsq)] at he
 rw [he,if_pos rfl] at hk'
 subst he hk'
 refine vD (.Q [0,1,2,3,6] (.n 4 (.n 5 (.n 7 (.n 8 (.Q [9,10] (.n 11 .fin .stop)) .stop) .stop) (.n 7 (.n 5 (.n 8 (.Q [9,10] (.n 11 .fin .stop)) .stop) .stop) .stop)) (.n 7 (.n 4 (.n 5 (.n 8 (.Q [9,10] (.n 11 .fin .stop)) .stop) .stop) .stop) .stop))) (fun z=>Blk z g3 60 (dC d)) (hc.blk 0 rfl) ?_
 have hc:=hc.drew
 refine⟨dC d,rfl,fun z hz=>C3 hz 0 _ 0 (fun j v hj=>by simpa using hj),?_⟩
 refine⟨?_,?_⟩
 ·skip
  refine⟨_,hc.cell 1 rfl _ rfl,(hc.blk 0 rfl),?_⟩
  refine⟨?_,?_⟩
  ·skip
   obtain⟨Sr,hR1,hSr,hin⟩:=hc.inL (KnR.stab _ _ _ _) 1 rfl
   refine⟨(O8 A k.pend.length cap _ (O1 _) (List.length_map _) (by have:=h.len;omega) Sr _ hR1.2).mono fun en wq hq=>?_⟩
   obtain⟨A2,cap2,e1,hb,ho⟩:=hq
   have hc:=hc.fresh hb ho
   refine⟨_,e1,(hc.blk 0 rfl),?_⟩
   refine⟨hc.n fun gv wgv hgv hc=>?_,trivial⟩
   refine⟨(hc.blk 1 rfl),?_⟩
   refine⟨D1 (m:=1) Tryz.underlying28 A00 rfl (by decide) hc (by rfl) (hc.cells 0 rfl) rfl (by have:=h.len;show k.pend.length+1<=_;omega) (by decide) rfl rfl ?_,trivial⟩
   intro A3 cap3 w3 hc
   refine⟨(hc.blk 1 rfl),?_⟩
   refine⟨hc.s 2 rfl fun wS hS hc=>?_,trivial⟩
   refine⟨(hc.blk 1 rfl),?_⟩
   obtain⟨S2,hc⟩:=hc.toldL (KnR.stab _ _ _ _) 2 rfl
   have hc:=(hc.nowL (R':=KnR ⟨k.b,k.pend++[d],k.ep,k.ln⟩ x A3 cap3) (fun S w h=>⟨h.1.1,by
    have e1:((k.pend++[d]).map dC).flatten=(k.pend.map dC).flatten++dC d:=by simp
    have e2:(k.pend++[d]).length=k.pend.length+1:=by simp
    show Row S w A3 (k.pend++[d]).length cap3 ((k.pend++[d]).map dC).flatten
    rw [e1,e2]
    exact h.2⟩) (KnR.stab _ _ _ _)).drop.drop
   refine RetKn.mk hc ?_ _
   show _=Y7 p dn (knC ⟨k.b,k.pend++[d],k.ep,k.ln⟩ x A3 cap3)
   unfold knC Y7
   rw [show (k.pend++[d]).length=k.pend.length+1 from by simp]
   rfl
  refine⟨hc.n fun gv wgv hgv hc=>?_,trivial⟩
  refine⟨(hc.blk 1 rfl),?_⟩
  refine⟨?_,trivial⟩
  obtain⟨Sr,hR1,hSr,hin⟩:=hc.inL (KnR.stab _ _ _ _) 2 rfl
  refine⟨(O8 A k.pend.length cap _ (O1 _) (List.length_map _) (by have:=h.len;omega) Sr _ hR1.2).mono fun en wq hq=>?_⟩
  obtain⟨A2,cap2,e1,hb,ho⟩:=hq
  have hc:=hc.fresh hb ho
  refine⟨_,e1,(hc.blk 1 rfl),?_⟩
  refine⟨D1 (m:=1) Tryz.underlying28 A00 rfl (by decide) hc (by rfl) (hc.cells 0 rfl) rfl (by have:=h.len;show k.pend.length+1<=_;omega) (by decide) rfl rfl ?_,trivial⟩
  intro A3 cap3 w3 hc
  refine⟨(hc.blk 1 rfl),?_⟩
  refine⟨hc.s 2 rfl fun wS hS hc=>?_,trivial⟩
  refine⟨(hc.blk 1 rfl),?_⟩
  obtain⟨S2,hc⟩:=hc.toldL (KnR.stab _ _ _ _) 2 rfl
  have hc:=(hc.nowL (R':=KnR ⟨k.b,k.pend++[d],k.ep,k.ln⟩ x A3 cap3) (fun S w h=>⟨h.1.1,by
   have e1:((k.pend++[d]).map dC).flatten=(k.pend.map dC).flatten++dC d:=by simp
   have e2:(k.pend++[d]).length=k.pend.length+1:=by simp
   show Row S w A3 (k.pend++[d]).length cap3 ((k.pend++[d]).map dC).flatten
   rw [e1,e2]
   exact h.2⟩) (KnR.stab _ _ _ _)).drop.drop
  refine RetKn.mk hc ?_ _
  show _=Y7 p dn (knC ⟨k.b,k.pend++[d],k.ep,k.ln⟩ x A3 cap3)
  unfold knC Y7
  rw [show (k.pend++[d]).length=k.pend.length+1 from by simp]
  rfl
 refine⟨hc.n fun gv wgv hgv hc=>?_,trivial⟩
 refine⟨(hc.blk 1 rfl),?_⟩
 refine⟨⟨_,hc.cell 2 rfl _ rfl,(hc.blk 1 rfl),?_⟩,trivial⟩
 refine⟨?_,trivial⟩
 obtain⟨Sr,hR1,hSr,hin⟩:=hc.inL (KnR.stab _ _ _ _) 2 rfl
 refine⟨(O8 A k.pend.length cap _ (O1 _) (List.length_map _) (by have:=h.len;omega) Sr _ hR1.2).mono fun en wq hq=>?_⟩
 obtain⟨A2,cap2,e1,hb,ho⟩:=hq
 have hc:=hc.fresh hb ho
 refine⟨_,e1,(hc.blk 1 rfl),?_⟩
 refine⟨D1 (m:=1) Tryz.underlying28 A00 rfl (by decide) hc (by rfl) (hc.cells 0 rfl) rfl (by have:=h.len;show k.pend.length+1<=_;omega) (by decide) rfl rfl ?_,trivial⟩
 intro A3 cap3 w3 hc
 refine⟨(hc.blk 1 rfl),?_⟩
 refine⟨hc.s 2 rfl fun wS hS hc=>?_,trivial⟩
 refine⟨(hc.blk 1 rfl),?_⟩
 obtain⟨S2,hc⟩:=hc.toldL (KnR.stab _ _ _ _) 2 rfl
 have hc:=(hc.nowL (R':=KnR ⟨k.b,k.pend++[d],k.ep,k.ln⟩ x A3 cap3) (fun S w h=>⟨h.1.1,by
  have e1:((k.pend++[d]).map dC).flatten=(k.pend.map dC).flatten++dC d:=by simp
  have e2:(k.pend++[d]).length=k.pend.length+1:=by simp
  show Row S w A3 (k.pend++[d]).length cap3 ((k.pend++[d]).map dC).flatten
  rw [e1,e2]
  exact h.2⟩) (KnR.stab _ _ _ _)).drop.drop
 refine RetKn.mk hc ?_ _
 show _=Y7 p dn (knC ⟨k.b,k.pend++[d],k.ep,k.ln⟩ x A3 cap3)
 unfold knC Y7
 rw [show (k.pend++[d]).length=k.pend.length+1 from by simp]
 rfl
theorem Y8 {w w1:World} {g i cap c3:Nat} {S S1:Nat->Prop} {y1 y2 y3:LB} {k ki:Known} {d:D} {r:List D} {l:List Res} {x xS:SX} {ad0:Addr} {A3:Option Addr}
  (hk1:kAt k (i+1)=⟨(doS ki.b d).1,r,k.ep,k.ln⟩) (hk2:A2y k.b (k.pend.take (i+1))=l++[(doS ki.b d).2]) (hpd:ki.pend=d::r) (hcapb:ki.pend.length<=cap) (hke:ki.ep=k.ep) (hkl:ki.ln=k.ln)
  (hc:CtxF no (bare w) S1 w1 [y1,y2,y3,(g,181,D3 (D3 (knC ki x (some ad0) cap) 0 (stX (doS ki.b d).1 xS)) (0+8) [.slice (if (cap:Int)=1 then some ad0 else (some ad0).map (·.add ((1:Int).toNat*8))) ((ki.pend.length:Int)-1).toNat ((cap:Int)-1).toNat])] [⟨24,2,A3,i+1,c3,(l.map A1C).flatten++A1C (doS ki.b d).2⟩] (KL w g S (fun S w=>KnR ki x (some ad0) cap S w/\RepS S w (doS ki.b d).1 (stX (doS ki.b d).1 xS)))):
  ∃ S3 A' cap',CtxF no (bare w) S3 w1 [(g,181,(knC (kAt k (i+1)) xS A' cap'))] [⟨24,2,A3,i+1,c3,((A2y k.b (k.pend.take (i+1))).map A1C).flatten⟩] (KL w g S (KnR (kAt k (i+1)) xS A' cap')):=by
 have hpl:ki.pend.length=r.length+1:=by rw [hpd];rfl
 have hc:=((hc.nowL (R':=KnR ⟨(doS ki.b d).1,r,k.ep,k.ln⟩ xS (if (cap:Int)=1 then some ad0 else (some ad0).map (·.add ((1:Int).toNat*8))) (cap-1)) (fun S w h=>⟨h.2,A4l hpd h.1.2⟩) (KnR.stab _ _ _ _)).drop.drop.drop).castL (cs':=(knC ⟨(doS ki.b d).1,r,k.ep,k.ln⟩ xS (if (cap:Int)=1 then some ad0 else (some ad0).map (·.add ((1:Int).toNat*8))) (cap-1))) (by
  rw [show cap-1=((cap:Int)-1).toNat from by omega]
  unfold knC
  rw [<-hke,<-hkl,show r.length=((ki.pend.length:Int)-1).toNat from by omega]
  rfl)
 rw [hk1,hk2,A6p]
 exact⟨_,_,_,hc⟩
theorem A6q (k:Known) (h:k.Ok) (n:Int) (hn:B9 n) (x:SX) (A:Option Addr) (cap g:Nat) (S:Nat->Prop) (w:World) (hB:Blk w g 181 (knC k x A cap)) (hS:∀ x,S x->x<w.heap.size/\x≠g) (hR:KnR k x A cap S w):
  Calls Tryz.prog 147 #[.pointer (some ⟨g,0,none⟩),.int .i64 n] w (RetKc g 181 id S w (U9 k n)):=by
 have hsq:=h.seq
 have hln:=h.len
 have hm:J9=1099511627776:=rfl
 have h0:=(E5.1 h.may).1.1
 have hc:=CtxF.enterL hB hS hR (KnR.stab _ _ _ _)
 obtain⟨q,hq⟩:∃ q,q=U9 k n:=⟨_,rfl⟩
 rw [<-hq]
 unfold U9 at hq
 refine vE Tryz.func147 ?_
 refine⟨knC k x A cap,rfl,hc.cellsAt 0 rfl 0 (knC k x A cap) rfl,?_⟩
 refine hc.q (A1p k h x A cap _) fun wQ hQ hc=>?_
 by_cases hgt:k.seq<n
 ·rw [if_pos hgt] at hq
  subst hq
  refine dt hgt ?_
  exact RetKc.mk (A2:=none) (c2:=0) (hc.nil 24 2) rfl
 rw [if_neg hgt] at hq
 refine df hgt ?_
 have hc:=hc.nil 24 2
 have hj:(n-k.b.seq).toNat<=k.pend.length:=by unfold Known.seq at hgt;omega
 refine⟨Nat × Option Addr × Nat,fun y=>[(0,.pointer (some ⟨g,0,none⟩)),(1,.int .i64 n),(6,.slice y.2.1 y.1 y.2.2)],
  fun y w'=>y.1<=(n-k.b.seq).toNat/\∃ S1 x A cap,CtxF no (bare w) S1 w' [(g,181,(knC (kAt k y.1) x A cap))] [⟨24,2,y.2.1,y.1,y.2.2,((A2y k.b (k.pend.take y.1)).map A1C).flatten⟩] (KL w g S (KnR (kAt k y.1) x A cap)),fun y _=>(n-k.b.seq).toNat-y.1,(0,none,0),⟨rfl,rfl,rfl,trivial⟩,⟨Nat.zero_le _,_,x,A,cap,hc⟩,?_⟩
 clear hc
 rintro⟨i,A2,c2⟩ w1 u ⟨hi,S1,x,A,cap,hc⟩
 simp only at hi hc
 have hko:=B5R h i
 have hks:=B2X h (i:=i) (by omega)
 have hkn:=A85 k i
 have hke:(kAt k i).ep=k.ep:=rfl
 have hkl:(kAt k i).ln=k.ln:=rfl
 generalize hki:kAt k i=ki at*
 refine hc.c 0 rfl rfl ?_
 by_cases hlt:i<(n-k.b.seq).toNat
 rotate_left
 ·refine df (by show ¬ ki.b.seq<n;omega) ?_
  have hii:i=(n-k.b.seq).toNat:=by omega
  have e:q=(ki,A2y k.b (k.pend.take i),0):=by rw [hq,<-hki,hii];rfl
  subst e
  have hlen:(A2y k.b (k.pend.take i)).length=i:=by rw [A5a,List.length_take];omega
  exact RetKc.mk' hc rfl hlen
 refine dt (by show ki.b.seq<n;omega) ?_
 obtain⟨d,r,hpd⟩:∃ d r,ki.pend=d::r:=by
  have e:ki.pend=k.pend.drop i:=by rw [<-hki];rfl
  cases hd:k.pend.drop i with
  | nil=>
   have:=congrArg List.length hd
   rw [List.length_drop] at this
   simp only [List.length_nil] at this
   omega
  | cons d r=>exact⟨d,r,by rw [e,hd]⟩
 obtain⟨hk1,hk2⟩:=hkn d r hpd
 have hdd:=hko.pend d (by rw [hpd];exact List.mem_cons_self ..)
 have hpl:ki.pend.length=r.length+1:=by rw [hpd];rfl
 obtain⟨hk0,Sr0,hs0,hR0⟩:=hc.row
 obtain⟨ad0,rfl,hcell0⟩:=Row.elemF hR0.2 (by decide) (O1 _) 0 (by rw [List.length_map,hpl];omega)
 have hcell:Go.Vc.cellsAt w1 ad0 (dC d) 0:=by
  have e:(ki.pend.map dC)[0]'(by rw [List.length_map,hpl];omega)=dC d:=by simp [hpd]
  rw [e] at hcell0
  have e2:ad0.add (0*8)=ad0:=by unfold Addr.add;simp
  rw [e2] at hcell0
  exact hcell0
 have hcapb:ki.pend.length<=cap:=hR0.2.1
 refine Drawn.join (α:=Nat × Nat × SX) (fun z=>[(0,.pointer (some ⟨g,0,none⟩)),(1,.int .i64 n),(6,.slice A2 i c2),(7,.pointer (some ⟨z.1,0,none⟩)),(8,.pointer (some ⟨z.2.1,0,none⟩))])
  (fun z wS=>∃ S2,CtxF no (bare w) S2 wS [(z.2.1,24,A1C (doS ki.b d).2),(z.1,33,stX (doS ki.b d).1 z.2.2),(g,181,(knC ki x (some ad0) cap))] [⟨24,2,A2,i,c2,((A2y k.b (k.pend.take i)).map A1C).flatten⟩] (KL w g S (fun S w=>KnR ki x (some ad0) cap S w/\RepS S w (doS ki.b d).1 (stX (doS ki.b d).1 z.2.2)))) ?_ ?_
 ·have hr:=hc
  refine vD (.Q [0,1,2,3,4,5,6,7,8,9] (.n 10 (.Q [11,12,13] (.n 14 (.n 15 (.n 16 (.z 17) .stop) .stop) (.n 15 (.n 14 (.n 16 (.z 17) .stop) .stop) .stop))) (.n 14 (.n 10 (.Q [11,12,13] (.n 15 (.n 16 (.z 17) .stop) .stop)) (.n 15 (.n 10 (.Q [11,12,13] (.n 16 (.z 17) .stop)) .stop) .stop)) (.n 15 (.n 10 (.Q [11,12,13] (.n 14 (.n 16 (.z 17) .stop) .stop)) (.n 14 (.n 10 (.Q [11,12,13] (.n 16 (.z 17) .stop)) .stop) .stop)) .stop)))) (Old _) (Old.start _) ?_
  have hk:=hc.old0
  have hc:=hc.drew
  refine⟨stX ki.b x,rfl,fun z hz=>Old.looks hz (hr.cellsAt 0 rfl 0 (stX ki.b x) rfl),?_⟩
  refine⟨_,fun z hz=>Keeps.cell hz (hr.blk 0 rfl) (hr.blk 0 rfl).lt rfl,?_⟩
  refine⟨⟨by decide,by show (0:Int)<(ki.pend.length:Int);omega⟩,?_⟩
  refine⟨dC d,rfl,fun z hz=>Old.looks hz hcell,?_⟩
  refine⟨?_,?_⟩
  ·skip
   refine⟨(P5 hc 0 rfl hko d hdd.2).mono fun en wq hq2=>?_⟩
   obtain⟨xS,S2,e1,hb,hc⟩:=hq2
   have hk:=Keeps.below hk (fun _ h=>h) hb
   refine⟨_,e1,hk,?_⟩
   refine⟨?_,?_⟩
   ·skip
    refine hc.n fun g7 wg7 hg7 hc=>?_
    have ng7:=Old.new hk hg7
    have hk:=Keeps.below hk (fun _ h=>h) hg7.below
    refine⟨hk,?_⟩
    refine⟨hc.n fun g8 wg8 hg8 hc=>?_,trivial⟩
    have ng8:=Old.new hk hg8
    have hk:=Keeps.below hk (fun _ h=>h) hg8.below
    refine⟨hk,?_⟩
    refine⟨⟨hc.may 1 rfl _ _ (nle rfl) rfl,?_⟩,trivial⟩
    intro wS hS
    have hk:=Keeps.stored hk (hc.blk 1 rfl) ng7 hS
    have hc:=(hc.set 1 rfl hS).1
    refine⟨hk,?_⟩
    refine hc.s 0 rfl fun wS hS hc=>?_
    first | exact⟨(g7,g8,xS),⟨rfl,rfl,rfl,rfl,rfl,trivial⟩,_,hc⟩ | exact⟨(g7,g8,xS),⟨rfl,rfl,rfl,rfl,rfl,trivial⟩,_,hc.swapL⟩
   refine⟨hc.n fun g8 wg8 hg8 hc=>?_,trivial⟩
   have ng8:=Old.new hk hg8
   have hk:=Keeps.below hk (fun _ h=>h) hg8.below
   refine⟨hk,?_⟩
   refine⟨hc.n fun g7 wg7 hg7 hc=>?_,trivial⟩
   have ng7:=Old.new hk hg7
   have hk:=Keeps.below hk (fun _ h=>h) hg7.below
   refine⟨hk,?_⟩
   refine⟨⟨hc.may 0 rfl _ _ (nle rfl) rfl,?_⟩,trivial⟩
   intro wS hS
   have hk:=Keeps.stored hk (hc.blk 0 rfl) ng7 hS
   have hc:=(hc.set 0 rfl hS).1
   refine⟨hk,?_⟩
   refine hc.s 1 rfl fun wS hS hc=>?_
   first | exact⟨(g7,g8,xS),⟨rfl,rfl,rfl,rfl,rfl,trivial⟩,_,hc⟩ | exact⟨(g7,g8,xS),⟨rfl,rfl,rfl,rfl,rfl,trivial⟩,_,hc.swapL⟩
  refine⟨?_,?_⟩
  ·skip
   refine hc.n fun g7 wg7 hg7 hc=>?_
   have ng7:=Old.new hk hg7
   have hk:=Keeps.below hk (fun _ h=>h) hg7.below
   refine⟨hk,?_⟩
   refine⟨?_,?_⟩
   ·skip
    refine⟨(P5 hc 1 rfl hko d hdd.2).mono fun en wq hq2=>?_⟩
    obtain⟨xS,S2,e1,hb,hc⟩:=hq2
    have hk:=Keeps.below hk (fun _ h=>h) hb
    refine⟨_,e1,hk,?_⟩
    refine⟨hc.n fun g8 wg8 hg8 hc=>?_,trivial⟩
    have ng8:=Old.new hk hg8
    have hk:=Keeps.below hk (fun _ h=>h) hg8.below
    refine⟨hk,?_⟩
    refine⟨⟨hc.may 1 rfl _ _ (nle rfl) rfl,?_⟩,trivial⟩
    intro wS hS
    have hk:=Keeps.stored hk (hc.blk 1 rfl) ng7 hS
    have hc:=(hc.set 1 rfl hS).1
    refine⟨hk,?_⟩
    refine hc.s 0 rfl fun wS hS hc=>?_
    first | exact⟨(g7,g8,xS),⟨rfl,rfl,rfl,rfl,rfl,trivial⟩,_,hc⟩ | exact⟨(g7,g8,xS),⟨rfl,rfl,rfl,rfl,rfl,trivial⟩,_,hc.swapL⟩
   refine⟨hc.n fun g8 wg8 hg8 hc=>?_,trivial⟩
   have ng8:=Old.new hk hg8
   have hk:=Keeps.below hk (fun _ h=>h) hg8.below
   refine⟨hk,?_⟩
   refine⟨⟨(P5 hc 2 rfl hko d hdd.2).mono fun en wq hq2=>?_⟩,trivial⟩
   obtain⟨xS,S2,e1,hb,hc⟩:=hq2
   have hk:=Keeps.below hk (fun _ h=>h) hb
   refine⟨_,e1,hk,?_⟩
   refine⟨⟨hc.may 1 rfl _ _ (nle rfl) rfl,?_⟩,trivial⟩
   intro wS hS
   have hk:=Keeps.stored hk (hc.blk 1 rfl) ng7 hS
   have hc:=(hc.set 1 rfl hS).1
   refine⟨hk,?_⟩
   refine hc.s 0 rfl fun wS hS hc=>?_
   first | exact⟨(g7,g8,xS),⟨rfl,rfl,rfl,rfl,rfl,trivial⟩,_,hc⟩ | exact⟨(g7,g8,xS),⟨rfl,rfl,rfl,rfl,rfl,trivial⟩,_,hc.swapL⟩
  refine⟨hc.n fun g8 wg8 hg8 hc=>?_,trivial⟩
  have ng8:=Old.new hk hg8
  have hk:=Keeps.below hk (fun _ h=>h) hg8.below
  refine⟨hk,?_⟩
  refine⟨?_,?_⟩
  ·skip
   refine⟨(P5 hc 1 rfl hko d hdd.2).mono fun en wq hq2=>?_⟩
   obtain⟨xS,S2,e1,hb,hc⟩:=hq2
   have hk:=Keeps.below hk (fun _ h=>h) hb
   refine⟨_,e1,hk,?_⟩
   refine⟨hc.n fun g7 wg7 hg7 hc=>?_,trivial⟩
   have ng7:=Old.new hk hg7
   have hk:=Keeps.below hk (fun _ h=>h) hg7.below
   refine⟨hk,?_⟩
   refine⟨⟨hc.may 0 rfl _ _ (nle rfl) rfl,?_⟩,trivial⟩
   intro wS hS
   have hk:=Keeps.stored hk (hc.blk 0 rfl) ng7 hS
   have hc:=(hc.set 0 rfl hS).1
   refine⟨hk,?_⟩
   refine hc.s 1 rfl fun wS hS hc=>?_
   first | exact⟨(g7,g8,xS),⟨rfl,rfl,rfl,rfl,rfl,trivial⟩,_,hc⟩ | exact⟨(g7,g8,xS),⟨rfl,rfl,rfl,rfl,rfl,trivial⟩,_,hc.swapL⟩
  refine⟨hc.n fun g7 wg7 hg7 hc=>?_,trivial⟩
  have ng7:=Old.new hk hg7
  have hk:=Keeps.below hk (fun _ h=>h) hg7.below
  refine⟨hk,?_⟩
  refine⟨⟨(P5 hc 2 rfl hko d hdd.2).mono fun en wq hq2=>?_⟩,trivial⟩
  obtain⟨xS,S2,e1,hb,hc⟩:=hq2
  have hk:=Keeps.below hk (fun _ h=>h) hb
  refine⟨_,e1,hk,?_⟩
  refine⟨⟨hc.may 0 rfl _ _ (nle rfl) rfl,?_⟩,trivial⟩
  intro wS hS
  have hk:=Keeps.stored hk (hc.blk 0 rfl) ng7 hS
  have hc:=(hc.set 0 rfl hS).1
  refine⟨hk,?_⟩
  refine hc.s 1 rfl fun wS hS hc=>?_
  first | exact⟨(g7,g8,xS),⟨rfl,rfl,rfl,rfl,rfl,trivial⟩,_,hc⟩ | exact⟨(g7,g8,xS),⟨rfl,rfl,rfl,rfl,rfl,trivial⟩,_,hc.swapL⟩
 clear hc
 rintro⟨g7,g8,xS⟩ u2 w2 ⟨S2,hc⟩
 simp only at hc
 refine Drawn.join (α:=Option Addr × Nat) (fun z=>[(0,.pointer (some ⟨g,0,none⟩)),(1,.int .i64 n),(6,.slice z.1 (i+1) z.2)])
  (fun z wS=>∃ S3 A' cap',CtxF no (bare w) S3 wS [(g,181,(knC (kAt k (i+1)) xS A' cap'))] [⟨24,2,z.1,i+1,z.2,((A2y k.b (k.pend.take (i+1))).map A1C).flatten⟩] (KL w g S (KnR (kAt k (i+1)) xS A' cap'))) ?_ ?_
 ·refine vD (.Q [0,1,2,3,4,5,8,9] (.n 6 (.q 7 (.n 10 (.n 11 (.Q [12,13] (.n 14 (.Q [15,16] (.n 17 (.q 18 .fin) .stop)) .stop)) .stop) .stop)) (.n 10 (.n 6 (.q 7 (.n 11 (.Q [12,13] (.n 14 (.Q [15,16] (.n 17 (.q 18 .fin) .stop)) .stop)) .stop)) (.n 11 (.n 6 (.Q [7,12,13] (.n 14 (.Q [15,16] (.n 17 (.q 18 .fin) .stop)) .stop)) .stop) .stop)) .stop))) (fun z=>Blk z g7 33 (stX (doS ki.b d).1 xS)/\Blk z g8 24 (A1C (doS ki.b d).2)) ⟨hc.blk 1 rfl,hc.blk 0 rfl⟩ ?_
  have hc:=hc.drew
  refine⟨stX (doS ki.b d).1 xS,rfl,fun z hz=>C3 hz.1 0 _ 0 (fun j v hj=>by simpa using hj),?_⟩
  refine⟨A1C (doS ki.b d).2,rfl,fun z hz=>C3 hz.2 0 _ 0 (fun j v hj=>by simpa using hj),?_⟩
  refine⟨?_,?_⟩
  ·skip
   refine⟨_,hc.cell 2 rfl _ rfl,⟨hc.blk 1 rfl,hc.blk 0 rfl⟩,?_⟩
   refine⟨⟨by decide,by show (1:Int)<=(ki.pend.length:Int)/\(ki.pend.length:Int)<=(cap:Int)/\(cap:Int)<=(cap:Int);omega⟩,?_⟩
   refine⟨hc.n fun gv wgv hgv hc=>?_,trivial⟩
   refine⟨⟨hc.blk 2 rfl,hc.blk 1 rfl⟩,?_⟩
   refine⟨D1 (m:=1) Tryz.underlying137 A2M rfl (by decide) hc (by rfl) (hc.cells 0 rfl) rfl (by omega) (by decide) rfl rfl ?_,trivial⟩
   intro A3 c3 w3 hc
   refine⟨⟨hc.blk 2 rfl,hc.blk 1 rfl⟩,?_⟩
   refine⟨hc.s 3 rfl fun wS hS hc=>?_,trivial⟩
   refine⟨⟨hc.blk 2 rfl,hc.blk 1 rfl⟩,?_⟩
   refine⟨hc.s 3 rfl fun wS hS hc=>?_,trivial⟩
   refine⟨⟨hc.blk 2 rfl,hc.blk 1 rfl⟩,?_⟩
   exact⟨(A3,c3),⟨rfl,rfl,rfl,trivial⟩,Y8 hk1 hk2 hpd hcapb hke hkl hc⟩
  refine⟨hc.n fun gv wgv hgv hc=>?_,trivial⟩
  refine⟨⟨hc.blk 2 rfl,hc.blk 1 rfl⟩,?_⟩
  refine⟨?_,?_⟩
  ·skip
   refine⟨_,hc.cell 3 rfl _ rfl,⟨hc.blk 2 rfl,hc.blk 1 rfl⟩,?_⟩
   refine⟨⟨by decide,by show (1:Int)<=(ki.pend.length:Int)/\(ki.pend.length:Int)<=(cap:Int)/\(cap:Int)<=(cap:Int);omega⟩,?_⟩
   refine⟨D1 (m:=1) Tryz.underlying137 A2M rfl (by decide) hc (by rfl) (hc.cells 0 rfl) rfl (by omega) (by decide) rfl rfl ?_,trivial⟩
   intro A3 c3 w3 hc
   refine⟨⟨hc.blk 2 rfl,hc.blk 1 rfl⟩,?_⟩
   refine⟨hc.s 3 rfl fun wS hS hc=>?_,trivial⟩
   refine⟨⟨hc.blk 2 rfl,hc.blk 1 rfl⟩,?_⟩
   refine⟨hc.s 3 rfl fun wS hS hc=>?_,trivial⟩
   refine⟨⟨hc.blk 2 rfl,hc.blk 1 rfl⟩,?_⟩
   exact⟨(A3,c3),⟨rfl,rfl,rfl,trivial⟩,Y8 hk1 hk2 hpd hcapb hke hkl hc⟩
  refine⟨D1 (m:=1) Tryz.underlying137 A2M rfl (by decide) hc (by rfl) (hc.cells 0 rfl) rfl (by omega) (by decide) rfl rfl ?_,trivial⟩
  intro A3 c3 w3 hc
  refine⟨⟨hc.blk 2 rfl,hc.blk 1 rfl⟩,?_⟩
  refine⟨⟨_,hc.cell 3 rfl _ rfl,⟨hc.blk 2 rfl,hc.blk 1 rfl⟩,?_⟩,trivial⟩
  refine⟨⟨by decide,by show (1:Int)<=(ki.pend.length:Int)/\(ki.pend.length:Int)<=(cap:Int)/\(cap:Int)<=(cap:Int);omega⟩,?_⟩
  refine⟨hc.s 3 rfl fun wS hS hc=>?_,trivial⟩
  refine⟨⟨hc.blk 2 rfl,hc.blk 1 rfl⟩,?_⟩
  refine⟨hc.s 3 rfl fun wS hS hc=>?_,trivial⟩
  refine⟨⟨hc.blk 2 rfl,hc.blk 1 rfl⟩,?_⟩
  exact⟨(A3,c3),⟨rfl,rfl,rfl,trivial⟩,Y8 hk1 hk2 hpd hcapb hke hkl hc⟩
 clear hc
 rintro⟨A3,c3⟩ u3 w3 ⟨S3,A',cap',hc⟩
 exact⟨(i+1,A3,c3),⟨rfl,rfl,rfl,trivial⟩,⟨hlt,S3,xS,A',cap',hc⟩,by show (n-k.b.seq).toNat-(i+1)<(n-k.b.seq).toNat-i;omega⟩
theorem Y9 {w w1:World} {g i cap c3:Nat} {S S1:Nat->Prop} {y1 y2 y3:LB} {k ki:Known} {d:D} {r:List D} {l:List Res} {x xS:SX} {ad0:Addr} {A3:Option Addr} (p:Value) (dn:Bool)
  (hk1:kAt k (i+1)=⟨(doS ki.b d).1,r,k.ep,k.ln⟩) (hk2:A2y k.b (k.pend.take (i+1))=l++[(doS ki.b d).2]) (hpd:ki.pend=d::r) (hcapb:ki.pend.length<=cap) (hke:ki.ep=k.ep) (hkl:ki.ln=k.ln)
  (hc:CtxF no (bare w) S1 w1 [y1,y2,y3,(g,183,D3 (D3 (Y7 p dn (knC ki x (some ad0) cap)) 1 (stX (doS ki.b d).1 xS)) (1+8) [.slice (if (cap:Int)=1 then some ad0 else (some ad0).map (·.add ((1:Int).toNat*8))) ((ki.pend.length:Int)-1).toNat ((cap:Int)-1).toNat])] [⟨24,2,A3,i+1,c3,(l.map A1C).flatten++A1C (doS ki.b d).2⟩] (KL w g S (fun S w=>KnR ki x (some ad0) cap S w/\RepS S w (doS ki.b d).1 (stX (doS ki.b d).1 xS)))):
  ∃ S3 A' cap',CtxF no (bare w) S3 w1 [(g,183,(Y7 p dn (knC (kAt k (i+1)) xS A' cap')))] [⟨24,2,A3,i+1,c3,((A2y k.b (k.pend.take (i+1))).map A1C).flatten⟩] (KL w g S (KnR (kAt k (i+1)) xS A' cap')):=by
 have hpl:ki.pend.length=r.length+1:=by rw [hpd];rfl
 have hc:=((hc.nowL (R':=KnR ⟨(doS ki.b d).1,r,k.ep,k.ln⟩ xS (if (cap:Int)=1 then some ad0 else (some ad0).map (·.add ((1:Int).toNat*8))) (cap-1)) (fun S w h=>⟨h.2,A4l hpd h.1.2⟩) (KnR.stab _ _ _ _)).drop.drop.drop).castL (cs':=(Y7 p dn (knC ⟨(doS ki.b d).1,r,k.ep,k.ln⟩ xS (if (cap:Int)=1 then some ad0 else (some ad0).map (·.add ((1:Int).toNat*8))) (cap-1)))) (by
  rw [show cap-1=((cap:Int)-1).toNat from by omega]
  unfold knC
  rw [<-hke,<-hkl,show r.length=((ki.pend.length:Int)-1).toNat from by omega]
  rfl)
 rw [hk1,hk2,A6p]
 exact⟨_,_,_,hc⟩
theorem A6r (k:Known) (h:k.Ok) (n:Int) (hn:B9 n) (x:SX) (A:Option Addr) (cap g:Nat) (S:Nat->Prop) (w:World) (p:Value) (dn:Bool) (hB:Blk w g 183 (Y7 p dn (knC k x A cap))) (hS:∀ x,S x->x<w.heap.size/\x≠g) (hR:KnR k x A cap S w):
  Calls Tryz.prog 147 #[.pointer (some ⟨g,1,none⟩),.int .i64 n] w (RetKc g 183 (Y7 p dn) S w (U9 k n)):=by
 have hsq:=h.seq
 have hln:=h.len
 have hm:J9=1099511627776:=rfl
 have h0:=(E5.1 h.may).1.1
 have hc:=CtxF.enterL hB hS hR (KnR.stab _ _ _ _)
 obtain⟨q,hq⟩:∃ q,q=U9 k n:=⟨_,rfl⟩
 rw [<-hq]
 unfold U9 at hq
 refine vE Tryz.func147 ?_
 refine⟨knC k x A cap,rfl,hc.cellsAt 0 rfl 1 (knC k x A cap) rfl,?_⟩
 refine hc.q (A1p k h x A cap _) fun wQ hQ hc=>?_
 by_cases hgt:k.seq<n
 ·rw [if_pos hgt] at hq
  subst hq
  refine dt hgt ?_
  exact RetKc.mk (A2:=none) (c2:=0) (hc.nil 24 2) rfl
 rw [if_neg hgt] at hq
 refine df hgt ?_
 have hc:=hc.nil 24 2
 have hj:(n-k.b.seq).toNat<=k.pend.length:=by unfold Known.seq at hgt;omega
 refine⟨Nat × Option Addr × Nat,fun y=>[(0,.pointer (some ⟨g,1,none⟩)),(1,.int .i64 n),(6,.slice y.2.1 y.1 y.2.2)],
  fun y w'=>y.1<=(n-k.b.seq).toNat/\∃ S1 x A cap,CtxF no (bare w) S1 w' [(g,183,(Y7 p dn (knC (kAt k y.1) x A cap)))] [⟨24,2,y.2.1,y.1,y.2.2,((A2y k.b (k.pend.take y.1)).map A1C).flatten⟩] (KL w g S (KnR (kAt k y.1) x A cap)),fun y _=>(n-k.b.seq).toNat-y.1,(0,none,0),⟨rfl,rfl,rfl,trivial⟩,⟨Nat.zero_le _,_,x,A,cap,hc⟩,?_⟩
 clear hc
 rintro⟨i,A2,c2⟩ w1 u ⟨hi,S1,x,A,cap,hc⟩
 simp only at hi hc
 have hko:=B5R h i
 have hks:=B2X h (i:=i) (by omega)
 have hkn:=A85 k i
 have hke:(kAt k i).ep=k.ep:=rfl
 have hkl:(kAt k i).ln=k.ln:=rfl
 generalize hki:kAt k i=ki at*
 refine hc.c 0 rfl rfl ?_
 by_cases hlt:i<(n-k.b.seq).toNat
 rotate_left
 ·refine df (by show ¬ ki.b.seq<n;omega) ?_
  have hii:i=(n-k.b.seq).toNat:=by omega
  have e:q=(ki,A2y k.b (k.pend.take i),0):=by rw [hq,<-hki,hii];rfl
  subst e
  have hlen:(A2y k.b (k.pend.take i)).length=i:=by rw [A5a,List.length_take];omega
  exact RetKc.mk' hc rfl hlen
 refine dt (by show ki.b.seq<n;omega) ?_
 obtain⟨d,r,hpd⟩:∃ d r,ki.pend=d::r:=by
  have e:ki.pend=k.pend.drop i:=by rw [<-hki];rfl
  cases hd:k.pend.drop i with
  | nil=>
   have:=congrArg List.length hd
   rw [List.length_drop] at this
   simp only [List.length_nil] at this
   omega
  | cons d r=>exact⟨d,r,by rw [e,hd]⟩
 obtain⟨hk1,hk2⟩:=hkn d r hpd
 have hdd:=hko.pend d (by rw [hpd];exact List.mem_cons_self ..)
 have hpl:ki.pend.length=r.length+1:=by rw [hpd];rfl
 obtain⟨hk0,Sr0,hs0,hR0⟩:=hc.row
 obtain⟨ad0,rfl,hcell0⟩:=Row.elemF hR0.2 (by decide) (O1 _) 0 (by rw [List.length_map,hpl];omega)
 have hcell:Go.Vc.cellsAt w1 ad0 (dC d) 0:=by
  have e:(ki.pend.map dC)[0]'(by rw [List.length_map,hpl];omega)=dC d:=by simp [hpd]
  rw [e] at hcell0
  have e2:ad0.add (0*8)=ad0:=by unfold Addr.add;simp
  rw [e2] at hcell0
  exact hcell0
 have hcapb:ki.pend.length<=cap:=hR0.2.1
 refine Drawn.join (α:=Nat × Nat × SX) (fun z=>[(0,.pointer (some ⟨g,1,none⟩)),(1,.int .i64 n),(6,.slice A2 i c2),(7,.pointer (some ⟨z.1,0,none⟩)),(8,.pointer (some ⟨z.2.1,0,none⟩))])
  (fun z wS=>∃ S2,CtxF no (bare w) S2 wS [(z.2.1,24,A1C (doS ki.b d).2),(z.1,33,stX (doS ki.b d).1 z.2.2),(g,183,(Y7 p dn (knC ki x (some ad0) cap)))] [⟨24,2,A2,i,c2,((A2y k.b (k.pend.take i)).map A1C).flatten⟩] (KL w g S (fun S w=>KnR ki x (some ad0) cap S w/\RepS S w (doS ki.b d).1 (stX (doS ki.b d).1 z.2.2)))) ?_ ?_
 ·have hr:=hc
  refine vD (.Q [0,1,2,3,4,5,6,7,8,9] (.n 10 (.Q [11,12,13] (.n 14 (.n 15 (.n 16 (.z 17) .stop) .stop) (.n 15 (.n 14 (.n 16 (.z 17) .stop) .stop) .stop))) (.n 14 (.n 10 (.Q [11,12,13] (.n 15 (.n 16 (.z 17) .stop) .stop)) (.n 15 (.n 10 (.Q [11,12,13] (.n 16 (.z 17) .stop)) .stop) .stop)) (.n 15 (.n 10 (.Q [11,12,13] (.n 14 (.n 16 (.z 17) .stop) .stop)) (.n 14 (.n 10 (.Q [11,12,13] (.n 16 (.z 17) .stop)) .stop) .stop)) .stop)))) (Old _) (Old.start _) ?_
  have hk:=hc.old0
  have hc:=hc.drew
  refine⟨stX ki.b x,rfl,fun z hz=>Old.looks hz (hr.cellsAt 0 rfl 1 (stX ki.b x) rfl),?_⟩
  refine⟨_,fun z hz=>Keeps.cell hz (hr.blk 0 rfl) (hr.blk 0 rfl).lt rfl,?_⟩
  refine⟨⟨by decide,by show (0:Int)<(ki.pend.length:Int);omega⟩,?_⟩
  refine⟨dC d,rfl,fun z hz=>Old.looks hz hcell,?_⟩
  refine⟨?_,?_⟩
  ·skip
   refine⟨(P5 hc 0 rfl hko d hdd.2).mono fun en wq hq2=>?_⟩
   obtain⟨xS,S2,e1,hb,hc⟩:=hq2
   have hk:=Keeps.below hk (fun _ h=>h) hb
   refine⟨_,e1,hk,?_⟩
   refine⟨?_,?_⟩
   ·skip
    refine hc.n fun g7 wg7 hg7 hc=>?_
    have ng7:=Old.new hk hg7
    have hk:=Keeps.below hk (fun _ h=>h) hg7.below
    refine⟨hk,?_⟩
    refine⟨hc.n fun g8 wg8 hg8 hc=>?_,trivial⟩
    have ng8:=Old.new hk hg8
    have hk:=Keeps.below hk (fun _ h=>h) hg8.below
    refine⟨hk,?_⟩
    refine⟨⟨hc.may 1 rfl _ _ (nle rfl) rfl,?_⟩,trivial⟩
    intro wS hS
    have hk:=Keeps.stored hk (hc.blk 1 rfl) ng7 hS
    have hc:=(hc.set 1 rfl hS).1
    refine⟨hk,?_⟩
    refine hc.s 0 rfl fun wS hS hc=>?_
    first | exact⟨(g7,g8,xS),⟨rfl,rfl,rfl,rfl,rfl,trivial⟩,_,hc⟩ | exact⟨(g7,g8,xS),⟨rfl,rfl,rfl,rfl,rfl,trivial⟩,_,hc.swapL⟩
   refine⟨hc.n fun g8 wg8 hg8 hc=>?_,trivial⟩
   have ng8:=Old.new hk hg8
   have hk:=Keeps.below hk (fun _ h=>h) hg8.below
   refine⟨hk,?_⟩
   refine⟨hc.n fun g7 wg7 hg7 hc=>?_,trivial⟩
   have ng7:=Old.new hk hg7
   have hk:=Keeps.below hk (fun _ h=>h) hg7.below
   refine⟨hk,?_⟩
   refine⟨⟨hc.may 0 rfl _ _ (nle rfl) rfl,?_⟩,trivial⟩
   intro wS hS
   have hk:=Keeps.stored hk (hc.blk 0 rfl) ng7 hS
   have hc:=(hc.set 0 rfl hS).1
   refine⟨hk,?_⟩
   refine hc.s 1 rfl fun wS hS hc=>?_
   first | exact⟨(g7,g8,xS),⟨rfl,rfl,rfl,rfl,rfl,trivial⟩,_,hc⟩ | exact⟨(g7,g8,xS),⟨rfl,rfl,rfl,rfl,rfl,trivial⟩,_,hc.swapL⟩
  refine⟨?_,?_⟩
  ·skip
   refine hc.n fun g7 wg7 hg7 hc=>?_
   have ng7:=Old.new hk hg7
   have hk:=Keeps.below hk (fun _ h=>h) hg7.below
   refine⟨hk,?_⟩
   refine⟨?_,?_⟩
   ·skip
    refine⟨(P5 hc 1 rfl hko d hdd.2).mono fun en wq hq2=>?_⟩
    obtain⟨xS,S2,e1,hb,hc⟩:=hq2
    have hk:=Keeps.below hk (fun _ h=>h) hb
    refine⟨_,e1,hk,?_⟩
    refine⟨hc.n fun g8 wg8 hg8 hc=>?_,trivial⟩
    have ng8:=Old.new hk hg8
    have hk:=Keeps.below hk (fun _ h=>h) hg8.below
    refine⟨hk,?_⟩
    refine⟨⟨hc.may 1 rfl _ _ (nle rfl) rfl,?_⟩,trivial⟩
    intro wS hS
    have hk:=Keeps.stored hk (hc.blk 1 rfl) ng7 hS
    have hc:=(hc.set 1 rfl hS).1
    refine⟨hk,?_⟩
    refine hc.s 0 rfl fun wS hS hc=>?_
    first | exact⟨(g7,g8,xS),⟨rfl,rfl,rfl,rfl,rfl,trivial⟩,_,hc⟩ | exact⟨(g7,g8,xS),⟨rfl,rfl,rfl,rfl,rfl,trivial⟩,_,hc.swapL⟩
   refine⟨hc.n fun g8 wg8 hg8 hc=>?_,trivial⟩
   have ng8:=Old.new hk hg8
   have hk:=Keeps.below hk (fun _ h=>h) hg8.below
   refine⟨hk,?_⟩
   refine⟨⟨(P5 hc 2 rfl hko d hdd.2).mono fun en wq hq2=>?_⟩,trivial⟩
   obtain⟨xS,S2,e1,hb,hc⟩:=hq2
   have hk:=Keeps.below hk (fun _ h=>h) hb
   refine⟨_,e1,hk,?_⟩
   refine⟨⟨hc.may 1 rfl _ _ (nle rfl) rfl,?_⟩,trivial⟩
   intro wS hS
   have hk:=Keeps.stored hk (hc.blk 1 rfl) ng7 hS
   have hc:=(hc.set 1 rfl hS).1
   refine⟨hk,?_⟩
   refine hc.s 0 rfl fun wS hS hc=>?_
   first | exact⟨(g7,g8,xS),⟨rfl,rfl,rfl,rfl,rfl,trivial⟩,_,hc⟩ | exact⟨(g7,g8,xS),⟨rfl,rfl,rfl,rfl,rfl,trivial⟩,_,hc.swapL⟩
  refine⟨hc.n fun g8 wg8 hg8 hc=>?_,trivial⟩
  have ng8:=Old.new hk hg8
  have hk:=Keeps.below hk (fun _ h=>h) hg8.below
  refine⟨hk,?_⟩
  refine⟨?_,?_⟩
  ·skip
   refine⟨(P5 hc 1 rfl hko d hdd.2).mono fun en wq hq2=>?_⟩
   obtain⟨xS,S2,e1,hb,hc⟩:=hq2
   have hk:=Keeps.below hk (fun _ h=>h) hb
   refine⟨_,e1,hk,?_⟩
   refine⟨hc.n fun g7 wg7 hg7 hc=>?_,trivial⟩
   have ng7:=Old.new hk hg7
   have hk:=Keeps.below hk (fun _ h=>h) hg7.below
   refine⟨hk,?_⟩
   refine⟨⟨hc.may 0 rfl _ _ (nle rfl) rfl,?_⟩,trivial⟩
   intro wS hS
   have hk:=Keeps.stored hk (hc.blk 0 rfl) ng7 hS
   have hc:=(hc.set 0 rfl hS).1
   refine⟨hk,?_⟩
   refine hc.s 1 rfl fun wS hS hc=>?_
   first | exact⟨(g7,g8,xS),⟨rfl,rfl,rfl,rfl,rfl,trivial⟩,_,hc⟩ | exact⟨(g7,g8,xS),⟨rfl,rfl,rfl,rfl,rfl,trivial⟩,_,hc.swapL⟩
  refine⟨hc.n fun g7 wg7 hg7 hc=>?_,trivial⟩
  have ng7:=Old.new hk hg7
  have hk:=Keeps.below hk (fun _ h=>h) hg7.below
  refine⟨hk,?_⟩
  refine⟨⟨(P5 hc 2 rfl hko d hdd.2).mono fun en wq hq2=>?_⟩,trivial⟩
  obtain⟨xS,S2,e1,hb,hc⟩:=hq2
  have hk:=Keeps.below hk (fun _ h=>h) hb
  refine⟨_,e1,hk,?_⟩
  refine⟨⟨hc.may 0 rfl _ _ (nle rfl) rfl,?_⟩,trivial⟩
  intro wS hS
  have hk:=Keeps.stored hk (hc.blk 0 rfl) ng7 hS
  have hc:=(hc.set 0 rfl hS).1
  refine⟨hk,?_⟩
  refine hc.s 1 rfl fun wS hS hc=>?_
  first | exact⟨(g7,g8,xS),⟨rfl,rfl,rfl,rfl,rfl,trivial⟩,_,hc⟩ | exact⟨(g7,g8,xS),⟨rfl,rfl,rfl,rfl,rfl,trivial⟩,_,hc.swapL⟩
 clear hc
 rintro⟨g7,g8,xS⟩ u2 w2 ⟨S2,hc⟩
 simp only at hc
 refine Drawn.join (α:=Option Addr × Nat) (fun z=>[(0,.pointer (some ⟨g,1,none⟩)),(1,.int .i64 n),(6,.slice z.1 (i+1) z.2)])
  (fun z wS=>∃ S3 A' cap',CtxF no (bare w) S3 wS [(g,183,(Y7 p dn (knC (kAt k (i+1)) xS A' cap')))] [⟨24,2,z.1,i+1,z.2,((A2y k.b (k.pend.take (i+1))).map A1C).flatten⟩] (KL w g S (KnR (kAt k (i+1)) xS A' cap'))) ?_ ?_
 ·refine vD (.Q [0,1,2,3,4,5,8,9] (.n 6 (.q 7 (.n 10 (.n 11 (.Q [12,13] (.n 14 (.Q [15,16] (.n 17 (.q 18 .fin) .stop)) .stop)) .stop) .stop)) (.n 10 (.n 6 (.q 7 (.n 11 (.Q [12,13] (.n 14 (.Q [15,16] (.n 17 (.q 18 .fin) .stop)) .stop)) .stop)) (.n 11 (.n 6 (.Q [7,12,13] (.n 14 (.Q [15,16] (.n 17 (.q 18 .fin) .stop)) .stop)) .stop) .stop)) .stop))) (fun z=>Blk z g7 33 (stX (doS ki.b d).1 xS)/\Blk z g8 24 (A1C (doS ki.b d).2)) ⟨hc.blk 1 rfl,hc.blk 0 rfl⟩ ?_
  have hc:=hc.drew
  refine⟨stX (doS ki.b d).1 xS,rfl,fun z hz=>C3 hz.1 0 _ 0 (fun j v hj=>by simpa using hj),?_⟩
  refine⟨A1C (doS ki.b d).2,rfl,fun z hz=>C3 hz.2 0 _ 0 (fun j v hj=>by simpa using hj),?_⟩
  refine⟨?_,?_⟩
  ·skip
   refine⟨_,hc.cell 2 rfl _ rfl,⟨hc.blk 1 rfl,hc.blk 0 rfl⟩,?_⟩
   refine⟨⟨by decide,by show (1:Int)<=(ki.pend.length:Int)/\(ki.pend.length:Int)<=(cap:Int)/\(cap:Int)<=(cap:Int);omega⟩,?_⟩
   refine⟨hc.n fun gv wgv hgv hc=>?_,trivial⟩
   refine⟨⟨hc.blk 2 rfl,hc.blk 1 rfl⟩,?_⟩
   refine⟨D1 (m:=1) Tryz.underlying137 A2M rfl (by decide) hc (by rfl) (hc.cells 0 rfl) rfl (by omega) (by decide) rfl rfl ?_,trivial⟩
   intro A3 c3 w3 hc
   refine⟨⟨hc.blk 2 rfl,hc.blk 1 rfl⟩,?_⟩
   refine⟨hc.s 3 rfl fun wS hS hc=>?_,trivial⟩
   refine⟨⟨hc.blk 2 rfl,hc.blk 1 rfl⟩,?_⟩
   refine⟨hc.s 3 rfl fun wS hS hc=>?_,trivial⟩
   refine⟨⟨hc.blk 2 rfl,hc.blk 1 rfl⟩,?_⟩
   exact⟨(A3,c3),⟨rfl,rfl,rfl,trivial⟩,Y9 p dn hk1 hk2 hpd hcapb hke hkl hc⟩
  refine⟨hc.n fun gv wgv hgv hc=>?_,trivial⟩
  refine⟨⟨hc.blk 2 rfl,hc.blk 1 rfl⟩,?_⟩
  refine⟨?_,?_⟩
  ·skip
   refine⟨_,hc.cell 3 rfl _ rfl,⟨hc.blk 2 rfl,hc.blk 1 rfl⟩,?_⟩
   refine⟨⟨by decide,by show (1:Int)<=(ki.pend.length:Int)/\(ki.pend.length:Int)<=(cap:Int)/\(cap:Int)<=(cap:Int);omega⟩,?_⟩
   refine⟨D1 (m:=1) Tryz.underlying137 A2M rfl (by decide) hc (by rfl) (hc.cells 0 rfl) rfl (by omega) (by decide) rfl rfl ?_,trivial⟩
   intro A3 c3 w3 hc
   refine⟨⟨hc.blk 2 rfl,hc.blk 1 rfl⟩,?_⟩
   refine⟨hc.s 3 rfl fun wS hS hc=>?_,trivial⟩
   refine⟨⟨hc.blk 2 rfl,hc.blk 1 rfl⟩,?_⟩
   refine⟨hc.s 3 rfl fun wS hS hc=>?_,trivial⟩
   refine⟨⟨hc.blk 2 rfl,hc.blk 1 rfl⟩,?_⟩
   exact⟨(A3,c3),⟨rfl,rfl,rfl,trivial⟩,Y9 p dn hk1 hk2 hpd hcapb hke hkl hc⟩
  refine⟨D1 (m:=1) Tryz.underlying137 A2M rfl (by decide) hc (by rfl) (hc.cells 0 rfl) rfl (by omega) (by decide) rfl rfl ?_,trivial⟩
  intro A3 c3 w3 hc
  refine⟨⟨hc.blk 2 rfl,hc.blk 1 rfl⟩,?_⟩
  refine⟨⟨_,hc.cell 3 rfl _ rfl,⟨hc.blk 2 rfl,hc.blk 1 rfl⟩,?_⟩,trivial⟩
  refine⟨⟨by decide,by show (1:Int)<=(ki.pend.length:Int)/\(ki.pend.length:Int)<=(cap:Int)/\(cap:Int)<=(cap:Int);omega⟩,?_⟩
  refine⟨hc.s 3 rfl fun wS hS hc=>?_,trivial⟩
  refine⟨⟨hc.blk 2 rfl,hc.blk 1 rfl⟩,?_⟩
  refine⟨hc.s 3 rfl fun wS hS hc=>?_,trivial⟩
  refine⟨⟨hc.blk 2 rfl,hc.blk 1 rfl⟩,?_⟩
  exact⟨(A3,c3),⟨rfl,rfl,rfl,trivial⟩,Y9 p dn hk1 hk2 hpd hcapb hke hkl hc⟩
 clear hc
 rintro⟨A3,c3⟩ u3 w3 ⟨S3,A',cap',hc⟩
 exact⟨(i+1,A3,c3),⟨rfl,rfl,rfl,trivial⟩,⟨hlt,S3,xS,A',cap',hc⟩,by show (n-k.b.seq).toNat-(i+1)<(n-k.b.seq).toNat-i;omega⟩
theorem B2a {k:Known} {d:D} (hr:(Rc.add d).Ok) (hc:B4Y k (.add d)):A08 k d=0/\B2U k d=Y6 k (.add d):=by
 have e:A08 k d=0:=by
  unfold A08
  rw [if_pos hr.1,if_neg (fun h=>by
   have:=hc.1
   have:=hc.2
   rcases h with h | h<;>omega)]
 refine⟨e,?_⟩
 unfold B2U
 rw [if_pos e]
 rfl
theorem B4Z {k:Known} {n:Int} (hc:B4Y k (.done n)):U9 k n=((K2 k n).1,(K2 k n).2,0):=by
 have hc:n<=k.seq:=hc
 unfold U9
 rw [if_neg (by omega)]
theorem B6c (a b c d:Value) (ys:List Value):∀ (j:Nat) (u:Value),ys[j]?=some u->([a,b,c,d]++(ys++[]))[4+0+j]?=some u:=fun j u h=>by
 rw [List.append_nil,List.getElem?_append_right (by simp)]
 have e:4+0+j-[a,b,c,d].length=j:=by simp
 rw [e]
 exact h
theorem A9y (k:Known) (h:k.Ok) (r:Rc) (hr:r.Ok) (hcan:B4Y k r) (x:SX) (A:Option Addr) (cap g:Nat) (S:Nat->Prop) (w:World) (p:Value) (dn:Bool) (hB:Blk w g 183 (Y7 p dn (knC k x A cap))) (hS:∀ x,S x->x<w.heap.size/\x≠g) (hR:KnR k x A cap S w) (he:EnvFree (fun x=>x=g) w):
  Calls Tryz.prog 142 #[.pointer (some ⟨g,1,none⟩),.string (P9 r)] w (RetKn g 183 (Y7 p dn) S w (.bool true) (Y6 k r)):=by
 have hc:=CtxF.enterL hB hS hR (KnR.stab _ _ _ _)
 refine vE Tryz.func142 ?_
 have hal:=B4F (A2W (vRc r)) w (by rw [A70 hr];have:=A71 hr;omega) he.1
 rw [B6b hr] at hal
 refine⟨hal.mono fun en wq hq=>?_⟩
 obtain⟨A1,c1,e1,hb,hr1⟩:=hq
 obtain⟨xs,hL,hRw⟩:=hr1.rows
 cases r with
 | add d=>
  have hRw:Row (ext no w wq) wq A1 2 c1 xs:=hRw
  have hL:RepL (ext no w wq) wq [I4 1,E3 d] xs:=hL
  rw [L9 hr.1] at hL
  simp only [I4,RepL] at hL
  obtain⟨d0,y0,hd0,⟨d1,y1,hd1,rfl,rfl⟩,rfl⟩:=hL
  rw [RepC] at hd0
  obtain⟨B0,e0,z0,rfl,_⟩:=hd0
  obtain⟨A5,c5,rfl⟩:=hd1.cells
  obtain⟨Sr,hR1,hSr,hin⟩:=hc.inL (KnR.stab _ _ _ _) 0 rfl
  have hc:=hin (hc.call hb) (fun x hx=>.inl (hx.elim (fun h=>.inl (hSr x h)) .inr)) (X:=fun S w=>Row S w A1 2 c1 ([.int .i64 1,.int .i64 1,.string ⟨#[]⟩,.slice B0 0 e0]++(D2 (H3 d) A5 c5++[]))/\RepC S w (H3 d) (D2 (H3 d) A5 c5)) (Stab.and (fun _ _ _ _ h f=>h.fut f) (E8 _ _))
   ⟨hRw.sub fun b hb2=>hb2.elim (fun h=>h.elim) (fun h=>⟨.inr h,.inr h⟩),hd1.sub fun b hb2=>hb2.elim (fun h=>h.elim) (fun h=>⟨.inr h,.inr h⟩)⟩
  refine⟨_,e1,?_⟩
  refine hc.n fun g5 wg5 hg5 hc=>?_
  refine hc.s 0 rfl fun wS hS hc=>?_
  refine hc.c 0 rfl rfl ?_
  refine hc.c 0 rfl rfl ?_
  obtain⟨_,Sr2,hs2,hR2⟩:=hc.row
  obtain⟨ad,rfl,hSa,hcell⟩:=hR2.2.1.2.2 (by simp)
  refine⟨⟨by decide,(show (0:Int)<2 by decide)⟩,?_⟩
  refine⟨_,hcell 1 _ rfl,?_⟩
  refine hc.c 0 rfl rfl ?_
  refine⟨⟨by decide,(show (1:Int)<2 by decide)⟩,?_⟩
  refine⟨D2 (H3 d) A5 c5,rfl,A0E hcell 4 _ 0 (B6c _ _ _ _ _),?_⟩
  have hof:=fun S w hq9=>A8d (H3 d) (vK (H3 d)) (vN (H3 d)) (vS (H3 d)) A5 (vL (H3 d)).length c5 S w hq9 (show (N9 (H3 d)).Ok from hr.2)
  rw [A1Y d hr.1] at hof
  refine hc.q (hof _ _ hR2.2.2) fun wQ hQ hc=>?_
  refine hc.n fun g7 wg7 hg7 hc=>?_
  refine hc.s 0 rfl fun wS hS hc=>?_
  refine hc.a 0 rfl rfl ?_
  obtain⟨ca1,ca2⟩:=B2a hr hcan
  obtain⟨Sr,hR1,hSr,hin⟩:=hc.inL (Stab.and (KnR.stab _ _ _ _) (Stab.and (fun _ _ _ _ h f=>h.fut f) (E8 _ _))) 2 rfl
  have had:=B2Z k h d hr.2 x A cap g Sr _ p dn (hc.blk 2 rfl) (fun y hy=>⟨hc.ctx.lt y (hSr y hy),fun e=>(hc.ctx.locs.notS (k:=2) rfl).1 (e▸hSr y hy)⟩) hR1.1
  rw [ca1,ca2] at had
  refine⟨had.mono fun en wq hq=>?_⟩
  obtain⟨e1,hT,x',A',cap',hB',hR'⟩:=hq
  have hc:=hin (hc.turnL 2 rfl hT hB') (fun y hy=>.inl (hy.elim (fun h=>.inl (hSr y h)) .inr)) (KnR.stab _ _ _ _) (KnR.stab _ _ _ _ _ _ _ _ hR' ⟨fun y hy=>⟨hy,hy.elim (fun h=>.inl (hSr y h)) .inr⟩,fun _ _=>rfl⟩)
  refine⟨_,e1,?_⟩
  exact RetKn.mk (hc.nowL (fun S w h=>h.2) (KnR.stab _ _ _ _)).drop.drop rfl _
 | done n=>
  have hRw:Row (ext no w wq) wq A1 2 c1 xs:=hRw
  have hL:RepL (ext no w wq) wq [I4 2,I4 n] xs:=hL
  simp only [I4,RepL,RepC] at hL
  obtain⟨d0,y0,⟨B0,e0,z0,rfl,_⟩,⟨d1,y1,⟨B1,e2,z1,rfl,_⟩,rfl,rfl⟩,rfl⟩:=hL
  obtain⟨Sr,hR1,hSr,hin⟩:=hc.inL (KnR.stab _ _ _ _) 0 rfl
  have hc:=hin (hc.call hb) (fun x hx=>.inl (hx.elim (fun h=>.inl (hSr x h)) .inr)) (X:=fun S w=>Row S w A1 2 c1 ([.int .i64 1,.int .i64 2,.string ⟨#[]⟩,.slice B0 0 e0]++([.int .i64 1,.int .i64 n,.string ⟨#[]⟩,.slice B1 0 e2]++[]))) (fun _ _ _ _ h f=>h.fut f)
   (hRw.sub fun b hb2=>hb2.elim (fun h=>h.elim) (fun h=>⟨.inr h,.inr h⟩))
  refine⟨_,e1,?_⟩
  refine hc.n fun g5 wg5 hg5 hc=>?_
  refine hc.s 0 rfl fun wS hS hc=>?_
  refine hc.c 0 rfl rfl ?_
  refine hc.c 0 rfl rfl ?_
  obtain⟨_,Sr2,hs2,hR2⟩:=hc.row
  obtain⟨ad,rfl,hSa,hcell⟩:=hR2.2.2.2 (by simp)
  refine⟨⟨by decide,(show (0:Int)<2 by decide)⟩,?_⟩
  refine⟨_,hcell 1 _ rfl,?_⟩
  refine hc.c 0 rfl rfl ?_
  refine⟨⟨by decide,(show (1:Int)<2 by decide)⟩,?_⟩
  refine⟨_,hcell 5 _ rfl,?_⟩
  obtain⟨Sr,hR1,hSr,hin⟩:=hc.inL (Stab.and (KnR.stab _ _ _ _) (fun _ _ _ _ h f=>h.fut f)) 1 rfl
  have hcm:=A6r k h n hr x A cap g Sr _ p dn (hc.blk 1 rfl) (fun y hy=>⟨hc.ctx.lt y (hSr y hy),fun e=>(hc.ctx.locs.notS (k:=1) rfl).1 (e▸hSr y hy)⟩) hR1.1
  rw [B4Z hcan] at hcm
  refine⟨hcm.mono fun en wq hq=>?_⟩
  obtain⟨A3,c3,e1,hT,x',A',cap',Sk,hB',hSk,hR',_⟩:=hq
  have hc:=hin (hc.turnL 1 rfl hT hB') (fun y hy=>.inl (hy.elim (fun h=>.inl (hSr y h)) .inr)) (KnR.stab _ _ _ _) (KnR.stab _ _ _ _ _ _ _ _ hR' ⟨fun y hy=>⟨(hSk y hy).1,(hSk y hy).1.elim (fun h=>.inl (hSr y h)) .inr⟩,fun _ _=>rfl⟩)
  refine⟨_,e1,?_⟩
  exact RetKn.mk (hc.nowL (fun S w h=>h.2) (KnR.stab _ _ _ _)).drop rfl _
 | enter n=>
  have hRw:Row (ext no w wq) wq A1 2 c1 xs:=hRw
  have hL:RepL (ext no w wq) wq [I4 3,I4 n] xs:=hL
  simp only [I4,RepL,RepC] at hL
  obtain⟨d0,y0,⟨B0,e0,z0,rfl,_⟩,⟨d1,y1,⟨B1,e2,z1,rfl,_⟩,rfl,rfl⟩,rfl⟩:=hL
  obtain⟨Sr,hR1,hSr,hin⟩:=hc.inL (KnR.stab _ _ _ _) 0 rfl
  have hc:=hin (hc.call hb) (fun x hx=>.inl (hx.elim (fun h=>.inl (hSr x h)) .inr)) (X:=fun S w=>Row S w A1 2 c1 ([.int .i64 1,.int .i64 3,.string ⟨#[]⟩,.slice B0 0 e0]++([.int .i64 1,.int .i64 n,.string ⟨#[]⟩,.slice B1 0 e2]++[]))) (fun _ _ _ _ h f=>h.fut f)
   (hRw.sub fun b hb2=>hb2.elim (fun h=>h.elim) (fun h=>⟨.inr h,.inr h⟩))
  refine⟨_,e1,?_⟩
  refine hc.n fun g5 wg5 hg5 hc=>?_
  refine hc.s 0 rfl fun wS hS hc=>?_
  refine hc.c 0 rfl rfl ?_
  refine hc.c 0 rfl rfl ?_
  obtain⟨_,Sr2,hs2,hR2⟩:=hc.row
  obtain⟨ad,rfl,hSa,hcell⟩:=hR2.2.2.2 (by simp)
  refine⟨⟨by decide,(show (0:Int)<2 by decide)⟩,?_⟩
  refine⟨_,hcell 1 _ rfl,?_⟩
  refine vD (.Q [0,1,2,3,5] (.n 4 (.n 6 (.Q [7,8] (.n 9 (.Q [10,11,12] (.n 13 .fin .stop)) .stop)) .stop) (.n 6 (.Q [7,8] (.n 4 (.n 9 (.Q [10,11,12] (.n 13 .fin .stop)) .stop) (.n 9 (.n 4 (.Q [10,11,12] (.n 13 .fin .stop)) .stop) .stop))) .stop))) (fun _=>True) trivial ?_
  have hc:=hc.drew
  refine⟨?_,?_⟩
  ·skip
   refine⟨_,hc.cell 1 rfl _ rfl,trivial,?_⟩
   refine⟨⟨_,hc.cell 0 rfl _ rfl,trivial,?_⟩,trivial⟩
   refine⟨⟨by decide,(show (1:Int)<2 by decide)⟩,?_⟩
   refine⟨⟨_,hcell 5 _ rfl,trivial,?_⟩,trivial⟩
   refine⟨hc.s' 1 rfl fun wS hS hc=>?_,trivial⟩
   refine RetKn.mk (x:=x) (A:=A) (cap:=cap) (hc.nowL (R':=KnR (Y6 k (.enter n)) x A cap) (fun S w h=>h.1) (KnR.stab _ _ _ _)).drop (by
    have e:(if n > k.ep then n else k.ep)=max k.ep n:=by split<;>omega
    rw [e]
    rfl) _
  refine⟨⟨_,hc.cell 0 rfl _ rfl,trivial,?_⟩,trivial⟩
  refine⟨⟨by decide,(show (1:Int)<2 by decide)⟩,?_⟩
  refine⟨?_,?_⟩
  ·skip
   refine⟨_,hc.cell 1 rfl _ rfl,trivial,?_⟩
   refine⟨⟨_,hcell 5 _ rfl,trivial,?_⟩,trivial⟩
   refine⟨hc.s' 1 rfl fun wS hS hc=>?_,trivial⟩
   refine RetKn.mk (x:=x) (A:=A) (cap:=cap) (hc.nowL (R':=KnR (Y6 k (.enter n)) x A cap) (fun S w h=>h.1) (KnR.stab _ _ _ _)).drop (by
    have e:(if n > k.ep then n else k.ep)=max k.ep n:=by split<;>omega
    rw [e]
    rfl) _
  refine⟨⟨_,hcell 5 _ rfl,trivial,?_⟩,trivial⟩
  refine⟨⟨_,hc.cell 1 rfl _ rfl,trivial,?_⟩,trivial⟩
  refine⟨hc.s' 1 rfl fun wS hS hc=>?_,trivial⟩
  refine RetKn.mk (x:=x) (A:=A) (cap:=cap) (hc.nowL (R':=KnR (Y6 k (.enter n)) x A cap) (fun S w h=>h.1) (KnR.stab _ _ _ _)).drop (by
   have e:(if n > k.ep then n else k.ep)=max k.ep n:=by split<;>omega
   rw [e]
   rfl) _
end Go.Proofs.YtfekddndgakneaaGreatDoor
