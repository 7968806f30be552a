import Derived.Test.YtokglimimnelaaaGreatDoorM09
set_option linter.unusedVariables false
set_option linter.unusedSimpArgs false
namespace Go.Proofs.YtokglimimnelaaaGreatDoor
open Go.Vc Go.RowKit Go.Fl
set_option maxRecDepth 100000
theorem hv_hexd {d:Nat} (h:d<16):hv (hexd d)=d:=by
 unfold hv
 rw [hexd_toNat d h]
 by_cases h1:d<10
 ·rw [if_pos h1,if_pos (by omega)]
  push_cast
  omega
 ·rw [if_neg h1,if_neg (by omega)]
  push_cast
  omega
theorem isHex_hexd {d:Nat} (h:d<16):isHex (hexd d)=true:=by
 unfold isHex
 rw [hexd_toNat d h,Bool.or_eq_true,Bool.and_eq_true,Bool.and_eq_true]
 simp only [decide_eq_true_eq]
 by_cases h1:d<10
 ·rw [if_pos h1]
  omega
 ·rw [if_neg h1]
  omega
theorem dig_lt (a:Int) (q:Nat):(a / 2 ^ (12-4*q) % 16).toNat<16:=by omega
theorem hval_hex4 {a:Int} (h0:0<=a) (h1:a<65536):hval (hex4 a)=a:=by
 show (((0*16+hv (dig a 0))*16+hv (dig a 1))*16+hv (dig a 2))*16+hv (dig a 3)=a
 unfold dig
 rw [hv_hexd (dig_lt a 0),hv_hexd (dig_lt a 1),hv_hexd (dig_lt a 2),hv_hexd (dig_lt a 3)]
 have e0:(2:Int) ^ (12-4*0)=4096:=by decide
 have e1:(2:Int) ^ (12-4*1)=256:=by decide
 have e2:(2:Int) ^ (12-4*2)=16:=by decide
 have e3:(2:Int) ^ (12-4*3)=1:=by decide
 rw [e0,e1,e2,e3]
 omega
theorem zRead_text {z:Int × Int} (h:zOk z):zRead (zText z)=(z,true):=by
 obtain⟨⟨a0,a1⟩,b0,b1⟩:=h
 have hp:pp (zText z) 8=z:=by
  show (hval (hex4 z.1),hval (hex4 z.2))=z
  rw [hval_hex4 a0 (by omega),hval_hex4 b0 (by omega)]
 have hall:(zText z).all isHex=true:=by
  show ([dig z.1 0,dig z.1 1,dig z.1 2,dig z.1 3,dig z.2 0,dig z.2 1,dig z.2 2,dig z.2 3]:List UInt8).all isHex=true
  unfold dig
  simp only [List.all_cons,List.all_nil,isHex_hexd (dig_lt _ _),Bool.and_true]
 unfold zRead
 rw [hp,if_pos ⟨rfl,hall,a1,b1⟩]
theorem zfront {z:Int × Int} (h:zOk z) (k:Nat) (hk:k<8):(zRead ((zText z).take k++List.replicate (8-k) 48)).2=true:=by
 obtain⟨⟨a0,a1⟩,b0,b1⟩:=h
 have key:∀ l:List UInt8,l.length=8->l.all isHex=true->hval ((l.take 8).take 4)<65521->hval ((l.take 8).drop 4)<65521->(zRead l).2=true:=fun l h1 h2 h3 h4=>by
  unfold zRead
  rw [if_pos ⟨h1,h2,h3,h4⟩]
 have ha:=hval_hex4 a0 (by omega)
 have hb:=hval_hex4 b0 (by omega)
 have ex:∀ a:Int,hval (hex4 a)=(((0*16+hv (dig a 0))*16+hv (dig a 1))*16+hv (dig a 2))*16+hv (dig a 3):=fun _=>rfl
 rw [ex] at ha hb
 have hd:∀ (a:Int) (q:Nat),0<=hv (dig a q)/\hv (dig a q)<16/\isHex (dig a q)=true:=fun a q=>by
  unfold dig
  rw [hv_hexd (dig_lt a q)]
  have:=dig_lt a q
  exact⟨by omega,by omega,isHex_hexd this⟩
 have p0:=hd z.1 0
 have p1:=hd z.1 1
 have p2:=hd z.1 2
 have p3:=hd z.1 3
 have q0:=hd z.2 0
 have q1:=hd z.2 1
 have q2:=hd z.2 2
 have q3:=hd z.2 3
 have h48:hv 48=0:=by decide
 have x48:isHex 48=true:=by decide
 have e:zText z=[dig z.1 0,dig z.1 1,dig z.1 2,dig z.1 3,dig z.2 0,dig z.2 1,dig z.2 2,dig z.2 3]:=rfl
 rw [e]
 generalize dig z.1 0=c0 at*
 generalize dig z.1 1=c1 at*
 generalize dig z.1 2=c2 at*
 generalize dig z.1 3=c3 at*
 generalize dig z.2 0=c4 at*
 generalize dig z.2 1=c5 at*
 generalize dig z.2 2=c6 at*
 generalize dig z.2 3=c7 at*
 have hv4:∀ a b c d:UInt8,hval [a,b,c,d]=(((0*16+hv a)*16+hv b)*16+hv c)*16+hv d:=fun _ _ _ _=>rfl
 rcases (by omega:k=0\/k=1\/k=2\/k=3\/k=4\/k=5\/k=6\/k=7) with rfl | rfl | rfl | rfl | rfl | rfl | rfl | rfl
 ·refine key [48,48,48,48,48,48,48,48] rfl (by simp [x48]) ?_ ?_
  ·show hval [48,48,48,48]<65521
   rw [hv4];omega
  ·show hval [48,48,48,48]<65521
   rw [hv4];omega
 ·refine key [c0,48,48,48,48,48,48,48] rfl (by simp [x48,p0.2.2]) ?_ ?_
  ·show hval [c0,48,48,48]<65521
   rw [hv4];omega
  ·show hval [48,48,48,48]<65521
   rw [hv4];omega
 ·refine key [c0,c1,48,48,48,48,48,48] rfl (by simp [x48,p0.2.2,p1.2.2]) ?_ ?_
  ·show hval [c0,c1,48,48]<65521
   rw [hv4];omega
  ·show hval [48,48,48,48]<65521
   rw [hv4];omega
 ·refine key [c0,c1,c2,48,48,48,48,48] rfl (by simp [x48,p0.2.2,p1.2.2,p2.2.2]) ?_ ?_
  ·show hval [c0,c1,c2,48]<65521
   rw [hv4];omega
  ·show hval [48,48,48,48]<65521
   rw [hv4];omega
 ·refine key [c0,c1,c2,c3,48,48,48,48] rfl (by simp [x48,p0.2.2,p1.2.2,p2.2.2,p3.2.2]) ?_ ?_
  ·show hval [c0,c1,c2,c3]<65521
   rw [hv4];omega
  ·show hval [48,48,48,48]<65521
   rw [hv4];omega
 ·refine key [c0,c1,c2,c3,c4,48,48,48] rfl (by simp [x48,p0.2.2,p1.2.2,p2.2.2,p3.2.2,q0.2.2]) ?_ ?_
  ·show hval [c0,c1,c2,c3]<65521
   rw [hv4];omega
  ·show hval [c4,48,48,48]<65521
   rw [hv4];omega
 ·refine key [c0,c1,c2,c3,c4,c5,48,48] rfl (by simp [x48,p0.2.2,p1.2.2,p2.2.2,p3.2.2,q0.2.2,q1.2.2]) ?_ ?_
  ·show hval [c0,c1,c2,c3]<65521
   rw [hv4];omega
  ·show hval [c4,c5,48,48]<65521
   rw [hv4];omega
 ·refine key [c0,c1,c2,c3,c4,c5,c6,48] rfl (by simp [x48,p0.2.2,p1.2.2,p2.2.2,p3.2.2,q0.2.2,q1.2.2,q2.2.2]) ?_ ?_
  ·show hval [c0,c1,c2,c3]<65521
   rw [hv4];omega
  ·show hval [c4,c5,c6,48]<65521
   rw [hv4];omega
def turnG (t:List UInt8):ByteArray × Nat × Int:=
 if markedB t=false then (⟨#[]⟩,0,3) else if t.length<8 then (⟨#[]⟩,0,2)
 else if (getV (t.drop 8)).2.2=2 then (⟨#[]⟩,0,2)
 else if (getV (t.drop 8)).2.2≠0\/vK (getV (t.drop 8)).1≠2\/leafL (vS (getV (t.drop 8)).1)≠t.take (8+(getV (t.drop 8)).2.1) then (⟨#[]⟩,0,3)
 else (vS (getV (t.drop 8)).1,8+(getV (t.drop 8)).2.1,0)
theorem szGo_front:∀ (l:List UInt8) (i n j:Nat),(∀ c∈l,dgt c=true)->i+l.length<=7->(0<i->l≠[]->0<n)->(i=0->∀ c t,l=c::t->t≠[]->c≠48)->szGo (l.take j) i n=(0,0,2)
 | [],i,n,j,hd,h7,hn,hz=>by rw [List.take_nil];rfl
 | c::t,i,n,0,hd,h7,hn,hz=>rfl
 | c::t,i,n,j+1,hd,h7,hn,hz=>by
  have hc:=hd c (by simp)
  have hc':=dgt_iff.1 hc
  simp only [List.length_cons] at h7
  rw [List.take_succ_cons,szGo,if_neg (fun h=>by rw [h.1] at hc';revert hc';decide),if_neg (fun h=>by
   rcases h with h | h | h
   ·rw [hc] at h;cases h
   ·omega
   ·have:=hn h.1 (by simp);omega),szGo_front t (i+1) _ j (fun x hx=>hd x (by simp [hx])) (by omega) (fun _ ht=>?_) (fun h=>by omega)]
  rcases Nat.eq_zero_or_pos i with h | h
  ·have h48:=hz h c t rfl ht
   have:c.toNat≠48:=fun e=>h48 (UInt8.toNat_inj.1 e)
   omega
  ·have:=hn h (by simp);omega
theorem getV_front (v:V) (h:(txtV v).length<10000000) (j:Nat) (hj:j<(putV v).length):getV ((putV v).take j)=(V0,0,2):=by
 have hlen:=putV_len v
 have hd:=dec_digits (txtV v).length
 have h7:=dec_len7 h
 have h0:0<(Lib.decDigits (txtV v).length).length:=List.length_pos_iff.2 hd.1
 have key:getP 6 ((putV v).take j)=(V0,0,2):=by
  rw [putV_eq]
  rcases Nat.lt_or_ge (Lib.decDigits (txtV v).length).length j with hlt | hge
  ·have e:(Lib.decDigits (txtV v).length++58::(txtV v++[endV v])).take j=Lib.decDigits (txtV v).length++58::(txtV v++[endV v]).take (j-(Lib.decDigits (txtV v).length).length-1):=by
    rw [List.take_append,List.take_of_length_le (Nat.le_of_lt hlt)]
    congr 1
    obtain⟨m,hm⟩:∃ m,j-(Lib.decDigits (txtV v).length).length=m+1:=⟨j-(Lib.decDigits (txtV v).length).length-1,by omega⟩
    rw [hm,List.take_succ_cons]
    rfl
   rw [e]
   have hs:=szGo_put (Lib.decDigits (txtV v).length) ((txtV v++[endV v]).take (j-(Lib.decDigits (txtV v).length).length-1)) 0 0 hd.2.1 (by omega) (by omega) (fun h=>by omega) (fun _=>hd.2.2.2)
   rw [hd.2.2.1,Nat.zero_add] at hs
   unfold getP
   rw [hs]
   simp only [ne_eq,not_true_eq_false,if_false]
   rw [if_pos]
   rw [List.length_append,List.length_cons,List.length_take,List.length_append]
   simp only [List.length_cons,List.length_nil]
   omega
  ·have hs:=szGo_front (Lib.decDigits (txtV v).length) 0 0 j hd.2.1 (by omega) (fun h=>by omega) (fun _=>hd.2.2.2)
   rw [List.take_append_of_le_length hge]
   unfold getP
   rw [hs]
   rfl
 unfold getV
 rw [key]
 rfl
theorem putS_str (s:ByteArray) (h:s.size<=400000):putS (vStr s)=putV (vStr s):=by
 have h7:(Lib.decDigits (txtV (vStr s)).length).length<=7:=dec_len7 (show s.data.toList.length<_ by rw [Array.length_toList];show s.size<_;omega)
 have hm:mayV (vStr s)=true:=by kernel_rfl
 unfold putS
 rw [hm,decide_eq_true h7]
 rfl
theorem leafL_eq (s:ByteArray) (h:s.size<=400000):leafL s=markL s.data.toList++putV (vStr s):=by
 unfold leafL
 rw [if_neg (by omega),putS_str s h]
theorem leaf_pos (s:ByteArray) (h:s.size<=400000):10<=(leafL s).length:=by
 rw [leafL_eq s h,List.length_append,markL_len]
 have h1:=putV_len (vStr s)
 have h2:=List.length_pos_iff.2 (dec_digits (txtV (vStr s)).length).1
 omega
theorem markedB_leaf (s:List UInt8) (r:List UInt8):markedB (markL s++r)=true:=by
 have hl:=markL_len s
 unfold markedB
 rw [List.take_append_of_le_length (by omega),List.take_of_length_le (by omega),List.length_append,show 8-((markL s).length+r.length)=0 from by omega]
 show (zRead (markL s++[])).2=true
 rw [List.append_nil]
 unfold markL
 rw [zRead_text (zOn_ok _ _ ⟨by decide,by decide⟩)]
theorem drop8 (s r:List UInt8):(markL s++r).drop 8=r:=by
 have hl:=markL_len s
 rw [List.drop_append_of_le_length (by omega),List.drop_of_length_le (by omega),List.nil_append]
theorem turnG_leaf (s:ByteArray) (h:s.size<=400000) (r:List UInt8):turnG (leafL s++r)=(s,(leafL s).length,0):=by
 have hl:=markL_len s.data.toList
 have ht:(txtV (vStr s)).length<10000000:=show s.data.toList.length<_ by rw [Array.length_toList];show s.size<_;omega
 have hm:mayV (vStr s)=true:=by kernel_rfl
 have hg:getV (putV (vStr s)++r)=(vStr s,(putV (vStr s)).length,0):=by
  unfold getV
  rw [getP_put 6 (vStr s) (by unfold mayV at hm;exact of_decide_eq_true hm) ⟨⟨by decide,by decide⟩,trivial⟩ ht r]
  simp only [hm]
  rfl
 have hlen:(leafL s).length=8+(putV (vStr s)).length:=by rw [leafL_eq s h,List.length_append,hl]
 unfold turnG
 rw [leafL_eq s h,List.append_assoc,markedB_leaf,drop8,hg,if_neg (by decide),if_neg (by rw [List.length_append];omega)]
 simp only
 rw [if_neg (by decide),if_neg]
 ·show (s,8+_,_)=_
  rw [List.length_append,hl]
 ·rintro (e | e | e)
  ·exact e rfl
  ·exact e rfl
  ·apply e
   show leafL s=_
   rw [leafL_eq s h,<-List.append_assoc,List.take_left' (by rw [List.length_append,hl])]
theorem turnG_front (s:ByteArray) (h:s.size<=400000) (k:Nat) (hk:k<(leafL s).length):(turnG ((leafL s).take k)).2.2=2:=by
 have hl:=markL_len s.data.toList
 have ht:(txtV (vStr s)).length<10000000:=show s.data.toList.length<_ by rw [Array.length_toList];show s.size<_;omega
 have hlen:(leafL s).length=8+(putV (vStr s)).length:=by rw [leafL_eq s h,List.length_append,hl]
 rcases Nat.lt_or_ge k 8 with h8 | h8
 ·have e:(leafL s).take k=(markL s.data.toList).take k:=by rw [leafL_eq s h,List.take_append_of_le_length (by omega)]
  have hlk:((markL s.data.toList).take k).length=k:=by rw [List.length_take];omega
  have hm:markedB ((markL s.data.toList).take k)=true:=by
   unfold markedB
   rw [hlk,List.take_of_length_le (by omega)]
   exact zfront (zOn_ok _ _ ⟨by decide,by decide⟩) k h8
  unfold turnG
  rw [e,hm,if_neg (by decide),if_pos (by omega)]
 ·have e:(leafL s).take k=markL s.data.toList++(putV (vStr s)).take (k-8):=by
   rw [leafL_eq s h,List.take_append,List.take_of_length_le (by omega),hl]
  have hg:=getV_front (vStr s) ht (k-8) (by omega)
  unfold turnG
  rw [e,markedB_leaf,drop8,hg,if_neg (by decide)]
  split<;>rfl
def leavesL:List ByteArray->List UInt8
 | []=>[]
 | s::r=>leafL s++leavesL r
theorem leavesL_append:∀ a b:List ByteArray,leavesL (a++b)=leavesL a++leavesL b
 | [],b=>rfl
 | s::r,b=>by rw [List.cons_append,leavesL,leavesL,leavesL_append r b,List.append_assoc]
def Splits:List UInt8->List ByteArray->Nat->Prop
 | t,[],at_=>at_=0/\(t=[]\/(turnG t).2.2=2)
 | t,x::xs,at_=>∃ n a,turnG t=(x,n,0)/\0<n/\n<=t.length/\at_=n+a/\Splits (t.drop n) xs a
theorem Splits.leaves:∀ (l:List ByteArray) (p:List UInt8),(∀ x∈l,x.size<=400000)->(p=[]\/(turnG p).2.2=2)->Splits (leavesL l++p) l (leavesL l).length
 | [],p,_,hp=>⟨rfl,hp⟩
 | s::r,p,hl,hp=>by
  have hs:=hl s (List.mem_cons_self ..)
  have h10:=leaf_pos s hs
  refine⟨(leafL s).length,(leavesL r).length,?_,by omega,?_,?_,?_⟩
  ·rw [leavesL,List.append_assoc]
   exact turnG_leaf s hs _
  ·rw [leavesL,List.append_assoc,List.length_append]
   omega
  ·rw [leavesL,List.length_append]
  ·rw [leavesL,List.append_assoc,List.drop_left' rfl]
   exact Splits.leaves r p (fun x hx=>hl x (List.mem_cons_of_mem _ hx)) hp
theorem leaves_take:∀ (l:List ByteArray) (k:Nat),(∀ x∈l,x.size<=400000)->∃ m p,m<=l.length/\(leavesL l).take k=leavesL (l.take m)++p/\(p=[]\/(turnG p).2.2=2)/\(leavesL (l.take m)).length<=k/\∀ j,j<=l.length->(leavesL (l.take j)).length<=k->j<=m
 | [],k,_=>⟨0,[],Nat.le_refl _,by simp [leavesL],.inl rfl,Nat.zero_le _,fun j hj _=>hj⟩
 | s::r,k,hl=>by
  have hs:=hl s (List.mem_cons_self ..)
  have h10:=leaf_pos s hs
  rcases Nat.lt_or_ge k (leafL s).length with hk | hk
  ·refine⟨0,(leafL s).take k,Nat.zero_le _,?_,.inr (turnG_front s hs k hk),Nat.zero_le _,fun j hj hjk=>?_⟩
   ·rw [leavesL,List.take_append_of_le_length (Nat.le_of_lt hk)]
    rfl
   ·cases j with
    | zero=>exact Nat.le_refl _
    | succ j=>
     rw [List.take_succ_cons,leavesL,List.length_append] at hjk
     omega
  ·obtain⟨m,p,h1,h2,h3,h4,h5⟩:=leaves_take r (k-(leafL s).length) (fun x hx=>hl x (List.mem_cons_of_mem _ hx))
   refine⟨m+1,p,by rw [List.length_cons];omega,?_,h3,?_,fun j hj hjk=>?_⟩
   ·rw [leavesL,List.take_append,List.take_of_length_le hk,h2,List.take_succ_cons,leavesL,List.append_assoc]
   ·rw [List.take_succ_cons,leavesL,List.length_append]
    omega
   ·cases j with
    | zero=>exact Nat.zero_le _
    | succ j=>
     rw [List.take_succ_cons,leavesL,List.length_append] at hjk
     have:=h5 j (by rw [List.length_cons] at hj;omega) (by omega)
     omega
set_option maxRecDepth 100000
theorem doS_next {s:Stt} {d:D} (h:mayS s=true) (hd:mayD d=true) (hq:s.seq<maxN):(doS s d).1.seq=s.seq+1:=by
 rw [doS_F h hd hq]
 unfold doF
 split
 ·rfl
 split
 ·rfl
 split
 ·rfl
 simp only
 split<;>rfl
theorem foldS_next:∀ (l:List D) {s:Stt},mayS s=true->s.lows.length=5->(∀ d∈l,mayD d=true)->s.seq+l.length<=maxN->(foldS s l).seq=s.seq+l.length
 | [],s,h,h5,hd,hq=>by show s.seq=s.seq+((0:Nat):Int);omega
 | d::r,s,h,h5,hd,hq=>by
  rw [List.length_cons] at hq
  have e:=doS_next h (hd d (List.mem_cons_self ..)) (by omega)
  have ih:=foldS_next r (mayS_doS (d:=d) h5 h) (doS_lows5 d h5) (fun x hx=>hd x (List.mem_cons_of_mem _ hx)) (by omega)
  show (foldS (doS s d).1 r).seq=_
  rw [ih,e,List.length_cons]
  omega
def resS:Stt->List D->List Res
 | _,[]=>[]
 | s,d::r=>(doS s d).2::resS (doS s d).1 r
theorem resS_len:∀ (s:Stt) (l:List D),(resS s l).length=l.length
 | _,[]=>rfl
 | s,d::r=>by rw [resS,List.length_cons,List.length_cons,resS_len]
theorem foldS_append (s:Stt) (a b:List D):foldS s (a++b)=foldS (foldS s a) b:=by
 unfold foldS
 rw [List.foldl_append]
structure Known where
 b:Stt
 pend:List D
 ep:Int
 ln:Int
def Known0:Known:=⟨Stt0,[],0,0⟩
def Known.seq (k:Known):Int:=k.b.seq+k.pend.length
structure Known.Ok (k:Known):Prop where
 may:mayS k.b=true
 lows:k.b.lows.length=5
 pend:∀ d∈k.pend,mayD d=true/\d.Ok
 len:k.pend.length<=60
 seq:k.b.seq+k.pend.length<=maxN
 ep:i64ok k.ep
 ln:i64ok k.ln
theorem Known0.ok:Known0.Ok:=⟨by kernel_rfl,rfl,(fun d hd=>by cases hd),Nat.zero_le _,by decide,by unfold i64ok;decide,by unfold i64ok;decide⟩
def vKnown (k:Known):V:=vRow [vStr ⟨(putStt k.b).toArray⟩,vRow (k.pend.map valD'),vNum k.ep,vNum k.ln]
def textK (k:Known):List UInt8:=putS (vKnown k)
theorem valD_may {d:D} (h:mayD d=true):valD' d=vDeed d:=by rw [valD',if_pos h]
theorem cnt_deed (f:Nat) (d:D):cnt (f+2) (vDeed d)=9:=by simp [vDeed,cnt_row,cnt_num,cnt_str,cntL]
theorem mayV_known {k:Known} (h:k.Ok):mayV (vKnown k)=true:=by
 have hl:=h.len
 have h1:=cntL_bound (cnt 4) (fun v=>(cnt_range 4 v).1) 9 (k.pend.map valD') 1 (fun x hx=>by
  obtain⟨d,hd,rfl⟩:=List.mem_map.1 hx
  rw [valD_may (h.pend d hd).1,cnt_deed];decide) (by rw [List.length_map];omega)
 rw [List.length_map] at h1
 rw [mayV,decide_eq_true_eq,vKnown,cnt_row,cntL_cons,cnt_str,if_neg (by decide),cntL_cons,cnt_row,if_neg (by omega),cntL_cons,cnt_num,if_neg (by omega),cntL_cons,cnt_num,if_neg (by omega),cntL]
 omega
theorem putStt_len9 {s:Stt} (h5:s.lows.length=5) (h:mayS s=true):(putStt s).length<=200009:=by
 have h1:=txt_vStt s h5 h
 have h2:=dec_len7 (u:=(txtV (vStt s)).length) (by omega)
 rw [putStt_may s h5 h,putV_len]
 omega
theorem putV_deed {d:D} (hk:d.Ok) (h:mayD d=true):(putV (vDeed d)).length<=1009:=by
 have h1:=txt_vDeed d hk h
 have h2:=dec_len7 (u:=(txtV (vDeed d)).length) (by omega)
 rw [putV_len]
 omega
theorem txt_known {k:Known} (h:k.Ok):(txtV (vKnown k)).length<=270000:=by
 have b1:=putL_bound 1009 (k.pend.map valD') fun x hx=>by
  obtain⟨d,hd,rfl⟩:=List.mem_map.1 hx
  rw [valD_may (h.pend d hd).1]
  exact putV_deed (h.pend d hd).2 (h.pend d hd).1
 rw [List.length_map] at b1
 have hl:=h.len
 have c1:=putV_row (k.pend.map valD') 60540 (by omega) (by decide)
 have c2:=putStt_len9 h.lows h.may
 have c3:=putV_str ⟨(putStt k.b).toArray⟩ (by show (putStt k.b).toArray.size<_;rw [List.size_toArray];omega)
 have e3:(⟨(putStt k.b).toArray⟩:ByteArray).size=(putStt k.b).length:=List.size_toArray ..
 have c4:=putV_num k.ep h.ep
 have c5:=putV_num k.ln h.ln
 rw [vKnown,txt_row]
 simp only [putL,List.length_append,List.length_nil]
 omega
theorem okV_valD {d:D} (hk:d.Ok) (h:mayD d=true):okV (valD' d):=by rw [valD_may h];exact okV_vDeed d hk
theorem okV_known {k:Known} (h:k.Ok):okV (vKnown k):=by
 refine okV_row _ ?_
 simp only [okL]
 exact⟨okV_str _,okV_row _ (okL_map _ _ fun d hd=>okV_valD (h.pend d hd).2 (h.pend d hd).1),okV_num _ h.ep,okV_num _ h.ln,trivial⟩
theorem putS_put {v:V} (h:mayV v=true) (hl:(txtV v).length<10000000):putS v=putV v:=by
 have:=dec_len7 hl
 rw [putS,h]
 simp [this]
theorem textK_eq {k:Known} (h:k.Ok):textK k=putV (vKnown k):=putS_put (mayV_known h) (by have:=txt_known h;omega)
theorem textK_len {k:Known} (h:k.Ok):(textK k).length<=270009:=by
 have h1:=txt_known h
 have h2:=dec_len7 (u:=(txtV (vKnown k)).length) (by omega)
 rw [textK_eq h,putV_len]
 omega
theorem textK_ne {k:Known} (h:k.Ok):textK k≠[]:=by rw [textK_eq h];exact putV_ne _
theorem allV_textK {k:Known} (h:k.Ok):allV (textK k)=(vKnown k,0):=by
 rw [textK_eq h]
 exact allV_put _ (mayV_known h) (okV_known h) (by have:=txt_known h;omega)
def FirstOk (s:ByteArray) (k:Known):Prop:=(s=⟨#[]⟩/\k=Known0)\/(s=⟨(textK k).toArray⟩/\k.Ok)
theorem FirstOk.ok {s:ByteArray} {k:Known} (h:FirstOk s k):k.Ok:=by
 rcases h with ⟨_,rfl⟩ | ⟨_,h⟩
 ·exact Known0.ok
 ·exact h
theorem FirstOk.size {s:ByteArray} {k:Known} (h:FirstOk s k):s.size<=270009:=by
 rcases h with ⟨rfl,_⟩ | ⟨rfl,h⟩
 ·decide
 ·show (textK k).toArray.size<=_
  rw [List.size_toArray]
  exact textK_len h
inductive Rc where
 | add (d:D)
 | done (n:Int)
 | enter (n:Int)
def vRc:Rc->V
 | .add d=>vRow [vNum 1,valD' d]
 | .done n=>vRow [vNum 2,vNum n]
 | .enter n=>vRow [vNum 3,vNum n]
def txtR (r:Rc):ByteArray:=⟨(putS (vRc r)).toArray⟩
def Rc.Ok:Rc->Prop
 | .add d=>mayD d=true/\d.Ok
 | .done n=>i64ok n
 | .enter n=>i64ok n
theorem vRc_facts {r:Rc} (h:r.Ok):mayV (vRc r)=true/\(txtV (vRc r)).length<=1100/\okV (vRc r):=by
 have n1:=putV_num 1 (by unfold i64ok;decide)
 have n2:=putV_num 2 (by unfold i64ok;decide)
 have n3:=putV_num 3 (by unfold i64ok;decide)
 have o1:i64ok 1:=by unfold i64ok;decide
 have o2:i64ok 2:=by unfold i64ok;decide
 have o3:i64ok 3:=by unfold i64ok;decide
 cases r with
 | add d=>
  obtain⟨h1,h2⟩:=h
  have hd:=putV_deed h2 h1
  refine⟨?_,?_,okV_row _ ?_⟩
  ·rw [mayV,decide_eq_true_eq,vRc,valD_may h1,cnt_row,cntL_cons,cnt_num,if_neg (by decide),cntL_cons,cnt_deed,if_neg (by decide),cntL]
   decide
  ·rw [vRc,valD_may h1,txt_row]
   simp only [putL,List.length_append,List.length_nil]
   omega
  ·simp only [okL]
   exact⟨okV_num _ o1,okV_valD h2 h1,trivial⟩
 | done n=>
  have h:i64ok n:=h
  have hd:=putV_num n h
  refine⟨?_,?_,okV_row _ ?_⟩
  ·rw [mayV,decide_eq_true_eq,vRc,cnt_row,cntL_cons,cnt_num,if_neg (by decide),cntL_cons,cnt_num,if_neg (by decide),cntL]
   decide
  ·rw [vRc,txt_row]
   simp only [putL,List.length_append,List.length_nil]
   omega
  ·simp only [okL]
   exact⟨okV_num _ o2,okV_num _ h,trivial⟩
 | enter n=>
  have h:i64ok n:=h
  have hd:=putV_num n h
  refine⟨?_,?_,okV_row _ ?_⟩
  ·rw [mayV,decide_eq_true_eq,vRc,cnt_row,cntL_cons,cnt_num,if_neg (by decide),cntL_cons,cnt_num,if_neg (by decide),cntL]
   decide
  ·rw [vRc,txt_row]
   simp only [putL,List.length_append,List.length_nil]
   omega
  ·simp only [okL]
   exact⟨okV_num _ o3,okV_num _ h,trivial⟩
theorem putS_rc {r:Rc} (h:r.Ok):putS (vRc r)=putV (vRc r):=by
 obtain⟨h1,h2,_⟩:=vRc_facts h
 exact putS_put h1 (by omega)
theorem putV_rc {r:Rc} (h:r.Ok):(putV (vRc r)).length<=1109:=by
 obtain⟨h1,h2,_⟩:=vRc_facts h
 have h3:=dec_len7 (u:=(txtV (vRc r)).length) (by omega)
 rw [putV_len]
 omega
theorem txtR_size {r:Rc} (h:r.Ok):(txtR r).size<=1109:=by
 show (putS (vRc r)).toArray.size<=_
 rw [List.size_toArray,putS_rc h]
 exact putV_rc h
theorem allV_rc {r:Rc} (h:r.Ok):allV (putS (vRc r))=(vRc r,0):=by
 obtain⟨h1,h2,h3⟩:=vRc_facts h
 rw [putS_rc h]
 exact allV_put _ h1 h3 (by omega)
def commitK (k:Known) (n:Int):Known × List Res:=
 (⟨foldS k.b (k.pend.take (n-k.b.seq).toNat),k.pend.drop (n-k.b.seq).toNat,k.ep,k.ln⟩,resS k.b (k.pend.take (n-k.b.seq).toNat))
def stepK (k:Known):Rc->Known
 | .add d=>⟨k.b,k.pend++[d],k.ep,k.ln⟩
 | .done n=>(commitK k n).1
 | .enter n=>⟨k.b,k.pend,max k.ep n,k.ln⟩
def canR (k:Known):Rc->Prop
 | .add d=>k.pend.length<60/\k.seq<maxN
 | .done n=>n<=k.seq
 | .enter n=>True
theorem Known.Ok.commit {k:Known} (h:k.Ok) (n:Int):(commitK k n).1.Ok:=by
 have hp:∀ d∈k.pend.take (n-k.b.seq).toNat,mayD d=true:=fun d hd=>(h.pend d (List.mem_of_mem_take hd)).1
 obtain⟨a,b,_⟩:=foldS_ok (k.pend.take (n-k.b.seq).toNat) h.may h.lows
 have hs:=h.seq
 have hlen:(k.pend.take (n-k.b.seq).toNat).length+(k.pend.drop (n-k.b.seq).toNat).length=k.pend.length:=by rw [<-List.length_append,List.take_append_drop]
 have e:=foldS_next (k.pend.take (n-k.b.seq).toNat) h.may h.lows hp (by omega)
 refine⟨a,b,fun d hd=>h.pend d (List.mem_of_mem_drop hd),?_,?_,h.ep,h.ln⟩
 ·have:=h.len
  show (k.pend.drop _).length<=60
  omega
 ·show (foldS k.b (k.pend.take (n-k.b.seq).toNat)).seq+((k.pend.drop (n-k.b.seq).toNat).length:Int)<=maxN
  rw [e]
  omega
theorem Known.Ok.step {k:Known} (h:k.Ok) {r:Rc} (hr:r.Ok) (hc:canR k r):(stepK k r).Ok:=by
 cases r with
 | add d=>
  obtain⟨h1,h2⟩:=hc
  unfold Known.seq at h2
  refine⟨h.may,h.lows,fun x hx=>?_,?_,?_,h.ep,h.ln⟩
  ·rcases List.mem_append.1 hx with hx | hx
   ·exact h.pend x hx
   ·rw [List.mem_singleton.1 hx]
    exact hr
  ·show (k.pend++[d]).length<=60
   rw [List.length_append]
   exact h1
  ·show k.b.seq+((k.pend++[d]).length:Int)<=maxN
   rw [List.length_append]
   simp only [List.length_cons,List.length_nil]
   omega
 | done n=>exact h.commit n
 | enter n=>
  refine⟨h.may,h.lows,h.pend,h.len,h.seq,?_,h.ln⟩
  have h1:=h.ep
  have h2:i64ok n:=hr
  unfold i64ok at*
  show -_<=max k.ep n/\max k.ep n<=_
  omega
def foldK (k:Known) (l:List Rc):Known:=l.foldl stepK k
theorem foldK_snoc (k:Known) (l:List Rc) (r:Rc):foldK k (l++[r])=stepK (foldK k l) r:=by
 unfold foldK
 rw [List.foldl_append]
 rfl
def Can:Known->List Rc->Prop
 | _,[]=>True
 | k,r::l=>r.Ok/\canR k r/\Can (stepK k r) l
theorem Can.ok:∀ {l:List Rc} {k:Known},k.Ok->Can k l->(foldK k l).Ok
 | [],k,hk,_=>hk
 | r::l,k,hk,⟨h1,h2,h3⟩=>Can.ok (l:=l) (hk.step h1 h2) h3
theorem Can.snoc:∀ {l:List Rc} {k:Known} {r:Rc},Can k l->r.Ok->canR (foldK k l) r->Can k (l++[r])
 | [],k,r,_,h1,h2=>⟨h1,h2,trivial⟩
 | x::l,k,r,⟨a,b,c⟩,h1,h2=>⟨a,b,Can.snoc c h1 h2⟩
theorem Can.take:∀ {l:List Rc} {k:Known} (i:Nat),Can k l->Can k (l.take i)
 | [],k,i,_=>by rw [List.take_nil];trivial
 | x::l,k,0,_=>trivial
 | x::l,k,i+1,⟨a,b,c⟩=>⟨a,b,Can.take i c⟩
theorem Can.mem:∀ {l:List Rc} {k:Known},Can k l->∀ r∈l,r.Ok
 | x::l,k,⟨a,b,c⟩,r,hr=>by
  cases hr with
  | head=>exact a
  | tail _ h=>exact Can.mem c r h
set_option maxRecDepth 100000
structure Sh where
 tot:Int
 first:ByteArray
 base:Known
 l:List Rc
 np:Nat
 kept:Bool
 down:Bool
def Sh.texts (H:Sh):List ByteArray:=H.first::H.l.map txtR
def Sh.txt (H:Sh):List UInt8:=leavesL H.texts
def Sh.room (H:Sh):Int:=H.tot-H.txt.length
def Sh.k (H:Sh):Known:=foldK H.base H.l
def Sh.scr (H:Sh):Scroll:=⟨⟨H.txt.toArray⟩,((leavesL (H.texts.take (1+H.np))).length:Nat),H.kept⟩
structure Sh.Ok (H:Sh):Prop where
 first:FirstOk H.first H.base
 can:Can H.base H.l
 np:H.np<=H.l.length
 tot:H.tot<=1048576
 room:0<=H.room
theorem Sh.Ok.k {H:Sh} (h:H.Ok):H.k.Ok:=Can.ok h.first.ok h.can
theorem Sh.Ok.size {H:Sh} (h:H.Ok):(H.txt.length:Int)<=1048576:=by
 have h1:=h.tot
 have h2:=h.room
 unfold Sh.room at h2
 omega
theorem Sh.Ok.sizes {H:Sh} (h:H.Ok):∀ x∈H.texts,x.size<=400000:=fun x hx=>by
 cases hx with
 | head=>have:=h.first.size;omega
 | tail _ hx=>
  obtain⟨r,hr,rfl⟩:=List.mem_map.1 hx
  have:=txtR_size (Can.mem h.can r hr)
  omega
theorem leavesL_take_le (l:List ByteArray) (i:Nat):(leavesL (l.take i)).length<=(leavesL l).length:=by
 have e:leavesL l=leavesL (l.take i)++leavesL (l.drop i):=by rw [<-leavesL_append,List.take_append_drop]
 rw [e,List.length_append]
 omega
theorem leavesL_snoc (l:List ByteArray) (s:ByteArray):leavesL (l++[s])=leavesL l++leafL s:=by
 rw [leavesL_append]
 show _++(leafL s++[])=_
 rw [List.append_nil]
def leafN (s:ByteArray):Int:=((leafL s).length:Nat)
theorem leafN_le (s:ByteArray) (h:s.size<=400000):10<=leafN s/\leafN s<=s.size+17:=by
 have h1:=leaf_pos s h
 have h2:=putV_str s (by omega)
 unfold leafN
 rw [leafL_eq s h,List.length_append,markL_len] at*
 omega
def Sh.write (H:Sh) (r:Rc) (press:Bool):Sh:=⟨H.tot,H.first,H.base,H.l++[r],if press then H.l.length+1 else H.np,H.kept||press,H.down⟩
def Sh.fell (H:Sh):Sh:=⟨H.tot,H.first,H.base,H.l,H.np,H.kept,true⟩
theorem Sh.write_texts (H:Sh) (r:Rc) (p:Bool):(H.write r p).texts=H.texts++[txtR r]:=by
 show H.first::(H.l++[r]).map txtR=H.first::H.l.map txtR++[txtR r]
 rw [List.map_append]
 rfl
theorem Sh.write_txt (H:Sh) (r:Rc) (p:Bool):(H.write r p).txt=H.txt++leafL (txtR r):=by
 unfold Sh.txt
 rw [Sh.write_texts,leavesL_snoc]
theorem Sh.write_room (H:Sh) (r:Rc) (p:Bool):(H.write r p).room=H.room-leafN (txtR r):=by
 unfold Sh.room leafN
 rw [Sh.write_txt,List.length_append]
 show H.tot-_=_
 omega
theorem Sh.write_k (H:Sh) (r:Rc) (p:Bool):(H.write r p).k=stepK H.k r:=foldK_snoc _ _ _
theorem Sh.Ok.write {H:Sh} (h:H.Ok) {r:Rc} (hr:r.Ok) (hc:canR H.k r) (p:Bool) (hroom:leafN (txtR r)<=H.room):(H.write r p).Ok:=by
 refine⟨h.first,Can.snoc h.can hr hc,?_,h.tot,?_⟩
 ·have:=h.np
  show (if p then H.l.length+1 else H.np)<=(H.l++[r]).length
  rw [List.length_append]
  simp only [List.length_cons,List.length_nil]
  split<;>omega
 ·rw [Sh.write_room]
  omega
theorem Sh.Ok.fell {H:Sh} (h:H.Ok):H.fell.Ok:=⟨h.first,h.can,h.np,h.tot,h.room⟩
theorem Sh.write_pressed {H:Sh} (h:H.Ok) (r:Rc) (p:Bool):((H.write r p).scr).pressed=if p then ((H.txt++leafL (txtR r)).length:Int) else H.scr.pressed:=by
 show ((leavesL ((H.write r p).texts.take (1+if p then H.l.length+1 else H.np))).length:Int)=_
 rw [Sh.write_texts]
 have hlen:H.texts.length=H.l.length+1:=by
  show (H.first::H.l.map txtR).length=_
  rw [List.length_cons,List.length_map]
 cases p with
 | true=>
  rw [if_pos rfl,if_pos rfl,List.take_of_length_le (by rw [List.length_append,hlen];simp only [List.length_cons,List.length_nil];omega),leavesL_snoc]
  rfl
 | false=>
  have:=h.np
  rw [if_neg (by decide),if_neg (by decide),List.take_append_of_le_length (by omega)]
  rfl
theorem Sh.scr_le {H:Sh}:0<=H.scr.pressed/\H.scr.pressed<=H.txt.length:=by
 have:=leavesL_take_le H.texts (1+H.np)
 show 0<=((leavesL (H.texts.take (1+H.np))).length:Int)/\((leavesL (H.texts.take (1+H.np))).length:Int)<=((leavesL H.texts).length:Int)
 omega
def Sh.lay (H:Sh) (k:Known):Sh:=⟨H.tot,⟨(textK k).toArray⟩,k,[],0,true,H.down⟩
theorem Sh.lay_txt (H:Sh) (k:Known):(H.lay k).txt=leafL ⟨(textK k).toArray⟩:=by
 show leafL ⟨(textK k).toArray⟩++[]=_
 rw [List.append_nil]
theorem Sh.Ok.lay {H:Sh} (h:H.Ok) {k:Known} (hk:k.Ok) (hroom:leafN ⟨(textK k).toArray⟩<=H.room):(H.lay k).Ok:=by
 refine⟨.inr ⟨rfl,hk⟩,trivial,Nat.le_refl _,h.tot,?_⟩
 show 0<=H.tot-((H.lay k).txt.length:Int)
 rw [Sh.lay_txt]
 unfold Sh.room leafN at hroom
 omega
def Sh.cut (H:Sh) (i:Nat):Sh:=⟨H.tot,H.first,H.base,H.l.take i,i,true,false⟩
theorem Sh.cut_texts (H:Sh) (i:Nat):(H.cut i).texts=H.texts.take (i+1):=by
 show H.first::(H.l.take i).map txtR=(H.first::H.l.map txtR).take (i+1)
 rw [List.take_succ_cons,List.map_take]
theorem Sh.Ok.cut {H:Sh} (h:H.Ok) (i:Nat) (hi:i<=H.l.length):(H.cut i).Ok:=by
 refine⟨h.first,h.can.take i,?_,h.tot,?_⟩
 ·show i<=(H.l.take i).length
  rw [List.length_take]
  omega
 ·have:=leavesL_take_le H.texts (i+1)
  have h2:=h.room
  show 0<=H.tot-((leavesL (H.cut i).texts).length:Int)
  rw [Sh.cut_texts]
  unfold Sh.room Sh.txt at h2
  omega
theorem Sh.tear {H:Sh} (h:H.Ok) (n:Nat) (hn:H.scr.pressed<=n):∃ i,H.np<=i/\i<=H.l.length/\Splits (H.txt.take n) (H.first::(H.cut i).l.map txtR) (H.cut i).txt.length/\(H.cut i).txt=(H.txt.take n).take (H.cut i).txt.length/\(H.cut i).txt.length<=(H.txt.take n).length:=by
 obtain⟨m,p,h1,h2,h3,h4,h5⟩:=leaves_take H.texts n h.sizes
 have hlen:H.texts.length=H.l.length+1:=by
  show (H.first::H.l.map txtR).length=_
  rw [List.length_cons,List.length_map]
 have hnp:=h5 (1+H.np) (by have:=h.np;omega) (by
  have hn:((leavesL (H.texts.take (1+H.np))).length:Int)<=n:=hn
  omega)
 obtain⟨i,rfl⟩:∃ i,m=i+1:=⟨m-1,by omega⟩
 have et:(H.cut i).txt=leavesL (H.texts.take (i+1)):=by
  unfold Sh.txt
  rw [Sh.cut_texts]
 have e2:H.txt.take n=(H.cut i).txt++p:=by rw [et];exact h2
 have ef:H.first::(H.cut i).l.map txtR=(H.cut i).texts:=rfl
 refine⟨i,by omega,by omega,?_,?_,?_⟩
 ·rw [e2,ef]
  have hs:=Splits.leaves (H.cut i).texts p (fun x hx=>h.sizes x (by rw [Sh.cut_texts] at hx;exact List.mem_of_mem_take hx)) h3
  exact hs
 ·rw [e2,List.take_left' rfl]
 ·rw [e2,List.length_append]
  omega
end Go.Proofs.YtokglimimnelaaaGreatDoor
section
namespace Go.Vc
open Go Go.RowKit
open Go.Proofs.YtokglimimnelaaaGreatDoor (no)
set_option maxRecDepth 100000
def In (G:Nat->Prop) (R:Kn):Kn:=fun S w=>∃ Sr:Nat->Prop,(∀ x,Sr x->S x/\G x)/\R Sr w
theorem In.stab {G:Nat->Prop} {R:Kn} (hR:Stab R):Stab (In G R):=fun S w S' w' h f=>by
 obtain⟨Sr,h1,h2⟩:=h
 exact⟨Sr,fun x hx=>⟨f.1 x (h1 x hx).1,(h1 x hx).2⟩,hR _ _ _ _ h2 ⟨fun _ h=>h,fun x hx=>f.2 x (h1 x hx).1⟩⟩
def ownG (S:Nat->Prop) (w:World):Nat->Prop:=fun x=>S x\/w.heap.size<=x
def KL (w:World) (g:Nat) (S:Nat->Prop) (R:Kn):Kn:=fun S' w'=>Keep w (fun x=>x=g) S' w'/\In (ownG S w) R S' w'
theorem KL.stab {w:World} {g:Nat} {S:Nat->Prop} {R:Kn} (hR:Stab R):Stab (KL w g S R):=(Keep.stab _ _).and (In.stab hR)
section
variable {w w1 w':World} {S S1:Nat->Prop} {l:List LB} {os:List OR} {R:Kn} {g T:Nat} {cs cs':List Value}
theorem CtxF.enterL (hB:Blk w g T cs) (hS:∀ x,S x->x<w.heap.size/\x≠g) (hR:R S w) (hs:Stab R):CtxF no (bare w) (fun x=>x<w.heap.size/\x≠g) w [(g,T,cs)] [] (KL w g S R):=
 CtxF.enter (fun x hx=>hx.1) ⟨Nat.zero_le _,fun h=>h.2 rfl,hB,(fun x hx=>by cases hx),trivial⟩ trivial ⟨fun x hx hn=>⟨⟨hx,hn⟩,rfl⟩,S,fun x hx=>⟨hS x hx,.inl hx⟩,hR⟩ (KL.stab hs)
theorem CtxF.sizeL (hc:CtxF no (bare w) S1 w1 l os (KL w g S R)) (k:Nat) (hk:l[k]?=some (g,T,cs)):w.heap.size<=w1.heap.size:=by
 have hB:=(hc.blk k hk).lt
 by_cases e:g=w.heap.size-1
 ·omega
 ·rcases Nat.eq_zero_or_pos w.heap.size with h0 | h0
  ·omega
  ·have:=heap_lt (hc.row.1 (w.heap.size-1) (by omega) (fun h=>e h.symm)).2 (by omega)
   omega
theorem CtxF.inL (hc:CtxF no (bare w) S1 w1 l os (KL w g S R)) (hs:Stab R) (k:Nat) (hk:l[k]?=some (g,T,cs)):
  ∃ Sr:Nat->Prop,R Sr w1/\(∀ x,Sr x->S1 x)/\∀ {w':World} {l':List LB} {R':Kn} {os':List OR} {E:Nat->Prop},CtxF no (bare w) E w' l' os' R'/\Fut S1 w1 E w'->(∀ x,ext Sr w1 w' x->E x\/∃ o∈os',∃ a,o.A=some a/\a.block=x)->∀ {X:Kn},Stab X->X (fun x=>ext Sr w1 w' x/\E x) w'->CtxF no (bare w) E w' l' os' (KL w g S (fun S w=>R S w/\X S w)):=by
 have hsz:=hc.sizeL k hk
 obtain⟨hk1,Sr,h1,h2⟩:=hc.row
 refine⟨Sr,h2,fun x hx=>(h1 x hx).1,fun {w' l' R' os' E} hh hE {X} hX hx=>?_⟩
 obtain⟨hc',hf⟩:=hh
 refine hc'.now (fun _=>⟨Keep.stab _ _ _ _ _ _ hk1 hf,fun x=>ext Sr w1 w' x/\E x,fun x hx=>⟨hx.2,?_⟩,hs _ _ _ _ h2 ⟨fun x hx=>⟨.inl hx,hf.1 x (h1 x hx).1⟩,fun x hx=>hf.2 x (h1 x hx).1⟩,hx⟩) (KL.stab (hs.and hX))
 rcases hx.1 with h | h
 ·exact (h1 x h).2
 ·exact .inr (Nat.le_trans hsz h.1)
theorem CtxF.nowL {R':Kn} (hc:CtxF no (bare w) S1 w1 l os (KL w g S R)) (h:∀ S w,R S w->R' S w) (hs:Stab R'):CtxF no (bare w) S1 w1 l os (KL w g S R'):=
 hc.now (fun ⟨h1,Sr,h2,h3⟩=>⟨h1,Sr,h2,h _ _ h3⟩) (KL.stab hs)
theorem CtxF.toldL {o:OR} (hc:CtxF no (bare w) S1 w1 l (o::os) (KL w g S R)) (hs:Stab R) (k:Nat) (hk:l[k]?=some (g,T,cs)):∃ S2,CtxF no (bare w) S2 w1 l os (KL w g S (fun S w=>R S w/\Row S w o.A o.n o.cap o.xs)):=by
 have hnew:∀ a,o.A=some a->w.heap.size<=a.block:=fun a ha=>by
  rcases Nat.lt_or_ge a.block w.heap.size with h | h
  ·have h1:=hc.fst.out a ha
   have h2:=h1.2 _ (List.mem_of_getElem? hk)
   exact absurd (hc.row.1 a.block h (fun e=>h2 e.symm)).1 h1.1
  ·exact h
 obtain⟨S2,h2,hc2⟩:=hc.told
 refine⟨S2,hc2.now (fun hh=>?_) (KL.stab (hs.and fun _ _ _ _ h f=>h.fut f))⟩
 obtain⟨⟨hk1,Sr,j1,j2⟩,hR1,hR2,hR3⟩:=hh
 refine⟨hk1,fun x=>Sr x\/(S2 x/\∃ a,o.A=some a/\a.block=x),fun x hx=>?_,hs _ _ _ _ j2 ⟨fun x hx=>.inl hx,fun _ _=>rfl⟩,hR1,hR2,fun hx=>?_⟩
 ·rcases hx with hx | ⟨hx,a,ha,rfl⟩
  ·exact j1 x hx
  ·exact⟨hx,.inr (hnew a ha)⟩
 ·obtain⟨ad,e,hsa,hcl⟩:=hR3 hx
  exact⟨ad,e,.inr ⟨hsa,ad,e,rfl⟩,hcl⟩
theorem CtxF.leaveL (hc:CtxF no (bare w) S1 w' [(g,T,cs')] os (KL w g S R)) (hs:Stab R):Turn (fun x=>x=g) w w'/\Blk w' g T cs'/\∃ Sr:Nat->Prop,(∀ x,Sr x->S1 x/\ext S w w' x)/\R Sr w':=by
 obtain⟨hk1,Sr,h1,h2⟩:=hc.row
 refine⟨hc.leave hk1,hc.blk 0 rfl,Sr,fun x hx=>⟨(h1 x hx).1,?_⟩,h2⟩
 rcases (h1 x hx).2 with h | h
 ·exact .inl h
 ·exact .inr ⟨h,hc.ctx.lt x (h1 x hx).1⟩
end
end Go.Vc
namespace Go.Proofs.YtokglimimnelaaaGreatDoor
open Go.Vc Go.RowKit Go.Fl Go.ChangeShapes Go.WideShapes Go.ChangeAt
def knC (k:Known) (x:SX) (A:Option Addr) (cap:Nat):List Value:=[.int .i64 k.b.seq,.slice x.A k.b.l.length x.cap,.slice x.B k.b.ms.length x.cap',.int .i64 x.l0,.int .i64 x.l1,.int .i64 x.l2,.int .i64 x.l3,.int .i64 x.l4,.slice A k.pend.length cap,.int .i64 k.ep,.int .i64 k.ln]
def KnR (k:Known) (x:SX) (A:Option Addr) (cap:Nat):Kn:=fun S w=>RepS S w k.b (stX k.b x)/\Row S w A k.pend.length cap (k.pend.map dC).flatten
theorem KnR.stab (k:Known) (x:SX) (A:Option Addr) (cap:Nat):Stab (KnR k x A cap):=(stab_S _ _).and fun _ _ _ _ h f=>h.fut f
theorem kseq_any (k:Known) (h:k.Ok) (x:SX) (A:Option Addr) (cap:Nat) (w:World):Calls Tryz.prog 51 #[.agg (knC k x A cap).toArray] w (RetB (.int .i64 k.seq) w):=by
 have hs:=h.seq
 have hl:=h.len
 have h0:=(mayS_parts.1 h.may).1.1
 have hm:maxN=1099511627776:=rfl
 refine vE Tryz.func51 ?_
 have hc:=CtxF.start w no (fun _ h=>h.elim) (R:=fun _ _=>True) trivial Stab.true
 refine hc.n fun g1 wg1 hg1 hc=>?_
 refine⟨_,hc.cell 0 rfl _ rfl,?_⟩
 refine⟨_,hc.cell 0 rfl _ rfl,?_⟩
 refine⟨?_,hc.below⟩
 show Ending.returned (.int .i64 (IntKind.i64.wrap (k.b.seq+(k.pend.length:Int))))=_
 rw [IntWalk.i64_in _ ⟨by omega,by omega⟩]
 rfl
def RetKn (g T:Nat) (wrap:List Value->List Value) (S:Nat->Prop) (w:World) (v:Value) (k:Known) (en:Ending) (w':World):Prop:=
 en=.returned v/\Turn (fun x=>x=g) w w'/\∃ x A cap,Blk w' g T (wrap (knC k x A cap))/\KnR k x A cap (ext S w w') w'
theorem RetKn.mk {g T:Nat} {wrap:List Value->List Value} {S S1:Nat->Prop} {w w':World} {k:Known} {x:SX} {A:Option Addr} {cap:Nat} {cs:List Value} {os:List OR} (hc:CtxF no (bare w) S1 w' [(g,T,cs)] os (KL w g S (KnR k x A cap))) (e:cs=wrap (knC k x A cap)) (v:Value):RetKn g T wrap S w v k (.returned v) w':=by
 obtain⟨h1,h2,Sr,h3,h4⟩:=hc.leaveL (KnR.stab _ _ _ _)
 subst e
 exact⟨rfl,h1,x,A,cap,h2,KnR.stab _ _ _ _ _ _ _ _ h4 ⟨fun x hx=>(h3 x hx).2,fun _ _=>rfl⟩⟩
def addKE (k:Known) (d:D):Int:=if mayD d then (if 60<=k.pend.length\/maxN<=k.seq then 5 else 0) else 1
def addK (k:Known) (d:D):Known:=if addKE k d=0 then ⟨k.b,k.pend++[d],k.ep,k.ln⟩ else k
theorem kadd0_any (k:Known) (h:k.Ok) (d:D) (hd:d.Ok) (x:SX) (A:Option Addr) (cap g:Nat) (S:Nat->Prop) (w:World) (hB:Blk w g 96 (knC k x A cap)) (hS:∀ x,S x->x<w.heap.size/\x≠g) (hR:KnR k x A cap S w):
  Calls Tryz.prog 44 #[.pointer (some ⟨g,0,none⟩),.agg (dC d).toArray] w (RetKn g 96 id S w (.int .i64 (addKE k d)) (addK k d)):=by
 obtain⟨e,he⟩:∃ e,e=addKE k d:=⟨_,rfl⟩
 obtain⟨k',hk'⟩:∃ k',k'=addK k d:=⟨_,rfl⟩
 unfold addK at hk'
 rw [<-he] at hk'
 rw [<-he,show addK k d=k' from by rw [hk',he];rfl]
 unfold addKE at he
 have hc:=CtxF.enterL hB hS hR (KnR.stab _ _ _ _)
 refine vE Tryz.func44 ?_
 refine hc.n fun g3 wg3 hg3 hc=>?_
 refine hc.a 0 rfl rfl ?_
 refine hc.q (may_any d hd _) fun wQ hQ hc=>?_
 cases hm:mayD d with
 | false=>
  rw [hm,if_neg (by decide)] at he
  rw [he,if_neg (by decide)] at hk'
  subst he hk'
  exact RetKn.mk hc.drop rfl _
 | true=>
 rw [hm,if_pos rfl] at he
 refine⟨_,hc.cell 1 rfl _ rfl,?_⟩
 by_cases h60:60<=k.pend.length
 ·rw [if_pos (.inl h60)] at he
  rw [he,if_neg (by decide)] at hk'
  subst he hk'
  refine split_t (decide_eq_true (by omega)) ?_
  exact RetKn.mk hc.drop rfl _
 refine split_f (decide_eq_false (by omega)) ?_
 refine hc.a 1 rfl rfl ?_
 refine hc.q (kseq_any k h x A cap _) fun wQ hQ hc=>?_
 by_cases hsq:maxN<=k.seq
 ·rw [if_pos (.inr hsq)] at he
  rw [he,if_neg (by decide)] at hk'
  subst he hk'
  refine split_t (decide_eq_true hsq) ?_
  exact RetKn.mk hc.drop rfl _
 refine split_f (decide_eq_false hsq) ?_
 rw [if_neg (fun h=>h.elim h60 hsq)] at he
 rw [he,if_pos rfl] at hk'
 subst he hk'
 refine vD (.Q [0,1,2,3,6] (.n 4 (.n 5 (.n 7 (.n 8 (.Q [9,10] (.n 11 .fin .stop)) .stop) .stop) (.n 7 (.n 5 (.n 8 (.Q [9,10] (.n 11 .fin .stop)) .stop) .stop) .stop)) (.n 7 (.n 4 (.n 5 (.n 8 (.Q [9,10] (.n 11 .fin .stop)) .stop) .stop) .stop) .stop))) (fun z=>Blk z g3 32 (dC d)) (hc.blk 0 rfl) ?_
 have hc:=hc.drew
 refine⟨dC d,rfl,fun z hz=>drop_cells hz 0 _ 0 (fun j v hj=>by simpa using hj),?_⟩
 refine⟨?_,?_⟩
 ·skip
  refine⟨_,hc.cell 1 rfl _ rfl,(hc.blk 0 rfl),?_⟩
  refine⟨?_,?_⟩
  ·skip
   obtain⟨Sr,hR1,hSr,hin⟩:=hc.inL (KnR.stab _ _ _ _) 1 rfl
   refine⟨(cloneD_any A k.pend.length cap _ (dC_flat _) (List.length_map _) (by have:=h.len;omega) Sr _ hR1.2).mono fun en wq hq=>?_⟩
   obtain⟨A2,cap2,e1,hb,ho⟩:=hq
   have hc:=hc.fresh hb ho
   refine⟨_,e1,(hc.blk 0 rfl),?_⟩
   refine⟨hc.n fun gv wgv hgv hc=>?_,trivial⟩
   refine⟨(hc.blk 1 rfl),?_⟩
   refine⟨app_ownF (m:=1) Tryz.underlying22 info_D rfl (by decide) hc (by rfl) (hc.cells 0 rfl) rfl (by have:=h.len;show k.pend.length+1<=_;omega) (by decide) rfl rfl ?_,trivial⟩
   intro A3 cap3 w3 hc
   refine⟨(hc.blk 1 rfl),?_⟩
   refine⟨hc.s 2 rfl fun wS hS hc=>?_,trivial⟩
   refine⟨(hc.blk 1 rfl),?_⟩
   obtain⟨S2,hc⟩:=hc.toldL (KnR.stab _ _ _ _) 2 rfl
   have hc:=(hc.nowL (R':=KnR ⟨k.b,k.pend++[d],k.ep,k.ln⟩ x A3 cap3) (fun S w h=>⟨h.1.1,by
    have e1:((k.pend++[d]).map dC).flatten=(k.pend.map dC).flatten++dC d:=by simp
    have e2:(k.pend++[d]).length=k.pend.length+1:=by simp
    show Row S w A3 (k.pend++[d]).length cap3 ((k.pend++[d]).map dC).flatten
    rw [e1,e2]
    exact h.2⟩) (KnR.stab _ _ _ _)).drop.drop
   refine RetKn.mk hc ?_ _
   show _=knC ⟨k.b,k.pend++[d],k.ep,k.ln⟩ x A3 cap3
   unfold knC
   rw [show (k.pend++[d]).length=k.pend.length+1 from by simp]
   rfl
  refine⟨hc.n fun gv wgv hgv hc=>?_,trivial⟩
  refine⟨(hc.blk 1 rfl),?_⟩
  refine⟨?_,trivial⟩
  obtain⟨Sr,hR1,hSr,hin⟩:=hc.inL (KnR.stab _ _ _ _) 2 rfl
  refine⟨(cloneD_any A k.pend.length cap _ (dC_flat _) (List.length_map _) (by have:=h.len;omega) Sr _ hR1.2).mono fun en wq hq=>?_⟩
  obtain⟨A2,cap2,e1,hb,ho⟩:=hq
  have hc:=hc.fresh hb ho
  refine⟨_,e1,(hc.blk 1 rfl),?_⟩
  refine⟨app_ownF (m:=1) Tryz.underlying22 info_D rfl (by decide) hc (by rfl) (hc.cells 0 rfl) rfl (by have:=h.len;show k.pend.length+1<=_;omega) (by decide) rfl rfl ?_,trivial⟩
  intro A3 cap3 w3 hc
  refine⟨(hc.blk 1 rfl),?_⟩
  refine⟨hc.s 2 rfl fun wS hS hc=>?_,trivial⟩
  refine⟨(hc.blk 1 rfl),?_⟩
  obtain⟨S2,hc⟩:=hc.toldL (KnR.stab _ _ _ _) 2 rfl
  have hc:=(hc.nowL (R':=KnR ⟨k.b,k.pend++[d],k.ep,k.ln⟩ x A3 cap3) (fun S w h=>⟨h.1.1,by
   have e1:((k.pend++[d]).map dC).flatten=(k.pend.map dC).flatten++dC d:=by simp
   have e2:(k.pend++[d]).length=k.pend.length+1:=by simp
   show Row S w A3 (k.pend++[d]).length cap3 ((k.pend++[d]).map dC).flatten
   rw [e1,e2]
   exact h.2⟩) (KnR.stab _ _ _ _)).drop.drop
  refine RetKn.mk hc ?_ _
  show _=knC ⟨k.b,k.pend++[d],k.ep,k.ln⟩ x A3 cap3
  unfold knC
  rw [show (k.pend++[d]).length=k.pend.length+1 from by simp]
  rfl
 refine⟨hc.n fun gv wgv hgv hc=>?_,trivial⟩
 refine⟨(hc.blk 1 rfl),?_⟩
 refine⟨⟨_,hc.cell 2 rfl _ rfl,(hc.blk 1 rfl),?_⟩,trivial⟩
 refine⟨?_,trivial⟩
 obtain⟨Sr,hR1,hSr,hin⟩:=hc.inL (KnR.stab _ _ _ _) 2 rfl
 refine⟨(cloneD_any A k.pend.length cap _ (dC_flat _) (List.length_map _) (by have:=h.len;omega) Sr _ hR1.2).mono fun en wq hq=>?_⟩
 obtain⟨A2,cap2,e1,hb,ho⟩:=hq
 have hc:=hc.fresh hb ho
 refine⟨_,e1,(hc.blk 1 rfl),?_⟩
 refine⟨app_ownF (m:=1) Tryz.underlying22 info_D rfl (by decide) hc (by rfl) (hc.cells 0 rfl) rfl (by have:=h.len;show k.pend.length+1<=_;omega) (by decide) rfl rfl ?_,trivial⟩
 intro A3 cap3 w3 hc
 refine⟨(hc.blk 1 rfl),?_⟩
 refine⟨hc.s 2 rfl fun wS hS hc=>?_,trivial⟩
 refine⟨(hc.blk 1 rfl),?_⟩
 obtain⟨S2,hc⟩:=hc.toldL (KnR.stab _ _ _ _) 2 rfl
 have hc:=(hc.nowL (R':=KnR ⟨k.b,k.pend++[d],k.ep,k.ln⟩ x A3 cap3) (fun S w h=>⟨h.1.1,by
  have e1:((k.pend++[d]).map dC).flatten=(k.pend.map dC).flatten++dC d:=by simp
  have e2:(k.pend++[d]).length=k.pend.length+1:=by simp
  show Row S w A3 (k.pend++[d]).length cap3 ((k.pend++[d]).map dC).flatten
  rw [e1,e2]
  exact h.2⟩) (KnR.stab _ _ _ _)).drop.drop
 refine RetKn.mk hc ?_ _
 show _=knC ⟨k.b,k.pend++[d],k.ep,k.ln⟩ x A3 cap3
 unfold knC
 rw [show (k.pend++[d]).length=k.pend.length+1 from by simp]
 rfl
end Go.Proofs.YtokglimimnelaaaGreatDoor
end
namespace Go.Proofs.YtokglimimnelaaaGreatDoor
open Go.Vc Go.RowKit Go.Fl Go.ChangeShapes Go.WideShapes Go.ChangeAt
set_option maxRecDepth 100000
theorem snum_any (n:Int) (w:World):Calls Tryz.prog 50 #[.int .i64 n] w (RetB (.agg #[.int .i64 1,.int .i64 n,.string ⟨#[]⟩,.slice none 0 0]) w):=by
 refine vE Tryz.func50 ?_
 have hc:=Ctx.start w no (fun _ h=>h.elim)
 refine hc.n fun gA wgA hgA hc=>?_
 refine hc.s 0 rfl fun wS hS hc=>?_
 refine hc.a 0 rfl rfl ?_
 exact⟨rfl,hc.below⟩
theorem srow_any (A:Option Addr) (n cap:Nat) (w:World):Calls Tryz.prog 83 #[.slice A n cap] w (RetB (.agg #[.int .i64 3,.int .i64 0,.string ⟨#[]⟩,.slice A n cap]) w):=by
 refine vE Tryz.func83 ?_
 have hc:=Ctx.start w no (fun _ h=>h.elim)
 refine hc.n fun gA wgA hgA hc=>?_
 refine hc.s 0 rfl fun wS hS hc=>?_
 refine hc.a 0 rfl rfl ?_
 exact⟨rfl,hc.below⟩
set_option maxHeartbeats 4000000 in
theorem text_any (k:Known) (h:k.Ok) (x:SX) (A:Option Addr) (cap:Nat) (S0:Nat->Prop) (w:World) (hR:KnR k x A cap S0 w) (ht:Tab w):Calls Tryz.prog 78 #[.agg (knC k x A cap).toArray] w (RetB (.string ⟨(textK k).toArray⟩) w):=by
 have hl:=h.len
 refine vE Tryz.func78 ?_
 have hc:=CtxF.start w no (fun _ h=>h.elim) (R:=fun S w=>RepL S w [] []) (.nil _ _) (stab_L _ _)
 refine hc.n fun g1 wg1 hg1 hc=>?_
 refine hc.q (srow_any none 0 0 _) fun wQ hQ hc=>?_
 refine hc.n fun g3 wg3 hg3 hc=>?_
 refine hc.s 0 rfl fun wS hS hc=>?_
 refine⟨_,hc.cell 1 rfl _ rfl,?_⟩
 have hc:=hc.nil 108 4
 refine⟨Nat,fun i=>[(1,.pointer (some ⟨g1,0,none⟩)),(3,.pointer (some ⟨g3,0,none⟩)),(8,.slice A k.pend.length cap),(9,.int .i64 k.pend.length),(10,.int .i64 i)],
  fun i w'=>i<=k.pend.length/\∃ S A' cap' xs,CtxF no w S w' [(g3,108,[.int .i64 3,.int .i64 0,.string ⟨#[]⟩,.slice A' i cap']),(g1,96,knC k x A cap)] [⟨108,4,A',i,cap',xs⟩] (fun S w=>RepL S w ((k.pend.take i).map valD') xs),
  fun i _=>k.pend.length-i,0,⟨rfl,rfl,rfl,rfl,rfl,trivial⟩,⟨Nat.zero_le _,no,none,0,[],hc⟩,?_⟩
 clear hc
 rintro i w4 u ⟨hi,S,A',cap',xs,hc⟩
 by_cases hlt:i<k.pend.length
 ·refine split_t (decide_eq_true (by omega)) ?_
  obtain⟨ad,rfl,hcell⟩:=Row.elemF (hR.2.below hc.below) (by decide) (dC_flat _) i (by rw [List.length_map];exact hlt)
  rw [List.getElem_map] at hcell
  refine⟨⟨by omega,by omega⟩,?_⟩
  refine⟨dC k.pend[i],rfl,hcell,?_⟩
  have hd:=(h.pend k.pend[i] (List.getElem_mem hlt)).2
  generalize hx:k.pend[i]=d at*
  refine hc.n fun g5 wg5 hg5 hc=>?_
  refine hc.s 0 rfl fun wS hS hc=>?_
  refine vD (.Q [0,1,2] (.n 3 (.n 4 (.n 5 (.q 6 (.z 7)) .stop) .stop) .stop)) (fun z=>Blk z g3 108 [.int .i64 3,.int .i64 0,.string ⟨#[]⟩,.slice A' i cap']/\Blk z g5 32 (dC d)) ⟨hc.blk 1 rfl,hc.blk 0 rfl⟩ ?_
  have hc:=hc.drew
  refine⟨_,fun x hx=>hx.1.cell 3,?_⟩
  refine⟨(dC d),rfl,fun x hx=>drop_cells hx.2 0 _ 0 (fun j v hj=>by simpa using hj),?_⟩
  refine⟨⟨(value_any d hd _).mono fun en w9 hq=>?_⟩,trivial⟩
  obtain⟨kk,n,s,A1,ln,c1,e1,h9,hrep⟩:=hq
  have hc:=(hc.call h9).1.know (hrep.sub fun b h=>h.elim (fun h=>h.elim) .inr) (stab_C _ _)
  refine⟨_,e1,⟨hc.blk 1 rfl,hc.blk 0 rfl⟩,?_⟩
  refine⟨hc.n fun g20 w10 h10 hc=>?_,trivial⟩
  refine⟨⟨hc.blk 2 rfl,hc.blk 1 rfl⟩,?_⟩
  refine⟨app_ownF Tryz.underlying106 info_val rfl (by decide) hc (ys:=[.int .i64 kk,.int .i64 n,.string s,.slice A1 ln c1]) (m:=1) rfl (hc.cells 0 rfl) rfl (by omega) (by decide) rfl rfl ?_,trivial⟩
  intro A2 cap2 w11 hc
  refine⟨⟨hc.blk 2 rfl,hc.blk 1 rfl⟩,?_⟩
  refine⟨hc.may 2 rfl 3 _ (Nat.le_refl 4) rfl,?_⟩
  intro w12 h12
  have hc:=(hc.set 2 rfl h12).1
  have et:(k.pend.take (i+1)).map valD'=(k.pend.take i).map valD'++[valD' d]:=by rw [List.take_add_one,List.getElem?_eq_getElem hlt,hx];simp
  have hf:=hc.drop.drop.now (X:=fun S w=>RepL S w ((k.pend.take i).map valD'++[valD' d]) (xs++[.int .i64 kk,.int .i64 n,.string s,.slice A1 ln c1])) (fun h=>RepL.snoc h.2 h.1) (stab_L _ _)
  rw [<-et] at hf
  exact⟨i+1,⟨rfl,rfl,rfl,rfl,congrArg _ (i_down (by omega)),trivial⟩,⟨hlt,_,A2,cap2,_,hf⟩,by show k.pend.length-(i+1)<k.pend.length-i;omega⟩
 ·refine split_f (decide_eq_false (by omega)) ?_
  have hi:i=k.pend.length:=by omega
  subst hi
  rw [List.take_length] at hc
  obtain⟨S2,_,hc⟩:=hc.told
  have hc:=hc.now (X:=fun S w=>RepC S w (vRow (k.pend.map valD')) [.int .i64 3,.int .i64 0,.string ⟨#[]⟩,.slice A' k.pend.length cap']) (fun ho=>by
   rw [vRow,RepC]
   exact⟨A',cap',xs,by rw [List.length_map],ho.1,by rw [List.length_map];exact ho.2⟩) (stab_C _ _)
  have hr:=hc
  refine vD (.Q [0,1,4,5,6,8,9] (.n 2 (.q 3 (.n 7 (.n 10 (.n 11 (.n 12 (.n 13 (.q 14 .fin) .stop) .stop) .stop) .stop) .stop)) .stop)) (Old _) (Old.start _) ?_
  have hk:=hc.old0
  have hc:=hc.drew
  refine⟨stX k.b x,rfl,fun z hz=>Old.looks hz (hr.cellsAt 1 rfl 0 (stX k.b x) rfl),?_⟩
  refine⟨_,?_,fun x hx=>Keeps.cells hx (hr.blk 0 rfl) (hr.blk 0 rfl).lt,?_⟩
  ·rfl
  refine⟨_,fun x hx=>Keeps.cell hx (hr.blk 1 rfl) (hr.blk 1 rfl).lt rfl,?_⟩
  refine⟨_,fun x hx=>Keeps.cell hx (hr.blk 1 rfl) (hr.blk 1 rfl).lt rfl,?_⟩
  refine⟨hc.q (bput_any k.b (foldS_keys h.may h.lows) (stX k.b x) S0 _ (hR.1.below hc.below) (ht.below hc.below)) fun wA hA hc=>?_,trivial⟩
  have hk:=Keeps.below hk (fun _ h=>h) hA
  refine⟨hk,?_⟩
  refine⟨hc.q (snum_any k.ep _) fun wA hA hc=>?_,trivial⟩
  have hk:=Keeps.below hk (fun _ h=>h) hA
  refine⟨hk,?_⟩
  refine⟨hc.q (snum_any k.ln _) fun wA hA hc=>?_,trivial⟩
  have hk:=Keeps.below hk (fun _ h=>h) hA
  refine⟨hk,?_⟩
  refine⟨fun g6 w6 h6=>?_,trivial⟩
  have hc:=hc.made h6 4 4 rfl (by decide)
  have hk:=Keeps.below hk (fun _ h=>h) h6.below
  refine⟨hk,?_⟩
  refine⟨hc.q (srow_any (some ⟨g6,0,none⟩) 4 4 _) fun wA hA hc=>?_,trivial⟩
  have hk:=Keeps.below hk (fun _ h=>h) hA
  refine⟨hk,?_⟩
  obtain⟨S3,_,hc⟩:=hc.told
  have hc:=hc.now (X:=fun S w=>RepC S w (vKnown k) [.int .i64 3,.int .i64 0,.string ⟨#[]⟩,.slice (some ⟨g6,0,none⟩) 4 4]) (fun ho=>by
   rw [vKnown,vRow,RepC]
   exact⟨some ⟨g6,0,none⟩,4,_,rfl,.cons (.leaf _ _ 2 0 ⟨(putStt k.b).toArray⟩) (.cons ho.1 (.cons (.leaf _ _ 1 k.ep ⟨#[]⟩) (.cons (.leaf _ _ 1 k.ln ⟨#[]⟩) (.nil _ _)))),ho.2⟩) (stab_C _ _)
  have htl:=textK_len h
  rw [textK_eq h] at htl
  refine⟨hc.q (vput_any (vKnown k) (okV_known h) (by omega) 3 0 ⟨#[]⟩ (some ⟨g6,0,none⟩) 4 4 _ _ hc.row (ht.below hc.below)) fun wA hA hc=>?_,trivial⟩
  have hk:=Keeps.below hk (fun _ h=>h) hA
  refine⟨hk,?_⟩
  exact⟨rfl,hc.below⟩
set_option maxRecDepth 100000
def RetRdK (k:Known) (w:World) (en:Ending) (w':World):Prop:=∃ x A cap,en=.returned (.tuple #[.agg (knC k x A cap).toArray,.bool true])/\Below w.heap.size w w'/\KnR k x A cap (ext no w w') w'
theorem strEq_self (s:ByteArray):strEq s s=true:=strEq_iff.2 rfl
set_option maxHeartbeats 4000000 in
theorem kread_any (s:ByteArray) (k:Known) (hf:FirstOk s k) (w:World) (hw:Env w):Calls Tryz.prog 40 #[.string s] w (RetRdK k w):=by
 have h:=hf.ok
 have hl:=h.len
 refine vE Tryz.func40 ?_
 have hc:=CtxF.start w no (fun _ h=>h.elim) (R:=fun _ _=>True) trivial Stab.true
 refine hc.n fun g2 wg2 hg2 hc=>?_
 rcases hf with ⟨rfl,rfl⟩ | ⟨rfl,_⟩
 ·refine hc.s 0 rfl fun wS hS hc=>?_
  refine hc.a 0 rfl rfl ?_
  exact⟨SX0,none,0,rfl,hc.below,rep0X _ _,row0 _ _⟩
 have hne:strEq (⟨(textK k).toArray⟩:ByteArray) ⟨#[]⟩=false:=by
  rw [<-Bool.not_eq_true,strEq_iff]
  intro e
  apply textK_ne h
  injection e with e
  exact List.toArray_inj e
 refine split_f hne ?_
 have hal:=All_V (textK k) _ (by have:=textK_len h;omega) (hw.below hc.below)
 rw [allV_textK h] at hal
 refine⟨hal.mono fun en wq hq=>?_⟩
 obtain⟨A1,c1,e1,hb,hr1⟩:=hq
 obtain⟨xs,hL,hRw⟩:=hr1.rows
 have hRw:Row (ext no wg2 wq) wq A1 4 c1 xs:=hRw
 have hL:RepL (ext no wg2 wq) wq [vStr ⟨(putStt k.b).toArray⟩,vRow (k.pend.map valD'),vNum k.ep,vNum k.ln] xs:=hL
 simp only [vStr,vRow,vNum,RepL,RepC] at hL
 obtain⟨d0,y0,⟨B0,e0,z0,rfl,_⟩,⟨d1,y1,⟨B1,e1',z1,rfl,hPL,hPR⟩,⟨d2,y2,⟨B2,e2,z2,rfl,_⟩,⟨d3,y3,⟨B3,e3,z3,rfl,_⟩,rfl,rfl⟩,rfl⟩,rfl⟩,rfl⟩:=hL
 have hc:=(hc.call hb).1.know (X:=fun S w=>Row S w A1 4 c1 ([.int .i64 2,.int .i64 0,.string ⟨(putStt k.b).toArray⟩,.slice B0 0 e0]++([.int .i64 3,.int .i64 0,.string ⟨#[]⟩,.slice B1 (k.pend.map valD').length e1']++([.int .i64 1,.int .i64 k.ep,.string ⟨#[]⟩,.slice B2 0 e2]++([.int .i64 1,.int .i64 k.ln,.string ⟨#[]⟩,.slice B3 0 e3]++[]))))/\RepL S w (k.pend.map valD') z1/\Row S w B1 (k.pend.map valD').length e1' z1)
  ⟨hRw.sub (fun b h=>h.elim (fun h=>h.elim) .inr),hPL.sub (fun b h=>h.elim (fun h=>h.elim) .inr),hPR.sub (fun b h=>h.elim (fun h=>h.elim) .inr)⟩ (Stab.and (fun _ _ _ _ h f=>h.fut f) (Stab.and (stab_L _ _) (fun _ _ _ _ h f=>h.fut f)))
 refine⟨_,e1,?_⟩
 refine hc.n fun g4 wg4 hg4 hc=>?_
 refine hc.s 0 rfl fun wS hS hc=>?_
 refine⟨_,hc.cell 0 rfl _ rfl,?_⟩
 obtain⟨ad,rfl,hSa,hcell⟩:=hc.row.2.1.2.2 (by simp)
 have hr:=hc
 refine vD (.Q [0,1,2,3,4,5,6,7,8,9,10] (.n 11 (.z 12) .stop)) (Old _) (Old.start _) ?_
 have hk:=hc.old0
 have hc:=hc.drew
 refine⟨_,fun x hx=>Keeps.cell hx (hr.blk 0 rfl) (hr.blk 0 rfl).lt rfl,?_⟩
 refine⟨⟨by decide,(show (2:Int)<4 by decide)⟩,?_⟩
 refine⟨_,fun x hx=>Keeps.look hx (hcell 9 _ rfl),?_⟩
 refine⟨_,fun x hx=>Keeps.cell hx (hr.blk 0 rfl) (hr.blk 0 rfl).lt rfl,?_⟩
 refine⟨⟨by decide,(show (3:Int)<4 by decide)⟩,?_⟩
 refine⟨_,fun x hx=>Keeps.look hx (hcell 13 _ rfl),?_⟩
 refine⟨hc.n fun g6 wg6 hg6 hc=>?_,trivial⟩
 have ng6:=Old.new hk hg6
 have hk:=Keeps.below hk (fun _ h=>h) hg6.below
 refine⟨hk,?_⟩
 refine hc.s 0 rfl fun wS hS hc=>?_
 refine⟨_,hc.cell 1 rfl _ rfl,?_⟩
 obtain⟨ad',e',hSa',hcell⟩:=hc.row.2.1.2.2 (by simp)
 cases e'
 refine⟨⟨by decide,(show (1:Int)<4 by decide)⟩,?_⟩
 refine⟨_,hcell 7 _ rfl,?_⟩
 have hc:=hc.nil 32 8
 have hn:(k.pend.map valD').length=k.pend.length:=List.length_map _
 rw [hn] at*
 refine⟨Nat,fun i=>[(0,.string ⟨(textK k).toArray⟩),(2,.pointer (some ⟨g2,0,none⟩)),(3,.bool false),(4,.pointer (some ⟨g4,0,none⟩)),(5,.int .i64 0),(6,.pointer (some ⟨g6,0,none⟩)),(43,.slice B1 k.pend.length e1'),(44,.int .i64 k.pend.length),(45,.int .i64 i)],
  fun i w'=>i<=k.pend.length/\∃ A2 c2,CtxF no w _ w' [(g6,96,knC ⟨Stt0,k.pend.take i,k.ep,k.ln⟩ SX0 A2 c2),(g4,108,cellsV (vKnown k) (some ad) c1),(g2,96,(lay.ty 96).zero)] [⟨32,8,A2,i,c2,((k.pend.take i).map dC).flatten⟩] _,fun i _=>k.pend.length-i,0,⟨rfl,rfl,rfl,rfl,rfl,rfl,rfl,rfl,rfl,trivial⟩,⟨Nat.zero_le _,none,0,hc⟩,?_⟩
 clear hc
 rintro i w4 u ⟨hi,A2,c2,hc⟩
 by_cases hlt:i<k.pend.length
 ·refine split_t (decide_eq_true (by omega)) ?_
  obtain⟨ad2,cs,rfl,hrep,hlen,hcells⟩:=Rep.elem hc.row.2.2.1 hc.row.2.2.2 i (by rw [List.length_map];exact hlt)
  rw [List.getElem_map] at hrep
  have hd:=h.pend k.pend[i] (List.getElem_mem hlt)
  generalize hx:k.pend[i]=d at*
  obtain⟨hd1,hd2⟩:=hd
  rw [valD_may hd1] at hrep
  obtain⟨A5,c5,rfl⟩:=hrep.cells
  refine⟨⟨by omega,by omega⟩,?_⟩
  refine⟨_,hlen,hcells,?_⟩
  have hof:=fun S w hr=>of_any (vDeed d) (vK (vDeed d)) (vN (vDeed d)) (vS (vDeed d)) A5 (vL (vDeed d)).length c5 S w hr (show (deedV (vDeed d)).Ok from hd2)
  rw [ofD_vDeed d hd1] at hof
  have hst:=hc.stab
  have hc:=hc.know hrep (stab_C _ _)
  refine hc.n fun g8 wg8 hg8 hc=>?_
  refine hc.s 0 rfl fun wS hS hc=>?_
  refine hc.a 0 rfl rfl ?_
  refine hc.q (hof _ _ hc.row.2) fun wQ hQ hc=>?_
  refine hc.n fun g9 wg9 hg9 hc=>?_
  refine hc.s 0 rfl fun wS hS hc=>?_
  refine⟨_,hc.cell 2 rfl _ rfl,?_⟩
  refine hc.a 0 rfl rfl ?_
  refine hc.n fun gv wgv hgv hc=>?_
  refine app_ownF (m:=1) Tryz.underlying22 info_D rfl (by decide) hc (by rfl) (hc.cells 0 rfl) rfl (by omega) (by decide) (by show Value.slice A2 (k.pend.take i).length c2=Value.slice A2 i c2;rw [List.length_take,Nat.min_eq_left (Nat.le_of_lt hlt)]) rfl ?_
  intro A3 c3 w5 hc
  refine hc.s 3 rfl fun wS hS hc=>?_
  have et:k.pend.take (i+1)=k.pend.take i++[d]:=by rw [List.take_add_one,List.getElem?_eq_getElem hlt,hx];rfl
  have el:(k.pend.take i++[d]).length=i+1:=by rw [List.length_append,List.length_take];simp only [List.length_cons,List.length_nil];omega
  have hl1:(k.pend.take (i+1)).length=i+1:=by rw [et,el]
  refine⟨i+1,⟨rfl,rfl,rfl,rfl,rfl,rfl,rfl,rfl,congrArg _ (i_down (by omega)),trivial⟩,⟨hlt,A3,c3,?_⟩,by show k.pend.length-(i+1)<k.pend.length-i;omega⟩
  have hf:=hc.drop.drop.drop.now (fun h=>h.1) hst
  have e1:((k.pend.take (i+1)).map dC).flatten=((k.pend.take i).map dC).flatten++dC d:=by rw [et];simp
  have e2:knC ⟨Stt0,k.pend.take (i+1),k.ep,k.ln⟩ SX0 A3 c3=[.int .i64 Stt0.seq,.slice none 0 0,.slice none 0 0,.int .i64 0,.int .i64 0,.int .i64 0,.int .i64 0,.int .i64 0,.slice A3 (i+1) c3,.int .i64 k.ep,.int .i64 k.ln]:=by
   unfold knC
   rw [hl1]
   rfl
  rw [e1,e2]
  exact hf
 ·refine split_f (decide_eq_false (by omega)) ?_
  have hi:i=k.pend.length:=by omega
  subst hi
  rw [List.take_length] at hc
  refine⟨_,hc.cell 1 rfl _ rfl,?_⟩
  obtain⟨ad',e',hSa',hcell⟩:=hc.row.2.1.2.2 (by simp)
  cases e'
  refine⟨⟨by decide,(show (0:Int)<4 by decide)⟩,?_⟩
  refine⟨_,hcell 2 _ rfl,?_⟩
  have hbr:=bread_any (putStt k.b) (putStt_len h.lows h.may) _ (hw.below hc.below)
  rw [readStt_put k.b h.lows h.may] at hbr
  refine⟨hbr.mono fun en wq hq=>?_⟩
  obtain⟨cS,e1,hq,hrep⟩:=hq
  obtain⟨xS,rfl⟩:=hrep.stX
  have hc:=(hc.call hq).1.know (X:=fun S w=>RepS S w k.b (stX k.b xS)) (hrep.map fun h=>h.sub fun b h=>h.elim (fun h=>h.elim) .inr) (stab_S _ _)
  refine⟨_,e1,?_⟩
  refine hc.s 0 rfl fun wS hS hc=>?_
  obtain⟨S3,_,hc⟩:=hc.told
  have hc:=hc.now (X:=KnR k xS A2 c2) (fun h=>⟨h.1.2,h.2⟩) (KnR.stab _ _ _ _)
  refine vD (.Q [1,2,3,6] (.n 0 (.n 4 (.n 5 (.Q [7,8] (.n 9 (.q 10 .fin) .stop)) .stop) .stop) (.n 4 (.n 0 (.n 5 (.Q [7,8] (.n 9 (.q 10 .fin) .stop)) .stop) (.n 5 (.Q [7,8] (.n 0 (.n 9 (.q 10 .fin) .stop) .stop)) .stop)) .stop))) (fun _=>True) trivial ?_
  have hc:=hc.drew
  refine⟨?_,?_⟩
  ·skip
   refine hc.a' 0 rfl rfl ?_
   refine⟨hc.a' 0 rfl rfl ?_,trivial⟩
   refine⟨hc.q' (text_any k h xS A2 c2 S3 _ hc.row (hw.below hc.below).tab) fun wQ hQ hc=>?_,trivial⟩
   refine⟨hc.s' 2 rfl fun wS hS hc=>?_,trivial⟩
   refine hc.a 2 rfl rfl ?_
   refine⟨xS,A2,c2,?_,hc.below,hc.out⟩
   rw [strEq_self]
   rfl
  refine⟨hc.a' 0 rfl rfl ?_,trivial⟩
  refine⟨?_,?_⟩
  ·skip
   refine hc.a' 0 rfl rfl ?_
   refine⟨hc.q' (text_any k h xS A2 c2 S3 _ hc.row (hw.below hc.below).tab) fun wQ hQ hc=>?_,trivial⟩
   refine⟨hc.s' 2 rfl fun wS hS hc=>?_,trivial⟩
   refine hc.a 2 rfl rfl ?_
   refine⟨xS,A2,c2,?_,hc.below,hc.out⟩
   rw [strEq_self]
   rfl
  refine⟨hc.q' (text_any k h xS A2 c2 S3 _ hc.row (hw.below hc.below).tab) fun wQ hQ hc=>?_,trivial⟩
  refine⟨hc.a' 0 rfl rfl ?_,trivial⟩
  refine⟨hc.s' 2 rfl fun wS hS hc=>?_,trivial⟩
  refine hc.a 2 rfl rfl ?_
  refine⟨xS,A2,c2,?_,hc.below,hc.out⟩
  rw [strEq_self]
  rfl
set_option maxRecDepth 100000
def wrap1 (p:Value) (dn:Bool) (cs:List Value):List Value:=p::(cs++[.bool dn])
def resC (r:Res):List Value:=[.int .i64 r.err,.int .i64 r.ver]
theorem info_Rs:(Tryz.prog.info? 54).map (fun i=>(i.zero,i.size,i.bytes))=some (some (.agg #[.int .i64 0,.int .i64 0]),2,16):=by kernel_rfl
def kAt (k:Known) (i:Nat):Known:=⟨foldS k.b (k.pend.take i),k.pend.drop i,k.ep,k.ln⟩
theorem kAt_ok {k:Known} (h:k.Ok) (i:Nat):(kAt k i).Ok:=by
 have:=h.commit (k.b.seq+i)
 unfold commitK at this
 rw [show (k.b.seq+(i:Int)-k.b.seq).toNat=i from by omega] at this
 exact this
theorem kAt_seq {k:Known} (h:k.Ok) {i:Nat} (hi:i<=k.pend.length):(kAt k i).b.seq=k.b.seq+i:=by
 have hs:=h.seq
 have hl:(k.pend.take i).length=i:=by rw [List.length_take];omega
 have e:=foldS_next (k.pend.take i) h.may h.lows (fun d hd=>(h.pend d (List.mem_of_mem_take hd)).1) (by omega)
 rw [hl] at e
 exact e
theorem resS_snoc (s:Stt) (l:List D) (d:D):resS s (l++[d])=resS s l++[(doS (foldS s l) d).2]:=by
 induction l generalizing s with
 | nil=>rfl
 | cons a r ih=>rw [List.cons_append,resS,ih,resS];rfl
theorem kAt_next (k:Known) (i:Nat) (d:D) (r:List D) (h:(kAt k i).pend=d::r):kAt k (i+1)=⟨(doS (kAt k i).b d).1,r,k.ep,k.ln⟩/\resS k.b (k.pend.take (i+1))=resS k.b (k.pend.take i)++[(doS (kAt k i).b d).2]:=by
 have h:k.pend.drop i=d::r:=h
 have e1:k.pend.take (i+1)=k.pend.take i++[d]:=by
  have e2:=List.take_add (l:=k.pend) (i:=i) (j:=1)
  rw [e2,h]
  rfl
 have e2:k.pend.drop (i+1)=r:=by rw [<-List.drop_drop,h];rfl
 unfold kAt
 rw [e1,e2,foldS_snoc,resS_snoc]
 exact⟨rfl,rfl⟩
def commitE (k:Known) (n:Int):Known × List Res × Int:=if k.seq<n then (k,[],4) else ((commitK k n).1,(commitK k n).2,0)
def RetKc (g T:Nat) (wrap:List Value->List Value) (S:Nat->Prop) (w:World) (q:Known × List Res × Int) (en:Ending) (w':World):Prop:=
 ∃ A2 c2,en=.returned (.tuple #[.slice A2 q.2.1.length c2,.int .i64 q.2.2])/\Turn (fun x=>x=g) w w'/\∃ x A cap Sk,Blk w' g T (wrap (knC q.1 x A cap))/\(∀ y,Sk y->ext S w w' y/\∀ a,A2=some a->y≠a.block)/\KnR q.1 x A cap Sk w'/\
  w'.ownsRow w.heap.size 54 2 (.slice A2 q.2.1.length c2) q.2.1.length (q.2.1.map resC).flatten
theorem RetKc.mk' {g T i:Nat} {wrap:List Value->List Value} {S S1:Nat->Prop} {w w':World} {k:Known} {l:List Res} {e:Int} {x:SX} {A A2:Option Addr} {cap c2:Nat} {cs:List Value} (hc:CtxF no (bare w) S1 w' [(g,T,cs)] [⟨54,2,A2,i,c2,(l.map resC).flatten⟩] (KL w g S (KnR k x A cap))) (ec:cs=wrap (knC k x A cap)) (hl:l.length=i):RetKc g T wrap S w (k,l,e) (.returned (.tuple #[.slice A2 i c2,.int .i64 e])) w':=by
 subst hl
 subst ec
 obtain⟨h1,h2,Sr,h3,h4⟩:=hc.leaveL (KnR.stab _ _ _ _)
 have hout:=hc.fst.out
 have hnew:∀ a,A2=some a->w.heap.size<=a.block:=fun a ha=>by
  rcases Nat.lt_or_ge a.block w.heap.size with h | h
  ·have k1:=hout a ha
   have k2:=k1.2 _ (List.mem_cons_self ..)
   exact absurd (hc.row.1 a.block h (fun e=>k2 e.symm)).1 k1.1
  ·exact h
 refine⟨A2,c2,rfl,h1,x,A,cap,Sr,h2,fun y hy=>⟨(h3 y hy).2,fun a ha e=>(hout a ha).1 (e▸(h3 y hy).1)⟩,h4,hc.fst.row.1,?_⟩
 rcases hc.fst.row.2 with h | ⟨g',cp,cur,e1,_,h5⟩
 ·exact .inl h
 ·refine .inr ⟨g',cp,cur,e1,?_,h5⟩
  cases e1
  exact hnew _ rfl
theorem RetKc.mk {g T:Nat} {wrap:List Value->List Value} {S S1:Nat->Prop} {w w':World} {k:Known} {e:Int} {x:SX} {A A2:Option Addr} {cap c2:Nat} {cs:List Value} (hc:CtxF no (bare w) S1 w' [(g,T,cs)] [⟨54,2,A2,0,c2,[]⟩] (KL w g S (KnR k x A cap))) (ec:cs=wrap (knC k x A cap)):RetKc g T wrap S w (k,[],e) (.returned (.tuple #[.slice A2 0 c2,.int .i64 e])) w':=RetKc.mk' (l:=[]) hc ec rfl
theorem _root_.Go.Vc.CtxF.castL {S0 S:Nat->Prop} {w0 w:World} {g T:Nat} {cs cs':List Value} {l:List LB} {os:List OR} {R:Kn} (hc:CtxF S0 w0 S w ((g,T,cs)::l) os R) (e:cs=cs'):CtxF S0 w0 S w ((g,T,cs')::l) os R:=e▸hc
theorem flat_snoc (l:List Res) (x:Res):((l++[x]).map resC).flatten=(l.map resC).flatten++resC x:=by simp
theorem commit_row {l r:List D} {d:D} {ad:Addr} {cap:Nat} {S:Nat->Prop} {w:World} (hl:l=d::r) (hR:Row S w (some ad) l.length cap (l.map dC).flatten):Row S w (if (cap:Int)=1 then some ad else (some ad).map (·.add ((1:Int).toNat*8))) r.length (cap-1) (r.map dC).flatten:=by
 have h:=Row.back hR 8 (by rw [(dC_flat l).len,List.length_map]) 1 1 rfl (by rw [hl,List.length_cons];omega)
 have e1:l.length-1=r.length:=by rw [hl];rfl
 have e2:((l.map dC).flatten).drop (1*8)=(r.map dC).flatten:=by
  rw [hl,List.map_cons,List.flatten_cons]
  exact List.drop_left' rfl
 rw [e1,e2] at h
 exact h
theorem kdo_call {w w1:World} {g T:Nat} {S S1:Nat->Prop} {l:List LB} {os:List OR} {ki:Known} {x:SX} {A:Option Addr} {cap:Nat} {cs:List Value} (hc:CtxF no (bare w) S1 w1 l os (KL w g S (KnR ki x A cap))) (k:Nat) (hk:l[k]?=some (g,T,cs)) (hko:ki.Ok) (d:D) (hd:d.Ok):
  Calls Tryz.prog 86 #[.agg (stX ki.b x).toArray,.agg (dC d).toArray] w1 (fun en wq=>∃ xS S2,en=.returned (.tuple #[.agg (stX (doS ki.b d).1 xS).toArray,.agg #[.int .i64 (doS ki.b d).2.err,.int .i64 (doS ki.b d).2.ver]])/\Below w1.heap.size w1 wq/\CtxF no (bare w) S2 wq l os (KL w g S (fun S w=>KnR ki x A cap S w/\RepS S w (doS ki.b d).1 (stX (doS ki.b d).1 xS)))):=by
 obtain⟨Sr,hR1,hSr,hin⟩:=hc.inL (KnR.stab _ _ _ _) k hk
 refine (bdo_any ki.b d (foldS_keys hko.may hko.lows) hd (stX ki.b x) Sr _ (fun b hb=>hc.ctx.lt b (hSr b hb)) hR1.1).mono fun en wq hq2=>?_
 obtain⟨cS,e1,hb,hrep⟩:=hq2
 obtain⟨xS,rfl⟩:=hrep.stX
 exact⟨xS,_,e1,hb,hin (hc.call hb) (fun x hx=>.inl (hx.elim (fun h=>.inl (hSr x h)) .inr)) (X:=fun S w=>RepS S w (doS ki.b d).1 (stX (doS ki.b d).1 xS)) (stab_S _ _) (hrep.map fun h=>h.sub fun b hb=>⟨hb,hb.elim (fun h=>.inl (hSr b h)) .inr⟩)⟩
theorem kadd1_any (k:Known) (h:k.Ok) (d:D) (hd:d.Ok) (x:SX) (A:Option Addr) (cap g:Nat) (S:Nat->Prop) (w:World) (p:Value) (dn:Bool) (hB:Blk w g 98 (wrap1 p dn (knC k x A cap))) (hS:∀ x,S x->x<w.heap.size/\x≠g) (hR:KnR k x A cap S w):
  Calls Tryz.prog 44 #[.pointer (some ⟨g,1,none⟩),.agg (dC d).toArray] w (RetKn g 98 (wrap1 p dn) S w (.int .i64 (addKE k d)) (addK k d)):=by
 obtain⟨e,he⟩:∃ e,e=addKE k d:=⟨_,rfl⟩
 obtain⟨k',hk'⟩:∃ k',k'=addK k d:=⟨_,rfl⟩
 unfold addK at hk'
 rw [<-he] at hk'
 rw [<-he,show addK k d=k' from by rw [hk',he];rfl]
 unfold addKE at he
 have hc:=CtxF.enterL hB hS hR (KnR.stab _ _ _ _)
 refine vE Tryz.func44 ?_
 refine hc.n fun g3 wg3 hg3 hc=>?_
 refine hc.a 0 rfl rfl ?_
 refine hc.q (may_any d hd _) fun wQ hQ hc=>?_
 cases hm:mayD d with
 | false=>
  rw [hm,if_neg (by decide)] at he
  rw [he,if_neg (by decide)] at hk'
  subst he hk'
  exact RetKn.mk hc.drop rfl _
 | true=>
 rw [hm,if_pos rfl] at he
 refine⟨_,hc.cell 1 rfl _ rfl,?_⟩
 by_cases h60:60<=k.pend.length
 ·rw [if_pos (.inl h60)] at he
  rw [he,if_neg (by decide)] at hk'
  subst he hk'
  refine split_t (decide_eq_true (by omega)) ?_
  exact RetKn.mk hc.drop rfl _
 refine split_f (decide_eq_false (by omega)) ?_
 refine⟨knC k x A cap,rfl,hc.cellsAt 1 rfl 1 (knC k x A cap) rfl,?_⟩
 refine hc.q (kseq_any k h x A cap _) fun wQ hQ hc=>?_
 by_cases hsq:maxN<=k.seq
 ·rw [if_pos (.inr hsq)] at he
  rw [he,if_neg (by decide)] at hk'
  subst he hk'
  refine split_t (decide_eq_true hsq) ?_
  exact RetKn.mk hc.drop rfl _
 refine split_f (decide_eq_false hsq) ?_
 rw [if_neg (fun h=>h.elim h60 hsq)] at he
 rw [he,if_pos rfl] at hk'
 subst he hk'
 refine vD (.Q [0,1,2,3,6] (.n 4 (.n 5 (.n 7 (.n 8 (.Q [9,10] (.n 11 .fin .stop)) .stop) .stop) (.n 7 (.n 5 (.n 8 (.Q [9,10] (.n 11 .fin .stop)) .stop) .stop) .stop)) (.n 7 (.n 4 (.n 5 (.n 8 (.Q [9,10] (.n 11 .fin .stop)) .stop) .stop) .stop) .stop))) (fun z=>Blk z g3 32 (dC d)) (hc.blk 0 rfl) ?_
 have hc:=hc.drew
 refine⟨dC d,rfl,fun z hz=>drop_cells hz 0 _ 0 (fun j v hj=>by simpa using hj),?_⟩
 refine⟨?_,?_⟩
 ·skip
  refine⟨_,hc.cell 1 rfl _ rfl,(hc.blk 0 rfl),?_⟩
  refine⟨?_,?_⟩
  ·skip
   obtain⟨Sr,hR1,hSr,hin⟩:=hc.inL (KnR.stab _ _ _ _) 1 rfl
   refine⟨(cloneD_any A k.pend.length cap _ (dC_flat _) (List.length_map _) (by have:=h.len;omega) Sr _ hR1.2).mono fun en wq hq=>?_⟩
   obtain⟨A2,cap2,e1,hb,ho⟩:=hq
   have hc:=hc.fresh hb ho
   refine⟨_,e1,(hc.blk 0 rfl),?_⟩
   refine⟨hc.n fun gv wgv hgv hc=>?_,trivial⟩
   refine⟨(hc.blk 1 rfl),?_⟩
   refine⟨app_ownF (m:=1) Tryz.underlying22 info_D rfl (by decide) hc (by rfl) (hc.cells 0 rfl) rfl (by have:=h.len;show k.pend.length+1<=_;omega) (by decide) rfl rfl ?_,trivial⟩
   intro A3 cap3 w3 hc
   refine⟨(hc.blk 1 rfl),?_⟩
   refine⟨hc.s 2 rfl fun wS hS hc=>?_,trivial⟩
   refine⟨(hc.blk 1 rfl),?_⟩
   obtain⟨S2,hc⟩:=hc.toldL (KnR.stab _ _ _ _) 2 rfl
   have hc:=(hc.nowL (R':=KnR ⟨k.b,k.pend++[d],k.ep,k.ln⟩ x A3 cap3) (fun S w h=>⟨h.1.1,by
    have e1:((k.pend++[d]).map dC).flatten=(k.pend.map dC).flatten++dC d:=by simp
    have e2:(k.pend++[d]).length=k.pend.length+1:=by simp
    show Row S w A3 (k.pend++[d]).length cap3 ((k.pend++[d]).map dC).flatten
    rw [e1,e2]
    exact h.2⟩) (KnR.stab _ _ _ _)).drop.drop
   refine RetKn.mk hc ?_ _
   show _=wrap1 p dn (knC ⟨k.b,k.pend++[d],k.ep,k.ln⟩ x A3 cap3)
   unfold knC wrap1
   rw [show (k.pend++[d]).length=k.pend.length+1 from by simp]
   rfl
  refine⟨hc.n fun gv wgv hgv hc=>?_,trivial⟩
  refine⟨(hc.blk 1 rfl),?_⟩
  refine⟨?_,trivial⟩
  obtain⟨Sr,hR1,hSr,hin⟩:=hc.inL (KnR.stab _ _ _ _) 2 rfl
  refine⟨(cloneD_any A k.pend.length cap _ (dC_flat _) (List.length_map _) (by have:=h.len;omega) Sr _ hR1.2).mono fun en wq hq=>?_⟩
  obtain⟨A2,cap2,e1,hb,ho⟩:=hq
  have hc:=hc.fresh hb ho
  refine⟨_,e1,(hc.blk 1 rfl),?_⟩
  refine⟨app_ownF (m:=1) Tryz.underlying22 info_D rfl (by decide) hc (by rfl) (hc.cells 0 rfl) rfl (by have:=h.len;show k.pend.length+1<=_;omega) (by decide) rfl rfl ?_,trivial⟩
  intro A3 cap3 w3 hc
  refine⟨(hc.blk 1 rfl),?_⟩
  refine⟨hc.s 2 rfl fun wS hS hc=>?_,trivial⟩
  refine⟨(hc.blk 1 rfl),?_⟩
  obtain⟨S2,hc⟩:=hc.toldL (KnR.stab _ _ _ _) 2 rfl
  have hc:=(hc.nowL (R':=KnR ⟨k.b,k.pend++[d],k.ep,k.ln⟩ x A3 cap3) (fun S w h=>⟨h.1.1,by
   have e1:((k.pend++[d]).map dC).flatten=(k.pend.map dC).flatten++dC d:=by simp
   have e2:(k.pend++[d]).length=k.pend.length+1:=by simp
   show Row S w A3 (k.pend++[d]).length cap3 ((k.pend++[d]).map dC).flatten
   rw [e1,e2]
   exact h.2⟩) (KnR.stab _ _ _ _)).drop.drop
  refine RetKn.mk hc ?_ _
  show _=wrap1 p dn (knC ⟨k.b,k.pend++[d],k.ep,k.ln⟩ x A3 cap3)
  unfold knC wrap1
  rw [show (k.pend++[d]).length=k.pend.length+1 from by simp]
  rfl
 refine⟨hc.n fun gv wgv hgv hc=>?_,trivial⟩
 refine⟨(hc.blk 1 rfl),?_⟩
 refine⟨⟨_,hc.cell 2 rfl _ rfl,(hc.blk 1 rfl),?_⟩,trivial⟩
 refine⟨?_,trivial⟩
 obtain⟨Sr,hR1,hSr,hin⟩:=hc.inL (KnR.stab _ _ _ _) 2 rfl
 refine⟨(cloneD_any A k.pend.length cap _ (dC_flat _) (List.length_map _) (by have:=h.len;omega) Sr _ hR1.2).mono fun en wq hq=>?_⟩
 obtain⟨A2,cap2,e1,hb,ho⟩:=hq
 have hc:=hc.fresh hb ho
 refine⟨_,e1,(hc.blk 1 rfl),?_⟩
 refine⟨app_ownF (m:=1) Tryz.underlying22 info_D rfl (by decide) hc (by rfl) (hc.cells 0 rfl) rfl (by have:=h.len;show k.pend.length+1<=_;omega) (by decide) rfl rfl ?_,trivial⟩
 intro A3 cap3 w3 hc
 refine⟨(hc.blk 1 rfl),?_⟩
 refine⟨hc.s 2 rfl fun wS hS hc=>?_,trivial⟩
 refine⟨(hc.blk 1 rfl),?_⟩
 obtain⟨S2,hc⟩:=hc.toldL (KnR.stab _ _ _ _) 2 rfl
 have hc:=(hc.nowL (R':=KnR ⟨k.b,k.pend++[d],k.ep,k.ln⟩ x A3 cap3) (fun S w h=>⟨h.1.1,by
  have e1:((k.pend++[d]).map dC).flatten=(k.pend.map dC).flatten++dC d:=by simp
  have e2:(k.pend++[d]).length=k.pend.length+1:=by simp
  show Row S w A3 (k.pend++[d]).length cap3 ((k.pend++[d]).map dC).flatten
  rw [e1,e2]
  exact h.2⟩) (KnR.stab _ _ _ _)).drop.drop
 refine RetKn.mk hc ?_ _
 show _=wrap1 p dn (knC ⟨k.b,k.pend++[d],k.ep,k.ln⟩ x A3 cap3)
 unfold knC wrap1
 rw [show (k.pend++[d]).length=k.pend.length+1 from by simp]
 rfl
theorem kcommit_leaf0 {w w1:World} {g i cap c3:Nat} {S S1:Nat->Prop} {y1 y2 y3:LB} {k ki:Known} {d:D} {r:List D} {l:List Res} {x xS:SX} {ad0:Addr} {A3:Option Addr}
  (hk1:kAt k (i+1)=⟨(doS ki.b d).1,r,k.ep,k.ln⟩) (hk2:resS k.b (k.pend.take (i+1))=l++[(doS ki.b d).2]) (hpd:ki.pend=d::r) (hcapb:ki.pend.length<=cap) (hke:ki.ep=k.ep) (hkl:ki.ln=k.ln)
  (hc:CtxF no (bare w) S1 w1 [y1,y2,y3,(g,96,putAt (putAt (knC ki x (some ad0) cap) 0 (stX (doS ki.b d).1 xS)) (0+8) [.slice (if (cap:Int)=1 then some ad0 else (some ad0).map (·.add ((1:Int).toNat*8))) ((ki.pend.length:Int)-1).toNat ((cap:Int)-1).toNat])] [⟨54,2,A3,i+1,c3,(l.map resC).flatten++resC (doS ki.b d).2⟩] (KL w g S (fun S w=>KnR ki x (some ad0) cap S w/\RepS S w (doS ki.b d).1 (stX (doS ki.b d).1 xS)))):
  ∃ S3 A' cap',CtxF no (bare w) S3 w1 [(g,96,(knC (kAt k (i+1)) xS A' cap'))] [⟨54,2,A3,i+1,c3,((resS k.b (k.pend.take (i+1))).map resC).flatten⟩] (KL w g S (KnR (kAt k (i+1)) xS A' cap')):=by
 have hpl:ki.pend.length=r.length+1:=by rw [hpd];rfl
 have hc:=((hc.nowL (R':=KnR ⟨(doS ki.b d).1,r,k.ep,k.ln⟩ xS (if (cap:Int)=1 then some ad0 else (some ad0).map (·.add ((1:Int).toNat*8))) (cap-1)) (fun S w h=>⟨h.2,commit_row hpd h.1.2⟩) (KnR.stab _ _ _ _)).drop.drop.drop).castL (cs':=(knC ⟨(doS ki.b d).1,r,k.ep,k.ln⟩ xS (if (cap:Int)=1 then some ad0 else (some ad0).map (·.add ((1:Int).toNat*8))) (cap-1))) (by
  rw [show cap-1=((cap:Int)-1).toNat from by omega]
  unfold knC
  rw [<-hke,<-hkl,show r.length=((ki.pend.length:Int)-1).toNat from by omega]
  rfl)
 rw [hk1,hk2,flat_snoc]
 exact⟨_,_,_,hc⟩
set_option maxHeartbeats 4000000 in
theorem kcommit0_any (k:Known) (h:k.Ok) (n:Int) (hn:i64ok n) (x:SX) (A:Option Addr) (cap g:Nat) (S:Nat->Prop) (w:World) (hB:Blk w g 96 (knC k x A cap)) (hS:∀ x,S x->x<w.heap.size/\x≠g) (hR:KnR k x A cap S w):
  Calls Tryz.prog 49 #[.pointer (some ⟨g,0,none⟩),.int .i64 n] w (RetKc g 96 id S w (commitE k n)):=by
 have hsq:=h.seq
 have hln:=h.len
 have hm:maxN=1099511627776:=rfl
 have h0:=(mayS_parts.1 h.may).1.1
 have hc:=CtxF.enterL hB hS hR (KnR.stab _ _ _ _)
 obtain⟨q,hq⟩:∃ q,q=commitE k n:=⟨_,rfl⟩
 rw [<-hq]
 unfold commitE at hq
 refine vE Tryz.func49 ?_
 refine⟨knC k x A cap,rfl,hc.cellsAt 0 rfl 0 (knC k x A cap) rfl,?_⟩
 refine hc.q (kseq_any k h x A cap _) fun wQ hQ hc=>?_
 by_cases hgt:k.seq<n
 ·rw [if_pos hgt] at hq
  subst hq
  refine split_t (decide_eq_true hgt) ?_
  exact RetKc.mk (A2:=none) (c2:=0) (hc.nil 54 2) rfl
 rw [if_neg hgt] at hq
 refine split_f (decide_eq_false hgt) ?_
 have hc:=hc.nil 54 2
 have hj:(n-k.b.seq).toNat<=k.pend.length:=by unfold Known.seq at hgt;omega
 refine⟨Nat × Option Addr × Nat,fun y=>[(0,.pointer (some ⟨g,0,none⟩)),(1,.int .i64 n),(6,.slice y.2.1 y.1 y.2.2)],
  fun y w'=>y.1<=(n-k.b.seq).toNat/\∃ S1 x A cap,CtxF no (bare w) S1 w' [(g,96,(knC (kAt k y.1) x A cap))] [⟨54,2,y.2.1,y.1,y.2.2,((resS k.b (k.pend.take y.1)).map resC).flatten⟩] (KL w g S (KnR (kAt k y.1) x A cap)),fun y _=>(n-k.b.seq).toNat-y.1,(0,none,0),⟨rfl,rfl,rfl,trivial⟩,⟨Nat.zero_le _,_,x,A,cap,hc⟩,?_⟩
 clear hc
 rintro⟨i,A2,c2⟩ w1 u ⟨hi,S1,x,A,cap,hc⟩
 simp only at hi hc
 have hko:=kAt_ok h i
 have hks:=kAt_seq h (i:=i) (by omega)
 have hkn:=kAt_next k i
 have hke:(kAt k i).ep=k.ep:=rfl
 have hkl:(kAt k i).ln=k.ln:=rfl
 generalize hki:kAt k i=ki at*
 refine⟨_,hc.cell 0 rfl _ rfl,?_⟩
 by_cases hlt:i<(n-k.b.seq).toNat
 rotate_left
 ·refine split_f (decide_eq_false (by show ¬ ki.b.seq<n;omega)) ?_
  have hii:i=(n-k.b.seq).toNat:=by omega
  have e:q=(ki,resS k.b (k.pend.take i),0):=by rw [hq,<-hki,hii];rfl
  subst e
  have hlen:(resS k.b (k.pend.take i)).length=i:=by rw [resS_len,List.length_take];omega
  exact RetKc.mk' hc rfl hlen
 refine split_t (decide_eq_true (by show ki.b.seq<n;omega)) ?_
 obtain⟨d,r,hpd⟩:∃ d r,ki.pend=d::r:=by
  have e:ki.pend=k.pend.drop i:=by rw [<-hki];rfl
  cases hd:k.pend.drop i with
  | nil=>
   have:=congrArg List.length hd
   rw [List.length_drop] at this
   simp only [List.length_nil] at this
   omega
  | cons d r=>exact⟨d,r,by rw [e,hd]⟩
 obtain⟨hk1,hk2⟩:=hkn d r hpd
 have hdd:=hko.pend d (by rw [hpd];exact List.mem_cons_self ..)
 have hpl:ki.pend.length=r.length+1:=by rw [hpd];rfl
 obtain⟨hk0,Sr0,hs0,hR0⟩:=hc.row
 obtain⟨ad0,rfl,hcell0⟩:=Row.elemF hR0.2 (by decide) (dC_flat _) 0 (by rw [List.length_map,hpl];omega)
 have hcell:Go.Vc.cellsAt w1 ad0 (dC d) 0:=by
  have e:(ki.pend.map dC)[0]'(by rw [List.length_map,hpl];omega)=dC d:=by simp [hpd]
  rw [e] at hcell0
  have e2:ad0.add (0*8)=ad0:=by unfold Addr.add;simp
  rw [e2] at hcell0
  exact hcell0
 have hcapb:ki.pend.length<=cap:=hR0.2.1
 refine Drawn.join (α:=Nat × Nat × SX) (fun z=>[(0,.pointer (some ⟨g,0,none⟩)),(1,.int .i64 n),(6,.slice A2 i c2),(7,.pointer (some ⟨z.1,0,none⟩)),(8,.pointer (some ⟨z.2.1,0,none⟩))])
  (fun z wS=>∃ S2,CtxF no (bare w) S2 wS [(z.2.1,54,resC (doS ki.b d).2),(z.1,43,stX (doS ki.b d).1 z.2.2),(g,96,(knC ki x (some ad0) cap))] [⟨54,2,A2,i,c2,((resS k.b (k.pend.take i)).map resC).flatten⟩] (KL w g S (fun S w=>KnR ki x (some ad0) cap S w/\RepS S w (doS ki.b d).1 (stX (doS ki.b d).1 z.2.2)))) ?_ ?_
 ·have hr:=hc
  refine vD (.Q [0,1,2,3,4,5,6,7,8,9] (.n 10 (.Q [11,12,13] (.n 14 (.n 15 (.n 16 (.z 17) .stop) .stop) (.n 15 (.n 14 (.n 16 (.z 17) .stop) .stop) .stop))) (.n 14 (.n 10 (.Q [11,12,13] (.n 15 (.n 16 (.z 17) .stop) .stop)) (.n 15 (.n 10 (.Q [11,12,13] (.n 16 (.z 17) .stop)) .stop) .stop)) (.n 15 (.n 10 (.Q [11,12,13] (.n 14 (.n 16 (.z 17) .stop) .stop)) (.n 14 (.n 10 (.Q [11,12,13] (.n 16 (.z 17) .stop)) .stop) .stop)) .stop)))) (Old _) (Old.start _) ?_
  have hk:=hc.old0
  have hc:=hc.drew
  refine⟨stX ki.b x,rfl,fun z hz=>Old.looks hz (hr.cellsAt 0 rfl 0 (stX ki.b x) rfl),?_⟩
  refine⟨_,fun z hz=>Keeps.cell hz (hr.blk 0 rfl) (hr.blk 0 rfl).lt rfl,?_⟩
  refine⟨⟨by decide,by show (0:Int)<(ki.pend.length:Int);omega⟩,?_⟩
  refine⟨dC d,rfl,fun z hz=>Old.looks hz hcell,?_⟩
  refine⟨?_,?_⟩
  ·skip
   refine⟨(kdo_call hc 0 rfl hko d hdd.2).mono fun en wq hq2=>?_⟩
   obtain⟨xS,S2,e1,hb,hc⟩:=hq2
   have hk:=Keeps.below hk (fun _ h=>h) hb
   refine⟨_,e1,hk,?_⟩
   refine⟨?_,?_⟩
   ·skip
    refine hc.n fun g7 wg7 hg7 hc=>?_
    have ng7:=Old.new hk hg7
    have hk:=Keeps.below hk (fun _ h=>h) hg7.below
    refine⟨hk,?_⟩
    refine⟨hc.n fun g8 wg8 hg8 hc=>?_,trivial⟩
    have ng8:=Old.new hk hg8
    have hk:=Keeps.below hk (fun _ h=>h) hg8.below
    refine⟨hk,?_⟩
    refine⟨⟨hc.may 1 rfl _ _ (nle rfl) rfl,?_⟩,trivial⟩
    intro wS hS
    have hk:=Keeps.stored hk (hc.blk 1 rfl) ng7 hS
    have hc:=(hc.set 1 rfl hS).1
    refine⟨hk,?_⟩
    refine hc.s 0 rfl fun wS hS hc=>?_
    first | exact⟨(g7,g8,xS),⟨rfl,rfl,rfl,rfl,rfl,trivial⟩,_,hc⟩ | exact⟨(g7,g8,xS),⟨rfl,rfl,rfl,rfl,rfl,trivial⟩,_,hc.swapL⟩
   refine⟨hc.n fun g8 wg8 hg8 hc=>?_,trivial⟩
   have ng8:=Old.new hk hg8
   have hk:=Keeps.below hk (fun _ h=>h) hg8.below
   refine⟨hk,?_⟩
   refine⟨hc.n fun g7 wg7 hg7 hc=>?_,trivial⟩
   have ng7:=Old.new hk hg7
   have hk:=Keeps.below hk (fun _ h=>h) hg7.below
   refine⟨hk,?_⟩
   refine⟨⟨hc.may 0 rfl _ _ (nle rfl) rfl,?_⟩,trivial⟩
   intro wS hS
   have hk:=Keeps.stored hk (hc.blk 0 rfl) ng7 hS
   have hc:=(hc.set 0 rfl hS).1
   refine⟨hk,?_⟩
   refine hc.s 1 rfl fun wS hS hc=>?_
   first | exact⟨(g7,g8,xS),⟨rfl,rfl,rfl,rfl,rfl,trivial⟩,_,hc⟩ | exact⟨(g7,g8,xS),⟨rfl,rfl,rfl,rfl,rfl,trivial⟩,_,hc.swapL⟩
  refine⟨?_,?_⟩
  ·skip
   refine hc.n fun g7 wg7 hg7 hc=>?_
   have ng7:=Old.new hk hg7
   have hk:=Keeps.below hk (fun _ h=>h) hg7.below
   refine⟨hk,?_⟩
   refine⟨?_,?_⟩
   ·skip
    refine⟨(kdo_call hc 1 rfl hko d hdd.2).mono fun en wq hq2=>?_⟩
    obtain⟨xS,S2,e1,hb,hc⟩:=hq2
    have hk:=Keeps.below hk (fun _ h=>h) hb
    refine⟨_,e1,hk,?_⟩
    refine⟨hc.n fun g8 wg8 hg8 hc=>?_,trivial⟩
    have ng8:=Old.new hk hg8
    have hk:=Keeps.below hk (fun _ h=>h) hg8.below
    refine⟨hk,?_⟩
    refine⟨⟨hc.may 1 rfl _ _ (nle rfl) rfl,?_⟩,trivial⟩
    intro wS hS
    have hk:=Keeps.stored hk (hc.blk 1 rfl) ng7 hS
    have hc:=(hc.set 1 rfl hS).1
    refine⟨hk,?_⟩
    refine hc.s 0 rfl fun wS hS hc=>?_
    first | exact⟨(g7,g8,xS),⟨rfl,rfl,rfl,rfl,rfl,trivial⟩,_,hc⟩ | exact⟨(g7,g8,xS),⟨rfl,rfl,rfl,rfl,rfl,trivial⟩,_,hc.swapL⟩
   refine⟨hc.n fun g8 wg8 hg8 hc=>?_,trivial⟩
   have ng8:=Old.new hk hg8
   have hk:=Keeps.below hk (fun _ h=>h) hg8.below
   refine⟨hk,?_⟩
   refine⟨⟨(kdo_call hc 2 rfl hko d hdd.2).mono fun en wq hq2=>?_⟩,trivial⟩
   obtain⟨xS,S2,e1,hb,hc⟩:=hq2
   have hk:=Keeps.below hk (fun _ h=>h) hb
   refine⟨_,e1,hk,?_⟩
   refine⟨⟨hc.may 1 rfl _ _ (nle rfl) rfl,?_⟩,trivial⟩
   intro wS hS
   have hk:=Keeps.stored hk (hc.blk 1 rfl) ng7 hS
   have hc:=(hc.set 1 rfl hS).1
   refine⟨hk,?_⟩
   refine hc.s 0 rfl fun wS hS hc=>?_
   first | exact⟨(g7,g8,xS),⟨rfl,rfl,rfl,rfl,rfl,trivial⟩,_,hc⟩ | exact⟨(g7,g8,xS),⟨rfl,rfl,rfl,rfl,rfl,trivial⟩,_,hc.swapL⟩
  refine⟨hc.n fun g8 wg8 hg8 hc=>?_,trivial⟩
  have ng8:=Old.new hk hg8
  have hk:=Keeps.below hk (fun _ h=>h) hg8.below
  refine⟨hk,?_⟩
  refine⟨?_,?_⟩
  ·skip
   refine⟨(kdo_call hc 1 rfl hko d hdd.2).mono fun en wq hq2=>?_⟩
   obtain⟨xS,S2,e1,hb,hc⟩:=hq2
   have hk:=Keeps.below hk (fun _ h=>h) hb
   refine⟨_,e1,hk,?_⟩
   refine⟨hc.n fun g7 wg7 hg7 hc=>?_,trivial⟩
   have ng7:=Old.new hk hg7
   have hk:=Keeps.below hk (fun _ h=>h) hg7.below
   refine⟨hk,?_⟩
   refine⟨⟨hc.may 0 rfl _ _ (nle rfl) rfl,?_⟩,trivial⟩
   intro wS hS
   have hk:=Keeps.stored hk (hc.blk 0 rfl) ng7 hS
   have hc:=(hc.set 0 rfl hS).1
   refine⟨hk,?_⟩
   refine hc.s 1 rfl fun wS hS hc=>?_
   first | exact⟨(g7,g8,xS),⟨rfl,rfl,rfl,rfl,rfl,trivial⟩,_,hc⟩ | exact⟨(g7,g8,xS),⟨rfl,rfl,rfl,rfl,rfl,trivial⟩,_,hc.swapL⟩
  refine⟨hc.n fun g7 wg7 hg7 hc=>?_,trivial⟩
  have ng7:=Old.new hk hg7
  have hk:=Keeps.below hk (fun _ h=>h) hg7.below
  refine⟨hk,?_⟩
  refine⟨⟨(kdo_call hc 2 rfl hko d hdd.2).mono fun en wq hq2=>?_⟩,trivial⟩
  obtain⟨xS,S2,e1,hb,hc⟩:=hq2
  have hk:=Keeps.below hk (fun _ h=>h) hb
  refine⟨_,e1,hk,?_⟩
  refine⟨⟨hc.may 0 rfl _ _ (nle rfl) rfl,?_⟩,trivial⟩
  intro wS hS
  have hk:=Keeps.stored hk (hc.blk 0 rfl) ng7 hS
  have hc:=(hc.set 0 rfl hS).1
  refine⟨hk,?_⟩
  refine hc.s 1 rfl fun wS hS hc=>?_
  first | exact⟨(g7,g8,xS),⟨rfl,rfl,rfl,rfl,rfl,trivial⟩,_,hc⟩ | exact⟨(g7,g8,xS),⟨rfl,rfl,rfl,rfl,rfl,trivial⟩,_,hc.swapL⟩
 clear hc
 rintro⟨g7,g8,xS⟩ u2 w2 ⟨S2,hc⟩
 simp only at hc
 refine Drawn.join (α:=Option Addr × Nat) (fun z=>[(0,.pointer (some ⟨g,0,none⟩)),(1,.int .i64 n),(6,.slice z.1 (i+1) z.2)])
  (fun z wS=>∃ S3 A' cap',CtxF no (bare w) S3 wS [(g,96,(knC (kAt k (i+1)) xS A' cap'))] [⟨54,2,z.1,i+1,z.2,((resS k.b (k.pend.take (i+1))).map resC).flatten⟩] (KL w g S (KnR (kAt k (i+1)) xS A' cap'))) ?_ ?_
 ·refine vD (.Q [0,1,2,3,4,5,8,9] (.n 6 (.q 7 (.n 10 (.n 11 (.Q [12,13] (.n 14 (.Q [15,16] (.n 17 (.q 18 .fin) .stop)) .stop)) .stop) .stop)) (.n 10 (.n 6 (.q 7 (.n 11 (.Q [12,13] (.n 14 (.Q [15,16] (.n 17 (.q 18 .fin) .stop)) .stop)) .stop)) (.n 11 (.n 6 (.Q [7,12,13] (.n 14 (.Q [15,16] (.n 17 (.q 18 .fin) .stop)) .stop)) .stop) .stop)) .stop))) (fun z=>Blk z g7 43 (stX (doS ki.b d).1 xS)/\Blk z g8 54 (resC (doS ki.b d).2)) ⟨hc.blk 1 rfl,hc.blk 0 rfl⟩ ?_
  have hc:=hc.drew
  refine⟨stX (doS ki.b d).1 xS,rfl,fun z hz=>drop_cells hz.1 0 _ 0 (fun j v hj=>by simpa using hj),?_⟩
  refine⟨resC (doS ki.b d).2,rfl,fun z hz=>drop_cells hz.2 0 _ 0 (fun j v hj=>by simpa using hj),?_⟩
  refine⟨?_,?_⟩
  ·skip
   refine⟨_,hc.cell 2 rfl _ rfl,⟨hc.blk 1 rfl,hc.blk 0 rfl⟩,?_⟩
   refine⟨⟨by decide,by show (1:Int)<=(ki.pend.length:Int)/\(ki.pend.length:Int)<=(cap:Int)/\(cap:Int)<=(cap:Int);omega⟩,?_⟩
   refine⟨hc.n fun gv wgv hgv hc=>?_,trivial⟩
   refine⟨⟨hc.blk 2 rfl,hc.blk 1 rfl⟩,?_⟩
   refine⟨app_ownF (m:=1) Tryz.underlying35 info_Rs rfl (by decide) hc (by rfl) (hc.cells 0 rfl) rfl (by omega) (by decide) rfl rfl ?_,trivial⟩
   intro A3 c3 w3 hc
   refine⟨⟨hc.blk 2 rfl,hc.blk 1 rfl⟩,?_⟩
   refine⟨hc.s 3 rfl fun wS hS hc=>?_,trivial⟩
   refine⟨⟨hc.blk 2 rfl,hc.blk 1 rfl⟩,?_⟩
   refine⟨hc.s 3 rfl fun wS hS hc=>?_,trivial⟩
   refine⟨⟨hc.blk 2 rfl,hc.blk 1 rfl⟩,?_⟩
   exact⟨(A3,c3),⟨rfl,rfl,rfl,trivial⟩,kcommit_leaf0 hk1 hk2 hpd hcapb hke hkl hc⟩
  refine⟨hc.n fun gv wgv hgv hc=>?_,trivial⟩
  refine⟨⟨hc.blk 2 rfl,hc.blk 1 rfl⟩,?_⟩
  refine⟨?_,?_⟩
  ·skip
   refine⟨_,hc.cell 3 rfl _ rfl,⟨hc.blk 2 rfl,hc.blk 1 rfl⟩,?_⟩
   refine⟨⟨by decide,by show (1:Int)<=(ki.pend.length:Int)/\(ki.pend.length:Int)<=(cap:Int)/\(cap:Int)<=(cap:Int);omega⟩,?_⟩
   refine⟨app_ownF (m:=1) Tryz.underlying35 info_Rs rfl (by decide) hc (by rfl) (hc.cells 0 rfl) rfl (by omega) (by decide) rfl rfl ?_,trivial⟩
   intro A3 c3 w3 hc
   refine⟨⟨hc.blk 2 rfl,hc.blk 1 rfl⟩,?_⟩
   refine⟨hc.s 3 rfl fun wS hS hc=>?_,trivial⟩
   refine⟨⟨hc.blk 2 rfl,hc.blk 1 rfl⟩,?_⟩
   refine⟨hc.s 3 rfl fun wS hS hc=>?_,trivial⟩
   refine⟨⟨hc.blk 2 rfl,hc.blk 1 rfl⟩,?_⟩
   exact⟨(A3,c3),⟨rfl,rfl,rfl,trivial⟩,kcommit_leaf0 hk1 hk2 hpd hcapb hke hkl hc⟩
  refine⟨app_ownF (m:=1) Tryz.underlying35 info_Rs rfl (by decide) hc (by rfl) (hc.cells 0 rfl) rfl (by omega) (by decide) rfl rfl ?_,trivial⟩
  intro A3 c3 w3 hc
  refine⟨⟨hc.blk 2 rfl,hc.blk 1 rfl⟩,?_⟩
  refine⟨⟨_,hc.cell 3 rfl _ rfl,⟨hc.blk 2 rfl,hc.blk 1 rfl⟩,?_⟩,trivial⟩
  refine⟨⟨by decide,by show (1:Int)<=(ki.pend.length:Int)/\(ki.pend.length:Int)<=(cap:Int)/\(cap:Int)<=(cap:Int);omega⟩,?_⟩
  refine⟨hc.s 3 rfl fun wS hS hc=>?_,trivial⟩
  refine⟨⟨hc.blk 2 rfl,hc.blk 1 rfl⟩,?_⟩
  refine⟨hc.s 3 rfl fun wS hS hc=>?_,trivial⟩
  refine⟨⟨hc.blk 2 rfl,hc.blk 1 rfl⟩,?_⟩
  exact⟨(A3,c3),⟨rfl,rfl,rfl,trivial⟩,kcommit_leaf0 hk1 hk2 hpd hcapb hke hkl hc⟩
 clear hc
 rintro⟨A3,c3⟩ u3 w3 ⟨S3,A',cap',hc⟩
 exact⟨(i+1,A3,c3),⟨rfl,rfl,rfl,trivial⟩,⟨hlt,S3,xS,A',cap',hc⟩,by show (n-k.b.seq).toNat-(i+1)<(n-k.b.seq).toNat-i;omega⟩
theorem kcommit_leaf1 {w w1:World} {g i cap c3:Nat} {S S1:Nat->Prop} {y1 y2 y3:LB} {k ki:Known} {d:D} {r:List D} {l:List Res} {x xS:SX} {ad0:Addr} {A3:Option Addr} (p:Value) (dn:Bool)
  (hk1:kAt k (i+1)=⟨(doS ki.b d).1,r,k.ep,k.ln⟩) (hk2:resS k.b (k.pend.take (i+1))=l++[(doS ki.b d).2]) (hpd:ki.pend=d::r) (hcapb:ki.pend.length<=cap) (hke:ki.ep=k.ep) (hkl:ki.ln=k.ln)
  (hc:CtxF no (bare w) S1 w1 [y1,y2,y3,(g,98,putAt (putAt (wrap1 p dn (knC ki x (some ad0) cap)) 1 (stX (doS ki.b d).1 xS)) (1+8) [.slice (if (cap:Int)=1 then some ad0 else (some ad0).map (·.add ((1:Int).toNat*8))) ((ki.pend.length:Int)-1).toNat ((cap:Int)-1).toNat])] [⟨54,2,A3,i+1,c3,(l.map resC).flatten++resC (doS ki.b d).2⟩] (KL w g S (fun S w=>KnR ki x (some ad0) cap S w/\RepS S w (doS ki.b d).1 (stX (doS ki.b d).1 xS)))):
  ∃ S3 A' cap',CtxF no (bare w) S3 w1 [(g,98,(wrap1 p dn (knC (kAt k (i+1)) xS A' cap')))] [⟨54,2,A3,i+1,c3,((resS k.b (k.pend.take (i+1))).map resC).flatten⟩] (KL w g S (KnR (kAt k (i+1)) xS A' cap')):=by
 have hpl:ki.pend.length=r.length+1:=by rw [hpd];rfl
 have hc:=((hc.nowL (R':=KnR ⟨(doS ki.b d).1,r,k.ep,k.ln⟩ xS (if (cap:Int)=1 then some ad0 else (some ad0).map (·.add ((1:Int).toNat*8))) (cap-1)) (fun S w h=>⟨h.2,commit_row hpd h.1.2⟩) (KnR.stab _ _ _ _)).drop.drop.drop).castL (cs':=(wrap1 p dn (knC ⟨(doS ki.b d).1,r,k.ep,k.ln⟩ xS (if (cap:Int)=1 then some ad0 else (some ad0).map (·.add ((1:Int).toNat*8))) (cap-1)))) (by
  rw [show cap-1=((cap:Int)-1).toNat from by omega]
  unfold knC
  rw [<-hke,<-hkl,show r.length=((ki.pend.length:Int)-1).toNat from by omega]
  rfl)
 rw [hk1,hk2,flat_snoc]
 exact⟨_,_,_,hc⟩
set_option maxHeartbeats 4000000 in
theorem kcommit1_any (k:Known) (h:k.Ok) (n:Int) (hn:i64ok n) (x:SX) (A:Option Addr) (cap g:Nat) (S:Nat->Prop) (w:World) (p:Value) (dn:Bool) (hB:Blk w g 98 (wrap1 p dn (knC k x A cap))) (hS:∀ x,S x->x<w.heap.size/\x≠g) (hR:KnR k x A cap S w):
  Calls Tryz.prog 49 #[.pointer (some ⟨g,1,none⟩),.int .i64 n] w (RetKc g 98 (wrap1 p dn) S w (commitE k n)):=by
 have hsq:=h.seq
 have hln:=h.len
 have hm:maxN=1099511627776:=rfl
 have h0:=(mayS_parts.1 h.may).1.1
 have hc:=CtxF.enterL hB hS hR (KnR.stab _ _ _ _)
 obtain⟨q,hq⟩:∃ q,q=commitE k n:=⟨_,rfl⟩
 rw [<-hq]
 unfold commitE at hq
 refine vE Tryz.func49 ?_
 refine⟨knC k x A cap,rfl,hc.cellsAt 0 rfl 1 (knC k x A cap) rfl,?_⟩
 refine hc.q (kseq_any k h x A cap _) fun wQ hQ hc=>?_
 by_cases hgt:k.seq<n
 ·rw [if_pos hgt] at hq
  subst hq
  refine split_t (decide_eq_true hgt) ?_
  exact RetKc.mk (A2:=none) (c2:=0) (hc.nil 54 2) rfl
 rw [if_neg hgt] at hq
 refine split_f (decide_eq_false hgt) ?_
 have hc:=hc.nil 54 2
 have hj:(n-k.b.seq).toNat<=k.pend.length:=by unfold Known.seq at hgt;omega
 refine⟨Nat × Option Addr × Nat,fun y=>[(0,.pointer (some ⟨g,1,none⟩)),(1,.int .i64 n),(6,.slice y.2.1 y.1 y.2.2)],
  fun y w'=>y.1<=(n-k.b.seq).toNat/\∃ S1 x A cap,CtxF no (bare w) S1 w' [(g,98,(wrap1 p dn (knC (kAt k y.1) x A cap)))] [⟨54,2,y.2.1,y.1,y.2.2,((resS k.b (k.pend.take y.1)).map resC).flatten⟩] (KL w g S (KnR (kAt k y.1) x A cap)),fun y _=>(n-k.b.seq).toNat-y.1,(0,none,0),⟨rfl,rfl,rfl,trivial⟩,⟨Nat.zero_le _,_,x,A,cap,hc⟩,?_⟩
 clear hc
 rintro⟨i,A2,c2⟩ w1 u ⟨hi,S1,x,A,cap,hc⟩
 simp only at hi hc
 have hko:=kAt_ok h i
 have hks:=kAt_seq h (i:=i) (by omega)
 have hkn:=kAt_next k i
 have hke:(kAt k i).ep=k.ep:=rfl
 have hkl:(kAt k i).ln=k.ln:=rfl
 generalize hki:kAt k i=ki at*
 refine⟨_,hc.cell 0 rfl _ rfl,?_⟩
 by_cases hlt:i<(n-k.b.seq).toNat
 rotate_left
 ·refine split_f (decide_eq_false (by show ¬ ki.b.seq<n;omega)) ?_
  have hii:i=(n-k.b.seq).toNat:=by omega
  have e:q=(ki,resS k.b (k.pend.take i),0):=by rw [hq,<-hki,hii];rfl
  subst e
  have hlen:(resS k.b (k.pend.take i)).length=i:=by rw [resS_len,List.length_take];omega
  exact RetKc.mk' hc rfl hlen
 refine split_t (decide_eq_true (by show ki.b.seq<n;omega)) ?_
 obtain⟨d,r,hpd⟩:∃ d r,ki.pend=d::r:=by
  have e:ki.pend=k.pend.drop i:=by rw [<-hki];rfl
  cases hd:k.pend.drop i with
  | nil=>
   have:=congrArg List.length hd
   rw [List.length_drop] at this
   simp only [List.length_nil] at this
   omega
  | cons d r=>exact⟨d,r,by rw [e,hd]⟩
 obtain⟨hk1,hk2⟩:=hkn d r hpd
 have hdd:=hko.pend d (by rw [hpd];exact List.mem_cons_self ..)
 have hpl:ki.pend.length=r.length+1:=by rw [hpd];rfl
 obtain⟨hk0,Sr0,hs0,hR0⟩:=hc.row
 obtain⟨ad0,rfl,hcell0⟩:=Row.elemF hR0.2 (by decide) (dC_flat _) 0 (by rw [List.length_map,hpl];omega)
 have hcell:Go.Vc.cellsAt w1 ad0 (dC d) 0:=by
  have e:(ki.pend.map dC)[0]'(by rw [List.length_map,hpl];omega)=dC d:=by simp [hpd]
  rw [e] at hcell0
  have e2:ad0.add (0*8)=ad0:=by unfold Addr.add;simp
  rw [e2] at hcell0
  exact hcell0
 have hcapb:ki.pend.length<=cap:=hR0.2.1
 refine Drawn.join (α:=Nat × Nat × SX) (fun z=>[(0,.pointer (some ⟨g,1,none⟩)),(1,.int .i64 n),(6,.slice A2 i c2),(7,.pointer (some ⟨z.1,0,none⟩)),(8,.pointer (some ⟨z.2.1,0,none⟩))])
  (fun z wS=>∃ S2,CtxF no (bare w) S2 wS [(z.2.1,54,resC (doS ki.b d).2),(z.1,43,stX (doS ki.b d).1 z.2.2),(g,98,(wrap1 p dn (knC ki x (some ad0) cap)))] [⟨54,2,A2,i,c2,((resS k.b (k.pend.take i)).map resC).flatten⟩] (KL w g S (fun S w=>KnR ki x (some ad0) cap S w/\RepS S w (doS ki.b d).1 (stX (doS ki.b d).1 z.2.2)))) ?_ ?_
 ·have hr:=hc
  refine vD (.Q [0,1,2,3,4,5,6,7,8,9] (.n 10 (.Q [11,12,13] (.n 14 (.n 15 (.n 16 (.z 17) .stop) .stop) (.n 15 (.n 14 (.n 16 (.z 17) .stop) .stop) .stop))) (.n 14 (.n 10 (.Q [11,12,13] (.n 15 (.n 16 (.z 17) .stop) .stop)) (.n 15 (.n 10 (.Q [11,12,13] (.n 16 (.z 17) .stop)) .stop) .stop)) (.n 15 (.n 10 (.Q [11,12,13] (.n 14 (.n 16 (.z 17) .stop) .stop)) (.n 14 (.n 10 (.Q [11,12,13] (.n 16 (.z 17) .stop)) .stop) .stop)) .stop)))) (Old _) (Old.start _) ?_
  have hk:=hc.old0
  have hc:=hc.drew
  refine⟨stX ki.b x,rfl,fun z hz=>Old.looks hz (hr.cellsAt 0 rfl 1 (stX ki.b x) rfl),?_⟩
  refine⟨_,fun z hz=>Keeps.cell hz (hr.blk 0 rfl) (hr.blk 0 rfl).lt rfl,?_⟩
  refine⟨⟨by decide,by show (0:Int)<(ki.pend.length:Int);omega⟩,?_⟩
  refine⟨dC d,rfl,fun z hz=>Old.looks hz hcell,?_⟩
  refine⟨?_,?_⟩
  ·skip
   refine⟨(kdo_call hc 0 rfl hko d hdd.2).mono fun en wq hq2=>?_⟩
   obtain⟨xS,S2,e1,hb,hc⟩:=hq2
   have hk:=Keeps.below hk (fun _ h=>h) hb
   refine⟨_,e1,hk,?_⟩
   refine⟨?_,?_⟩
   ·skip
    refine hc.n fun g7 wg7 hg7 hc=>?_
    have ng7:=Old.new hk hg7
    have hk:=Keeps.below hk (fun _ h=>h) hg7.below
    refine⟨hk,?_⟩
    refine⟨hc.n fun g8 wg8 hg8 hc=>?_,trivial⟩
    have ng8:=Old.new hk hg8
    have hk:=Keeps.below hk (fun _ h=>h) hg8.below
    refine⟨hk,?_⟩
    refine⟨⟨hc.may 1 rfl _ _ (nle rfl) rfl,?_⟩,trivial⟩
    intro wS hS
    have hk:=Keeps.stored hk (hc.blk 1 rfl) ng7 hS
    have hc:=(hc.set 1 rfl hS).1
    refine⟨hk,?_⟩
    refine hc.s 0 rfl fun wS hS hc=>?_
    first | exact⟨(g7,g8,xS),⟨rfl,rfl,rfl,rfl,rfl,trivial⟩,_,hc⟩ | exact⟨(g7,g8,xS),⟨rfl,rfl,rfl,rfl,rfl,trivial⟩,_,hc.swapL⟩
   refine⟨hc.n fun g8 wg8 hg8 hc=>?_,trivial⟩
   have ng8:=Old.new hk hg8
   have hk:=Keeps.below hk (fun _ h=>h) hg8.below
   refine⟨hk,?_⟩
   refine⟨hc.n fun g7 wg7 hg7 hc=>?_,trivial⟩
   have ng7:=Old.new hk hg7
   have hk:=Keeps.below hk (fun _ h=>h) hg7.below
   refine⟨hk,?_⟩
   refine⟨⟨hc.may 0 rfl _ _ (nle rfl) rfl,?_⟩,trivial⟩
   intro wS hS
   have hk:=Keeps.stored hk (hc.blk 0 rfl) ng7 hS
   have hc:=(hc.set 0 rfl hS).1
   refine⟨hk,?_⟩
   refine hc.s 1 rfl fun wS hS hc=>?_
   first | exact⟨(g7,g8,xS),⟨rfl,rfl,rfl,rfl,rfl,trivial⟩,_,hc⟩ | exact⟨(g7,g8,xS),⟨rfl,rfl,rfl,rfl,rfl,trivial⟩,_,hc.swapL⟩
  refine⟨?_,?_⟩
  ·skip
   refine hc.n fun g7 wg7 hg7 hc=>?_
   have ng7:=Old.new hk hg7
   have hk:=Keeps.below hk (fun _ h=>h) hg7.below
   refine⟨hk,?_⟩
   refine⟨?_,?_⟩
   ·skip
    refine⟨(kdo_call hc 1 rfl hko d hdd.2).mono fun en wq hq2=>?_⟩
    obtain⟨xS,S2,e1,hb,hc⟩:=hq2
    have hk:=Keeps.below hk (fun _ h=>h) hb
    refine⟨_,e1,hk,?_⟩
    refine⟨hc.n fun g8 wg8 hg8 hc=>?_,trivial⟩
    have ng8:=Old.new hk hg8
    have hk:=Keeps.below hk (fun _ h=>h) hg8.below
    refine⟨hk,?_⟩
    refine⟨⟨hc.may 1 rfl _ _ (nle rfl) rfl,?_⟩,trivial⟩
    intro wS hS
    have hk:=Keeps.stored hk (hc.blk 1 rfl) ng7 hS
    have hc:=(hc.set 1 rfl hS).1
    refine⟨hk,?_⟩
    refine hc.s 0 rfl fun wS hS hc=>?_
    first | exact⟨(g7,g8,xS),⟨rfl,rfl,rfl,rfl,rfl,trivial⟩,_,hc⟩ | exact⟨(g7,g8,xS),⟨rfl,rfl,rfl,rfl,rfl,trivial⟩,_,hc.swapL⟩
   refine⟨hc.n fun g8 wg8 hg8 hc=>?_,trivial⟩
   have ng8:=Old.new hk hg8
   have hk:=Keeps.below hk (fun _ h=>h) hg8.below
   refine⟨hk,?_⟩
   refine⟨⟨(kdo_call hc 2 rfl hko d hdd.2).mono fun en wq hq2=>?_⟩,trivial⟩
   obtain⟨xS,S2,e1,hb,hc⟩:=hq2
   have hk:=Keeps.below hk (fun _ h=>h) hb
   refine⟨_,e1,hk,?_⟩
   refine⟨⟨hc.may 1 rfl _ _ (nle rfl) rfl,?_⟩,trivial⟩
   intro wS hS
   have hk:=Keeps.stored hk (hc.blk 1 rfl) ng7 hS
   have hc:=(hc.set 1 rfl hS).1
   refine⟨hk,?_⟩
   refine hc.s 0 rfl fun wS hS hc=>?_
   first | exact⟨(g7,g8,xS),⟨rfl,rfl,rfl,rfl,rfl,trivial⟩,_,hc⟩ | exact⟨(g7,g8,xS),⟨rfl,rfl,rfl,rfl,rfl,trivial⟩,_,hc.swapL⟩
  refine⟨hc.n fun g8 wg8 hg8 hc=>?_,trivial⟩
  have ng8:=Old.new hk hg8
  have hk:=Keeps.below hk (fun _ h=>h) hg8.below
  refine⟨hk,?_⟩
  refine⟨?_,?_⟩
  ·skip
   refine⟨(kdo_call hc 1 rfl hko d hdd.2).mono fun en wq hq2=>?_⟩
   obtain⟨xS,S2,e1,hb,hc⟩:=hq2
   have hk:=Keeps.below hk (fun _ h=>h) hb
   refine⟨_,e1,hk,?_⟩
   refine⟨hc.n fun g7 wg7 hg7 hc=>?_,trivial⟩
   have ng7:=Old.new hk hg7
   have hk:=Keeps.below hk (fun _ h=>h) hg7.below
   refine⟨hk,?_⟩
   refine⟨⟨hc.may 0 rfl _ _ (nle rfl) rfl,?_⟩,trivial⟩
   intro wS hS
   have hk:=Keeps.stored hk (hc.blk 0 rfl) ng7 hS
   have hc:=(hc.set 0 rfl hS).1
   refine⟨hk,?_⟩
   refine hc.s 1 rfl fun wS hS hc=>?_
   first | exact⟨(g7,g8,xS),⟨rfl,rfl,rfl,rfl,rfl,trivial⟩,_,hc⟩ | exact⟨(g7,g8,xS),⟨rfl,rfl,rfl,rfl,rfl,trivial⟩,_,hc.swapL⟩
  refine⟨hc.n fun g7 wg7 hg7 hc=>?_,trivial⟩
  have ng7:=Old.new hk hg7
  have hk:=Keeps.below hk (fun _ h=>h) hg7.below
  refine⟨hk,?_⟩
  refine⟨⟨(kdo_call hc 2 rfl hko d hdd.2).mono fun en wq hq2=>?_⟩,trivial⟩
  obtain⟨xS,S2,e1,hb,hc⟩:=hq2
  have hk:=Keeps.below hk (fun _ h=>h) hb
  refine⟨_,e1,hk,?_⟩
  refine⟨⟨hc.may 0 rfl _ _ (nle rfl) rfl,?_⟩,trivial⟩
  intro wS hS
  have hk:=Keeps.stored hk (hc.blk 0 rfl) ng7 hS
  have hc:=(hc.set 0 rfl hS).1
  refine⟨hk,?_⟩
  refine hc.s 1 rfl fun wS hS hc=>?_
  first | exact⟨(g7,g8,xS),⟨rfl,rfl,rfl,rfl,rfl,trivial⟩,_,hc⟩ | exact⟨(g7,g8,xS),⟨rfl,rfl,rfl,rfl,rfl,trivial⟩,_,hc.swapL⟩
 clear hc
 rintro⟨g7,g8,xS⟩ u2 w2 ⟨S2,hc⟩
 simp only at hc
 refine Drawn.join (α:=Option Addr × Nat) (fun z=>[(0,.pointer (some ⟨g,1,none⟩)),(1,.int .i64 n),(6,.slice z.1 (i+1) z.2)])
  (fun z wS=>∃ S3 A' cap',CtxF no (bare w) S3 wS [(g,98,(wrap1 p dn (knC (kAt k (i+1)) xS A' cap')))] [⟨54,2,z.1,i+1,z.2,((resS k.b (k.pend.take (i+1))).map resC).flatten⟩] (KL w g S (KnR (kAt k (i+1)) xS A' cap'))) ?_ ?_
 ·refine vD (.Q [0,1,2,3,4,5,8,9] (.n 6 (.q 7 (.n 10 (.n 11 (.Q [12,13] (.n 14 (.Q [15,16] (.n 17 (.q 18 .fin) .stop)) .stop)) .stop) .stop)) (.n 10 (.n 6 (.q 7 (.n 11 (.Q [12,13] (.n 14 (.Q [15,16] (.n 17 (.q 18 .fin) .stop)) .stop)) .stop)) (.n 11 (.n 6 (.Q [7,12,13] (.n 14 (.Q [15,16] (.n 17 (.q 18 .fin) .stop)) .stop)) .stop) .stop)) .stop))) (fun z=>Blk z g7 43 (stX (doS ki.b d).1 xS)/\Blk z g8 54 (resC (doS ki.b d).2)) ⟨hc.blk 1 rfl,hc.blk 0 rfl⟩ ?_
  have hc:=hc.drew
  refine⟨stX (doS ki.b d).1 xS,rfl,fun z hz=>drop_cells hz.1 0 _ 0 (fun j v hj=>by simpa using hj),?_⟩
  refine⟨resC (doS ki.b d).2,rfl,fun z hz=>drop_cells hz.2 0 _ 0 (fun j v hj=>by simpa using hj),?_⟩
  refine⟨?_,?_⟩
  ·skip
   refine⟨_,hc.cell 2 rfl _ rfl,⟨hc.blk 1 rfl,hc.blk 0 rfl⟩,?_⟩
   refine⟨⟨by decide,by show (1:Int)<=(ki.pend.length:Int)/\(ki.pend.length:Int)<=(cap:Int)/\(cap:Int)<=(cap:Int);omega⟩,?_⟩
   refine⟨hc.n fun gv wgv hgv hc=>?_,trivial⟩
   refine⟨⟨hc.blk 2 rfl,hc.blk 1 rfl⟩,?_⟩
   refine⟨app_ownF (m:=1) Tryz.underlying35 info_Rs rfl (by decide) hc (by rfl) (hc.cells 0 rfl) rfl (by omega) (by decide) rfl rfl ?_,trivial⟩
   intro A3 c3 w3 hc
   refine⟨⟨hc.blk 2 rfl,hc.blk 1 rfl⟩,?_⟩
   refine⟨hc.s 3 rfl fun wS hS hc=>?_,trivial⟩
   refine⟨⟨hc.blk 2 rfl,hc.blk 1 rfl⟩,?_⟩
   refine⟨hc.s 3 rfl fun wS hS hc=>?_,trivial⟩
   refine⟨⟨hc.blk 2 rfl,hc.blk 1 rfl⟩,?_⟩
   exact⟨(A3,c3),⟨rfl,rfl,rfl,trivial⟩,kcommit_leaf1 p dn hk1 hk2 hpd hcapb hke hkl hc⟩
  refine⟨hc.n fun gv wgv hgv hc=>?_,trivial⟩
  refine⟨⟨hc.blk 2 rfl,hc.blk 1 rfl⟩,?_⟩
  refine⟨?_,?_⟩
  ·skip
   refine⟨_,hc.cell 3 rfl _ rfl,⟨hc.blk 2 rfl,hc.blk 1 rfl⟩,?_⟩
   refine⟨⟨by decide,by show (1:Int)<=(ki.pend.length:Int)/\(ki.pend.length:Int)<=(cap:Int)/\(cap:Int)<=(cap:Int);omega⟩,?_⟩
   refine⟨app_ownF (m:=1) Tryz.underlying35 info_Rs rfl (by decide) hc (by rfl) (hc.cells 0 rfl) rfl (by omega) (by decide) rfl rfl ?_,trivial⟩
   intro A3 c3 w3 hc
   refine⟨⟨hc.blk 2 rfl,hc.blk 1 rfl⟩,?_⟩
   refine⟨hc.s 3 rfl fun wS hS hc=>?_,trivial⟩
   refine⟨⟨hc.blk 2 rfl,hc.blk 1 rfl⟩,?_⟩
   refine⟨hc.s 3 rfl fun wS hS hc=>?_,trivial⟩
   refine⟨⟨hc.blk 2 rfl,hc.blk 1 rfl⟩,?_⟩
   exact⟨(A3,c3),⟨rfl,rfl,rfl,trivial⟩,kcommit_leaf1 p dn hk1 hk2 hpd hcapb hke hkl hc⟩
  refine⟨app_ownF (m:=1) Tryz.underlying35 info_Rs rfl (by decide) hc (by rfl) (hc.cells 0 rfl) rfl (by omega) (by decide) rfl rfl ?_,trivial⟩
  intro A3 c3 w3 hc
  refine⟨⟨hc.blk 2 rfl,hc.blk 1 rfl⟩,?_⟩
  refine⟨⟨_,hc.cell 3 rfl _ rfl,⟨hc.blk 2 rfl,hc.blk 1 rfl⟩,?_⟩,trivial⟩
  refine⟨⟨by decide,by show (1:Int)<=(ki.pend.length:Int)/\(ki.pend.length:Int)<=(cap:Int)/\(cap:Int)<=(cap:Int);omega⟩,?_⟩
  refine⟨hc.s 3 rfl fun wS hS hc=>?_,trivial⟩
  refine⟨⟨hc.blk 2 rfl,hc.blk 1 rfl⟩,?_⟩
  refine⟨hc.s 3 rfl fun wS hS hc=>?_,trivial⟩
  refine⟨⟨hc.blk 2 rfl,hc.blk 1 rfl⟩,?_⟩
  exact⟨(A3,c3),⟨rfl,rfl,rfl,trivial⟩,kcommit_leaf1 p dn hk1 hk2 hpd hcapb hke hkl hc⟩
 clear hc
 rintro⟨A3,c3⟩ u3 w3 ⟨S3,A',cap',hc⟩
 exact⟨(i+1,A3,c3),⟨rfl,rfl,rfl,trivial⟩,⟨hlt,S3,xS,A',cap',hc⟩,by show (n-k.b.seq).toNat-(i+1)<(n-k.b.seq).toNat-i;omega⟩
set_option maxRecDepth 100000
theorem _root_.Go.Vc.EnvFree.nowL {w w1:World} {g:Nat} {S S1:Nat->Prop} {l:List LB} {os:List OR} {R:Kn} (h:EnvFree (fun x=>x=g) w) (hc:CtxF no (bare w) S1 w1 l os (KL w g S R)):Env w1:=
 (h.kept (G':=no) fun x hx hg=>⟨id,(hc.row.1 x hx hg).2⟩).1
theorem can_add {k:Known} {d:D} (hr:(Rc.add d).Ok) (hc:canR k (.add d)):addKE k d=0/\addK k d=stepK k (.add d):=by
 have e:addKE k d=0:=by
  unfold addKE
  rw [if_pos hr.1,if_neg (fun h=>by
   have:=hc.1
   have:=hc.2
   rcases h with h | h<;>omega)]
 refine⟨e,?_⟩
 unfold addK
 rw [if_pos e]
 rfl
theorem can_done {k:Known} {n:Int} (hc:canR k (.done n)):commitE k n=((commitK k n).1,(commitK k n).2,0):=by
 have hc:n<=k.seq:=hc
 unfold commitE
 rw [if_neg (by omega)]
theorem second4 (a b c d:Value) (ys:List Value):∀ (j:Nat) (u:Value),ys[j]?=some u->([a,b,c,d]++(ys++[]))[4+0+j]?=some u:=fun j u h=>by
 rw [List.append_nil,List.getElem?_append_right (by simp)]
 have e:4+0+j-[a,b,c,d].length=j:=by simp
 rw [e]
 exact h
set_option maxHeartbeats 4000000 in
theorem replay_any (k:Known) (h:k.Ok) (r:Rc) (hr:r.Ok) (hcan:canR k r) (x:SX) (A:Option Addr) (cap g:Nat) (S:Nat->Prop) (w:World) (p:Value) (dn:Bool) (hB:Blk w g 98 (wrap1 p dn (knC k x A cap))) (hS:∀ x,S x->x<w.heap.size/\x≠g) (hR:KnR k x A cap S w) (he:EnvFree (fun x=>x=g) w):
  Calls Tryz.prog 43 #[.pointer (some ⟨g,1,none⟩),.string (txtR r)] w (RetKn g 98 (wrap1 p dn) S w (.bool true) (stepK k r)):=by
 have hc:=CtxF.enterL hB hS hR (KnR.stab _ _ _ _)
 refine vE Tryz.func43 ?_
 have hal:=All_V (putS (vRc r)) w (by rw [putS_rc hr];have:=putV_rc hr;omega) he.1
 rw [allV_rc hr] at hal
 refine⟨hal.mono fun en wq hq=>?_⟩
 obtain⟨A1,c1,e1,hb,hr1⟩:=hq
 obtain⟨xs,hL,hRw⟩:=hr1.rows
 cases r with
 | add d=>
  have hRw:Row (ext no w wq) wq A1 2 c1 xs:=hRw
  have hL:RepL (ext no w wq) wq [vNum 1,valD' d] xs:=hL
  rw [valD_may hr.1] at hL
  simp only [vNum,RepL] at hL
  obtain⟨d0,y0,hd0,⟨d1,y1,hd1,rfl,rfl⟩,rfl⟩:=hL
  rw [RepC] at hd0
  obtain⟨B0,e0,z0,rfl,_⟩:=hd0
  obtain⟨A5,c5,rfl⟩:=hd1.cells
  obtain⟨Sr,hR1,hSr,hin⟩:=hc.inL (KnR.stab _ _ _ _) 0 rfl
  have hc:=hin (hc.call hb) (fun x hx=>.inl (hx.elim (fun h=>.inl (hSr x h)) .inr)) (X:=fun S w=>Row S w A1 2 c1 ([.int .i64 1,.int .i64 1,.string ⟨#[]⟩,.slice B0 0 e0]++(cellsV (vDeed d) A5 c5++[]))/\RepC S w (vDeed d) (cellsV (vDeed d) A5 c5)) (Stab.and (fun _ _ _ _ h f=>h.fut f) (stab_C _ _))
   ⟨hRw.sub fun b hb2=>hb2.elim (fun h=>h.elim) (fun h=>⟨.inr h,.inr h⟩),hd1.sub fun b hb2=>hb2.elim (fun h=>h.elim) (fun h=>⟨.inr h,.inr h⟩)⟩
  refine⟨_,e1,?_⟩
  refine hc.n fun g5 wg5 hg5 hc=>?_
  refine hc.s 0 rfl fun wS hS hc=>?_
  refine⟨_,hc.cell 0 rfl _ rfl,?_⟩
  refine⟨_,hc.cell 0 rfl _ rfl,?_⟩
  obtain⟨_,Sr2,hs2,hR2⟩:=hc.row
  obtain⟨ad,rfl,hSa,hcell⟩:=hR2.2.1.2.2 (by simp)
  refine⟨⟨by decide,(show (0:Int)<2 by decide)⟩,?_⟩
  refine⟨_,hcell 1 _ rfl,?_⟩
  refine⟨_,hc.cell 0 rfl _ rfl,?_⟩
  refine⟨⟨by decide,(show (1:Int)<2 by decide)⟩,?_⟩
  refine⟨cellsV (vDeed d) A5 c5,rfl,row_cells hcell 4 _ 0 (second4 _ _ _ _ _),?_⟩
  have hof:=fun S w hq9=>of_any (vDeed d) (vK (vDeed d)) (vN (vDeed d)) (vS (vDeed d)) A5 (vL (vDeed d)).length c5 S w hq9 (show (deedV (vDeed d)).Ok from hr.2)
  rw [ofD_vDeed d hr.1] at hof
  refine hc.q (hof _ _ hR2.2.2) fun wQ hQ hc=>?_
  refine hc.n fun g7 wg7 hg7 hc=>?_
  refine hc.s 0 rfl fun wS hS hc=>?_
  refine hc.a 0 rfl rfl ?_
  obtain⟨ca1,ca2⟩:=can_add hr hcan
  obtain⟨Sr,hR1,hSr,hin⟩:=hc.inL (Stab.and (KnR.stab _ _ _ _) (Stab.and (fun _ _ _ _ h f=>h.fut f) (stab_C _ _))) 2 rfl
  have had:=kadd1_any k h d hr.2 x A cap g Sr _ p dn (hc.blk 2 rfl) (fun y hy=>⟨hc.ctx.lt y (hSr y hy),fun e=>(hc.ctx.locs.notS (k:=2) rfl).1 (e▸hSr y hy)⟩) hR1.1
  rw [ca1,ca2] at had
  refine⟨had.mono fun en wq hq=>?_⟩
  obtain⟨e1,hT,x',A',cap',hB',hR'⟩:=hq
  have hc:=hin (hc.turnL 2 rfl hT hB') (fun y hy=>.inl (hy.elim (fun h=>.inl (hSr y h)) .inr)) (KnR.stab _ _ _ _) (KnR.stab _ _ _ _ _ _ _ _ hR' ⟨fun y hy=>⟨hy,hy.elim (fun h=>.inl (hSr y h)) .inr⟩,fun _ _=>rfl⟩)
  refine⟨_,e1,?_⟩
  exact RetKn.mk (hc.nowL (fun S w h=>h.2) (KnR.stab _ _ _ _)).drop.drop rfl _
 | done n=>
  have hRw:Row (ext no w wq) wq A1 2 c1 xs:=hRw
  have hL:RepL (ext no w wq) wq [vNum 2,vNum n] xs:=hL
  simp only [vNum,RepL,RepC] at hL
  obtain⟨d0,y0,⟨B0,e0,z0,rfl,_⟩,⟨d1,y1,⟨B1,e2,z1,rfl,_⟩,rfl,rfl⟩,rfl⟩:=hL
  obtain⟨Sr,hR1,hSr,hin⟩:=hc.inL (KnR.stab _ _ _ _) 0 rfl
  have hc:=hin (hc.call hb) (fun x hx=>.inl (hx.elim (fun h=>.inl (hSr x h)) .inr)) (X:=fun S w=>Row S w A1 2 c1 ([.int .i64 1,.int .i64 2,.string ⟨#[]⟩,.slice B0 0 e0]++([.int .i64 1,.int .i64 n,.string ⟨#[]⟩,.slice B1 0 e2]++[]))) (fun _ _ _ _ h f=>h.fut f)
   (hRw.sub fun b hb2=>hb2.elim (fun h=>h.elim) (fun h=>⟨.inr h,.inr h⟩))
  refine⟨_,e1,?_⟩
  refine hc.n fun g5 wg5 hg5 hc=>?_
  refine hc.s 0 rfl fun wS hS hc=>?_
  refine⟨_,hc.cell 0 rfl _ rfl,?_⟩
  refine⟨_,hc.cell 0 rfl _ rfl,?_⟩
  obtain⟨_,Sr2,hs2,hR2⟩:=hc.row
  obtain⟨ad,rfl,hSa,hcell⟩:=hR2.2.2.2 (by simp)
  refine⟨⟨by decide,(show (0:Int)<2 by decide)⟩,?_⟩
  refine⟨_,hcell 1 _ rfl,?_⟩
  refine⟨_,hc.cell 0 rfl _ rfl,?_⟩
  refine⟨⟨by decide,(show (1:Int)<2 by decide)⟩,?_⟩
  refine⟨_,hcell 5 _ rfl,?_⟩
  obtain⟨Sr,hR1,hSr,hin⟩:=hc.inL (Stab.and (KnR.stab _ _ _ _) (fun _ _ _ _ h f=>h.fut f)) 1 rfl
  have hcm:=kcommit1_any k h n hr x A cap g Sr _ p dn (hc.blk 1 rfl) (fun y hy=>⟨hc.ctx.lt y (hSr y hy),fun e=>(hc.ctx.locs.notS (k:=1) rfl).1 (e▸hSr y hy)⟩) hR1.1
  rw [can_done hcan] at hcm
  refine⟨hcm.mono fun en wq hq=>?_⟩
  obtain⟨A3,c3,e1,hT,x',A',cap',Sk,hB',hSk,hR',_⟩:=hq
  have hc:=hin (hc.turnL 1 rfl hT hB') (fun y hy=>.inl (hy.elim (fun h=>.inl (hSr y h)) .inr)) (KnR.stab _ _ _ _) (KnR.stab _ _ _ _ _ _ _ _ hR' ⟨fun y hy=>⟨(hSk y hy).1,(hSk y hy).1.elim (fun h=>.inl (hSr y h)) .inr⟩,fun _ _=>rfl⟩)
  refine⟨_,e1,?_⟩
  exact RetKn.mk (hc.nowL (fun S w h=>h.2) (KnR.stab _ _ _ _)).drop rfl _
 | enter n=>
  have hRw:Row (ext no w wq) wq A1 2 c1 xs:=hRw
  have hL:RepL (ext no w wq) wq [vNum 3,vNum n] xs:=hL
  simp only [vNum,RepL,RepC] at hL
  obtain⟨d0,y0,⟨B0,e0,z0,rfl,_⟩,⟨d1,y1,⟨B1,e2,z1,rfl,_⟩,rfl,rfl⟩,rfl⟩:=hL
  obtain⟨Sr,hR1,hSr,hin⟩:=hc.inL (KnR.stab _ _ _ _) 0 rfl
  have hc:=hin (hc.call hb) (fun x hx=>.inl (hx.elim (fun h=>.inl (hSr x h)) .inr)) (X:=fun S w=>Row S w A1 2 c1 ([.int .i64 1,.int .i64 3,.string ⟨#[]⟩,.slice B0 0 e0]++([.int .i64 1,.int .i64 n,.string ⟨#[]⟩,.slice B1 0 e2]++[]))) (fun _ _ _ _ h f=>h.fut f)
   (hRw.sub fun b hb2=>hb2.elim (fun h=>h.elim) (fun h=>⟨.inr h,.inr h⟩))
  refine⟨_,e1,?_⟩
  refine hc.n fun g5 wg5 hg5 hc=>?_
  refine hc.s 0 rfl fun wS hS hc=>?_
  refine⟨_,hc.cell 0 rfl _ rfl,?_⟩
  refine⟨_,hc.cell 0 rfl _ rfl,?_⟩
  obtain⟨_,Sr2,hs2,hR2⟩:=hc.row
  obtain⟨ad,rfl,hSa,hcell⟩:=hR2.2.2.2 (by simp)
  refine⟨⟨by decide,(show (0:Int)<2 by decide)⟩,?_⟩
  refine⟨_,hcell 1 _ rfl,?_⟩
  refine vD (.Q [0,1,2,3,5] (.n 4 (.n 6 (.Q [7,8] (.n 9 (.Q [10,11,12] (.n 13 .fin .stop)) .stop)) .stop) (.n 6 (.Q [7,8] (.n 4 (.n 9 (.Q [10,11,12] (.n 13 .fin .stop)) .stop) (.n 9 (.n 4 (.Q [10,11,12] (.n 13 .fin .stop)) .stop) .stop))) .stop))) (fun _=>True) trivial ?_
  have hc:=hc.drew
  refine⟨?_,?_⟩
  ·skip
   refine⟨_,hc.cell 1 rfl _ rfl,trivial,?_⟩
   refine⟨⟨_,hc.cell 0 rfl _ rfl,trivial,?_⟩,trivial⟩
   refine⟨⟨by decide,(show (1:Int)<2 by decide)⟩,?_⟩
   refine⟨⟨_,hcell 5 _ rfl,trivial,?_⟩,trivial⟩
   refine⟨hc.s' 1 rfl fun wS hS hc=>?_,trivial⟩
   refine RetKn.mk (x:=x) (A:=A) (cap:=cap) (hc.nowL (R':=KnR (stepK k (.enter n)) x A cap) (fun S w h=>h.1) (KnR.stab _ _ _ _)).drop (by
    have e:(if n > k.ep then n else k.ep)=max k.ep n:=by split<;>omega
    rw [e]
    rfl) _
  refine⟨⟨_,hc.cell 0 rfl _ rfl,trivial,?_⟩,trivial⟩
  refine⟨⟨by decide,(show (1:Int)<2 by decide)⟩,?_⟩
  refine⟨?_,?_⟩
  ·skip
   refine⟨_,hc.cell 1 rfl _ rfl,trivial,?_⟩
   refine⟨⟨_,hcell 5 _ rfl,trivial,?_⟩,trivial⟩
   refine⟨hc.s' 1 rfl fun wS hS hc=>?_,trivial⟩
   refine RetKn.mk (x:=x) (A:=A) (cap:=cap) (hc.nowL (R':=KnR (stepK k (.enter n)) x A cap) (fun S w h=>h.1) (KnR.stab _ _ _ _)).drop (by
    have e:(if n > k.ep then n else k.ep)=max k.ep n:=by split<;>omega
    rw [e]
    rfl) _
  refine⟨⟨_,hcell 5 _ rfl,trivial,?_⟩,trivial⟩
  refine⟨⟨_,hc.cell 1 rfl _ rfl,trivial,?_⟩,trivial⟩
  refine⟨hc.s' 1 rfl fun wS hS hc=>?_,trivial⟩
  refine RetKn.mk (x:=x) (A:=A) (cap:=cap) (hc.nowL (R':=KnR (stepK k (.enter n)) x A cap) (fun S w h=>h.1) (KnR.stab _ _ _ _)).drop (by
   have e:(if n > k.ep then n else k.ep)=max k.ep n:=by split<;>omega
   rw [e]
   rfl) _
end Go.Proofs.YtokglimimnelaaaGreatDoor
