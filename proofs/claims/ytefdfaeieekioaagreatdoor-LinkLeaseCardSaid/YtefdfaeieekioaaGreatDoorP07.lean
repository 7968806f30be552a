import Derived.Test.YtefdfaeieekioaaGreatDoorP06
set_option maxRecDepth 100000
set_option maxHeartbeats 40000000
set_option linter.unusedVariables false
set_option linter.unusedSimpArgs false
namespace Go.Proofs.YtefdfaeieekioaaGreatDoor
open Go.Vc Go.RowKit Go.Fl
theorem B21 {s:Stt} {d:D} (h:T5 s=true) (hd:L3 d=true) (hq:s.seq<E3):(doS s d).1.seq=s.seq+1:=by
 rw [B8G h hd hq]
 unfold doF
 split
 ·rfl
 split
 ·rfl
 split
 ·rfl
 simp only
 split<;>rfl
theorem W4:∀ (l:List D) {s:Stt},T5 s=true->s.lows.length=5->(∀ d∈l,L3 d=true)->s.seq+l.length<=E3->(U0 s l).seq=s.seq+l.length
 | [],s,h,h5,hd,hq=>by show s.seq=s.seq+((0:Nat):Int);omega
 | d::r,s,h,h5,hd,hq=>by
  rw [List.length_cons] at hq
  have e:=B21 h (hd d (List.mem_cons_self ..)) (by omega)
  have ih:=W4 r (A7G (d:=d) h5 h) (A5C d h5) (fun x hx=>hd x (List.mem_cons_of_mem _ hx)) (by omega)
  show (U0 (doS s d).1 r).seq=_
  rw [ih,e,List.length_cons]
  omega
def A4V:Stt->List D->List Res
 | _,[]=>[]
 | s,d::r=>(doS s d).2::A4V (doS s d).1 r
theorem A1P:∀ (s:Stt) (l:List D),(A4V s l).length=l.length
 | _,[]=>rfl
 | s,d::r=>by rw [A4V,List.length_cons,List.length_cons,A1P]
theorem A5J (s:Stt) (a b:List D):U0 s (a++b)=U0 (U0 s a) b:=by
 unfold U0
 rw [List.foldl_append]
structure Known where
 b:Stt
 pend:List D
 ep:Int
 ln:Int
def Known0:Known:=⟨A4z,[],0,0⟩
def Known.seq (k:Known):Int:=k.b.seq+k.pend.length
structure Known.Ok (k:Known):Prop where
 may:T5 k.b=true
 lows:k.b.lows.length=5
 pend:∀ d∈k.pend,L3 d=true/\d.Ok
 len:k.pend.length<=60
 seq:k.b.seq+k.pend.length<=E3
 ep:B3 k.ep
 ln:B3 k.ln
theorem Known0.ok:Known0.Ok:=⟨by kernel_rfl,rfl,(fun d hd=>by cases hd),Nat.zero_le _,by decide,by unfold B3;decide,by unfold B3;decide⟩
def A2B (k:Known):V:=P9 [vStr ⟨(A00 k.b).toArray⟩,P9 (k.pend.map A1E),O7 k.ep,O7 k.ln]
def A6P (k:Known):List UInt8:=A4T (A2B k)
theorem R8 {d:D} (h:L3 d=true):A1E d=V2 d:=by rw [A1E,if_pos h]
theorem A7Z (f:Nat) (d:D):cnt (f+2) (V2 d)=9:=by simp [V2,I6,L8,A3d,A0d]
theorem A8U {k:Known} (h:k.Ok):A2z (A2B k)=true:=by
 have hl:=h.len
 have h1:=M6 (cnt 4) (fun v=>(L4 4 v).1) 9 (k.pend.map A1E) 1 (fun x hx=>by
  obtain⟨d,hd,rfl⟩:=List.mem_map.1 hx
  rw [R8 (h.pend d hd).1,A7Z];decide) (by rw [List.length_map];omega)
 rw [List.length_map] at h1
 rw [A2z,decide_eq_true_eq,A2B,I6,C4,A3d,if_neg (by decide),C4,I6,if_neg (by omega),C4,L8,if_neg (by omega),C4,L8,if_neg (by omega),A0d]
 omega
theorem A6Q {s:Stt} (h5:s.lows.length=5) (h:T5 s=true):(A00 s).length<=200009:=by
 have h1:=A7I s h5 h
 have h2:=I3 (u:=(I2 (B4N s)).length) (by omega)
 rw [A8D s h5 h,F6]
 omega
theorem A5K {d:D} (hk:d.Ok) (h:L3 d=true):(J1 (V2 d)).length<=1009:=by
 have h1:=A9v d hk h
 have h2:=I3 (u:=(I2 (V2 d)).length) (by omega)
 rw [F6]
 omega
theorem A5L {k:Known} (h:k.Ok):(I2 (A2B k)).length<=270000:=by
 have b1:=M7 1009 (k.pend.map A1E) fun x hx=>by
  obtain⟨d,hd,rfl⟩:=List.mem_map.1 hx
  rw [R8 (h.pend d hd).1]
  exact A5K (h.pend d hd).2 (h.pend d hd).1
 rw [List.length_map] at b1
 have hl:=h.len
 have c1:=O0 (k.pend.map A1E) 60540 (by omega) (by decide)
 have c2:=A6Q h.lows h.may
 have c3:=M2 ⟨(A00 k.b).toArray⟩ (by show (A00 k.b).toArray.size<_;rw [List.size_toArray];omega)
 have e3:(⟨(A00 k.b).toArray⟩:ByteArray).size=(A00 k.b).length:=List.size_toArray ..
 have c4:=D5 k.ep h.ep
 have c5:=D5 k.ln h.ln
 rw [A2B,A0h]
 simp only [M5,List.length_append,List.length_nil]
 omega
theorem B22 {d:D} (hk:d.Ok) (h:L3 d=true):okV (A1E d):=by rw [R8 h];exact A9w d hk
theorem A7a {v:V} (h:A2z v=true) (hl:(I2 v).length<10000000):A4T v=J1 v:=by
 have:=I3 hl
 rw [A4T,h]
 simp [this]
theorem B23 {k:Known} (h:k.Ok):A6P k=J1 (A2B k):=A7a (A8U h) (by have:=A5L h;omega)
theorem B0o {k:Known} (h:k.Ok):(A6P k).length<=270009:=by
 have h1:=A5L h
 have h2:=I3 (u:=(I2 (A2B k)).length) (by omega)
 rw [B23 h,F6]
 omega
def FirstOk (s:ByteArray) (k:Known):Prop:=(s=⟨#[]⟩/\k=Known0)\/(s=⟨(A6P k).toArray⟩/\k.Ok)
theorem FirstOk.ok {s:ByteArray} {k:Known} (h:FirstOk s k):k.Ok:=by
 rcases h with ⟨_,rfl⟩ | ⟨_,h⟩
 ·exact Known0.ok
 ·exact h
theorem FirstOk.size {s:ByteArray} {k:Known} (h:FirstOk s k):s.size<=270009:=by
 rcases h with ⟨rfl,_⟩ | ⟨rfl,h⟩
 ·decide
 ·show (A6P k).toArray.size<=_
  rw [List.size_toArray]
  exact B0o h
inductive Rc where
 | add (d:D)
 | done (n:Int)
 | enter (n:Int)
def vRc:Rc->V
 | .add d=>P9 [O7 1,A1E d]
 | .done n=>P9 [O7 2,O7 n]
 | .enter n=>P9 [O7 3,O7 n]
def Q3 (r:Rc):ByteArray:=⟨(A4T (vRc r)).toArray⟩
def Rc.Ok:Rc->Prop
 | .add d=>L3 d=true/\d.Ok
 | .done n=>B3 n
 | .enter n=>B3 n
theorem A2C {r:Rc} (h:r.Ok):A2z (vRc r)=true/\(I2 (vRc r)).length<=1100/\okV (vRc r):=by
 have n1:=D5 1 (by unfold B3;decide)
 have n2:=D5 2 (by unfold B3;decide)
 have n3:=D5 3 (by unfold B3;decide)
 have o1:B3 1:=by unfold B3;decide
 have o2:B3 2:=by unfold B3;decide
 have o3:B3 3:=by unfold B3;decide
 cases r with
 | add d=>
  obtain⟨h1,h2⟩:=h
  have hd:=A5K h2 h1
  refine⟨?_,?_,A6J _ ?_⟩
  ·rw [A2z,decide_eq_true_eq,vRc,R8 h1,I6,C4,L8,if_neg (by decide),C4,A7Z,if_neg (by decide),A0d]
   decide
  ·rw [vRc,R8 h1,A0h]
   simp only [M5,List.length_append,List.length_nil]
   omega
  ·simp only [okL]
   exact⟨A1v _ o1,B22 h2 h1,trivial⟩
 | done n=>
  have h:B3 n:=h
  have hd:=D5 n h
  refine⟨?_,?_,A6J _ ?_⟩
  ·rw [A2z,decide_eq_true_eq,vRc,I6,C4,L8,if_neg (by decide),C4,L8,if_neg (by decide),A0d]
   decide
  ·rw [vRc,A0h]
   simp only [M5,List.length_append,List.length_nil]
   omega
  ·simp only [okL]
   exact⟨A1v _ o2,A1v _ h,trivial⟩
 | enter n=>
  have h:B3 n:=h
  have hd:=D5 n h
  refine⟨?_,?_,A6J _ ?_⟩
  ·rw [A2z,decide_eq_true_eq,vRc,I6,C4,L8,if_neg (by decide),C4,L8,if_neg (by decide),A0d]
   decide
  ·rw [vRc,A0h]
   simp only [M5,List.length_append,List.length_nil]
   omega
  ·simp only [okL]
   exact⟨A1v _ o3,A1v _ h,trivial⟩
theorem B5W {r:Rc} (h:r.Ok):A4T (vRc r)=J1 (vRc r):=by
 obtain⟨h1,h2,_⟩:=A2C h
 exact A7a h1 (by omega)
theorem B0p {r:Rc} (h:r.Ok):(J1 (vRc r)).length<=1109:=by
 obtain⟨h1,h2,_⟩:=A2C h
 have h3:=I3 (u:=(I2 (vRc r)).length) (by omega)
 rw [F6]
 omega
theorem A0N {r:Rc} (h:r.Ok):(Q3 r).size<=1109:=by
 show (A4T (vRc r)).toArray.size<=_
 rw [List.size_toArray,B5W h]
 exact B0p h
def C2 (k:Known) (n:Int):Known × List Res:=
 (⟨U0 k.b (k.pend.take (n-k.b.seq).toNat),k.pend.drop (n-k.b.seq).toNat,k.ep,k.ln⟩,A4V k.b (k.pend.take (n-k.b.seq).toNat))
def A0O (k:Known):Rc->Known
 | .add d=>⟨k.b,k.pend++[d],k.ep,k.ln⟩
 | .done n=>(C2 k n).1
 | .enter n=>⟨k.b,k.pend,max k.ep n,k.ln⟩
def B2B (k:Known):Rc->Prop
 | .add d=>k.pend.length<60/\k.seq<E3
 | .done n=>n<=k.seq
 | .enter n=>True
theorem Known.Ok.commit {k:Known} (h:k.Ok) (n:Int):(C2 k n).1.Ok:=by
 have hp:∀ d∈k.pend.take (n-k.b.seq).toNat,L3 d=true:=fun d hd=>(h.pend d (List.mem_of_mem_take hd)).1
 obtain⟨a,b,_⟩:=A7T (k.pend.take (n-k.b.seq).toNat) h.may h.lows
 have hs:=h.seq
 have hlen:(k.pend.take (n-k.b.seq).toNat).length+(k.pend.drop (n-k.b.seq).toNat).length=k.pend.length:=by rw [<-List.length_append,List.take_append_drop]
 have e:=W4 (k.pend.take (n-k.b.seq).toNat) h.may h.lows hp (by omega)
 refine⟨a,b,fun d hd=>h.pend d (List.mem_of_mem_drop hd),?_,?_,h.ep,h.ln⟩
 ·have:=h.len
  show (k.pend.drop _).length<=60
  omega
 ·show (U0 k.b (k.pend.take (n-k.b.seq).toNat)).seq+((k.pend.drop (n-k.b.seq).toNat).length:Int)<=E3
  rw [e]
  omega
theorem Known.Ok.step {k:Known} (h:k.Ok) {r:Rc} (hr:r.Ok) (hc:B2B k r):(A0O k r).Ok:=by
 cases r with
 | add d=>
  obtain⟨h1,h2⟩:=hc
  unfold Known.seq at h2
  refine⟨h.may,h.lows,fun x hx=>?_,?_,?_,h.ep,h.ln⟩
  ·rcases List.mem_append.1 hx with hx | hx
   ·exact h.pend x hx
   ·rw [List.mem_singleton.1 hx]
    exact hr
  ·show (k.pend++[d]).length<=60
   rw [List.length_append]
   exact h1
  ·show k.b.seq+((k.pend++[d]).length:Int)<=E3
   rw [List.length_append]
   simp only [List.length_cons,List.length_nil]
   omega
 | done n=>exact h.commit n
 | enter n=>
  refine⟨h.may,h.lows,h.pend,h.len,h.seq,?_,h.ln⟩
  have h1:=h.ep
  have h2:B3 n:=hr
  unfold B3 at*
  show -_<=max k.ep n/\max k.ep n<=_
  omega
def A8V (k:Known) (l:List Rc):Known:=l.foldl A0O k
theorem A8W (k:Known) (l:List Rc) (r:Rc):A8V k (l++[r])=A0O (A8V k l) r:=by
 unfold A8V
 rw [List.foldl_append]
 rfl
def Can:Known->List Rc->Prop
 | _,[]=>True
 | k,r::l=>r.Ok/\B2B k r/\Can (A0O k r) l
theorem Can.ok:∀ {l:List Rc} {k:Known},k.Ok->Can k l->(A8V k l).Ok
 | [],k,hk,_=>hk
 | r::l,k,hk,⟨h1,h2,h3⟩=>Can.ok (l:=l) (hk.step h1 h2) h3
theorem Can.snoc:∀ {l:List Rc} {k:Known} {r:Rc},Can k l->r.Ok->B2B (A8V k l) r->Can k (l++[r])
 | [],k,r,_,h1,h2=>⟨h1,h2,trivial⟩
 | x::l,k,r,⟨a,b,c⟩,h1,h2=>⟨a,b,Can.snoc c h1 h2⟩
theorem Can.mem:∀ {l:List Rc} {k:Known},Can k l->∀ r∈l,r.Ok
 | x::l,k,⟨a,b,c⟩,r,hr=>by
  cases hr with
  | head=>exact a
  | tail _ h=>exact Can.mem c r h
structure Ros where
 ep:Int
 l:List Int
 new:Int
def Ros0:Ros:=⟨0,[],0⟩
structure Ros.Ok (r:Ros):Prop where
 ep:B3 r.ep
 l:∀ n∈r.l,B3 n
 new:B3 r.new
def eqI (a b:Int):Bool:=a==b
theorem eqI_iff (a b:Int):eqI a b=true↔a=b:=beq_iff_eq
def eqR (a b:Ros):Bool:=a.ep==b.ep&&(a.new==b.new&&U8 eqI a.l b.l)
theorem B5X {a b:Ros}:eqR a b=true↔a=b:=by
 constructor
 ·intro h
  unfold eqR at h
  rw [Bool.and_eq_true,Bool.and_eq_true,beq_iff_eq,beq_iff_eq,A1p eqI_iff] at h
  obtain⟨e1,l1,n1⟩:=a
  obtain⟨e2,l2,n2⟩:=b
  obtain⟨h1,h2,h3⟩:=h
  simp only at h1 h2 h3
  rw [h1,h2,h3]
 ·rintro rfl
  unfold eqR
  rw [beq_self_eq_true,beq_self_eq_true,(A1p eqI_iff).2 rfl]
  rfl
def inR (n:Int):Bool:=decide (1<=n)&&decide (n<=5)
def A6R (r:Ros):Bool:=decide (1<=r.ep)&&(decide (r.ep<=E3)&&(decide (1<=r.l.length)&&(decide (r.l.length<=5)&&(r.l.all inR&&(decide r.l.Nodup&&(r.new==0||(decide (1<r.l.length)&&r.l.getLastD 0==r.new)))))))
theorem Q4 {r:Ros}:A6R r=true↔(1<=r.ep/\r.ep<=E3)/\(1<=r.l.length/\r.l.length<=5)/\(∀ n∈r.l,1<=n/\n<=5)/\r.l.Nodup/\(r.new=0\/(1<r.l.length/\r.l.getLastD 0=r.new)):=by
 unfold A6R
 rw [Bool.and_eq_true,Bool.and_eq_true,Bool.and_eq_true,Bool.and_eq_true,Bool.and_eq_true,Bool.and_eq_true,Bool.or_eq_true,Bool.and_eq_true,decide_eq_true_eq,decide_eq_true_eq,decide_eq_true_eq,decide_eq_true_eq,decide_eq_true_eq,decide_eq_true_eq,beq_iff_eq,beq_iff_eq,List.all_eq_true]
 have:∀ n,inR n=true↔1<=n/\n<=5:=fun n=>by unfold inR;rw [Bool.and_eq_true,decide_eq_true_eq,decide_eq_true_eq]
 constructor
 ·rintro⟨a,b,c,d,e,f,g⟩
  exact⟨⟨a,b⟩,⟨c,d⟩,fun n hn=>(this n).1 (e n hn),f,g⟩
 ·rintro⟨⟨a,b⟩,⟨c,d⟩,e,f,g⟩
  exact⟨a,b,c,d,fun n hn=>(this n).2 (e n hn),f,g⟩
theorem A5M {l:List Int} (h:1<=l.length):l.getLastD 0∈l:=by
 cases l with
 | nil=>exact absurd h (by decide)
 | cons a r=>rw [List.getLastD_cons,List.getLastD_eq_getLast?];cases r with
  | nil=>simp
  | cons b t=>simp [List.getLast?_eq_some_getLast]
theorem B0q {r:Ros} (h:A6R r=true):r.Ok:=by
 obtain⟨⟨a,b⟩,⟨c,d⟩,e,f,g⟩:=Q4.1 h
 have hm:E3=1099511627776:=rfl
 refine⟨by unfold B3;omega,fun n hn=>by have:=e n hn;unfold B3;omega,?_⟩
 rcases g with g | ⟨_,g⟩
 ·rw [g];unfold B3;decide
 ·rw [<-g]
  have:=e _ (A5M c)
  unfold B3
  omega
structure Wd where
 kind:Int
 frm:Int
 to:Int
 ep:Int
 seq:Int
 req:Int
 til:Int
 res:Res
 ros:Ros
 deeds:List D
 st:Stt
def Wd0:Wd:=⟨0,0,0,0,0,0,0,⟨0,0⟩,Ros0,[],A4z⟩
structure Wd.Ok (w:Wd):Prop where
 kind:B3 w.kind
 frm:B3 w.frm
 to:B3 w.to
 ep:B3 w.ep
 seq:B3 w.seq
 req:B3 w.req
 til:B3 w.til
 err:B3 w.res.err
 ver:B3 w.res.ver
 ros:w.ros.Ok
 deeds:∀ d∈w.deeds,d.Ok
 st:w.st.Ok
 five:w.st.lows.length=5
def B24 (n:Int):Bool:=decide (0<=n)&&decide (n<=E3)
def A5N (n:Int):Bool:=decide (0<=n)&&decide (n<=5)
theorem I8 {n:Int}:B24 n=true↔0<=n/\n<=E3:=by unfold B24;rw [Bool.and_eq_true,decide_eq_true_eq,decide_eq_true_eq]
theorem V5 {n:Int}:A5N n=true↔0<=n/\n<=5:=by unfold A5N;rw [Bool.and_eq_true,decide_eq_true_eq,decide_eq_true_eq]
def B0r (w:Wd):Bool:=(decide (1<=w.kind)&&decide (w.kind<=11))&&(A5N w.frm&&(A5N w.to&&(!(w.frm==w.to)&&(B24 w.ep&&(B24 w.seq&&(B24 w.req&&(B24 w.til&&(B24 w.res.ver&&(decide (0<=w.res.err)&&decide (w.res.err<=13))))))))))
def A51 (w:Wd):Bool:=B0r w&&((eqR w.ros Ros0||A6R w.ros)&&(decide (w.deeds.length<=60)&&(w.deeds.all L3&&T5 w.st)))
theorem J7 {w:Wd}:B0r w=true↔(1<=w.kind/\w.kind<=11)/\(0<=w.frm/\w.frm<=5)/\(0<=w.to/\w.to<=5)/\w.frm≠w.to/\(0<=w.ep/\w.ep<=E3)/\(0<=w.seq/\w.seq<=E3)/\(0<=w.req/\w.req<=E3)/\(0<=w.til/\w.til<=E3)/\(0<=w.res.ver/\w.res.ver<=E3)/\(0<=w.res.err/\w.res.err<=13):=by
 unfold B0r
 simp only [Bool.and_eq_true,decide_eq_true_eq,I8,V5,Bool.not_eq_true',beq_eq_false_iff_ne,ne_eq]
theorem Q5 {w:Wd}:A51 w=true↔B0r w=true/\(w.ros=Ros0\/A6R w.ros=true)/\w.deeds.length<=60/\(∀ d∈w.deeds,L3 d=true)/\T5 w.st=true:=by
 unfold A51
 simp only [Bool.and_eq_true,Bool.or_eq_true,decide_eq_true_eq,List.all_eq_true,B5X]
end Go.Proofs.YtefdfaeieekioaaGreatDoor
section
namespace Go.Proofs.YtefdfaeieekioaaGreatDoor
open Go.Vc Go.RowKit Go.Fl Go.ChangeShapes Go.WideShapes Go.ChangeAt
def iC (n:Int):List Value:=[.int .i64 n]
theorem B5Y {α:Type} {l:List α} {d:α} {i:Nat} (h:i<l.length):l.getD i d=l[i]:=by rw [List.getD_eq_getElem?_getD,List.getElem?_eq_getElem h];rfl
def A1F (l:List Int):List Value:=(l.map iC).flatten
theorem B0s (l:List Int):Flat 1 (l.map iC):=Flat.map iC (fun a=>⟨rfl,rfl⟩) l
theorem C2I (l:List Int):(A1F l).length=l.length:=by unfold A1F;rw [(B0s l).len,List.length_map,Nat.mul_one]
theorem RowI'.elem {S:Nat->Prop} {w:World} {A:Option Addr} {n cap:Nat} {l:List Int} (hR:Row S w A n cap (A1F l)) (i:Nat) (hi:i<l.length):∃ ad,A=some ad/\w.cell? (ad.add (i*1))=some (.int .i64 l[i]):=by
 obtain⟨ad,e,h⟩:=Row.elemF hR (k:=1) (by decide) (B0s l) i (by rw [List.length_map];exact hi)
 rw [List.getElem_map] at h
 refine⟨ad,e,?_⟩
 have:=h.1
 rw [show (ad.add (i*1)).add 0=ad.add (i*1) from by rw [add_add,Nat.add_zero]] at this
 exact this
def A0P (l:List Int) (x:Int):Option Nat:=l.findIdx? (eqI x)
def L9 (l:List Int) (x:Int):Int:=match A0P l x with | some i=>i | none => -1
theorem A3B {l:List Int} {x:Int} {i:Nat} (hi:i<l.length) (e:l[i]=x) (h:∀ j (hj:j<l.length),j<i->l[j]≠x):A0P l x=some i:=by
 unfold A0P
 rw [List.findIdx?_eq_some_iff_getElem]
 refine⟨hi,by rw [e];exact (eqI_iff _ _).2 rfl,fun j hj=>?_⟩
 rw [Bool.not_eq_true,Bool.eq_false_iff]
 intro hh
 exact h j (by omega) hj ((eqI_iff _ _).1 hh).symm
theorem A8X {l:List Int} {x:Int} (h:∀ j (hj:j<l.length),l[j]≠x):A0P l x=none:=by
 unfold A0P
 rw [List.findIdx?_eq_none_iff]
 intro y hy
 obtain⟨j,hj,rfl⟩:=List.getElem_of_mem hy
 rw [Bool.eq_false_iff]
 intro hh
 exact h j hj ((eqI_iff _ _).1 hh).symm
theorem A0Q {l:List Int} {x:Int} {i:Nat} (h:A0P l x=some i):∃ hi:i<l.length,l[i]=x/\∀ j (hj:j<l.length),j<i->l[j]≠x:=by
 unfold A0P at h
 rw [List.findIdx?_eq_some_iff_getElem] at h
 obtain⟨hi,h1,h2⟩:=h
 refine⟨hi,((eqI_iff _ _).1 h1).symm,fun j hj hlt e=>?_⟩
 have:=h2 j hlt
 rw [e] at this
 exact this ((eqI_iff _ _).2 rfl)
theorem B0t {l:List Int} {x:Int}:(A0P l x).isSome=decide (x∈l):=by
 cases h:A0P l x with
 | some i=>
  obtain⟨hi,e,_⟩:=A0Q h
  rw [decide_eq_true (e▸List.getElem_mem hi)]
  rfl
 | none=>
  unfold A0P at h
  rw [List.findIdx?_eq_none_iff] at h
  rw [decide_eq_false fun hm=>by have:=h x hm;rw [(eqI_iff _ _).2 rfl] at this;cases this]
  rfl
theorem B25 (l:List Int) (x:Int):decide (0<=L9 l x)=decide (x∈l):=by
 unfold L9
 rw [<-B0t]
 cases A0P l x with
 | some i=>exact decide_eq_true (by show (0:Int)<=(i:Int);omega)
 | none=>exact decide_eq_false (by decide)
def atI (l:List Int) (i:Int):Int:=if i<0\/(l.length:Int)<=i then 0 else l.getD i.toNat 0
def B8J (l:List Int):Int:=atI l 0
def A2q (l:List Int):Int:=atI l (l.length-1)
def A5O (l:List Int) (n:Int):Int:=if 0<=L9 l n then atI l (L9 l n+1) else 0
def A04 (l:List Int) (n:Int):Int:=atI l (L9 l n-1)
theorem A2D (l:List Int) (x:Int) : -1<=L9 l x/\L9 l x<l.length:=by
 unfold L9
 cases h:A0P l x with
 | some i=>
  obtain⟨hi,_⟩:=A0Q h
  show -1<=(i:Int)/\(i:Int)<l.length
  omega
 | none=>
  show (-1:Int) <= -1/\(-1:Int)<l.length
  omega
section
variable {S:Nat->Prop} {w:World} {A B:Option Addr} {cap cap':Nat}
theorem A0m (l:List Int) (x:Int) (hR:Row S w A l.length cap (A1F l)):Calls Tryz.prog 167 #[.slice A l.length cap,.int .i64 x] w (C8 (.int .i64 (L9 l x)) w):=by
 have hM:=D4 hR
 refine vE Tryz.func167 ?_
 refine⟨Nat,fun i=>[(0,.slice A l.length cap),(1,.int .i64 x),(7,.int .i64 (l.length:Int)),(8,.int .i64 (i:Int))],fun i w'=>i<=l.length/\(∀ j (hj:j<l.length),j<i->l[j]≠x)/\Below w.heap.size w w',fun i _=>l.length-i,0,⟨rfl,rfl,rfl,rfl,trivial⟩,⟨Nat.zero_le _,(fun j hj h=>absurd h (Nat.not_lt_zero _)),Below.refl _ _⟩,?_⟩
 rintro i w' u ⟨hi,hn,hb⟩
 by_cases hlt:i<l.length
 ·refine dt (by omega) ?_
  obtain⟨ad,rfl,hcell⟩:=RowI'.elem (hR.below hb) i hlt
  refine⟨⟨by omega,by omega⟩,?_⟩
  refine⟨_,by rw [Int.toNat_natCast];exact hcell,?_⟩
  by_cases hx:x=l[i]
  ·refine B0 (by show (x==l[i])=true;rw [beq_iff_eq];exact hx) ?_
   refine⟨?_,hb⟩
   unfold L9
   rw [A3B hlt hx.symm hn];rfl
  ·refine C3X (by show (x==l[i])=false;rw [beq_eq_false_iff_ne];exact hx) ?_
   refine⟨i+1,⟨rfl,rfl,rfl,congrArg _ (C3 (by omega)),trivial⟩,⟨hlt,fun j hj hj2=>?_,hb⟩,by show l.length-(i+1)<l.length-i;omega⟩
   by_cases hji:j=i
   ·subst hji
    exact fun e=>hx e.symm
   ·exact hn j hj (by omega)
 ·refine df (by omega) ?_
  refine⟨?_,hb⟩
  unfold L9
  rw [A8X fun j hj=>hn j hj (by omega)];rfl
theorem A3r (l:List Int) (x:Int) (hR:Row S w A l.length cap (A1F l)):Calls Tryz.prog 110 #[.slice A l.length cap,.int .i64 x] w (C8 (.bool (decide (x∈l))) w):=by
 refine vE Tryz.func110 ?_
 refine B4 (A0m l x hR) ?_
 intro w1 h1
 refine⟨?_,h1⟩
 show Ending.returned (.bool (decide (0<=L9 l x)))=_
 rw [B25]
theorem A8Y (a b:List Int) (hR:Row S w A a.length cap (A1F a)) {S':Nat->Prop} (hR':Row S' w B b.length cap' (A1F b)):Calls Tryz.prog 158 #[.slice A a.length cap,.slice B b.length cap'] w (C8 (.bool (U8 eqI a b)) w):=by
 have hM:=D4 hR
 refine vE Tryz.func158 ?_
 by_cases hl:a.length=b.length
 rotate_left
 ·refine B0 (by show ((a.length:Int) != (b.length:Int))=true;rw [bne_iff_ne];omega) ?_
  rw [A4x _ _ _ hl]
  exact⟨rfl,Below.refl _ _⟩
 refine C3X (by show ((a.length:Int) != (b.length:Int))=false;rw [hl];simp) ?_
 refine⟨Nat,fun i=>[(0,.slice A a.length cap),(1,.slice B b.length cap'),(12,.int .i64 a.length),(13,.int .i64 i)],
  fun i w'=>i<=a.length/\U8 eqI (a.drop i) (b.drop i)=U8 eqI a b/\Below w.heap.size w w',fun i _=>a.length-i,0,⟨rfl,rfl,rfl,rfl,trivial⟩,⟨Nat.zero_le _,rfl,Below.refl _ _⟩,?_⟩
 rintro i w' u ⟨hi,he,hb⟩
 by_cases hlt:i<a.length
 ·refine dt (by omega) ?_
  obtain⟨ad,rfl,hcell⟩:=RowI'.elem (hR.below hb) i hlt
  obtain⟨bd,rfl,hcell'⟩:=RowI'.elem (hR'.below hb) i (by omega)
  rw [List.drop_eq_getElem_cons hlt,List.drop_eq_getElem_cons (show i<b.length by omega),U8] at he
  obtain⟨x,hx⟩:∃ x,x=a[i]:=⟨_,rfl⟩
  obtain⟨y,hy⟩:∃ y,y=b[i]'(by omega):=⟨_,rfl⟩
  rw [<-hx] at hcell he
  rw [<-hy] at hcell' he
  refine vD (.Q [0,1,2,3,4,5,6,7,8] .fin) (Keeps (fun b=>b<w'.heap.size) w') (Keeps.start _ _) ?_
  refine⟨⟨by omega,by omega⟩,?_⟩
  refine⟨_,fun z hz=>hz.look (by rw [Int.toNat_natCast];exact hcell),?_⟩
  refine⟨⟨by omega,by omega⟩,?_⟩
  refine⟨_,fun z hz=>hz.look (by rw [Int.toNat_natCast];exact hcell'),?_⟩
  have hb:=hb.drew
  by_cases hv:x=y
  ·rw [(eqI_iff x y).2 hv,Bool.true_and] at he
   refine C3X (by show (x != y)=false;rw [bne_eq_false_iff_eq];exact hv) ?_
   exact⟨i+1,⟨rfl,rfl,rfl,congrArg _ (C3 (by omega)),trivial⟩,⟨hlt,he,hb⟩,by show a.length-(i+1)<a.length-i;omega⟩
  ·have hf:eqI x y=false:=by rw [Bool.eq_false_iff];exact fun h=>hv ((eqI_iff x y).1 h)
   rw [hf] at he
   refine B0 (by show (x != y)=true;rw [bne_iff_ne];exact hv) ?_
   refine⟨?_,hb⟩
   rw [<-he]
   rfl
 ·refine df (by omega) ?_
  rw [List.drop_of_length_le (by omega),List.drop_of_length_le (by omega),U8] at he
  rw [<-he]
  exact⟨rfl,hb⟩
end
theorem I9 {S0 S:Nat->Prop} {w0 w:World} {l l':List LB} {os:List OR} {R:Kn} (hc:CtxF S0 w0 S w l os R) (h:l=l'):CtxF S0 w0 S w l' os R:=h▸hc
def R9 (r:Ros) (A:Option Addr) (cap:Nat):List Value:=[.int .i64 r.ep,.slice A r.l.length cap,.int .i64 r.new]
def RosR (r:Ros) (A:Option Addr) (cap:Nat):Kn:=fun S w=>Row S w A r.l.length cap (A1F r.l)
theorem RosR.stab (r:Ros) (A:Option Addr) (cap:Nat):Stab (RosR r A cap):=fun _ _ _ _ h f=>Row.fut h f
theorem RosR.below {r:Ros} {A:Option Addr} {cap:Nat} {S:Nat->Prop} {w w':World} (h:RosR r A cap S w) (hb:Below w.heap.size w w'):RosR r A cap S w':=Row.below h hb
theorem Ros0.rep (S:Nat->Prop) (w:World):RosR Ros0 none 0 S w:=A28 _ _
section
variable {r q:Ros} {S:Nat->Prop} {w:World} {A B:Option Addr} {cap cap':Nat}
theorem B5Z (hR:RosR r A cap S w) {S':Nat->Prop} (hQ:RosR q B cap' S' w):Calls Tryz.prog 90 #[.agg (R9 r A cap).toArray,.agg (R9 q B cap').toArray] w (C8 (.bool (eqR r q)) w):=by
 refine vE Tryz.func90 ?_
 have hc:=CtxF.start w no (fun _ h=>h.elim) (R:=fun _ _=>True) trivial Stab.true
 refine hc.n fun g2 wg2 hg2 hc=>?_
 refine hc.n fun g3 wg3 hg3 hc=>?_
 refine hc.c 1 rfl rfl ?_
 refine hc.c 0 rfl rfl ?_
 unfold eqR
 by_cases h1:r.ep=q.ep
 rotate_left
 ·have e:(r.ep==q.ep)=false:=by rw [beq_eq_false_iff_ne];exact h1
  rw [e]
  refine C3X e ?_
  exact⟨rfl,hc.below⟩
 rw [(beq_iff_eq (a:=r.ep) (b:=q.ep)).2 h1]
 refine B0 (by rw [beq_iff_eq];exact h1) ?_
 refine hc.c 1 rfl rfl ?_
 refine hc.c 0 rfl rfl ?_
 by_cases h2:r.new=q.new
 rotate_left
 ·have e:(r.new==q.new)=false:=by rw [beq_eq_false_iff_ne];exact h2
  rw [e]
  refine C3X e ?_
  exact⟨rfl,hc.below⟩
 rw [(beq_iff_eq (a:=r.new) (b:=q.new)).2 h2]
 refine B0 (by rw [beq_iff_eq];exact h2) ?_
 refine hc.c 1 rfl rfl ?_
 refine hc.c 0 rfl rfl ?_
 refine hc.q (A8Y r.l q.l (hR.below hc.below) (hQ.below hc.below)) fun wQ hQ hc=>?_
 exact⟨rfl,hc.below⟩
theorem A7b (n:Int) (hR:RosR r A cap S w):Calls Tryz.prog 56 #[.agg (R9 r A cap).toArray,.int .i64 n] w (C8 (.bool (decide (n∈r.l))) w):=by
 refine vE Tryz.func56 ?_
 have hc:=CtxF.start w no (fun _ h=>h.elim) (R:=fun _ _=>True) trivial Stab.true
 refine hc.n fun g2 wg2 hg2 hc=>?_
 refine hc.c 0 rfl rfl ?_
 refine hc.q (A3r r.l n (hR.below hc.below)) fun wQ hQ hc=>?_
 exact⟨rfl,hc.below⟩
theorem A3s (i:Int) (hR:RosR r A cap S w):Calls Tryz.prog 106 #[.agg (R9 r A cap).toArray,.int .i64 i] w (C8 (.int .i64 (atI r.l i)) w):=by
 have hM:=D4 hR
 refine vE Tryz.func106 ?_
 have hc:=CtxF.start w no (fun _ h=>h.elim) (R:=fun _ _=>True) trivial Stab.true
 refine hc.n fun g2 wg2 hg2 hc=>?_
 unfold atI
 by_cases h0:i<0
 ·rw [if_pos (.inl h0)]
  refine dt h0 ?_
  exact⟨rfl,hc.below⟩
 refine df h0 ?_
 refine hc.c 0 rfl rfl ?_
 by_cases h1:(r.l.length:Int)<=i
 ·rw [if_pos (.inr h1)]
  refine dt h1 ?_
  exact⟨rfl,hc.below⟩
 refine df h1 ?_
 rw [if_neg (fun h=>h.elim h0 h1)]
 refine hc.c 0 rfl rfl ?_
 have hi:i.toNat<r.l.length:=by omega
 obtain⟨ad,rfl,hcell⟩:=RowI'.elem (hR.below hc.below) i.toNat hi
 refine⟨⟨by omega,by omega⟩,?_⟩
 refine⟨_,hcell,?_⟩
 rw [B5Y hi]
 exact⟨rfl,hc.below⟩
theorem B9r (hR:RosR r A cap S w):Calls Tryz.prog 52 #[.agg (R9 r A cap).toArray] w (C8 (.int .i64 (B8J r.l)) w):=by
 refine vE Tryz.func52 ?_
 have hc:=CtxF.start w no (fun _ h=>h.elim) (R:=fun _ _=>True) trivial Stab.true
 refine hc.n fun g2 wg2 hg2 hc=>?_
 refine hc.a 0 rfl rfl ?_
 refine hc.q (A3s 0 (hR.below hc.below)) fun wQ hQ hc=>?_
 exact⟨rfl,hc.below⟩
theorem A5P (hR:RosR r A cap S w):Calls Tryz.prog 83 #[.agg (R9 r A cap).toArray] w (C8 (.int .i64 (A2q r.l)) w):=by
 have hM:=D4 hR
 refine vE Tryz.func83 ?_
 have hc:=CtxF.start w no (fun _ h=>h.elim) (R:=fun _ _=>True) trivial Stab.true
 refine hc.n fun g2 wg2 hg2 hc=>?_
 refine hc.a 0 rfl rfl ?_
 refine hc.c 0 rfl rfl ?_
 have hw1:IntKind.i64.wrap ((r.l.length:Int)-1)=(r.l.length:Int)-1:=IntWalk.i64_in _ ⟨by omega,by omega⟩
 have h:=A3s ((r.l.length:Int)-1) (hR.below hc.below)
 rw [<-hw1] at h
 refine hc.q (h) fun wQ hQ hc=>?_
 refine⟨?_,hc.below⟩
 show Ending.returned (.int .i64 (atI r.l (IntKind.i64.wrap ((r.l.length:Int)-1))))=_
 rw [hw1]
 rfl
theorem A5Q (n:Int) (hR:RosR r A cap S w):Calls Tryz.prog 113 #[.agg (R9 r A cap).toArray,.int .i64 n] w (C8 (.int .i64 (A5O r.l n)) w):=by
 have hM:=D4 hR
 have hs:=A2D r.l n
 refine vE Tryz.func113 ?_
 have hc:=CtxF.start w no (fun _ h=>h.elim) (R:=fun _ _=>True) trivial Stab.true
 refine hc.n fun g2 wg2 hg2 hc=>?_
 refine hc.c 0 rfl rfl ?_
 refine hc.q (A0m r.l n (hR.below hc.below)) fun wQ hQ hc=>?_
 unfold A5O
 by_cases h0:0<=L9 r.l n
 ·rw [if_pos h0]
  refine dt h0 ?_
  refine hc.a 0 rfl rfl ?_
  have hw1:IntKind.i64.wrap (L9 r.l n+1)=L9 r.l n+1:=IntWalk.i64_in _ ⟨by omega,by omega⟩
  have h:=A3s (IntKind.i64.wrap (L9 r.l n+1)) (hR.below hc.below)
  refine hc.q (h) fun wQ hQ hc=>?_
  exact⟨by rw [hw1];rfl,hc.below⟩
 ·rw [if_neg h0]
  refine df h0 ?_
  exact⟨rfl,hc.below⟩
theorem A3C (n:Int) (hR:RosR r A cap S w):Calls Tryz.prog 112 #[.agg (R9 r A cap).toArray,.int .i64 n] w (C8 (.int .i64 (A04 r.l n)) w):=by
 have hM:=D4 hR
 have hs:=A2D r.l n
 refine vE Tryz.func112 ?_
 have hc:=CtxF.start w no (fun _ h=>h.elim) (R:=fun _ _=>True) trivial Stab.true
 refine hc.n fun g2 wg2 hg2 hc=>?_
 have hw1:IntKind.i64.wrap (L9 r.l n-1)=L9 r.l n-1:=IntWalk.i64_in _ ⟨by omega,by omega⟩
 have hr:=hc
 refine vD (.Q [0,1,2,3] (.n 4 (.q 5 (.n 6 (.q 7 .fin) .stop)) .stop)) (Old _) (Old.start _) ?_
 have hk:=hc.old0
 have hc:=hc.drew
 refine⟨_,?_,fun x hx=>Keeps.cells hx (hr.blk 0 rfl) (hr.blk 0 rfl).lt,?_⟩
 ·rfl
 refine⟨_,fun x hx=>Keeps.cell hx (hr.blk 0 rfl) (hr.blk 0 rfl).lt rfl,?_⟩
 refine⟨hc.q (A0m r.l n (hR.below hc.below)) fun wA hA hc=>?_,trivial⟩
 have hk:=Keeps.below hk (fun _ h=>h) hA
 refine⟨hk,?_⟩
 refine⟨?_,trivial⟩
 have h:=A3s (IntKind.i64.wrap (L9 r.l n-1)) (hR.below hc.below)
 refine hc.q (h) fun wA hA hc=>?_
 have hk:=Keeps.below hk (fun _ h=>h) hA
 refine⟨hk,?_⟩
 refine⟨?_,hc.below⟩
 unfold A04
 rw [hw1]
 rfl
end
def A3t (l:List Int):List Value:=(List.range 6).map fun (n:Nat)=>.bool (decide ((n:Int)∈l))
theorem B0u (l:List Int) (i:Nat) (h:i<6):(A3t l)[i]?=some (.bool (decide ((i:Int)∈l))):=by
 unfold A3t
 rw [List.getElem?_map,List.getElem?_range h]
 rfl
theorem B0v (l:List Int) (i:Nat) (h:i<6):(A3t l).set i (.bool true)=A3t (l++[(i:Int)]):=by
 unfold A3t
 apply List.ext_getElem?
 intro j
 by_cases hj:j<6
 ·rw [List.getElem?_map,List.getElem?_range hj]
  by_cases e:i=j
  ·subst e
   rw [List.getElem?_set_self (by simpa using h)]
   simp
  ·rw [List.getElem?_set_ne e,List.getElem?_map,List.getElem?_range hj]
   simp only [Option.map_some,List.mem_append,List.mem_singleton]
   congr 3
   have:¬ ((j:Int)=(i:Int)):=by omega
   simp [this]
 ·rw [List.getElem?_eq_none (by simp;omega),List.getElem?_eq_none (by simp;omega)]
theorem A3D {l:List Int} {x:Int}:(l++[x]).Nodup↔l.Nodup/\x ∉ l:=by
 rw [List.nodup_append]
 constructor
 ·rintro⟨h1,_,h3⟩
  exact⟨h1,fun hx=>h3 x hx x (List.mem_singleton.2 rfl) rfl⟩
 ·rintro⟨h1,h2⟩
  refine⟨h1,by simp,fun a ha b hb e=>?_⟩
  rw [List.mem_singleton] at hb
  subst hb e
  exact h2 ha
theorem A8Z (l:List Int):A2q l=l.getLastD 0:=by
 unfold A2q atI
 cases l with
 | nil=>rfl
 | cons a r=>
  rw [if_neg (by simp only [List.length_cons];omega)]
  rw [show (((a::r).length:Int)-1).toNat=(a::r).length-1 from by omega,List.getD_eq_getElem?_getD,<-List.getLast?_eq_getElem?,List.getLast?_cons,List.getLastD_cons,List.getLastD_eq_getLast?]
  rfl
theorem B0w (r:Ros):A6R r=(if r.ep<1 then false else if E3<r.ep then false else if r.l.length<1 then false else if 5<r.l.length then false else (r.l.all inR&&(decide r.l.Nodup&&(r.new==0||(decide (1<r.l.length)&&r.new==A2q r.l))))):=by
 unfold A6R
 rw [A8Z]
 by_cases h1:r.ep<1
 ·rw [if_pos h1,decide_eq_false (by omega)];rfl
 rw [if_neg h1,decide_eq_true (show (1:Int)<=r.ep by omega)]
 by_cases h2:E3<r.ep
 ·rw [if_pos h2,decide_eq_false (show ¬ r.ep<=E3 by omega)];rfl
 rw [if_neg h2,decide_eq_true (show r.ep<=E3 by omega)]
 by_cases h3:r.l.length<1
 ·rw [if_pos h3,decide_eq_false (show ¬ 1<=r.l.length by omega)];rfl
 rw [if_neg h3,decide_eq_true (show 1<=r.l.length by omega)]
 by_cases h4:5<r.l.length
 ·rw [if_pos h4,decide_eq_false (show ¬ r.l.length<=5 by omega)];rfl
 rw [if_neg h4,decide_eq_true (show r.l.length<=5 by omega)]
 simp only [Bool.true_and]
 congr 3
 rw [Bool.eq_iff_iff,Bool.and_eq_true,Bool.and_eq_true,beq_iff_eq,beq_iff_eq]
 exact⟨fun h=>⟨h.1,h.2.symm⟩,fun h=>⟨h.1,h.2.symm⟩⟩
theorem B0x {r:Ros} {S:Nat->Prop} {w:World} {A:Option Addr} {cap:Nat} (hR:RosR r A cap S w):Calls Tryz.prog 92 #[.agg (R9 r A cap).toArray] w (C8 (.bool (A6R r)) w):=by
 have hM:=D4 hR
 have hmx:E3=1099511627776:=rfl
 rw [B0w]
 refine vE Tryz.func92 ?_
 have hc:=CtxF.start w no (fun _ h=>h.elim) (R:=fun _ _=>True) trivial Stab.true
 refine hc.n fun g1 wg1 hg1 hc=>?_
 refine hc.c 0 rfl rfl ?_
 by_cases h1:r.ep<1
 ·rw [if_pos h1]
  refine dt h1 ?_
  exact⟨rfl,hc.below⟩
 rw [if_neg h1]
 refine df h1 ?_
 refine hc.c 0 rfl rfl ?_
 by_cases h2:E3<r.ep
 ·rw [if_pos h2]
  refine dt h2 ?_
  exact⟨rfl,hc.below⟩
 rw [if_neg h2]
 refine df h2 ?_
 refine hc.c 0 rfl rfl ?_
 by_cases h3:r.l.length<1
 ·rw [if_pos h3]
  refine dt (by omega) ?_
  exact⟨rfl,hc.below⟩
 rw [if_neg h3]
 refine df (by omega) ?_
 refine hc.c 0 rfl rfl ?_
 by_cases h4:5<r.l.length
 ·rw [if_pos h4]
  refine dt (by omega) ?_
  exact⟨rfl,hc.below⟩
 rw [if_neg h4]
 refine df (by omega) ?_
 refine hc.n fun g3 wg3 hg3 hc=>?_
 refine hc.s 0 rfl fun wS hS hc=>?_
 refine hc.c 1 rfl rfl ?_
 refine⟨Nat,fun i=>[(1,.pointer (some ⟨g1,0,none⟩)),(3,.pointer (some ⟨g3,0,none⟩)),(28,.slice A r.l.length cap),(29,.int .i64 (r.l.length:Int)),(30,.int .i64 (i:Int))],
  fun i wS=>i<=r.l.length/\(∀ n∈r.l.take i,inR n=true)/\(r.l.take i).Nodup/\∃ S,CtxF no w S wS [(g3,190,A3t (r.l.take i)),(g1,31,R9 r A cap)] [] (fun _ _=>True),fun i _=>r.l.length-i,0,⟨rfl,rfl,rfl,rfl,rfl,trivial⟩,⟨Nat.zero_le _,(fun n hn=>by cases hn),List.nodup_nil,_,hc⟩,?_⟩
 clear hc
 rintro i w1 u ⟨hi,hin,hnd,S',hc⟩
 by_cases hlt:i<r.l.length
 ·refine dt (by omega) ?_
  obtain⟨ad,rfl,hcell⟩:=RowI'.elem (hR.below hc.below) i hlt
  obtain⟨x,hx⟩:∃ x,x=r.l[i]:=⟨_,rfl⟩
  rw [<-hx] at hcell
  refine⟨⟨by omega,by omega⟩,?_⟩
  refine⟨_,by rw [Int.toNat_natCast];exact hcell,?_⟩
  have hxm:x∈r.l:=hx▸List.getElem_mem _
  have bad:inR x=false->(r.l.all inR)=false:=fun h=>by
   rw [Bool.eq_false_iff]
   intro hh
   rw [List.all_eq_true.1 hh x hxm] at h
   cases h
  by_cases l1:x<1
  ·rw [bad (by unfold inR;rw [decide_eq_false (show ¬ (1:Int)<=x by omega)];rfl)]
   refine dt l1 ?_
   exact⟨rfl,hc.below⟩
  refine df l1 ?_
  by_cases l5:5<x
  ·rw [bad (by unfold inR;rw [decide_eq_false (show ¬ x<=5 by omega),Bool.and_false])]
   refine dt l5 ?_
   exact⟨rfl,hc.below⟩
  refine df l5 ?_
  obtain⟨m,hm⟩:∃ m:Nat,x=(m:Int):=⟨x.toNat,by omega⟩
  subst hm
  have hm6:m<6:=by omega
  refine⟨⟨by omega,by omega⟩,?_⟩
  have hsc:w1.cell? ((⟨g3,0,none⟩:Addr).add ((m:Int).toNat*1))=some (.bool (decide ((m:Int)∈r.l.take i))):=by
   rw [Addr.add_lit,Nat.zero_add,Int.toNat_natCast,Nat.mul_one]
   exact hc.cell 0 rfl m (B0u _ m hm6)
  refine⟨_,hsc,?_⟩
  have htk:r.l.take (i+1)=r.l.take i++[(m:Int)]:=by rw [List.take_succ_eq_append_getElem hlt,<-hx]
  by_cases hin2:(m:Int)∈r.l.take i
  ·have hdup:¬ r.l.Nodup:=fun hn=>by
    have h9:=hn.sublist (List.take_sublist (i+1) r.l)
    rw [htk,A3D] at h9
    exact h9.2 hin2
   refine dt hin2 ?_
   rw [decide_eq_false hdup]
   simp only [Bool.false_and,Bool.and_false]
   exact⟨rfl,hc.below⟩
  refine df hin2 ?_
  refine⟨⟨by omega,by omega⟩,?_⟩
  generalize hae:((⟨g3,0,none⟩:Addr).add ((m:Int).toNat*1))=ae
  have hae:(⟨g3,m,none⟩:Addr)=ae:=by rw [<-hae,Addr.add_lit,Nat.zero_add,Int.toNat_natCast,Nat.mul_one]
  subst hae
  refine⟨hc.may 0 rfl m [.bool true] (by show m+1<=(A3t (r.l.take i)).length;unfold A3t;simp;omega) rfl,?_⟩
  intro wS hS
  have hS:D0 _ ⟨g3,m,none⟩ [.bool true] wS:=hS
  have hc:=(hc.set 0 rfl hS).1
  have hc:CtxF no w S' wS [(g3,190,(A3t (r.l.take i)).set m (.bool true)),(g1,31,R9 r (some ad) cap)] [] (fun _ _=>True):=hc
  rw [B0v _ _ hm6,<-htk] at hc
  refine⟨i+1,⟨rfl,rfl,rfl,rfl,congrArg _ (C3 (by omega)),trivial⟩,⟨hlt,fun n hn=>?_,?_,_,hc⟩,by show r.l.length-(i+1)<r.l.length-i;omega⟩
  ·rw [htk,List.mem_append,List.mem_singleton] at hn
   rcases hn with hn | rfl
   ·exact hin n hn
   ·unfold inR
    rw [decide_eq_true (show (1:Int)<=(m:Int) by omega),decide_eq_true (show (m:Int)<=5 by omega)]
    rfl
  ·rw [htk,A3D]
   exact⟨hnd,hin2⟩
 refine df (by omega) ?_
 obtain rfl:i=r.l.length:=by omega
 rw [List.take_length] at hin hnd
 rw [List.all_eq_true.2 hin,decide_eq_true hnd]
 simp only [Bool.true_and]
 by_cases hn0:r.new=0
 ·rw [(beq_iff_eq (a:=r.new) (b:=0)).2 hn0,Bool.true_or]
  have hr:=hc
  refine vD (.Q [0,1,2,3,4,5,6,7,8,9,10,11] (.n 12 (.Q [13,14,15,16] .fin) .stop)) (Old _) (Old.start _) ?_
  have hk:=hc.old0
  have hc:=hc.drew
  refine⟨_,fun x hx=>Keeps.cell hx (hr.blk 1 rfl) (hr.blk 1 rfl).lt rfl,?_⟩
  refine B0 (by show (r.new==0)=true;rw [hn0];rfl) ?_
  refine⟨?_,trivial⟩
  exact⟨rfl,hc.below⟩
 rw [show (r.new==0)=false from by rw [beq_eq_false_iff_ne];exact hn0,Bool.false_or]
 by_cases hl1:1<r.l.length
 ·rw [decide_eq_true hl1,Bool.true_and]
  have hr:=hc
  refine vD (.Q [0,1,2,3,4,5,6,7,8,9,10,11] (.n 12 (.Q [13,14,15,16] .fin) .stop)) (Old _) (Old.start _) ?_
  have hk:=hc.old0
  have hc:=hc.drew
  refine⟨_,fun x hx=>Keeps.cell hx (hr.blk 1 rfl) (hr.blk 1 rfl).lt rfl,?_⟩
  refine C3X (by show (r.new==0)=false;rw [beq_eq_false_iff_ne];exact hn0) ?_
  refine⟨_,fun x hx=>Keeps.cell hx (hr.blk 1 rfl) (hr.blk 1 rfl).lt rfl,?_⟩
  refine dt (by omega) ?_
  refine⟨_,fun x hx=>Keeps.cell hx (hr.blk 1 rfl) (hr.blk 1 rfl).lt rfl,?_⟩
  refine⟨_,?_,fun x hx=>Keeps.cells hx (hr.blk 1 rfl) (hr.blk 1 rfl).lt,?_⟩
  ·rfl
  refine⟨hc.q (A5P (hR.below hc.below)) fun wA hA hc=>?_,trivial⟩
  have hk:=Keeps.below hk (fun _ h=>h) hA
  refine⟨hk,?_⟩
  exact⟨rfl,hc.below⟩
 ·rw [decide_eq_false hl1,Bool.false_and]
  have hr:=hc
  refine vD (.Q [0,1,2,3,4,5,6,7,8,9,10,11] (.n 12 (.Q [13,14,15,16] .fin) .stop)) (Old _) (Old.start _) ?_
  have hk:=hc.old0
  have hc:=hc.drew
  refine⟨_,fun x hx=>Keeps.cell hx (hr.blk 1 rfl) (hr.blk 1 rfl).lt rfl,?_⟩
  refine C3X (by show (r.new==0)=false;rw [beq_eq_false_iff_ne];exact hn0) ?_
  refine⟨_,fun x hx=>Keeps.cell hx (hr.blk 1 rfl) (hr.blk 1 rfl).lt rfl,?_⟩
  refine df (by omega) ?_
  refine⟨?_,trivial⟩
  exact⟨rfl,hc.below⟩
end Go.Proofs.YtefdfaeieekioaaGreatDoor
end
section
namespace Go.Proofs.YtefdfaeieekioaaGreatDoor
open Go.Vc Go.RowKit Go.Fl Go.ChangeShapes Go.WideShapes Go.ChangeAt
section
variable {r q:Ros} {S:Nat->Prop} {w:World} {A B:Option Addr} {cap cap':Nat}
theorem C2J (x:Int) (hR:RosR r A cap S w):Calls Tryz.prog 136 #[.agg (R9 r A cap).toArray,.int .i64 x] w (C8 (.int .i64 (L9 r.l x)) w):=by
 have hM:=D4 hR
 refine vE Tryz.func136 ?_
 have hc:=CtxF.start w no (fun _ h=>h.elim) (R:=fun _ _=>True) trivial Stab.true
 refine hc.n fun g2 wg2 hg2 hc=>?_
 refine⟨Nat,fun i=>[(1,.int .i64 x),(2,.pointer (some ⟨g2,0,none⟩)),(5,.int .i64 (i:Int))],fun i w'=>i<=r.l.length/\(∀ j (hj:j<r.l.length),j<i->r.l[j]≠x)/\CtxF no w no w' [(g2,31,R9 r A cap)] [] (fun _ _=>True),fun i _=>r.l.length-i,0,⟨rfl,rfl,rfl,trivial⟩,⟨Nat.zero_le _,(fun j hj h=>absurd h (Nat.not_lt_zero _)),hc⟩,?_⟩
 clear hc
 rintro i w' u ⟨hi,hn,hc⟩
 refine hc.c 0 rfl rfl ?_
 by_cases hlt:i<r.l.length
 ·refine dt (by omega) ?_
  refine hc.c 0 rfl rfl ?_
  obtain⟨ad,rfl,hcell⟩:=RowI'.elem (hR.below hc.below) i hlt
  refine⟨⟨by omega,by omega⟩,?_⟩
  refine⟨_,by rw [Int.toNat_natCast];exact hcell,?_⟩
  by_cases hx:r.l[i]=x
  ·refine B0 (by show (r.l[i]==x)=true;rw [beq_iff_eq];exact hx) ?_
   refine⟨?_,hc.below⟩
   unfold L9
   rw [A3B hlt hx hn];rfl
  ·refine C3X (by show (r.l[i]==x)=false;rw [beq_eq_false_iff_ne];exact hx) ?_
   refine⟨i+1,⟨rfl,rfl,congrArg _ (C3 (by omega)),trivial⟩,⟨hlt,fun j hj hj2=>?_,hc⟩,by show r.l.length-(i+1)<r.l.length-i;omega⟩
   by_cases hji:j=i
   ·subst hji
    exact hx
   ·exact hn j hj (by omega)
 ·refine df (by omega) ?_
  refine⟨?_,hc.below⟩
  unfold L9
  rw [A8X fun j hj=>hn j hj (by omega)];rfl
theorem C2K {r q:Ros} (h:r≠q):eqR r q=false:=by rw [Bool.eq_false_iff];exact fun e=>h (B5X.1 e)
theorem C2v {r q:Ros} (h1:r.ep=q.ep) (h2:r.new=q.new):eqR r q=U8 eqI r.l q.l:=by
 unfold eqR
 rw [(beq_iff_eq (a:=r.ep) (b:=q.ep)).2 h1,(beq_iff_eq (a:=r.new) (b:=q.new)).2 h2]
 rfl
theorem C2a (hR:RosR r A cap S w) {S':Nat->Prop} (hQ:RosR q B cap' S' w):Calls Tryz.prog 78 #[.agg (R9 r A cap).toArray,.agg (R9 q B cap').toArray] w (C8 (.bool (eqR r q)) w):=by
 have hM:=D4 hR
 have hM':=D4 hQ
 obtain⟨z,hz⟩:∃ z,z=eqR r q:=⟨_,rfl⟩
 rw [<-hz]
 refine vE Tryz.func78 ?_
 have hc:=CtxF.start w no (fun _ h=>h.elim) (R:=fun _ _=>True) trivial Stab.true
 refine hc.n fun g2 wg2 hg2 hc=>?_
 refine hc.n fun g3 wg3 hg3 hc=>?_
 refine hc.c 1 rfl rfl ?_
 refine hc.c 0 rfl rfl ?_
 by_cases h1:r.ep=q.ep
 rotate_left
 ·refine B0 (by show (r.ep != q.ep)=true;rw [bne_iff_ne];exact h1) ?_
  exact⟨B7 (hz.trans (C2K fun e=>h1 (congrArg Ros.ep e))).symm,hc.below⟩
 refine C3X (by show (r.ep != q.ep)=false;rw [bne_eq_false_iff_eq];exact h1) ?_
 refine hc.c 1 rfl rfl ?_
 refine hc.c 0 rfl rfl ?_
 by_cases h2:r.new=q.new
 rotate_left
 ·refine B0 (by show (r.new != q.new)=true;rw [bne_iff_ne];exact h2) ?_
  exact⟨B7 (hz.trans (C2K fun e=>h2 (congrArg Ros.new e))).symm,hc.below⟩
 refine C3X (by show (r.new != q.new)=false;rw [bne_eq_false_iff_eq];exact h2) ?_
 refine hc.c 1 rfl rfl ?_
 refine hc.c 0 rfl rfl ?_
 by_cases hl:r.l.length=q.l.length
 rotate_left
 ·refine B0 (by show ((r.l.length:Int) != (q.l.length:Int))=true;rw [bne_iff_ne];omega) ?_
  exact⟨B7 (hz.trans (C2K fun e=>hl (congrArg (fun r=>r.l.length) e))).symm,hc.below⟩
 refine C3X (by show ((r.l.length:Int) != (q.l.length:Int))=false;rw [bne_eq_false_iff_eq];omega) ?_
 have hz:z=U8 eqI r.l q.l:=hz.trans (C2v h1 h2)
 clear h1 h2
 refine⟨Nat,fun i=>[(2,.pointer (some ⟨g2,0,none⟩)),(3,.pointer (some ⟨g3,0,none⟩)),(5,.int .i64 (i:Int))],
  fun i w'=>i<=r.l.length/\U8 eqI (r.l.drop i) (q.l.drop i)=U8 eqI r.l q.l/\CtxF no w no w' [(g3,31,R9 q B cap'),(g2,31,R9 r A cap)] [] (fun _ _=>True),fun i _=>r.l.length-i,0,⟨rfl,rfl,rfl,trivial⟩,⟨Nat.zero_le _,rfl,hc⟩,?_⟩
 clear hc
 rintro i w' u ⟨hi,he,hc⟩
 refine hc.c 1 rfl rfl ?_
 by_cases hlt:i<r.l.length
 ·refine dt (by omega) ?_
  obtain⟨ad,rfl,hcell⟩:=RowI'.elem (hR.below hc.below) i hlt
  obtain⟨bd,rfl,hcell'⟩:=RowI'.elem (hQ.below hc.below) i (by omega)
  rw [List.drop_eq_getElem_cons hlt,List.drop_eq_getElem_cons (show i<q.l.length by omega),U8] at he
  obtain⟨x,hx⟩:∃ x,x=r.l[i]:=⟨_,rfl⟩
  obtain⟨y,hy⟩:∃ y,y=q.l[i]'(by omega):=⟨_,rfl⟩
  rw [<-hx] at hcell he
  rw [<-hy] at hcell' he
  have hr:=hc
  refine vD (.Q [0,1,2,3,4,5,6,7,8,9,10] .fin) (Old _) (Old.start _) ?_
  have hk:=hc.old0
  have hc:=hc.drew
  refine⟨_,fun x hx=>Keeps.cell hx (hr.blk 1 rfl) (hr.blk 1 rfl).lt rfl,?_⟩
  refine⟨⟨by omega,by omega⟩,?_⟩
  refine⟨_,fun z hz=>Keeps.look hz (by rw [Int.toNat_natCast];exact hcell),?_⟩
  refine⟨_,fun x hx=>Keeps.cell hx (hr.blk 0 rfl) (hr.blk 0 rfl).lt rfl,?_⟩
  refine⟨⟨by omega,by omega⟩,?_⟩
  refine⟨_,fun z hz=>Keeps.look hz (by rw [Int.toNat_natCast];exact hcell'),?_⟩
  by_cases hv:x=y
  ·rw [(eqI_iff x y).2 hv,Bool.true_and] at he
   refine C3X (by show (x != y)=false;rw [bne_eq_false_iff_eq];exact hv) ?_
   exact⟨i+1,⟨rfl,rfl,congrArg _ (C3 (by omega)),trivial⟩,⟨hlt,he,hc⟩,by show r.l.length-(i+1)<r.l.length-i;omega⟩
  ·have hf:eqI x y=false:=by rw [Bool.eq_false_iff];exact fun h=>hv ((eqI_iff x y).1 h)
   rw [hf] at he
   refine B0 (by show (x != y)=true;rw [bne_iff_ne];exact hv) ?_
   refine⟨?_,hc.below⟩
   exact B7 (hz.trans he.symm).symm
 ·refine df (by omega) ?_
  rw [List.drop_of_length_le (by omega),List.drop_of_length_le (by omega),U8] at he
  exact⟨B7 (hz.trans he.symm).symm,hc.below⟩
end
theorem C12 {l:List Int} (h:∀ i (hi:i<l.length),L9 l l[i]=(i:Int)):l.Nodup:=by
 show List.Pairwise (·≠·) l
 rw [List.pairwise_iff_getElem]
 intro i j hi hj hij e
 have h1:=h i hi
 have h2:=h j hj
 rw [e,h2] at h1
 omega
theorem A8a {l:List Int} (h:l.Nodup) (i:Nat) (hi:i<l.length):L9 l l[i]=(i:Int):=by
 unfold L9
 rw [A3B hi rfl fun j hj hlt e=>List.pairwise_iff_getElem.1 (show List.Pairwise (·≠·) l from h) j i hj hi hlt e]
def C3G (r:Ros):Bool:=decide (r.ep<1)||(decide (E3<r.ep)||(decide (r.l.length<1)||(decide (5<r.l.length)||(!(r.new==0)&&(decide (r.l.length<2)||!(A2q r.l==r.new))))))
theorem C2b (r:Ros):A6R r=(!(C3G r)&&(r.l.all inR&&decide r.l.Nodup)):=by
 rw [B0w]
 unfold C3G
 by_cases h1:r.ep<1
 ·rw [if_pos h1,decide_eq_true h1];rfl
 rw [if_neg h1,decide_eq_false h1]
 by_cases h2:E3<r.ep
 ·rw [if_pos h2,decide_eq_true h2];rfl
 rw [if_neg h2,decide_eq_false h2]
 by_cases h3:r.l.length<1
 ·rw [if_pos h3,decide_eq_true h3];rfl
 rw [if_neg h3,decide_eq_false h3]
 by_cases h4:5<r.l.length
 ·rw [if_pos h4,decide_eq_true h4];rfl
 rw [if_neg h4,decide_eq_false h4]
 by_cases h5:r.new=0
 ·rw [(beq_iff_eq (a:=r.new) (b:=0)).2 h5]
  simp
 rw [show (r.new==0)=false from by rw [beq_eq_false_iff_ne];exact h5]
 by_cases h6:r.l.length<2
 ·rw [decide_eq_true h6,decide_eq_false (show ¬ 1<r.l.length by omega)]
  simp
 rw [decide_eq_false h6,decide_eq_true (show 1<r.l.length by omega)]
 by_cases h7:A2q r.l=r.new
 ·rw [(beq_iff_eq (a:=r.new) (b:=A2q r.l)).2 h7.symm,(beq_iff_eq (a:=A2q r.l) (b:=r.new)).2 h7]
  simp
 ·rw [show (r.new==A2q r.l)=false from by rw [beq_eq_false_iff_ne];exact fun e=>h7 e.symm,show (A2q r.l==r.new)=false from by rw [beq_eq_false_iff_ne];exact h7]
  simp
theorem C2c {l:List Int} (h:1<=l.length):A2q l=l[l.length-1]'(by omega):=by
 unfold A2q atI
 rw [if_neg (by omega),show ((l.length:Int)-1).toNat=l.length-1 from by omega,B5Y (by omega)]
theorem C3H {l:List Int} {i:Nat} (h:i<l.length) (hb:¬ (1<=l[i]/\l[i]<=5)):l.all inR=false:=by
 rw [Bool.eq_false_iff]
 intro hh
 have:=List.all_eq_true.1 hh l[i] (List.getElem_mem h)
 unfold inR at this
 rw [Bool.and_eq_true,decide_eq_true_eq,decide_eq_true_eq] at this
 exact hb this
theorem C13 {r:Ros} {S:Nat->Prop} {w:World} {A:Option Addr} {cap:Nat} (hR:RosR r A cap S w):Calls Tryz.prog 79 #[.agg (R9 r A cap).toArray] w (C8 (.bool (A6R r)) w):=by
 have hM:=D4 hR
 have hmx:E3=1099511627776:=rfl
 rw [C2b]
 refine vE Tryz.func79 ?_
 have hc:=CtxF.start w no (fun _ h=>h.elim) (R:=fun _ _=>True) trivial Stab.true
 refine hc.n fun g1 wg1 hg1 hc=>?_
 refine Drawn.join (α:=Bool) (fun b=>[(1,.pointer (some ⟨g1,0,none⟩)),(47,.bool b)]) (fun b wS=>b=C3G r/\CtxF no w no wS [(g1,31,R9 r A cap)] [] (fun _ _=>True)) ?_ ?_
 ·unfold C3G
  have hr:=hc
  refine vD (.Q [0,1,2,3,4,5,6,7,8,9,10,11,12,13,14,15,16,17,18,19,20,21,22,23,24,25,26,27,28,29,30,31,32,33,34,35,36,37,38,39,40,41,42,43] .fin) (Old _) (Old.start _) ?_
  have hk:=hc.old0
  have hc:=hc.drew
  refine⟨_,fun x hx=>Keeps.cell hx (hr.blk 0 rfl) (hr.blk 0 rfl).lt rfl,?_⟩
  by_cases h1:r.ep<1
  ·rw [decide_eq_true h1]
   refine dt h1 ?_
   exact⟨true,⟨rfl,rfl,trivial⟩,rfl,hc⟩
  rw [decide_eq_false h1]
  refine df h1 ?_
  refine⟨_,fun x hx=>Keeps.cell hx (hr.blk 0 rfl) (hr.blk 0 rfl).lt rfl,?_⟩
  by_cases h2:E3<r.ep
  ·rw [decide_eq_true h2]
   refine dt h2 ?_
   exact⟨true,⟨rfl,rfl,trivial⟩,rfl,hc⟩
  rw [decide_eq_false h2]
  refine df h2 ?_
  refine⟨_,fun x hx=>Keeps.cell hx (hr.blk 0 rfl) (hr.blk 0 rfl).lt rfl,?_⟩
  by_cases h3:r.l.length<1
  ·rw [decide_eq_true h3]
   refine dt (by omega) ?_
   exact⟨true,⟨rfl,rfl,trivial⟩,rfl,hc⟩
  rw [decide_eq_false h3]
  refine df (by omega) ?_
  refine⟨_,fun x hx=>Keeps.cell hx (hr.blk 0 rfl) (hr.blk 0 rfl).lt rfl,?_⟩
  by_cases h4:5<r.l.length
  ·rw [decide_eq_true h4]
   refine dt (by omega) ?_
   exact⟨true,⟨rfl,rfl,trivial⟩,rfl,hc⟩
  rw [decide_eq_false h4]
  refine df (by omega) ?_
  refine⟨_,fun x hx=>Keeps.cell hx (hr.blk 0 rfl) (hr.blk 0 rfl).lt rfl,?_⟩
  by_cases h5:r.new=0
  ·rw [(beq_iff_eq (a:=r.new) (b:=0)).2 h5]
   refine C3X (by show (r.new != 0)=false;rw [bne_eq_false_iff_eq];exact h5) ?_
   exact⟨false,⟨rfl,rfl,trivial⟩,rfl,hc⟩
  rw [show (r.new==0)=false from by rw [beq_eq_false_iff_ne];exact h5]
  refine B0 (by show (r.new != 0)=true;rw [bne_iff_ne];exact h5) ?_
  refine⟨_,fun x hx=>Keeps.cell hx (hr.blk 0 rfl) (hr.blk 0 rfl).lt rfl,?_⟩
  by_cases h6:r.l.length<2
  ·rw [decide_eq_true h6]
   refine dt (by omega) ?_
   exact⟨true,⟨rfl,rfl,trivial⟩,rfl,hc⟩
  rw [decide_eq_false h6]
  refine df (by omega) ?_
  refine⟨_,fun x hx=>Keeps.cell hx (hr.blk 0 rfl) (hr.blk 0 rfl).lt rfl,?_⟩
  refine⟨_,fun x hx=>Keeps.cell hx (hr.blk 0 rfl) (hr.blk 0 rfl).lt rfl,?_⟩
  have hw1:IntKind.i64.wrap ((r.l.length:Int)-1)=((r.l.length-1:Nat):Int):=by rw [IntWalk.i64_in _ ⟨by omega,by omega⟩];omega
  have hlt:r.l.length-1<r.l.length:=by omega
  obtain⟨ad,rfl,hcell⟩:=RowI'.elem (hR.below hc.below) (r.l.length-1) hlt
  refine⟨⟨by rw [hw1];omega,by rw [hw1];omega⟩,?_⟩
  refine⟨_,fun z hz=>Keeps.look hz (by rw [hw1,Int.toNat_natCast];exact hcell),?_⟩
  refine⟨_,fun x hx=>Keeps.cell hx (hr.blk 0 rfl) (hr.blk 0 rfl).lt rfl,?_⟩
  refine⟨!(A2q r.l==r.new),⟨rfl,?_,trivial⟩,by simp,hc⟩
  rw [C2c (by omega)]
  rfl
 clear hc
 rintro b u w1 ⟨hbr,hc⟩
 cases hb:C3G r with
 | true=>
  rw [hb] at hbr
  subst hbr
  exact⟨rfl,hc.below⟩
 | false=>
 rw [hb] at hbr
 subst hbr
 simp only [Bool.not_false,Bool.true_and]
 refine⟨Nat,fun i=>[(1,.pointer (some ⟨g1,0,none⟩)),(3,.int .i64 (i:Int))],
  fun i wS=>i<=r.l.length/\(∀ n∈r.l.take i,inR n=true)/\(∀ j (hj:j<r.l.length),j<i->L9 r.l r.l[j]=(j:Int))/\CtxF no w no wS [(g1,31,R9 r A cap)] [] (fun _ _=>True),fun i _=>r.l.length-i,0,⟨rfl,rfl,trivial⟩,⟨Nat.zero_le _,(fun n hn=>by cases hn),(fun j hj h=>absurd h (Nat.not_lt_zero _)),hc⟩,?_⟩
 clear hc
 rintro i w1 u ⟨hi,hin,hsp,hc⟩
 refine hc.c 0 rfl rfl ?_
 by_cases hlt:i<r.l.length
 ·refine dt (by omega) ?_
  obtain⟨ad,rfl,hcell⟩:=RowI'.elem (hR.below hc.below) i hlt
  obtain⟨x,hx⟩:∃ x,x=r.l[i]:=⟨_,rfl⟩
  have bad:=C3H (l:=r.l) hlt
  have hsx:=hsp
  rw [<-hx] at hcell bad
  by_cases l1:x<1
  ·rw [bad (by omega)]
   have hr:=hc
   refine vD (.Q [0,1,2,3,4,5,6,7,8,9,10,11,12,13,14,15,16,17,18,19,20,22] (.n 21 (.Q [23,24] .fin) .stop)) (Old _) (Old.start _) ?_
   have hk:=hc.old0
   have hc:=hc.drew
   refine⟨_,fun x hx=>Keeps.cell hx (hr.blk 0 rfl) (hr.blk 0 rfl).lt rfl,?_⟩
   refine⟨⟨by omega,by omega⟩,?_⟩
   refine⟨_,fun z hz=>Keeps.look hz (by rw [Int.toNat_natCast];exact hcell),?_⟩
   refine dt l1 ?_
   refine⟨?_,trivial⟩
   skip
   exact⟨rfl,hc.below⟩
  by_cases l5:5<x
  ·rw [bad (by omega)]
   have hr:=hc
   refine vD (.Q [0,1,2,3,4,5,6,7,8,9,10,11,12,13,14,15,16,17,18,19,20,22] (.n 21 (.Q [23,24] .fin) .stop)) (Old _) (Old.start _) ?_
   have hk:=hc.old0
   have hc:=hc.drew
   refine⟨_,fun x hx=>Keeps.cell hx (hr.blk 0 rfl) (hr.blk 0 rfl).lt rfl,?_⟩
   refine⟨⟨by omega,by omega⟩,?_⟩
   refine⟨_,fun z hz=>Keeps.look hz (by rw [Int.toNat_natCast];exact hcell),?_⟩
   refine df l1 ?_
   refine⟨_,fun x hx=>Keeps.cell hx (hr.blk 0 rfl) (hr.blk 0 rfl).lt rfl,?_⟩
   refine⟨⟨by omega,by omega⟩,?_⟩
   refine⟨_,fun z hz=>Keeps.look hz (by rw [Int.toNat_natCast];exact hcell),?_⟩
   refine dt l5 ?_
   refine⟨?_,trivial⟩
   skip
   exact⟨rfl,hc.below⟩
  refine Drawn.join (α:=Unit) (fun _=>[(1,.pointer (some ⟨g1,0,none⟩)),(3,.int .i64 (i:Int)),(79,.bool (L9 r.l x != (i:Int)))]) (fun _ wS=>CtxF no w no wS [(g1,31,R9 r (some ad) cap)] [] (fun _ _=>True)) ?_ ?_
  ·have hr:=hc
   refine vD (.Q [0,1,2,3,4,5,6,7,8,9,10,11,12,13,14,15,16,17,18,19,20,22] (.n 21 (.Q [23,24] .fin) .stop)) (Old _) (Old.start _) ?_
   have hk:=hc.old0
   have hc:=hc.drew
   refine⟨_,fun x hx=>Keeps.cell hx (hr.blk 0 rfl) (hr.blk 0 rfl).lt rfl,?_⟩
   refine⟨⟨by omega,by omega⟩,?_⟩
   refine⟨_,fun z hz=>Keeps.look hz (by rw [Int.toNat_natCast];exact hcell),?_⟩
   refine df l1 ?_
   refine⟨_,fun x hx=>Keeps.cell hx (hr.blk 0 rfl) (hr.blk 0 rfl).lt rfl,?_⟩
   refine⟨⟨by omega,by omega⟩,?_⟩
   refine⟨_,fun z hz=>Keeps.look hz (by rw [Int.toNat_natCast];exact hcell),?_⟩
   refine df l5 ?_
   refine⟨_,?_,fun x hx=>Keeps.cells hx (hr.blk 0 rfl) (hr.blk 0 rfl).lt,?_⟩
   ·rfl
   refine⟨_,fun x hx=>Keeps.cell hx (hr.blk 0 rfl) (hr.blk 0 rfl).lt rfl,?_⟩
   refine⟨⟨by omega,by omega⟩,?_⟩
   refine⟨_,fun z hz=>Keeps.look hz (by rw [Int.toNat_natCast];exact hcell),?_⟩
   refine⟨hc.q (C2J x (hR.below hc.below)) fun wA hA hc=>?_,trivial⟩
   have hk:=Keeps.below hk (fun _ h=>h) hA
   refine⟨hk,?_⟩
   exact⟨(),⟨rfl,rfl,rfl,trivial⟩,hc⟩
  clear hc
  rintro⟨⟩ u2 w2 hc
  by_cases hs:L9 r.l x=(i:Int)
  ·refine C3X (by show (L9 r.l x != (i:Int))=false;rw [bne_eq_false_iff_eq];exact hs) ?_
   have htk:r.l.take (i+1)=r.l.take i++[x]:=by rw [List.take_succ_eq_append_getElem hlt,<-hx]
   refine⟨i+1,⟨rfl,congrArg _ (C3 (by omega)),trivial⟩,⟨hlt,fun n hn=>?_,fun j hj hlt2=>?_,hc⟩,by show r.l.length-(i+1)<r.l.length-i;omega⟩
   ·rw [htk,List.mem_append,List.mem_singleton] at hn
    rcases hn with hn | rfl
    ·exact hin n hn
    ·unfold inR
     rw [decide_eq_true (show (1:Int)<=n by omega),decide_eq_true (show n<=5 by omega)]
     rfl
   ·by_cases hji:j=i
    ·subst hji
     rw [<-hx]
     exact hs
    ·exact hsp j hj (by omega)
  ·refine B0 (by show (L9 r.l x != (i:Int))=true;rw [bne_iff_ne];exact hs) ?_
   have hnd:¬ r.l.Nodup:=fun h=>hs (by rw [hx];exact A8a h i hlt)
   rw [decide_eq_false hnd,Bool.and_false]
   exact⟨rfl,hc.below⟩
 refine df (by omega) ?_
 obtain rfl:i=r.l.length:=by omega
 rw [List.take_length] at hin
 rw [List.all_eq_true.2 hin,decide_eq_true (C12 fun i hi=>hsp i hi hi)]
 exact⟨rfl,hc.below⟩
end Go.Proofs.YtefdfaeieekioaaGreatDoor
end
section
namespace Go.Vc
open Go.RowKit
def SemC (P:Program) (n:Nat) (c:Code) (f:Fr) (w:World) (K:Exit->Fr->World->Prop):Prop:=K7 n c=true->∀ a,Agree n a f->c.wp P (B74 n K) a w
def B61 {α:Type} (l:α->List (Nat × Value)) (R:α->World->Prop) (K:Exit->Fr->World->Prop) (e:Exit) (f:Fr) (w:World):Prop:=
 match e with
 | .normal=>∃ x,B19 f (l x)/\R x w
 | e=>K e f w
def B8K:Nat->Code->Code
 | 0,.seq a _=>a
 | k+1,.seq a b=>.seq a (B8K k b)
 | _,c=>c
def B62:Nat->Code->Code
 | 0,.seq _ b=>b
 | k+1,.seq _ b=>B62 k b
 | _,_=>.skip
def B63:Nat->Code->Bool
 | 0,.seq _ _=>true
 | k+1,.seq _ b=>B63 k b
 | _,_=>false
section
variable {P:Program} {L:Lay} {n:Nat}
theorem SemC.vc (hL:L.Ok P) {c:Code} {f:Fr} {w:World} {K:Exit->Fr->World->Prop} (h:M9 P L c f w K):SemC P n c f w K:=fun hc a hA=>Q9 hL n c K a f w hA hc h
theorem SemC.cut (hL:L.Ok P) {α:Type} (l:α->List (Nat × Value)) (R:α->World->Prop) {K:Exit->Fr->World->Prop}:∀ (k:Nat) {c:Code},B63 k c=true->∀ {f:Fr} {w:World},M9 P L (B8K k c) f w (B61 l R K)->
  (∀ (x:α) (u:Fr) (w':World),R x w'->SemC P n (B62 k c) (mk (l x) u) w' K)->SemC P n c f w K
 | 0,.seq x y,_,f,w,h,hr=>fun hc a hA=>by
  simp only [K7,Bool.and_eq_true] at hc
  refine wp_seq (wp_mono (Q9 hL n x _ a f w hA hc.1 h) fun e a1 w1 ⟨f1,h1,h2⟩=>?_)
  cases e with
  | normal=>
   obtain⟨x,hf,hR⟩:=h2
   have h3:=hr x f1 w1 hR hc.2 a1
   rw [A55 hf] at h3
   exact h3 h1
  | _=>exact⟨f1,h1,h2⟩
 | k+1,.seq x y,hk,f,w,h,hr=>fun hc a hA=>by
  simp only [K7,Bool.and_eq_true] at hc
  have h':M9 P L x f w (B6Y (M9 P L (B8K k y)) (B61 l R K)):=h
  refine wp_seq (wp_mono (Q9 hL n x _ a f w hA hc.1 h') fun e a1 w1 ⟨f1,h1,h2⟩=>?_)
  cases e with
  | normal=>exact SemC.cut hL l R k hk h2 hr hc.2 a1 h1
  | _=>exact⟨f1,h1,h2⟩
theorem A2E (hL:L.Ok P) {k:Nat} {fn:Func} {c:Code} {args:List Value} {w:World} {R:Ending->World->Prop}
  (hf:P.funcs[k]?=some fn) (hb:fn.body=some c) (ha:Nat.ble args.length fn.ntmps=true) (hc:K7 fn.ntmps c=true)
  (h:SemC P fn.ntmps c (A52 args) w (fnK L fn.results R)):Calls P k args.toArray w R:=by
 refine calls_of_wp hf hb ?_
 have hn:=Nat.le_of_ble_eq_true ha
 have hA:Agree fn.ntmps { tmps:=args.toArray++Array.replicate (fn.ntmps-args.toArray.size) undef,defers:=[] } (A52 args):=by
  refine⟨rfl,by simp;omega,fun t=>?_⟩
  unfold A52
  rw [Array.getD_eq_getD_getElem?,List.getD_eq_getElem?_getD]
  rcases Nat.lt_or_ge t args.length with h1 | h1
  ·rw [Array.getElem?_append_left (by simpa using h1)]
   simp
  ·rw [Array.getElem?_append_right (by simpa using h1),List.getElem?_eq_none h1]
   simp only [Array.getElem?_replicate]
   split<;>rfl
 refine wp_mono (h hc _ hA) fun e a w ⟨f,h1,h2⟩=>?_
 cases e with
 | normal=>exact⟨h1.1,M1 hL _ a f w h1 fn R h2⟩
 | ret=>exact⟨h1.1,M1 hL _ a f w h1 fn R h2⟩
 | _=>exact h2.elim
end
end Go.Vc
end
namespace Go.Proofs.YtefdfaeieekioaaGreatDoor
open Go.Vc Go.RowKit Go.Fl Go.ChangeShapes Go.WideShapes Go.ChangeAt
def B64 (d:D):Bool:=!L3 d
theorem B26 {P:Program} {L:Lay} {f:Nat} {xs:List Value} {w:World} {K:Value->World->Prop} (h:L.fns f=true) (k:CallVc P f xs w K):X3 P L f xs w K:=by
 unfold X3
 rw [h]
 exact k
theorem B0y (p:D->Bool) (f:Nat) (hfn:lay.fns f=true) (hf:∀ (d:D),d.Ok->∀ w,Calls Tryz.prog f #[.agg (dC d).toArray] w (C8 (.bool (p d)) w)) (l:List D) (hl:∀ d∈l,d.Ok) (A:Option Addr) (cap:Nat) (S:Nat->Prop) (w:World) (hR:Row S w A l.length cap (l.map dC).flatten):
  Calls Tryz.prog 114 #[.slice A l.length cap,.func (.func f) #[] #[]] w (C8 (.int .i64 (B5A (l.findIdx? p))) w):=by
 refine vE Tryz.func114 ?_
 have hM:l.length<=9223372036854775807:=Nat.le_trans hR.1 hR.2.1
 refine⟨Nat,fun i=>[(0,.slice A l.length cap),(1,.func (.func f) #[] #[]),(7,.int .i64 l.length),(8,.int .i64 i)],
  fun i w'=>i<=l.length/\(∀ j (hj:j<l.length),j<i->p l[j]=false)/\Below w.heap.size w w',fun i _=>l.length-i,0,
  ⟨rfl,rfl,rfl,rfl,trivial⟩,⟨Nat.zero_le _,fun j hj h=>absurd h (Nat.not_lt_zero _),Below.refl _ _⟩,?_⟩
 rintro i w' u ⟨hi,he,hb⟩
 by_cases hlt:i<l.length
 ·refine dt (by omega) ?_
  obtain⟨ad,rfl,hcell⟩:=Row.elemF (hR.below hb) (by decide) (V4 _) i (by rw [List.length_map];exact hlt)
  rw [List.getElem_map] at hcell
  refine⟨⟨by omega,by omega⟩,?_⟩
  refine⟨dC l[i],rfl,hcell,?_⟩
  refine B26 (L:=lay) hfn ?_
  refine B4 (hf l[i] (hl _ (List.getElem_mem hlt)) w') ?_
  intro w2 h2
  have hb2:=hb.trans (h2.mono hb.size)
  rcases Bool.eq_false_or_eq_true (p l[i]) with hv | hv
  ·refine B0 hv ?_
   refine⟨?_,hb2⟩
   rw [A16 p l i hlt hv he]
   rfl
  ·refine C3X hv ?_
   refine⟨i+1,⟨rfl,rfl,rfl,congrArg _ (C3 (by omega)),trivial⟩,⟨hlt,fun j hj h=>?_,hb2⟩,by show l.length-(i+1)<l.length-i;omega⟩
   rcases Nat.lt_succ_iff_lt_or_eq.1 h with h | h
   ·exact he j hj h
   ·subst h;exact hv
 ·refine df (by omega) ?_
  refine⟨?_,hb⟩
  rw [A17 p l (fun j hj=>he j hj (by omega))]
  rfl
theorem A5R (p:D->Bool) (f:Nat) (hfn:lay.fns f=true) (hf:∀ (d:D),d.Ok->∀ w,Calls Tryz.prog f #[.agg (dC d).toArray] w (C8 (.bool (p d)) w)) (l:List D) (hl:∀ d∈l,d.Ok) (A:Option Addr) (cap:Nat) (S:Nat->Prop) (w:World) (hR:Row S w A l.length cap (l.map dC).flatten):
  Calls Tryz.prog 63 #[.slice A l.length cap,.func (.func f) #[] #[]] w (C8 (.bool (l.any p)) w):=by
 refine vE Tryz.func63 ?_
 refine B4 (B0y p f hfn hf l hl A cap S w hR) ?_
 intro w2 h2
 exact⟨B7 (A3m p l),h2⟩
structure WX where
 A:Option Addr
 cA:Nat
 B:Option Addr
 cB:Nat
 y:SX
def WX0:WX:=⟨none,0,none,0,SX0⟩
def wdC (v:Wd) (x:WX):List Value:=[.int .i64 v.kind,.int .i64 v.frm,.int .i64 v.to,.int .i64 v.ep,.int .i64 v.seq,.int .i64 v.req,.int .i64 v.til,.int .i64 v.res.err,.int .i64 v.res.ver,.int .i64 v.ros.ep,.slice x.A v.ros.l.length x.cA,.int .i64 v.ros.new,.slice x.B v.deeds.length x.cB,
 .int .i64 v.st.seq,.slice x.y.A v.st.l.length x.y.cap,.slice x.y.B v.st.ms.length x.y.cap',.int .i64 x.y.l0,.int .i64 x.y.l1,.int .i64 x.y.l2,.int .i64 x.y.l3,.int .i64 x.y.l4]
def WdR (v:Wd) (x:WX):Kn:=fun S w=>(RosR v.ros x.A x.cA S w/\Row S w x.B v.deeds.length x.cB (v.deeds.map dC).flatten)/\RepS S w v.st (stX v.st x.y)
theorem A2F {A:Option Addr} {n cap:Nat} {xs:List Value}:Stab (fun S w=>Row S w A n cap xs):=fun _ _ _ _ h f=>h.fut f
theorem WdR.stab (v:Wd) (x:WX):Stab (WdR v x):=((RosR.stab _ _ _).and A2F).and (A7S _ _)
theorem WdR.below {v:Wd} {x:WX} {S:Nat->Prop} {w w':World} (h:WdR v x S w) (hb:Below w.heap.size w w'):WdR v x S w':=⟨⟨Row.below h.1.1 hb,h.1.2.below hb⟩,h.2.below hb⟩
theorem C05:(lay.ty 43).zero=wdC Wd0 WX0:=by kernel_rfl
theorem A6S (S:Nat->Prop) (w:World):WdR Wd0 WX0 S w:=⟨⟨A28 _ _,A28 _ _⟩,A15 _ _⟩
def A9L (n:Int):Bool:=!B24 n
theorem A7c (n:Int) (w:World):Calls Tryz.prog 87 #[.int .i64 n] w (C8 (.bool (A5N n)) w):=by
 refine vE Tryz.func87 ?_
 unfold A5N
 by_cases h:0<=n
 ·rw [decide_eq_true h]
  refine dt h ?_
  exact⟨rfl,Below.refl _ _⟩
 ·rw [decide_eq_false h]
  refine df h ?_
  exact⟨rfl,Below.refl _ _⟩
theorem B27 (n:Int) (w:World):Calls Tryz.prog 89 #[.int .i64 n] w (C8 (.bool (A9L n)) w):=by
 have hm:E3=1099511627776:=rfl
 refine vE Tryz.func89 ?_
 unfold A9L B24
 by_cases h:n<0
 ·rw [decide_eq_false (show ¬ 0<=n by omega)]
  refine dt h ?_
  exact⟨rfl,Below.refl _ _⟩
 ·rw [decide_eq_true (show 0<=n by omega)]
  refine df h ?_
  refine⟨?_,Below.refl _ _⟩
  by_cases h2:n<=E3
  ·rw [decide_eq_true h2]
   show Ending.returned (.bool (decide (1099511627776<n)))=_
   rw [decide_eq_false (by omega)]
   rfl
  ·rw [decide_eq_false h2]
   show Ending.returned (.bool (decide (1099511627776<n)))=_
   rw [decide_eq_true (by omega)]
   rfl
theorem B28 (d:D) (hd:d.Ok) (w:World):Calls Tryz.prog 91 #[.agg (dC d).toArray] w (C8 (.bool (B64 d)) w):=by
 refine vE Tryz.func91 ?_
 have hc:=CtxF.start w no (fun _ h=>h.elim) (R:=fun _ _=>True) trivial Stab.true
 refine hc.n fun g1 wg1 hg1 hc=>?_
 refine hc.a 0 rfl rfl ?_
 refine hc.q (A3X d hd _) fun wQ hQ hc=>?_
 exact⟨rfl,hc.below⟩
theorem A6T (l:List Int) (A:Option Addr) (cap:Nat) (S:Nat->Prop) (w:World) (hR:Row S w A l.length cap (A1F l)):
  Calls Tryz.prog 157 #[.slice A l.length cap,.func (.func 89) #[] #[]] w (C8 (.int .i64 (B5A (l.findIdx? A9L))) w):=by
 refine vE Tryz.func157 ?_
 have hM:=D4 hR
 refine⟨Nat,fun i=>[(0,.slice A l.length cap),(1,.func (.func 89) #[] #[]),(7,.int .i64 l.length),(8,.int .i64 i)],
  fun i w'=>i<=l.length/\(∀ j (hj:j<l.length),j<i->A9L l[j]=false)/\Below w.heap.size w w',fun i _=>l.length-i,0,
  ⟨rfl,rfl,rfl,rfl,trivial⟩,⟨Nat.zero_le _,fun j hj h=>absurd h (Nat.not_lt_zero _),Below.refl _ _⟩,?_⟩
 rintro i w' u ⟨hi,he,hb⟩
 by_cases hlt:i<l.length
 ·refine dt (by omega) ?_
  obtain⟨ad,rfl,hcell⟩:=RowI'.elem (hR.below hb) i hlt
  refine⟨⟨by omega,by omega⟩,?_⟩
  refine⟨_,by rw [Int.toNat_natCast];exact hcell,?_⟩
  refine B4 (B27 l[i] w') ?_
  intro w2 h2
  have hb2:=hb.trans (h2.mono hb.size)
  rcases Bool.eq_false_or_eq_true (A9L l[i]) with hv | hv
  ·refine B0 hv ?_
   refine⟨?_,hb2⟩
   rw [A16 A9L l i hlt hv he]
   rfl
  ·refine C3X hv ?_
   refine⟨i+1,⟨rfl,rfl,rfl,congrArg _ (C3 (by omega)),trivial⟩,⟨hlt,fun j hj h=>?_,hb2⟩,by show l.length-(i+1)<l.length-i;omega⟩
   rcases Nat.lt_succ_iff_lt_or_eq.1 h with h | h
   ·exact he j hj h
   ·subst h;exact hv
 ·refine df (by omega) ?_
  refine⟨?_,hb⟩
  rw [A17 A9L l (fun j hj=>he j hj (by omega))]
  rfl
theorem A2r (l:List Int) (A:Option Addr) (cap:Nat) (S:Nat->Prop) (w:World) (hR:Row S w A l.length cap (A1F l)):
  Calls Tryz.prog 88 #[.slice A l.length cap,.func (.func 89) #[] #[]] w (C8 (.bool (l.any A9L)) w):=by
 refine vE Tryz.func88 ?_
 refine B4 (A6T l A cap S w hR) ?_
 intro w2 h2
 exact⟨B7 (A3m A9L l),h2⟩
theorem B9I {w:World} {g T:Nat} {xs:List Value} (hB:Blk w g T xs) (n:Nat) (hn:n<=maxLen):Row (fun b=>b=g) w (some ⟨g,0,none⟩) n n xs:=
 ⟨Nat.le_refl _,hn,fun _=>⟨_,rfl,rfl,fun j u hu=>by rw [Addr.add_lit,Nat.zero_add,hB.cell];exact hu⟩⟩
theorem B29 (l:List D):l.any B64=!(l.all L3):=by
 induction l with
 | nil=>rfl
 | cons a r ih=>rw [List.any_cons,List.all_cons,ih];unfold B64;cases L3 a<;>rfl
theorem B3A (v:Wd) (hvd:∀ d∈v.deeds,d.Ok) (hvk:∀ e∈v.st.l,X6 e.key) (x:WX) (S:Nat->Prop) (w:World) (hR:WdR v x S w):Calls Tryz.prog 46 #[.agg (wdC v x).toArray] w (C8 (.bool (A51 v)) w):=by
 have hm:E3=1099511627776:=rfl
 have hMd:=D4 hR.1.2
 have hno:(¬ ((1<=v.kind/\v.kind<=11)/\(0<=v.frm/\v.frm<=5)/\(0<=v.to/\v.to<=5)/\v.frm≠v.to/\(0<=v.res.err/\v.res.err<=13)))->A51 v=false:=fun h=>by
  rw [Bool.eq_false_iff]
  intro hh
  obtain⟨a,b,c,d,_,_,_,_,_,e⟩:=J7.1 (Q5.1 hh).1
  exact h ⟨a,b,c,d,e⟩
 refine vE Tryz.func46 ?_
 have hc:=CtxF.start w no (fun _ h=>h.elim) (R:=fun _ _=>True) trivial Stab.true
 refine hc.n fun g1 wg1 hg1 hc=>?_
 refine hc.c 0 rfl rfl ?_
 refine hc.c 0 rfl rfl ?_
 refine hc.c 0 rfl rfl ?_
 refine hc.c 0 rfl rfl ?_
 refine hc.c 0 rfl rfl ?_
 refine hc.n fun g2 wg2 hg2 hc=>?_
 have hi:A1F [v.ep,v.seq,v.req,v.til,v.res.ver]=[.int .i64 v.ep,.int .i64 v.seq,.int .i64 v.req,.int .i64 v.til,.int .i64 v.res.ver]:=rfl
 refine hc.q (A2r [v.ep,v.seq,v.req,v.til,v.res.ver] (some ⟨g2,0,none⟩) 5 (fun b=>b=g2) _ (B9I (hc.blk 0 rfl) 5 (by decide))) fun wQ hQ hc=>?_
 refine hc.c 1 rfl rfl ?_
 by_cases k1:v.kind<1
 ·rw [hno (by omega)]
  refine dt k1 ?_
  exact⟨rfl,hc.below⟩
 refine df k1 ?_
 refine hc.c 1 rfl rfl ?_
 by_cases k2:11<v.kind
 ·rw [hno (by omega)]
  refine dt k2 ?_
  exact⟨rfl,hc.below⟩
 refine df k2 ?_
 refine hc.c 1 rfl rfl ?_
 have hn1:=A7c v.frm
 cases f1:A5N v.frm with
 | false=>
  have f1':¬ (0<=v.frm/\v.frm<=5):=fun h=>by rw [V5.2 h] at f1;cases f1
  rw [f1] at hn1
  rw [hno (by omega)]
  refine hc.q (hn1 _) fun wQ hQ hc=>?_
  exact⟨rfl,hc.below⟩
 | true=>
 have f1':=V5.1 f1
 rw [f1] at hn1
 refine hc.q (hn1 _) fun wQ hQ hc=>?_
 refine hc.c 1 rfl rfl ?_
 have hn2:=A7c v.to
 cases f2:A5N v.to with
 | false=>
  have f2':¬ (0<=v.to/\v.to<=5):=fun h=>by rw [V5.2 h] at f2;cases f2
  rw [f2] at hn2
  rw [hno (by omega)]
  refine hc.q (hn2 _) fun wQ hQ hc=>?_
  exact⟨rfl,hc.below⟩
 | true=>
 have f2':=V5.1 f2
 rw [f2] at hn2
 refine hc.q (hn2 _) fun wQ hQ hc=>?_
 refine hc.c 1 rfl rfl ?_
 refine hc.c 1 rfl rfl ?_
 by_cases e1:v.frm=v.to
 ·rw [hno (fun h=>h.2.2.2.1 e1)]
  refine B0 (by show (v.frm==v.to)=true;rw [beq_iff_eq];exact e1) ?_
  exact⟨rfl,hc.below⟩
 refine C3X (by show (v.frm==v.to)=false;rw [beq_eq_false_iff_ne];exact e1) ?_
 cases hb:[v.ep,v.seq,v.req,v.til,v.res.ver].any A9L with
 | true=>
  have hx:A51 v=false:=by
   rw [Bool.eq_false_iff]
   intro hh
   obtain⟨_,_,_,_,a,b,c,d,e,_⟩:=J7.1 (Q5.1 hh).1
   simp only [List.any_cons,List.any_nil,Bool.or_false,Bool.or_eq_true,A9L,Bool.not_eq_true'] at hb
   rcases hb with hb | hb | hb | hb | hb
   ·rw [I8.2 a] at hb;cases hb
   ·rw [I8.2 b] at hb;cases hb
   ·rw [I8.2 c] at hb;cases hb
   ·rw [I8.2 d] at hb;cases hb
   ·rw [I8.2 e] at hb;cases hb
  rw [hx]
  exact⟨rfl,hc.below⟩
 | false=>
 refine hc.c 1 rfl rfl ?_
 by_cases r1:v.res.err<0
 ·rw [hno (by omega)]
  refine dt r1 ?_
  exact⟨rfl,hc.below⟩
 refine df r1 ?_
 refine hc.c 1 rfl rfl ?_
 by_cases r2:13<v.res.err
 ·rw [hno (by omega)]
  refine dt r2 ?_
  exact⟨rfl,hc.below⟩
 refine df r2 ?_
 have hhead:B0r v=true:=by
  simp only [List.any_cons,List.any_nil,Bool.or_false,Bool.or_eq_false_iff,A9L,Bool.not_eq_false'] at hb
  obtain⟨a,b,c,d,e⟩:=hb
  exact J7.2 ⟨by omega,f1',f2',e1,I8.1 a,I8.1 b,I8.1 c,I8.1 d,I8.1 e,by omega⟩
 unfold A51
 rw [hhead,Bool.true_and]
 refine⟨R9 v.ros x.A x.cA,rfl,hc.cellsAt 1 rfl 9 (R9 v.ros x.A x.cA) rfl,?_⟩
 have hq2:Calls Tryz.prog 90 [Value.agg (R9 v.ros x.A x.cA).toArray,Value.agg #[.int .i64 0,.slice none 0 0,.int .i64 0]].toArray wQ (C8 (.bool (eqR v.ros Ros0)) wQ):=B5Z (RosR.below hR.1.1 hc.below) (Ros0.rep no wQ)
 refine hc.q (hq2) fun wQ hQ hc=>?_
 refine hc.c 1 rfl rfl ?_
 refine hc.q (A5R B64 91 (by kernel_rfl) B28 v.deeds hvd x.B x.cB S _ (hR.1.2.below hc.below)) fun wQ hQ hc=>?_
 rw [B29]
 cases hq:eqR v.ros Ros0 with
 | true=>
  rw [Bool.true_or,Bool.true_and]
  refine hc.c 1 rfl rfl ?_
  by_cases h60:v.deeds.length<=60
  rotate_left
  ·rw [decide_eq_false h60]
   refine df (by omega) ?_
   exact⟨rfl,hc.below⟩
  rw [decide_eq_true h60]
  refine dt (by omega) ?_
  cases hall:v.deeds.all L3 with
  | false=>exact⟨rfl,hc.below⟩
  | true=>
  refine⟨stX v.st x.y,rfl,hc.cellsAt 1 rfl 13 (stX v.st x.y) rfl,?_⟩
  refine hc.q (A3h v.st hvk (stX v.st x.y) S _ (hR.2.below hc.below)) fun wQ hQ hc=>?_
  exact⟨rfl,hc.below⟩
 | false=>
  rw [Bool.false_or]
  refine⟨R9 v.ros x.A x.cA,rfl,hc.cellsAt 1 rfl 9 (R9 v.ros x.A x.cA) rfl,?_⟩
  have hmr:=B0x (r:=v.ros) (A:=x.A) (cap:=x.cA) (S:=S) (w:=wQ) (RosR.below hR.1.1 hc.below)
  cases hmr2:A6R v.ros with
  | false=>
   rw [hmr2] at hmr
   refine hc.q (hmr) fun wQ hQ hc=>?_
   exact⟨rfl,hc.below⟩
  | true=>
  rw [hmr2] at hmr
  refine hc.q (hmr) fun wQ hQ hc=>?_
  rw [Bool.true_and]
  refine hc.c 1 rfl rfl ?_
  by_cases h60:v.deeds.length<=60
  rotate_left
  ·rw [decide_eq_false h60]
   refine df (by omega) ?_
   exact⟨rfl,hc.below⟩
  rw [decide_eq_true h60]
  refine dt (by omega) ?_
  cases hall:v.deeds.all L3 with
  | false=>exact⟨rfl,hc.below⟩
  | true=>
  refine⟨stX v.st x.y,rfl,hc.cellsAt 1 rfl 13 (stX v.st x.y) rfl,?_⟩
  refine hc.q (A3h v.st hvk (stX v.st x.y) S _ (hR.2.below hc.below)) fun wQ hQ hc=>?_
  exact⟨rfl,hc.below⟩
def C1a (r:Ros):Ros:=⟨r.ep,r.l.take 7,r.new⟩
def C3I (q:Ros) (w:World) (en:Ending) (w':World):Prop:=∃ A c,en=.returned (.agg (R9 q A c).toArray)/\Below w.heap.size w w'/\w'.ownsRow w.heap.size 3 1 (.slice A q.l.length c) q.l.length (A1F q.l)
theorem C3T (n:Nat):(if (7:Int)<(n:Int) then (7:Int) else (n:Int))=((min n 7:Nat):Int):=by split<;>omega
theorem C1i {r:Ros} {A:Option Addr} {cap:Nat} {S:Nat->Prop} {w:World} (hR:RosR r A cap S w):Calls Tryz.prog 75 #[.agg (R9 r A cap).toArray] w (C3I (C1a r) w):=by
 have hnc:=hR.1
 have hMx:=D4 hR
 have hm:=C3T r.l.length
 refine vE Tryz.func75 ?_
 have hc:=CtxF.start w no (fun _ h=>h.elim) (R:=fun _ _=>True) trivial Stab.true
 refine hc.n fun g1 wg1 hg1 hc=>?_
 refine hc.n fun g2 wg2 hg2 hc=>?_
 refine hc.c 1 rfl rfl ?_
 refine hc.c 1 rfl rfl ?_
 refine⟨⟨Int.le_refl _,by rw [hm];omega,by rw [hm];omega,Int.le_refl _⟩,?_⟩
 have hc:=hc.nil 3 1
 obtain⟨l,hl⟩:∃ l,l=r.l.take 7:=⟨_,rfl⟩
 have hll:min r.l.length 7=l.length:=by rw [hl,List.length_take];omega
 have hfr:Row S w A l.length cap (A1F l):=by
  have:=Row.front (show Row S w A r.l.length cap (r.l.map iC).flatten from hR) 1 (k:=l.length) (by omega)
  rwa [<-(B0s _).flat_take,<-List.map_take,show r.l.take l.length=l by rw [hl,List.length_take,Nat.min_comm];exact (List.take_eq_take_iff.2 (by omega))] at this
 refine A1O Tryz.underlying29 B60 rfl (by decide) hc (Row.below hfr hc.below) (by rw [C2I,Nat.mul_one]) (B0s l).ones (by omega) (by decide) rfl ?_ ?_
 ·show Value.slice (if (cap:Int)=0 then A else A.map (·.add ((0:Int).toNat*1))) ((if (7:Int)<(r.l.length:Int) then (7:Int) else (r.l.length:Int))-0).toNat ((cap:Int)-0).toNat=_
  rw [W2,hm,hll]
  congr 1<;>omega
 intro A1 cap1 w7 hc
 rw [Nat.zero_add l.length] at hc ⊢
 refine hc.s 1 rfl fun wS hS hc=>?_
 refine hc.a 1 rfl rfl ?_
 refine hc.s 0 rfl fun wS hS hc=>?_
 refine hc.a 0 rfl rfl ?_
 have e:C1a r=⟨r.ep,l,r.new⟩:=by unfold C1a;rw [<-hl]
 rw [e]
 exact⟨A1,cap1,rfl,hc.below,hc.fst.row⟩
end Go.Proofs.YtefdfaeieekioaaGreatDoor
namespace Go.Proofs.YtefdfaeieekioaaGreatDoor
open Go.Vc Go.RowKit Go.Fl
structure Sh where
 tot:Int
 first:ByteArray
 base:Known
 l:List Rc
 np:Nat
 kept:Bool
 down:Bool
def Sh.texts (H:Sh):List ByteArray:=H.first::H.l.map Q3
def Sh.txt (H:Sh):List UInt8:=D6 H.texts
def Sh.room (H:Sh):Int:=H.tot-H.txt.length
def Sh.k (H:Sh):Known:=A8V H.base H.l
def Sh.scr (H:Sh):Scroll:=⟨⟨H.txt.toArray⟩,((D6 (H.texts.take (1+H.np))).length:Nat),H.kept⟩
structure Sh.Ok (H:Sh):Prop where
 first:FirstOk H.first H.base
 can:Can H.base H.l
 np:H.np<=H.l.length
 tot:H.tot<=1048576
 room:0<=H.room
theorem Sh.Ok.k {H:Sh} (h:H.Ok):H.k.Ok:=Can.ok h.first.ok h.can
theorem Sh.Ok.size {H:Sh} (h:H.Ok):(H.txt.length:Int)<=1048576:=by
 have h1:=h.tot
 have h2:=h.room
 unfold Sh.room at h2
 omega
theorem Sh.Ok.sizes {H:Sh} (h:H.Ok):∀ x∈H.texts,x.size<=400000:=fun x hx=>by
 cases hx with
 | head=>have:=h.first.size;omega
 | tail _ hx=>
  obtain⟨r,hr,rfl⟩:=List.mem_map.1 hx
  have:=A0N (Can.mem h.can r hr)
  omega
theorem A05 (l:List ByteArray) (s:ByteArray):D6 (l++[s])=D6 l++J2 s:=by
 rw [Y4]
 show _++(J2 s++[])=_
 rw [List.append_nil]
def E9 (s:ByteArray):Int:=((J2 s).length:Nat)
theorem A3u (s:ByteArray) (h:s.size<=400000):10<=E9 s/\E9 s<=s.size+17:=by
 have h1:=A3q s h
 have h2:=M2 s (by omega)
 unfold E9
 rw [A0M s h,List.length_append,Q2] at*
 omega
def Sh.write (H:Sh) (r:Rc) (press:Bool):Sh:=⟨H.tot,H.first,H.base,H.l++[r],if press then H.l.length+1 else H.np,H.kept||press,H.down⟩
def Sh.fell (H:Sh):Sh:=⟨H.tot,H.first,H.base,H.l,H.np,H.kept,true⟩
theorem Sh.write_texts (H:Sh) (r:Rc) (p:Bool):(H.write r p).texts=H.texts++[Q3 r]:=by
 show H.first::(H.l++[r]).map Q3=H.first::H.l.map Q3++[Q3 r]
 rw [List.map_append]
 rfl
theorem Sh.write_txt (H:Sh) (r:Rc) (p:Bool):(H.write r p).txt=H.txt++J2 (Q3 r):=by
 unfold Sh.txt
 rw [Sh.write_texts,A05]
theorem Sh.write_room (H:Sh) (r:Rc) (p:Bool):(H.write r p).room=H.room-E9 (Q3 r):=by
 unfold Sh.room E9
 rw [Sh.write_txt,List.length_append]
 show H.tot-_=_
 omega
theorem Sh.write_k (H:Sh) (r:Rc) (p:Bool):(H.write r p).k=A0O H.k r:=A8W _ _ _
theorem Sh.Ok.write {H:Sh} (h:H.Ok) {r:Rc} (hr:r.Ok) (hc:B2B H.k r) (p:Bool) (hroom:E9 (Q3 r)<=H.room):(H.write r p).Ok:=by
 refine⟨h.first,Can.snoc h.can hr hc,?_,h.tot,?_⟩
 ·have:=h.np
  show (if p then H.l.length+1 else H.np)<=(H.l++[r]).length
  rw [List.length_append]
  simp only [List.length_cons,List.length_nil]
  split<;>omega
 ·rw [Sh.write_room]
  omega
theorem Sh.Ok.fell {H:Sh} (h:H.Ok):H.fell.Ok:=⟨h.first,h.can,h.np,h.tot,h.room⟩
theorem Sh.write_pressed {H:Sh} (h:H.Ok) (r:Rc) (p:Bool):((H.write r p).scr).pressed=if p then ((H.txt++J2 (Q3 r)).length:Int) else H.scr.pressed:=by
 show ((D6 ((H.write r p).texts.take (1+if p then H.l.length+1 else H.np))).length:Int)=_
 rw [Sh.write_texts]
 have hlen:H.texts.length=H.l.length+1:=by
  show (H.first::H.l.map Q3).length=_
  rw [List.length_cons,List.length_map]
 cases p with
 | true=>
  rw [if_pos rfl,if_pos rfl,List.take_of_length_le (by rw [List.length_append,hlen];simp only [List.length_cons,List.length_nil];omega),A05]
  rfl
 | false=>
  have:=h.np
  rw [if_neg (by decide),if_neg (by decide),List.take_append_of_le_length (by omega)]
  rfl
def Sh.lay (H:Sh) (k:Known):Sh:=⟨H.tot,⟨(A6P k).toArray⟩,k,[],0,true,H.down⟩
end Go.Proofs.YtefdfaeieekioaaGreatDoor
section
namespace Go.Vc
open Go Go.RowKit
open Go.Proofs.YtefdfaeieekioaaGreatDoor (no)
def In (G:Nat->Prop) (R:Kn):Kn:=fun S w=>∃ Sr:Nat->Prop,(∀ x,Sr x->S x/\G x)/\R Sr w
theorem In.stab {G:Nat->Prop} {R:Kn} (hR:Stab R):Stab (In G R):=fun S w S' w' h f=>by
 obtain⟨Sr,h1,h2⟩:=h
 exact⟨Sr,fun x hx=>⟨f.1 x (h1 x hx).1,(h1 x hx).2⟩,hR _ _ _ _ h2 ⟨fun _ h=>h,fun x hx=>f.2 x (h1 x hx).1⟩⟩
def B9J (S:Nat->Prop) (w:World):Nat->Prop:=fun x=>S x\/w.heap.size<=x
def KL (w:World) (g:Nat) (S:Nat->Prop) (R:Kn):Kn:=fun S' w'=>Keep w (fun x=>x=g) S' w'/\In (B9J S w) R S' w'
theorem KL.stab {w:World} {g:Nat} {S:Nat->Prop} {R:Kn} (hR:Stab R):Stab (KL w g S R):=(Keep.stab _ _).and (In.stab hR)
section
variable {w w1 w':World} {S S1:Nat->Prop} {l:List LB} {os:List OR} {R:Kn} {g T:Nat} {cs cs':List Value}
theorem CtxF.enterL (hB:Blk w g T cs) (hS:∀ x,S x->x<w.heap.size/\x≠g) (hR:R S w) (hs:Stab R):CtxF no (bare w) (fun x=>x<w.heap.size/\x≠g) w [(g,T,cs)] [] (KL w g S R):=
 CtxF.enter (fun x hx=>hx.1) ⟨Nat.zero_le _,fun h=>h.2 rfl,hB,(fun x hx=>by cases hx),trivial⟩ trivial ⟨fun x hx hn=>⟨⟨hx,hn⟩,rfl⟩,S,fun x hx=>⟨hS x hx,.inl hx⟩,hR⟩ (KL.stab hs)
theorem CtxF.sizeL (hc:CtxF no (bare w) S1 w1 l os (KL w g S R)) (k:Nat) (hk:l[k]?=some (g,T,cs)):w.heap.size<=w1.heap.size:=by
 have hB:=(hc.blk k hk).lt
 by_cases e:g=w.heap.size-1
 ·omega
 ·rcases Nat.eq_zero_or_pos w.heap.size with h0 | h0
  ·omega
  ·have:=heap_lt (hc.row.1 (w.heap.size-1) (by omega) (fun h=>e h.symm)).2 (by omega)
   omega
theorem CtxF.inL (hc:CtxF no (bare w) S1 w1 l os (KL w g S R)) (hs:Stab R) (k:Nat) (hk:l[k]?=some (g,T,cs)):
  ∃ Sr:Nat->Prop,R Sr w1/\(∀ x,Sr x->S1 x)/\∀ {w':World} {l':List LB} {R':Kn} {os':List OR} {E:Nat->Prop},CtxF no (bare w) E w' l' os' R'/\Fut S1 w1 E w'->(∀ x,ext Sr w1 w' x->E x\/∃ o∈os',∃ a,o.A=some a/\a.block=x)->∀ {X:Kn},Stab X->X (fun x=>ext Sr w1 w' x/\E x) w'->CtxF no (bare w) E w' l' os' (KL w g S (fun S w=>R S w/\X S w)):=by
 have hsz:=hc.sizeL k hk
 obtain⟨hk1,Sr,h1,h2⟩:=hc.row
 refine⟨Sr,h2,fun x hx=>(h1 x hx).1,fun {w' l' R' os' E} hh hE {X} hX hx=>?_⟩
 obtain⟨hc',hf⟩:=hh
 refine hc'.now (fun _=>⟨Keep.stab _ _ _ _ _ _ hk1 hf,fun x=>ext Sr w1 w' x/\E x,fun x hx=>⟨hx.2,?_⟩,hs _ _ _ _ h2 ⟨fun x hx=>⟨.inl hx,hf.1 x (h1 x hx).1⟩,fun x hx=>hf.2 x (h1 x hx).1⟩,hx⟩) (KL.stab (hs.and hX))
 rcases hx.1 with h | h
 ·exact (h1 x h).2
 ·exact .inr (Nat.le_trans hsz h.1)
theorem CtxF.nowL {R':Kn} (hc:CtxF no (bare w) S1 w1 l os (KL w g S R)) (h:∀ S w,R S w->R' S w) (hs:Stab R'):CtxF no (bare w) S1 w1 l os (KL w g S R'):=
 hc.now (fun ⟨h1,Sr,h2,h3⟩=>⟨h1,Sr,h2,h _ _ h3⟩) (KL.stab hs)
theorem CtxF.toldL {o:OR} (hc:CtxF no (bare w) S1 w1 l (o::os) (KL w g S R)) (hs:Stab R) (k:Nat) (hk:l[k]?=some (g,T,cs)):∃ S2,CtxF no (bare w) S2 w1 l os (KL w g S (fun S w=>R S w/\Row S w o.A o.n o.cap o.xs)):=by
 have hnew:∀ a,o.A=some a->w.heap.size<=a.block:=fun a ha=>by
  rcases Nat.lt_or_ge a.block w.heap.size with h | h
  ·have h1:=hc.fst.out a ha
   have h2:=h1.2 _ (List.mem_of_getElem? hk)
   exact absurd (hc.row.1 a.block h (fun e=>h2 e.symm)).1 h1.1
  ·exact h
 obtain⟨S2,h2,hc2⟩:=hc.told
 refine⟨S2,hc2.now (fun hh=>?_) (KL.stab (hs.and fun _ _ _ _ h f=>h.fut f))⟩
 obtain⟨⟨hk1,Sr,j1,j2⟩,hR1,hR2,hR3⟩:=hh
 refine⟨hk1,fun x=>Sr x\/(S2 x/\∃ a,o.A=some a/\a.block=x),fun x hx=>?_,hs _ _ _ _ j2 ⟨fun x hx=>.inl hx,fun _ _=>rfl⟩,hR1,hR2,fun hx=>?_⟩
 ·rcases hx with hx | ⟨hx,a,ha,rfl⟩
  ·exact j1 x hx
  ·exact⟨hx,.inr (hnew a ha)⟩
 ·obtain⟨ad,e,hsa,hcl⟩:=hR3 hx
  exact⟨ad,e,.inr ⟨hsa,ad,e,rfl⟩,hcl⟩
theorem CtxF.leaveL (hc:CtxF no (bare w) S1 w' [(g,T,cs')] os (KL w g S R)) (hs:Stab R):Turn (fun x=>x=g) w w'/\Blk w' g T cs'/\∃ Sr:Nat->Prop,(∀ x,Sr x->S1 x/\ext S w w' x)/\R Sr w':=by
 obtain⟨hk1,Sr,h1,h2⟩:=hc.row
 refine⟨hc.leave hk1,hc.blk 0 rfl,Sr,fun x hx=>⟨(h1 x hx).1,?_⟩,h2⟩
 rcases (h1 x hx).2 with h | h
 ·exact .inl h
 ·exact .inr ⟨h,hc.ctx.lt x (h1 x hx).1⟩
end
end Go.Vc
namespace Go.Proofs.YtefdfaeieekioaaGreatDoor
open Go.Vc Go.RowKit Go.Fl Go.ChangeShapes Go.WideShapes Go.ChangeAt
def knC (k:Known) (x:SX) (A:Option Addr) (cap:Nat):List Value:=[.int .i64 k.b.seq,.slice x.A k.b.l.length x.cap,.slice x.B k.b.ms.length x.cap',.int .i64 x.l0,.int .i64 x.l1,.int .i64 x.l2,.int .i64 x.l3,.int .i64 x.l4,.slice A k.pend.length cap,.int .i64 k.ep,.int .i64 k.ln]
def KnR (k:Known) (x:SX) (A:Option Addr) (cap:Nat):Kn:=fun S w=>RepS S w k.b (stX k.b x)/\Row S w A k.pend.length cap (k.pend.map dC).flatten
theorem KnR.stab (k:Known) (x:SX) (A:Option Addr) (cap:Nat):Stab (KnR k x A cap):=(A7S _ _).and fun _ _ _ _ h f=>h.fut f
theorem A3v (k:Known) (h:k.Ok) (x:SX) (A:Option Addr) (cap:Nat) (w:World):Calls Tryz.prog 53 #[.agg (knC k x A cap).toArray] w (C8 (.int .i64 k.seq) w):=by
 have hs:=h.seq
 have hl:=h.len
 have h0:=(C5.1 h.may).1.1
 have hm:E3=1099511627776:=rfl
 refine vE Tryz.func53 ?_
 have hc:=CtxF.start w no (fun _ h=>h.elim) (R:=fun _ _=>True) trivial Stab.true
 refine hc.n fun g1 wg1 hg1 hc=>?_
 refine hc.c 0 rfl rfl ?_
 refine hc.c 0 rfl rfl ?_
 refine⟨?_,hc.below⟩
 show Ending.returned (.int .i64 (IntKind.i64.wrap (k.b.seq+(k.pend.length:Int))))=_
 rw [IntWalk.i64_in _ ⟨by omega,by omega⟩]
 rfl
def RetKn (g T:Nat) (wrap:List Value->List Value) (S:Nat->Prop) (w:World) (v:Value) (k:Known) (en:Ending) (w':World):Prop:=
 en=.returned v/\Turn (fun x=>x=g) w w'/\∃ x A cap,Blk w' g T (wrap (knC k x A cap))/\KnR k x A cap (ext S w w') w'
theorem RetKn.mk {g T:Nat} {wrap:List Value->List Value} {S S1:Nat->Prop} {w w':World} {k:Known} {x:SX} {A:Option Addr} {cap:Nat} {cs:List Value} {os:List OR} (hc:CtxF no (bare w) S1 w' [(g,T,cs)] os (KL w g S (KnR k x A cap))) (e:cs=wrap (knC k x A cap)) (v:Value):RetKn g T wrap S w v k (.returned v) w':=by
 obtain⟨h1,h2,Sr,h3,h4⟩:=hc.leaveL (KnR.stab _ _ _ _)
 subst e
 exact⟨rfl,h1,x,A,cap,h2,KnR.stab _ _ _ _ _ _ _ _ h4 ⟨fun x hx=>(h3 x hx).2,fun _ _=>rfl⟩⟩
def U1 (k:Known) (d:D):Int:=if L3 d then (if 60<=k.pend.length\/E3<=k.seq then 5 else 0) else 1
def B5a (k:Known) (d:D):Known:=if U1 k d=0 then ⟨k.b,k.pend++[d],k.ep,k.ln⟩ else k
theorem B0z (k:Known) (h:k.Ok) (d:D) (hd:d.Ok) (x:SX) (A:Option Addr) (cap g:Nat) (S:Nat->Prop) (w:World) (hB:Blk w g 90 (knC k x A cap)) (hS:∀ x,S x->x<w.heap.size/\x≠g) (hR:KnR k x A cap S w):
  Calls Tryz.prog 65 #[.pointer (some ⟨g,0,none⟩),.agg (dC d).toArray] w (RetKn g 90 id S w (.int .i64 (U1 k d)) (B5a k d)):=by
 obtain⟨e,he⟩:∃ e,e=U1 k d:=⟨_,rfl⟩
 obtain⟨k',hk'⟩:∃ k',k'=B5a k d:=⟨_,rfl⟩
 unfold B5a at hk'
 rw [<-he] at hk'
 rw [<-he,show B5a k d=k' from by rw [hk',he];rfl]
 unfold U1 at he
 have hc:=CtxF.enterL hB hS hR (KnR.stab _ _ _ _)
 refine vE Tryz.func65 ?_
 refine hc.n fun g3 wg3 hg3 hc=>?_
 refine hc.a 0 rfl rfl ?_
 refine hc.q (A3X d hd _) fun wQ hQ hc=>?_
 cases hm:L3 d with
 | false=>
  rw [hm,if_neg (by decide)] at he
  rw [he,if_neg (by decide)] at hk'
  subst he hk'
  exact RetKn.mk hc.drop rfl _
 | true=>
 rw [hm,if_pos rfl] at he
 refine hc.c 1 rfl rfl ?_
 by_cases h60:60<=k.pend.length
 ·rw [if_pos (.inl h60)] at he
  rw [he,if_neg (by decide)] at hk'
  subst he hk'
  refine dt (by omega) ?_
  exact RetKn.mk hc.drop rfl _
 refine df (by omega) ?_
 refine hc.a 1 rfl rfl ?_
 refine hc.q (A3v k h x A cap _) fun wQ hQ hc=>?_
 by_cases hsq:E3<=k.seq
 ·rw [if_pos (.inr hsq)] at he
  rw [he,if_neg (by decide)] at hk'
  subst he hk'
  refine dt hsq ?_
  exact RetKn.mk hc.drop rfl _
 refine df hsq ?_
 rw [if_neg (fun h=>h.elim h60 hsq)] at he
 rw [he,if_pos rfl] at hk'
 subst he hk'
 refine vD (.Q [0,1,2,3,6] (.n 4 (.n 5 (.n 7 (.n 8 (.Q [9,10] (.n 11 .fin .stop)) .stop) .stop) (.n 7 (.n 5 (.n 8 (.Q [9,10] (.n 11 .fin .stop)) .stop) .stop) .stop)) (.n 7 (.n 4 (.n 5 (.n 8 (.Q [9,10] (.n 11 .fin .stop)) .stop) .stop) .stop) .stop))) (fun z=>Blk z g3 45 (dC d)) (hc.blk 0 rfl) ?_
 have hc:=hc.drew
 refine⟨dC d,rfl,fun z hz=>B5 hz 0 _ 0 (fun j v hj=>by simpa using hj),?_⟩
 refine⟨?_,?_⟩
 ·skip
  refine⟨_,hc.cell 1 rfl _ rfl,(hc.blk 0 rfl),?_⟩
  refine⟨?_,?_⟩
  ·skip
   obtain⟨Sr,hR1,hSr,hin⟩:=hc.inL (KnR.stab _ _ _ _) 1 rfl
   refine⟨(W3 A k.pend.length cap _ (V4 _) (List.length_map _) (by have:=h.len;omega) Sr _ hR1.2).mono fun en wq hq=>?_⟩
   obtain⟨A2,cap2,e1,hb,ho⟩:=hq
   have hc:=hc.fresh hb ho
   refine⟨_,e1,(hc.blk 0 rfl),?_⟩
   refine⟨hc.n fun gv wgv hgv hc=>?_,trivial⟩
   refine⟨(hc.blk 1 rfl),?_⟩
   refine⟨K4 (m:=1) Tryz.underlying22 A7Y rfl (by decide) hc (by rfl) (hc.cells 0 rfl) rfl (by have:=h.len;show k.pend.length+1<=_;omega) (by decide) rfl rfl ?_,trivial⟩
   intro A3 cap3 w3 hc
   refine⟨(hc.blk 1 rfl),?_⟩
   refine⟨hc.s 2 rfl fun wS hS hc=>?_,trivial⟩
   refine⟨(hc.blk 1 rfl),?_⟩
   obtain⟨S2,hc⟩:=hc.toldL (KnR.stab _ _ _ _) 2 rfl
   have hc:=(hc.nowL (R':=KnR ⟨k.b,k.pend++[d],k.ep,k.ln⟩ x A3 cap3) (fun S w h=>⟨h.1.1,by
    have e1:((k.pend++[d]).map dC).flatten=(k.pend.map dC).flatten++dC d:=by simp
    have e2:(k.pend++[d]).length=k.pend.length+1:=by simp
    show Row S w A3 (k.pend++[d]).length cap3 ((k.pend++[d]).map dC).flatten
    rw [e1,e2]
    exact h.2⟩) (KnR.stab _ _ _ _)).drop.drop
   refine RetKn.mk hc ?_ _
   show _=knC ⟨k.b,k.pend++[d],k.ep,k.ln⟩ x A3 cap3
   unfold knC
   rw [show (k.pend++[d]).length=k.pend.length+1 from by simp]
   rfl
  refine⟨hc.n fun gv wgv hgv hc=>?_,trivial⟩
  refine⟨(hc.blk 1 rfl),?_⟩
  refine⟨?_,trivial⟩
  obtain⟨Sr,hR1,hSr,hin⟩:=hc.inL (KnR.stab _ _ _ _) 2 rfl
  refine⟨(W3 A k.pend.length cap _ (V4 _) (List.length_map _) (by have:=h.len;omega) Sr _ hR1.2).mono fun en wq hq=>?_⟩
  obtain⟨A2,cap2,e1,hb,ho⟩:=hq
  have hc:=hc.fresh hb ho
  refine⟨_,e1,(hc.blk 1 rfl),?_⟩
  refine⟨K4 (m:=1) Tryz.underlying22 A7Y rfl (by decide) hc (by rfl) (hc.cells 0 rfl) rfl (by have:=h.len;show k.pend.length+1<=_;omega) (by decide) rfl rfl ?_,trivial⟩
  intro A3 cap3 w3 hc
  refine⟨(hc.blk 1 rfl),?_⟩
  refine⟨hc.s 2 rfl fun wS hS hc=>?_,trivial⟩
  refine⟨(hc.blk 1 rfl),?_⟩
  obtain⟨S2,hc⟩:=hc.toldL (KnR.stab _ _ _ _) 2 rfl
  have hc:=(hc.nowL (R':=KnR ⟨k.b,k.pend++[d],k.ep,k.ln⟩ x A3 cap3) (fun S w h=>⟨h.1.1,by
   have e1:((k.pend++[d]).map dC).flatten=(k.pend.map dC).flatten++dC d:=by simp
   have e2:(k.pend++[d]).length=k.pend.length+1:=by simp
   show Row S w A3 (k.pend++[d]).length cap3 ((k.pend++[d]).map dC).flatten
   rw [e1,e2]
   exact h.2⟩) (KnR.stab _ _ _ _)).drop.drop
  refine RetKn.mk hc ?_ _
  show _=knC ⟨k.b,k.pend++[d],k.ep,k.ln⟩ x A3 cap3
  unfold knC
  rw [show (k.pend++[d]).length=k.pend.length+1 from by simp]
  rfl
 refine⟨hc.n fun gv wgv hgv hc=>?_,trivial⟩
 refine⟨(hc.blk 1 rfl),?_⟩
 refine⟨⟨_,hc.cell 2 rfl _ rfl,(hc.blk 1 rfl),?_⟩,trivial⟩
 refine⟨?_,trivial⟩
 obtain⟨Sr,hR1,hSr,hin⟩:=hc.inL (KnR.stab _ _ _ _) 2 rfl
 refine⟨(W3 A k.pend.length cap _ (V4 _) (List.length_map _) (by have:=h.len;omega) Sr _ hR1.2).mono fun en wq hq=>?_⟩
 obtain⟨A2,cap2,e1,hb,ho⟩:=hq
 have hc:=hc.fresh hb ho
 refine⟨_,e1,(hc.blk 1 rfl),?_⟩
 refine⟨K4 (m:=1) Tryz.underlying22 A7Y rfl (by decide) hc (by rfl) (hc.cells 0 rfl) rfl (by have:=h.len;show k.pend.length+1<=_;omega) (by decide) rfl rfl ?_,trivial⟩
 intro A3 cap3 w3 hc
 refine⟨(hc.blk 1 rfl),?_⟩
 refine⟨hc.s 2 rfl fun wS hS hc=>?_,trivial⟩
 refine⟨(hc.blk 1 rfl),?_⟩
 obtain⟨S2,hc⟩:=hc.toldL (KnR.stab _ _ _ _) 2 rfl
 have hc:=(hc.nowL (R':=KnR ⟨k.b,k.pend++[d],k.ep,k.ln⟩ x A3 cap3) (fun S w h=>⟨h.1.1,by
  have e1:((k.pend++[d]).map dC).flatten=(k.pend.map dC).flatten++dC d:=by simp
  have e2:(k.pend++[d]).length=k.pend.length+1:=by simp
  show Row S w A3 (k.pend++[d]).length cap3 ((k.pend++[d]).map dC).flatten
  rw [e1,e2]
  exact h.2⟩) (KnR.stab _ _ _ _)).drop.drop
 refine RetKn.mk hc ?_ _
 show _=knC ⟨k.b,k.pend++[d],k.ep,k.ln⟩ x A3 cap3
 unfold knC
 rw [show (k.pend++[d]).length=k.pend.length+1 from by simp]
 rfl
end Go.Proofs.YtefdfaeieekioaaGreatDoor
end
namespace Go.Proofs.YtefdfaeieekioaaGreatDoor
open Go.Vc Go.RowKit Go.Fl Go.ChangeShapes Go.WideShapes Go.ChangeAt
theorem M3 (n:Int) (w:World):Calls Tryz.prog 119 #[.int .i64 n] w (C8 (.agg #[.int .i64 1,.int .i64 n,.string ⟨#[]⟩,.slice none 0 0]) w):=by
 refine vE Tryz.func119 ?_
 have hc:=Ctx.start w no (fun _ h=>h.elim)
 refine hc.n fun gA wgA hgA hc=>?_
 refine hc.s 0 rfl fun wS hS hc=>?_
 refine hc.a 0 rfl rfl ?_
 exact⟨rfl,hc.below⟩
theorem K5 (A:Option Addr) (n cap:Nat) (w:World):Calls Tryz.prog 118 #[.slice A n cap] w (C8 (.agg #[.int .i64 3,.int .i64 0,.string ⟨#[]⟩,.slice A n cap]) w):=by
 refine vE Tryz.func118 ?_
 have hc:=Ctx.start w no (fun _ h=>h.elim)
 refine hc.n fun gA wgA hgA hc=>?_
 refine hc.s 0 rfl fun wS hS hc=>?_
 refine hc.a 0 rfl rfl ?_
 exact⟨rfl,hc.below⟩
def B65 (k:Known) (w:World) (en:Ending) (w':World):Prop:=∃ x A cap,en=.returned (.tuple #[.agg (knC k x A cap).toArray,.bool true])/\Below w.heap.size w w'/\KnR k x A cap (ext no w w') w'
def B8L (p:Value) (dn:Bool) (cs:List Value):List Value:=p::(cs++[.bool dn])
def X8 (r:Res):List Value:=[.int .i64 r.err,.int .i64 r.ver]
theorem _root_.Go.Vc.CtxF.castL {S0 S:Nat->Prop} {w0 w:World} {g T:Nat} {cs cs':List Value} {l:List LB} {os:List OR} {R:Kn} (hc:CtxF S0 w0 S w ((g,T,cs)::l) os R) (e:cs=cs'):CtxF S0 w0 S w ((g,T,cs')::l) os R:=e▸hc
theorem B5c {k:Known} {d:D} (hr:(Rc.add d).Ok) (hc:B2B k (.add d)):U1 k d=0/\B5a k d=A0O k (.add d):=by
 have e:U1 k d=0:=by
  unfold U1
  rw [if_pos hr.1,if_neg (fun h=>by
   have:=hc.1
   have:=hc.2
   rcases h with h | h<;>omega)]
 refine⟨e,?_⟩
 unfold B5a
 rw [if_pos e]
 rfl
structure Jour where
 C:Chest
 first:ByteArray
 recs:List ByteArray
 down:Bool
def A3w (gc:Nat) (first:ByteArray) (A:Option Addr) (n cap:Nat) (down:Bool):List Value:=[.pointer (some ⟨gc,0,none⟩),.string first,.slice A n cap,.bool down]
def JourK (gj gc b:Nat) (J:Jour):Kn:=fun S w=>∃ A cap,ObjK gj 159 (A3w gc J.first A J.recs.length cap J.down) (RecK 9 A J.recs.length cap (J.recs.map Value.string)) (ChestK gc b J.C) S w
theorem JourK.stab (gj gc b:Nat) (J:Jour):Stab (JourK gj gc b J):=fun S w S' w' h f=>by
 obtain⟨A,cap,h⟩:=h
 exact⟨A,cap,ObjK.stab (RecK.stab _ _ _ _ _) (ChestK.stab _ _ _) _ _ _ _ h f⟩
theorem JourK.leave {gj gc b n cap:Nat} {first:ByteArray} {A:Option Addr} {down:Bool} {recs:List ByteArray} {C:Chest} {xs:List Value} {Sx S:Nat->Prop} {w w':World}
  (hc:CtxF no (bare w) S w' [(gj,159,A3w gc first A n cap down)] [] (Sep 0 (Sep 0 (Keep w Sx) (RecK 9 A n cap xs)) (ChestK gc b C))) (hx:xs=recs.map Value.string) (hn:n=recs.length) (v:Value):RetOb Sx w v (JourK gj gc b ⟨C,first,recs,down⟩) (.returned v) w':=by
 subst hx
 subst hn
 obtain⟨h1,h2,Sn,h3,h4⟩:=ObjK.leave hc v
 exact⟨h1,h2,Sn,h3,A,cap,h4⟩
theorem B3C (g:Nat) (ox oy:Operand) (w:World):(do eqGuard BinOp.eql 88 ox oy (.pointer (some ⟨g,0,none⟩)) (.pointer none);Go.binOp BinOp.eql 88 (.pointer (some ⟨g,0,none⟩)) (.pointer none):Sem Value).run Tryz.prog w=.ok (.bool false) w:=by kernel_rfl
def Z5:ByteArray:=⟨#[76,79,71]⟩
def B8v:ByteArray:=⟨#[78,69,87]⟩
def chL (room:Int) (r:Scroll):Chest:=⟨room,c3f Z5 r,1⟩
theorem B8w:A5D Z5=true:=by kernel_rfl
theorem B4V (x:ByteArray) (s:Scroll):c3f x s x=some s:=if_pos rfl
theorem A3x (x:ByteArray) (r s:Scroll):A4U (c3f x r) x s=c3f x s:=by
 funext y
 unfold A4U c3f A4U
 split<;>rfl
theorem A06 (room:Int) (r:Scroll):(chL room r).f Z5=some r:=by
 show c3f Z5 r Z5=some r
 exact B4V _ _
theorem B02 (room:Int) (r:Scroll) (s:ByteArray):O1 (chL room r) Z5 s=if room<(s.size:Int) then (chL room r,5) else (chL (room-s.size) ⟨r.s++s,r.pressed,r.kept⟩,0):=by
 unfold O1
 rw [if_pos B8w,A06]
 show (if room<(s.size:Int) then _ else _)=_
 by_cases h:room<(s.size:Int)
 ·rw [if_pos h,if_pos h]
 ·rw [if_neg h,if_neg h]
  have e2:A7U (chL room r).f (chL room r).k Z5=1:=by
   unfold A7U
   rw [A06]
   rfl
  rw [e2]
  show (Chest.mk (room-s.size) (A4U (c3f Z5 r) Z5 _) 1,(0:Int))=_
  rw [A3x]
  rfl
theorem A5T (room:Int) (r:Scroll):A18 (chL room r) Z5=(chL room ⟨r.s,r.s.size,true⟩,0):=by
 unfold A18
 rw [A06]
 have e2:A7U (chL room r).f (chL room r).k Z5=1:=by
  unfold A7U
  rw [A06]
  rfl
 simp only
 rw [e2]
 show (Chest.mk room (A4U (c3f Z5 r) Z5 _) 1,(0:Int))=_
 rw [A3x]
 rfl
theorem A3y (gj gc b:Nat) (J:Jour) (e:Int) (Sx:Nat->Prop) (w:World) (hlt:∀ x,Sx x->x<w.heap.size) (hK:JourK gj gc b J Sx w):
  Calls Tryz.prog 168 #[.pointer (some ⟨gj,0,none⟩),.int .i64 e] w (RetOb Sx w (.int .i64 e) (JourK gj gc b ⟨J.C,J.first,J.recs,J.down||e != 0⟩)):=by
 obtain⟨A,cap,hO⟩:=hK
 have hc:=hO.enter hlt (RecK.stab _ _ _ _ _) (ChestK.stab _ _ _)
 refine vE Tryz.func168 ?_
 refine hc.c 0 rfl rfl ?_
 obtain⟨C,first,recs,down⟩:=J
 cases down with
 | true=>
  refine hc.s 0 rfl fun wS hS hc=>?_
  exact JourK.leave hc rfl rfl _
 | false=>
  refine hc.s 0 rfl fun wS hS hc=>?_
  exact JourK.leave hc rfl rfl _
def A0n (C:Chest) (name s:ByteArray):Chest × Int:=if (O1 C name s).2=0 then A18 (O1 C name s).1 name else O1 C name s
theorem A8c (gj gc b:Nat) (J:Jour) (name s:ByteArray) (hto:name.size<=9223372036854775807) (hr : -1000000000000<=J.C.room/\J.C.room<=1000000000000) (hs:s.size<=1000000000000) (hl:((J.C.f name).getD sc0).s.size<=1000000000000) (hkk:J.C.k<999999) (Sx:Nat->Prop) (w:World) (hlt:∀ x,Sx x->x<w.heap.size) (hK:JourK gj gc b J Sx w):
  Calls Tryz.prog 125 #[.pointer (some ⟨gj,0,none⟩),.string name,.string s] w (RetOb Sx w (.int .i64 (A0n J.C name s).2) (JourK gj gc b ⟨(A0n J.C name s).1,J.first,J.recs,J.down⟩)):=by
 obtain⟨A,cap,hO⟩:=hK
 have hc:=hO.enter hlt (RecK.stab _ _ _ _ _) (ChestK.stab _ _ _)
 have hk2:(O1 J.C name s).1.k<1000000:=by
  unfold O1
  split
  ·split
   ·show J.C.k<_
    omega
   ·show A7U _ _ _<_
    unfold A7U
    split<;>omega
  ·show J.C.k<_
   omega
 refine vE Tryz.func125 ?_
 refine hc.c 0 rfl rfl ?_
 obtain⟨S1,Sa,h1,h2,h3,hO⟩:=hc.row
 refine⟨(A5E gc b J.C name s hto hr hs hl (by omega) Sa _ hO).mono fun en wq hq=>?_⟩
 obtain⟨e1,hT,Sn,hSn,hO⟩:=hq
 have hc:=hc.turnO (Sep.stab (Keep.stab _ _) (RecK.stab _ _ _ _ _)) h1 h2 h3 hT hSn hO (ChestK.stab _ _ _)
 refine⟨_,e1,?_⟩
 unfold A0n
 generalize O1 J.C name s=q at*
 obtain⟨C',e⟩:=q
 simp only at*
 by_cases h0:e=0
 ·subst h0
  rw [if_pos rfl]
  refine hc.c 0 rfl rfl ?_
  obtain⟨S1,Sa,h1,h2,h3,hO⟩:=hc.row
  refine⟨(A5F gc b C' name hto hk2 Sa _ hO).mono fun en wq hq=>?_⟩
  obtain⟨e1,hT,Sn,hSn,hO⟩:=hq
  have hc:=hc.turnO (Sep.stab (Keep.stab _ _) (RecK.stab _ _ _ _ _)) h1 h2 h3 hT hSn hO (ChestK.stab _ _ _)
  refine⟨_,e1,?_⟩
  exact JourK.leave hc rfl rfl _
 ·rw [if_neg h0]
  refine B0 (by simpa using h0) ?_
  exact JourK.leave hc rfl rfl _
def JL (room:Int) (r:Scroll) (first:ByteArray) (recs:List ByteArray) (down:Bool):Jour:=⟨chL room r,first,recs,down⟩
def B4W (room:Int) (r:Scroll) (first:ByteArray) (recs:List ByteArray) (down:Bool):Jour × Int:=if down then (JL room r first recs true,7) else (JL room ⟨r.s,r.s.size,true⟩ first recs false,0)
theorem A8d (gj gc b:Nat) (room:Int) (r:Scroll) (first:ByteArray) (recs:List ByteArray) (down:Bool) (Sx:Nat->Prop) (w:World) (hlt:∀ x,Sx x->x<w.heap.size) (hK:JourK gj gc b (JL room r first recs down) Sx w):
  Calls Tryz.prog 170 #[.pointer (some ⟨gj,0,none⟩)] w (RetOb Sx w (.int .i64 (B4W room r first recs down).2) (JourK gj gc b (B4W room r first recs down).1)):=by
 obtain⟨A,cap,hO⟩:=hK
 have hc:=hO.enter hlt (RecK.stab _ _ _ _ _) (ChestK.stab _ _ _)
 refine vE Tryz.func170 ?_
 refine⟨.bool false,fun w=>B3C gj _ _ w,?_⟩
 refine hc.c 0 rfl rfl ?_
 cases down with
 | true=>exact JourK.leave hc rfl rfl _
 | false=>
  refine hc.c 0 rfl rfl ?_
  have hp:=fun Sa w hK=>A5F gc b (chL room r) Z5 (by decide) (by show 1<1000000;decide) Sa w hK
  rw [A5T] at hp
  obtain⟨S1,Sa,h1,h2,h3,hO⟩:=hc.row
  refine⟨(hp Sa _ hO).mono fun en wq hq=>?_⟩
  obtain⟨e1,hT,Sn,hSn,hO⟩:=hq
  have hc:=hc.turnO (Sep.stab (Keep.stab _ _) (RecK.stab _ _ _ _ _)) h1 h2 h3 hT hSn hO (ChestK.stab _ _ _)
  refine⟨_,e1,?_⟩
  obtain⟨Sm,hm0,hkp,hm1,hag⟩:=hc.again
  refine⟨(A3y gj gc b ⟨chL room ⟨r.s,r.s.size,true⟩,first,recs,false⟩ 0 Sm _ hm0 ⟨_,_,hm1⟩).mono fun en wq hq=>?_⟩
  obtain⟨e1,hT,Sn,hSn,A2,cap2,hO⟩:=hq
  obtain⟨S2,hc⟩:=hag hT hSn hO (RecK.stab _ _ _ _ _) (ChestK.stab _ _ _)
  refine⟨_,e1,?_⟩
  exact JourK.leave hc rfl rfl _
def I0 (s:ByteArray):ByteArray:=⟨(J2 s).toArray⟩
theorem W5 (s:ByteArray):((I0 s).size:Int)=E9 s:=by
 show ((J2 s).toArray.size:Int)=_
 rw [List.size_toArray]
 rfl
def B6T (room:Int) (r:Scroll) (first:ByteArray) (recs:List ByteArray) (down:Bool) (s:ByteArray) (press:Bool):Jour × Int:=
 if down then (JL room r first recs true,7)
 else if (400000:Int)<(s.size:Int) then (JL room r first recs false,1)
 else if room<E9 s then (JL room r first recs true,5)
 else if press then (JL (room-E9 s) ⟨r.s++I0 s,(r.s++I0 s).size,true⟩ first (recs++[s]) false,0)
 else (JL (room-E9 s) ⟨r.s++I0 s,r.pressed,r.kept⟩ first (recs++[s]) false,0)
theorem A8e (s:ByteArray) (h:s.size<=400000):D3 (I0 s) ⟨#[]⟩=false:=by
 rw [<-Bool.not_eq_true,D2]
 intro e
 have h1:=W5 s
 have h2:=(A3u s h).1
 rw [e] at h1
 have:((⟨#[]⟩:ByteArray).size:Int)=0:=rfl
 omega
theorem B3D (gj gc b:Nat) (room:Int) (r:Scroll) (first:ByteArray) (recs:List ByteArray) (down:Bool) (s:ByteArray) (press:Bool) (hs:s.size<=1000000000) (hr:0<=room/\room<=1000000000) (hl:r.s.size<=1000000000) (hn:recs.length<=1000000) (Sx:Nat->Prop) (w:World) (hlt:∀ x,Sx x->x<w.heap.size) (he:EnvFree Sx w) (hK:JourK gj gc b (JL room r first recs down) Sx w):
  Calls Tryz.prog 116 #[.pointer (some ⟨gj,0,none⟩),.string s,.bool press] w (RetOb Sx w (.int .i64 (B6T room r first recs down s press).2) (JourK gj gc b (B6T room r first recs down s press).1)):=by
 obtain⟨q,hq⟩:∃ q,q=B6T room r first recs down s press:=⟨_,rfl⟩
 rw [<-hq]
 unfold B6T at hq
 obtain⟨A,cap,hO⟩:=hK
 have hc:=hO.enter hlt (RecK.stab _ _ _ _ _) (ChestK.stab _ _ _)
 refine vE Tryz.func116 ?_
 refine⟨.bool false,fun w=>B3C gj _ _ w,?_⟩
 refine hc.c 0 rfl rfl ?_
 cases down with
 | true=>
  rw [if_pos rfl] at hq
  subst hq
  exact JourK.leave hc rfl rfl _
 | false=>
 rw [if_neg (by decide)] at hq
 refine hc.q (A3o s (by omega) _ (he.now hc)) fun wQ hQ hc=>?_
 by_cases h4:(400000:Int)<(s.size:Int)
 ·rw [if_pos h4] at hq
  subst hq
  have e:J2 s=[]:=by unfold J2;rw [if_pos h4]
  rw [e]
  exact JourK.leave hc rfl rfl _
 rw [if_neg h4] at hq
 have h17:=A3u s (by omega)
 refine C3X (A8e s (by omega)) ?_
 refine hc.c 0 rfl rfl ?_
 have hsz:=W5 s
 have hwr:=fun Sa w hK=>A5E gc b (chL room r) Z5 (I0 s) (by decide) ⟨by show _<=room;omega,by show room<=_;omega⟩ (by omega) (by show (((c3f Z5 r) Z5).getD sc0).s.size<=_;rw [B4V];show r.s.size<=_;omega) (by show 1<1000000;decide) Sa w hK
 rw [B02,hsz] at hwr
 by_cases h5:room<E9 s
 ·rw [if_pos h5] at hq hwr
  obtain⟨S1,Sa,h1,h2,h3,hO⟩:=hc.row
  refine⟨(hwr Sa _ hO).mono fun en wq hq=>?_⟩
  obtain⟨e1,hT,Sn,hSn,hO⟩:=hq
  have hc:=hc.turnO (Sep.stab (Keep.stab _ _) (RecK.stab _ _ _ _ _)) h1 h2 h3 hT hSn hO (ChestK.stab _ _ _)
  refine⟨_,e1,?_⟩
  obtain⟨Sm,hm0,hkp,hm1,hag⟩:=hc.again
  refine⟨(A3y gj gc b ⟨chL room r,first,recs,false⟩ 5 Sm _ hm0 ⟨_,_,hm1⟩).mono fun en wq hq=>?_⟩
  obtain⟨e1,hT,Sn,hSn,A2,cap2,hO⟩:=hq
  obtain⟨S2,hc⟩:=hag hT hSn hO (RecK.stab _ _ _ _ _) (ChestK.stab _ _ _)
  refine⟨_,e1,?_⟩
  subst hq
  exact JourK.leave hc rfl rfl _
 rw [if_neg h5] at hq hwr
 obtain⟨S1,Sa,h1,h2,h3,hO⟩:=hc.row
 refine⟨(hwr Sa _ hO).mono fun en wq hq=>?_⟩
 obtain⟨e1,hT,Sn,hSn,hO⟩:=hq
 have hc:=hc.turnO (Sep.stab (Keep.stab _ _) (RecK.stab _ _ _ _ _)) h1 h2 h3 hT hSn hO (ChestK.stab _ _ _)
 refine⟨_,e1,?_⟩
 obtain⟨Sm,hm0,hkp,hm1,hag⟩:=hc.again
 refine⟨(A3y gj gc b ⟨chL (room-E9 s) ⟨r.s++I0 s,r.pressed,r.kept⟩,first,recs,false⟩ 0 Sm _ hm0 ⟨_,_,hm1⟩).mono fun en wq hq=>?_⟩
 obtain⟨e1,hT,Sn,hSn,A2,cap2,hO⟩:=hq
 obtain⟨S2,hc⟩:=hag hT hSn hO (RecK.stab _ _ _ _ _) (ChestK.stab _ _ _)
 refine⟨_,e1,?_⟩
 refine hc.c 0 rfl rfl ?_
 refine hc.n fun gv wgv hgv hc=>?_
 have hc:=hc.now Sep.swap (Sep.stab (Sep.stab (Keep.stab _ _) (ChestK.stab _ _ _)) (RecK.stab _ _ _ _ _))
 refine B5S (m:=1) Tryz.underlying114 B0n rfl hc (Sep.stab (Keep.stab _ _) (ChestK.stab _ _ _)) (hc.cells 0 rfl) rfl (by decide) rfl (by show recs.length+1<=_;omega) (by decide) ?_
 intro A3 cap3 w3 S3 hc
 have hc:=hc.drop.now Sep.swap (Sep.stab (Sep.stab (Keep.stab _ _) (RecK.stab _ _ _ _ _)) (ChestK.stab _ _ _))
 refine hc.s 0 rfl fun wS hS hc=>?_
 cases press with
 | false=>
  subst hq
  exact JourK.leave hc (by rw [List.map_append];rfl) (by rw [List.length_append];rfl) _
 | true=>
  obtain⟨Sm,hm0,hkp,hm1,hag⟩:=hc.again
  have hJ:JourK gj gc b (JL (room-E9 s) ⟨r.s++I0 s,r.pressed,r.kept⟩ first (recs++[s]) false) Sm _:=⟨A3,cap3,by
   have e1:(recs++[s]).length=recs.length+1:=by simp
   have e2:(recs++[s]).map Value.string=recs.map Value.string++[Value.string s]:=by simp
   show ObjK gj _ (A3w gc first A3 (recs++[s]).length cap3 false) (RecK _ A3 (recs++[s]).length cap3 ((recs++[s]).map Value.string)) (ChestK gc b _) Sm _
   rw [e1,e2]
   exact hm1⟩
  refine⟨(A8d gj gc b (room-E9 s) ⟨r.s++I0 s,r.pressed,r.kept⟩ first (recs++[s]) false Sm _ hm0 hJ).mono fun en wq hq2=>?_⟩
  obtain⟨e1,hT,Sn,hSn,A2,cap2,hO⟩:=hq2
  obtain⟨S2,hc⟩:=hag hT hSn hO (RecK.stab _ _ _ _ _) (ChestK.stab _ _ _)
  refine⟨_,e1,?_⟩
  subst hq
  exact JourK.leave hc rfl rfl _
theorem B03 (gj gc b:Nat) (J:Jour) (S:Nat->Prop) (w:World) (hK:JourK gj gc b J S w):Calls Tryz.prog 71 #[.pointer (some ⟨gj,0,none⟩)] w (C8 (.string J.first) w):=by
 obtain⟨A,cap,hO⟩:=hK
 refine vE Tryz.func71 ?_
 refine⟨.bool false,fun w=>B3C gj _ _ w,?_⟩
 refine⟨_,(hO.2.1.cell 1).trans rfl,?_⟩
 exact⟨rfl,Below.refl _ _⟩
theorem A5U (l:List ByteArray):(l.map fun s=>[Value.string s]).flatten=l.map Value.string:=by
 induction l with
 | nil=>rfl
 | cons a r ih=>rw [List.map_cons,List.flatten_cons,ih];rfl
theorem A8f (l:List ByteArray):Flat 1 (l.map fun s=>[Value.string s]):=Flat.map (fun s=>[Value.string s]) (fun a=>⟨rfl,rfl⟩) l
theorem A6V (gj gc b:Nat) (J:Jour) (hn:J.recs.length<=1000000) (S:Nat->Prop) (w:World) (hK:JourK gj gc b J S w):Calls Tryz.prog 72 #[.pointer (some ⟨gj,0,none⟩)] w (B2g 9 1 J.recs.length (J.recs.map Value.string) w):=by
 obtain⟨A,cap,hO⟩:=hK
 have hR:=(hO.left (RecK.stab _ _ _ _ _)).row
 rw [<-A5U] at hR
 refine vE Tryz.func72 ?_
 refine⟨.bool false,fun w=>B3C gj _ _ w,?_⟩
 refine⟨_,(hO.2.1.cell 2).trans rfl,?_⟩
 refine⟨(A8P A J.recs.length cap _ (A8f _) (List.length_map _) hn S w hR).mono fun en wq hq=>?_⟩
 obtain⟨A2,cap2,e1,hb,ho⟩:=hq
 refine⟨_,e1,A2,cap2,rfl,hb,?_⟩
 rw [A5U] at ho
 exact ho
theorem B04 {t:List UInt8} (h:(A0F t).2.2=0):(A0F t).2.1<=t.length/\(vK (A0F t).1=2->(vS (A0F t).1).size<=t.length):=by
 have hp:J5 6 t=A0F t:=by
  have e:A0F t=if (J5 6 t).2.2=0/\A2z (J5 6 t).1=false then (V0,0,1) else J5 6 t:=rfl
  rw [e] at h ⊢
  split
  ·rename_i hc
   rw [if_pos hc] at h
   cases h
  ·rfl
 obtain⟨h1,h2,h3⟩:=A68 6 t (A0F t).1 (A0F t).2.1 (by rw [hp];rw [<-h])
 refine⟨h1,fun hk=>?_⟩
 have hl:=F6 (A0F t).1
 have e:(J1 (A0F t).1).length<=t.length:=by rw [h2,List.length_take];omega
 generalize (A0F t).1=v at*
 obtain⟨k,n,s,l⟩:=v
 have hk:k=2:=hk
 subst hk
 have e2:I2 (.mk 2 n s l)=s.data.toList:=rfl
 rw [e2] at hl
 have e3:s.data.toList.length=s.size:=T3 s
 show s.size<=_
 omega
theorem A2H (s:ByteArray) (k:Nat) (h:k<=s.size):s.extract k s.size=⟨(s.data.toList.drop k).toArray⟩:=by
 have e:=P8 s.data.toList k s.size
 rw [show (⟨s.data.toList.toArray⟩:ByteArray)=s from rfl] at e
 rw [e,List.take_of_length_le (by rw [List.length_drop,T3];exact Nat.le_refl _)]
theorem B5d (s:ByteArray) (k:Nat):s.extract 0 k=⟨(s.data.toList.take k).toArray⟩:=by
 have e:=P8 s.data.toList 0 k
 rw [show (⟨s.data.toList.toArray⟩:ByteArray)=s from rfl] at e
 rw [e,List.drop_zero,Nat.sub_zero]
theorem A7d (s:ByteArray) (hs:s.size<=1000000000) (w:World) (hw:Env w):Calls Tryz.prog 126 #[.string s] w (C8 (.tuple #[.string (A2A s.data.toList).1,.int .i64 ((A2A s.data.toList).2.1:Nat),.int .i64 (A2A s.data.toList).2.2]) w):=by
 obtain⟨q,hq⟩:∃ q,q=A2A s.data.toList:=⟨_,rfl⟩
 rw [<-hq]
 unfold A2A at hq
 have hlen:s.data.toList.length=s.size:=T3 s
 have hm:=A8O s (by omega) w
 refine vE Tryz.func126 ?_
 have hc:=CtxF.start w no (fun _ h=>h.elim) (R:=fun _ _=>True) trivial Stab.true
 refine hc.q (hm) fun wQ hQ hc=>?_
 cases hb:A19 s.data.toList with
 | false=>
  rw [if_pos hb] at hq
  subst hq
  exact⟨rfl,hc.below⟩
 | true=>
 rw [if_neg (by rw [hb];decide)] at hq
 by_cases h8:s.size<8
 ·rw [if_pos (by omega)] at hq
  subst hq
  refine dt (by omega) ?_
  exact⟨rfl,hc.below⟩
 rw [if_neg (by omega)] at hq
 refine df (by omega) ?_
 refine⟨⟨by omega,by omega,by omega⟩,?_⟩
 have hg:=B8E (s.data.toList.drop 8) _ (by rw [List.length_drop];omega) (hw.below hc.below)
 rw [<-A2H s 8 (by omega)] at hg
 have hz:=@B04 (s.data.toList.drop 8)
 rw [List.length_drop,hlen] at hz
 generalize A0F (s.data.toList.drop 8)=g at*
 obtain⟨v,n,e⟩:=g
 simp only at hq hg hz
 refine⟨hg.mono fun en wq hq2=>?_⟩
 obtain⟨A1,c1,e1,hb2,hr1⟩:=hq2
 have hc:=(hc.quiet hb2).1
 refine⟨_,e1,?_⟩
 refine hc.n fun g5 wg5 hg5 hc=>?_
 refine hc.s 0 rfl fun wS hS hc=>?_
 by_cases he2:e=2
 ·rw [if_pos he2] at hq
  subst hq
  refine B0 (by rw [he2];rfl) ?_
  subst he2
  exact⟨rfl,hc.below⟩
 rw [if_neg he2] at hq
 refine C3X (by rw [beq_eq_false_iff_ne];exact he2) ?_
 have hr:=hc
 refine vD (.Q [0,1,2,3,4,5,6,7,8,9,11,12,13,14] (.n 10 (.Q [15,16,17] .fin) .stop)) (Old _) (Old.start _) ?_
 have hk:=hc.old0
 have hc:=hc.drew
 by_cases he0:e=0
 rotate_left
 ·rw [if_pos (.inl he0)] at hq
  subst hq
  refine B0 (by simpa using he0) ?_
  refine⟨?_,trivial⟩
  exact⟨rfl,hc.below⟩
 subst he0
 refine⟨_,fun x hx=>Keeps.cell hx (hr.blk 0 rfl) (hr.blk 0 rfl).lt rfl,?_⟩
 by_cases hk2:vK v=2
 rotate_left
 ·rw [if_pos (.inr (.inl hk2))] at hq
  subst hq
  refine B0 (by simpa using hk2) ?_
  refine⟨?_,trivial⟩
  exact⟨rfl,hc.below⟩
 refine C3X (by rw [hk2];rfl) ?_
 obtain⟨hz1,hz2⟩:=hz rfl
 have hz2:=hz2 hk2
 refine⟨_,fun x hx=>Keeps.cell hx (hr.blk 0 rfl) (hr.blk 0 rfl).lt rfl,?_⟩
 have hw8:IntKind.i64.wrap (8+(n:Int))=((8+n:Nat):Int):=by rw [IntWalk.i64_in _ ⟨by omega,by omega⟩];omega
 refine⟨⟨by decide,by rw [hw8];show (0:Int)<=_;omega,by rw [hw8];omega⟩,?_⟩
 refine⟨hc.q (A3o (vS v) (by omega) _ (hw.below hc.below)) fun wA hA hc=>?_,trivial⟩
 have hk:=Keeps.below hk (fun _ h=>h) hA
 refine⟨hk,?_⟩
 have e2:s.extract ((0:Nat):Int).toNat (IntKind.i64.wrap (8+(n:Int))).toNat=⟨(s.data.toList.take (8+n)).toArray⟩:=by
  rw [hw8,Int.toNat_natCast]
  exact B5d s (8+n)
 by_cases hl:J2 (vS v)=s.data.toList.take (8+n)
 ·rw [if_neg (fun h=>h.elim (fun h=>h rfl) (fun h=>h.elim (fun h=>h hk2) (fun h=>h hl)))] at hq
  refine C3X (by
   show (!D3 _ _)=false
   rw [D2.2 (by rw [e2,hl])]
   rfl) ?_
  refine hc.c 0 rfl rfl ?_
  subst hq
  refine⟨?_,hc.below⟩
  rw [hw8]
  rfl
 ·rw [if_pos (.inr (.inr hl))] at hq
  subst hq
  refine B0 (by
   show (!D3 _ _)=true
   rw [Bool.not_eq_true',<-Bool.not_eq_true,D2,e2]
   intro h
   apply hl
   injection h with h
   exact List.toArray_inj h) ?_
  exact⟨rfl,hc.below⟩
end Go.Proofs.YtefdfaeieekioaaGreatDoor
