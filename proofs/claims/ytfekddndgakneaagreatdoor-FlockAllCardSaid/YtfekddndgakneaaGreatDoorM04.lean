import Derived.Test.YtfekddndgakneaaGreatDoorM03
import Derived.Lib.ParseIntBTie
import Derived.Lib.ParseIntBCases
set_option maxRecDepth 100000
set_option maxHeartbeats 40000000
set_option linter.unusedVariables false
set_option linter.unusedSimpArgs false
namespace Go.Proofs.YtfekddndgakneaaGreatDoor
open Go.Vc Go.RowKit Go.Fl
def dgt (c:UInt8):Bool:=decide (48<=c.toNat)&&decide (c.toNat<=57)
theorem O6 {c:UInt8}:dgt c=true↔48<=c.toNat/\c.toNat<=57:=by simp [dgt]
def A5C (a:Nat) (l:List UInt8):Nat:=l.foldl (fun a c=>10*a+(c.toNat-48)) a
theorem A0K (a:Nat) (c:UInt8) (l:List UInt8):A5C a (c::l)=A5C (10*a+(c.toNat-48)) l:=by unfold A5C;rw [List.foldl_cons]
theorem A6M (a:Nat) (l:List UInt8) (c:UInt8):A5C a (l++[c])=10*A5C a l+(c.toNat-48):=by simp [A5C]
theorem A7V:∀ (l:List UInt8) (a:Nat),a<=A5C a l
 | [],a=>Nat.le_refl _
 | c::r,a=>by rw [A0K];have:=A7V r (10*a+(c.toNat-48));omega
theorem P1 (n:Nat) (h:n<256):(UInt8.ofNat n).toNat=n:=by
 rw [UInt8.toNat_ofNat']
 exact Nat.mod_eq_of_lt h
theorem A8X {c:UInt8} (h:dgt c=true):UInt8.ofNat (48+(c.toNat-48))=c:=by
 rw [O6] at h
 rw [show 48+(c.toNat-48)=c.toNat by omega]
 exact UInt8.ofNat_toNat
theorem A5D:∀ (N:Nat) (l:List UInt8),l.length<=N->l≠[]->(∀ c∈l,dgt c=true)->(∀ c r,l=c::r->r≠[]->c≠48)->Lib.decDigits (A5C 0 l)=l:=by
 intro N
 induction N with
 | zero=>intro l h hn;exact absurd (List.eq_nil_of_length_eq_zero (by omega)) hn
 | succ N ih=>
  intro l hN hne hd hz
  rcases List.eq_nil_or_concat l with rfl | ⟨l',c,e0⟩
  ·exact absurd rfl hne
  rw [List.concat_eq_append] at e0
  subst e0
  have hc:dgt c=true:=hd c (by simp)
  have hc':=O6.1 hc
  rw [A6M]
  cases l' with
  | nil=>
   have e:10*A5C 0 []+(c.toNat-48)=c.toNat-48:=by simp [A5C]
   rw [e,Lib.decDigits,dif_pos (by omega),A8X hc]
   rfl
  | cons b r=>
   have hb:dgt b=true:=hd b (by simp)
   have hb':=O6.1 hb
   have hb48:b≠48:=hz b (r++[c]) rfl (by simp)
   have hbn:b.toNat≠48:=fun e=>hb48 (UInt8.toNat_inj.1 e)
   have h1:1<=A5C 0 (b::r):=by rw [A0K];have:=A7V r (10*0+(b.toNat-48));omega
   rw [Lib.decDigits,dif_neg (by omega),show (10*A5C 0 (b::r)+(c.toNat-48)) / 10=A5C 0 (b::r) by omega,show (10*A5C 0 (b::r)+(c.toNat-48)) % 10=c.toNat-48 by omega,
    A8X hc,ih (b::r) (by simp at hN ⊢;omega) (by simp) (fun x hx=>hd x (List.mem_append_left _ hx)) (fun x y e hy=>by
     cases e;exact hb48)]
theorem O7 (u:Nat):Lib.decDigits u≠[]/\(∀ c∈Lib.decDigits u,dgt c=true)/\A5C 0 (Lib.decDigits u)=u/\∀ c r,Lib.decDigits u=c::r->r≠[]->c≠48:=by
 induction u using Nat.strongRecOn with
 | _ u ih=>
  by_cases h:u<10
  ·rw [Lib.decDigits,dif_pos h]
   have e:=P1 (48+u) (by omega)
   refine⟨by simp,fun c hc=>?_,?_,fun c r e hr=>?_⟩
   ·rw [List.mem_singleton] at hc
    subst hc
    rw [O6,e];omega
   ·show 10*0+((UInt8.ofNat (48+u)).toNat-48)=u
    rw [e];omega
   ·cases e;exact absurd rfl hr
  ·obtain⟨h1,h2,h3,h4⟩:=ih (u / 10) (by omega)
   rw [Lib.decDigits,dif_neg h]
   have e:=P1 (48+u % 10) (by omega)
   refine⟨by simp,fun c hc=>?_,?_,fun c r e hr=>?_⟩
   ·rw [List.mem_append,List.mem_singleton] at hc
    rcases hc with hc | hc
    ·exact h2 c hc
    ·subst hc;rw [O6,e];omega
   ·rw [A6M,h3,e];omega
   ·cases hd:Lib.decDigits (u / 10) with
    | nil=>exact absurd hd h1
    | cons b t=>
     rw [hd] at e
     cases e
     cases t with
     | nil=>
      rw [hd] at h3
      intro e48
      subst e48
      have:(u / 10)=0:=h3.symm
      omega
     | cons x y=>exact h4 c _ hd (by simp)
def T7:List UInt8->Nat->Nat->Nat × Nat × Int
 | [],_,_=>(0,0,2)
 | c::r,i,n=>if c=58/\0<i then (n,i+1,0) else if dgt c=false\/7<=i\/(0<i/\n=0) then (0,0,1) else T7 r (i+1) (10*n+(c.toNat-48))
theorem A5E:∀ (l r:List UInt8) (i n:Nat),(∀ c∈l,dgt c=true)->i+l.length<=7->0<i+l.length->(0<i->l≠[]->0<n)->(i=0->∀ c t,l=c::t->t≠[]->c≠48)->
  T7 (l++58::r) i n=(A5C n l,i+l.length+1,0)
 | [],r,i,n,hd,h7,h0,hn,hz=>by
  rw [List.nil_append,T7,if_pos ⟨rfl,by simpa using h0⟩]
  rfl
 | c::t,r,i,n,hd,h7,h0,hn,hz=>by
  have hc:=hd c (by simp)
  have hc':=O6.1 hc
  simp only [List.length_cons] at h7
  rw [List.cons_append,T7,if_neg (fun h=>by rw [h.1] at hc';revert hc';decide),if_neg (fun h=>by
   rcases h with h | h | h
   ·rw [hc] at h;cases h
   ·omega
   ·have:=hn h.1 (by simp);omega),A5E t r (i+1) _ (fun x hx=>hd x (by simp [hx])) (by omega) (by omega) (fun _ ht=>?_) (fun h=>by omega),A0K]
  ·rw [List.length_cons,show i+1+t.length+1=i+(t.length+1)+1 by omega]
  ·rcases Nat.eq_zero_or_pos i with h | h
   ·have h48:=hz h c t rfl ht
    have:c.toNat≠48:=fun e=>h48 (UInt8.toNat_inj.1 e)
    omega
   ·have:=hn h (by simp);omega
theorem A8Y:∀ (s:List UInt8) (i n m a:Nat),(i=0->n=0)->T7 s i n=(m,a,0)->∃ l r,s=l++58::r/\(∀ c∈l,dgt c=true)/\m=A5C n l/\a=i+l.length+1/\0<i+l.length/\(i=0->∀ c t,l=c::t->t≠[]->c≠48)/\(0<i->n=0->l=[])/\(i+l.length<=7\/l=[])
 | [],i,n,m,a,h0,h=>by simp [T7] at h
 | c::s,i,n,m,a,h0,h=>by
  rw [T7] at h
  by_cases h1:c=58/\0<i
  ·rw [if_pos h1] at h
   simp only [Prod.mk.injEq] at h
   obtain⟨rfl,rfl,_⟩:=h
   obtain⟨rfl,hi⟩:=h1
   exact⟨[],s,rfl,by simp,rfl,rfl,by simpa using hi,fun h=>by omega,fun _ _=>rfl,.inr rfl⟩
  ·rw [if_neg h1] at h
   by_cases h2:dgt c=false\/7<=i\/(0<i/\n=0)
   ·rw [if_pos h2] at h;simp at h
   ·rw [if_neg h2] at h
    obtain⟨l,r,e,g1,g2,g3,g4,g5,g6,g7⟩:=A8Y s (i+1) _ m a (fun h=>by omega) h
    have hdc:dgt c=true:=by
     cases hd:dgt c
     ·exact absurd (.inl hd) h2
     ·rfl
    have hdc':=O6.1 hdc
    refine⟨c::l,r,by rw [e];rfl,fun x hx=>?_,by rw [g2,A0K],by rw [g3,List.length_cons];omega,by rw [List.length_cons];omega,fun hi x t ex ht=>?_,fun hi hn=>?_,?_⟩
    ·cases hx with
     | head=>exact hdc
     | tail _ hx=>exact g1 x hx
    ·cases ex
     intro e48
     subst e48
     exact ht (g6 (by omega) (by rw [h0 hi];decide))
    ·exact absurd (.inr (.inr ⟨hi,hn⟩)) h2
    ·rw [List.length_cons]
     rcases g7 with g7 | g7
     ·exact .inl (by omega)
     ·subst g7
      left
      simp only [List.length_nil]
      have:¬ 7<=i:=fun h=>h2 (.inr (.inl h))
      omega
def A8Z (t:List UInt8):Option Int:=
 match Lib.parseIntB 64 t with
 | .ok n=>if Lib.itoa n=t then some n else none
 | _=>none
theorem B3i {t:List UInt8} {n:Int} (h:A8Z t=some n):Lib.itoa n=t/\B9 n:=by
 unfold A8Z at h
 rcases e:Lib.parseIntB 64 t with m | _ | _
 ·rw [e] at h
  simp only at h
  by_cases e2:Lib.itoa m=t
  ·rw [if_pos e2] at h
   cases h
   have hb:=Lib.parseIntB_bounds e
   refine⟨e2,?_⟩
   unfold B9
   simp only [show (2:Nat) ^ (64-1)=9223372036854775808 by decide] at hb
   omega
  ·rw [if_neg e2] at h;cases h
 ·rw [e] at h;cases h
 ·rw [e] at h;cases h
theorem W0:∀ (l:List UInt8) (a:Nat),(∀ c∈l,dgt c=true)->A5C a l<=18446744073709551615->Lib.parseUintM 18446744073709551615 a l=.ok (A5C a l)
 | [],a,_,_=>rfl
 | c::r,a,hd,hv=>by
  have hc:=O6.1 (hd c (by simp))
  rw [A0K] at hv ⊢
  have hg:=A7V r (10*a+(c.toNat-48))
  rw [Lib.parseUintM,if_pos hc,if_neg (by omega),if_neg (by omega),Nat.mul_comm a 10]
  exact W0 r _ (fun x hx=>hd x (by simp [hx])) hv
theorem A0y (u:Nat) (h:u<=18446744073709551615):Lib.parseUintB 64 (Lib.decDigits u)=.ok u:=by
 obtain⟨h1,h2,h3,_⟩:=O7 u
 have:=W0 (Lib.decDigits u) 0 h2 (by rw [h3];exact h)
 rw [h3] at this
 unfold Lib.parseUintB
 rw [if_neg h1]
 exact this
theorem B3j (n:Int) (h:B9 n):A8Z (Lib.itoa n)=some n:=by
 have key:Lib.parseIntB 64 (Lib.itoa n)=.ok n:=by
  unfold B9 at h
  unfold Lib.itoa
  by_cases hn:n<0
  ·rw [if_pos hn,Lib.parseIntB_minus,A0y _ (by omega)]
   unfold Lib.signedC
   simp only
   first
    | (rw [if_neg (by simp;omega)];congr 1;omega)
    | (split<;>(try congr 1)<;>omega)
  ·rw [if_neg hn]
   obtain⟨h1,h2,_,_⟩:=O7 n.toNat
   cases e:Lib.decDigits n.toNat with
   | nil=>exact absurd e h1
   | cons c r=>
    have hc:=O6.1 (h2 c (by rw [e];simp))
    rw [Lib.parseIntB_plain _ _ _ (by omega) (by omega),<-e,A0y _ (by omega)]
    unfold Lib.signlessC
    simp only
    first
     | (rw [if_neg (by simp;omega)];congr 1;omega)
     | (split<;>(try congr 1)<;>omega)
 unfold A8Z
 rw [key]
 simp
def N1 (g:List UInt8->V × Nat × Int):Nat->List UInt8->Option (List V)
 | _,[]=>some []
 | 0,_::_=>none
 | k+1,c::r=>
  let q:=g (c::r)
  if q.2.2≠0 then none else (N1 g k ((c::r).drop q.2.1)).map (q.1::·)
def V0:V:=.mk 0 0 ⟨#[]⟩ []
def A0u (g:List UInt8->V × Nat × Int) (c:UInt8) (t:List UInt8):Option V:=
 if c=35 then (A8Z t).map fun n=>.mk 1 n ⟨#[]⟩ []
 else if c=93 then (N1 g 6000 t).map fun l=>.mk 3 0 ⟨#[]⟩ l
 else if c=44 then some (.mk 2 0 ⟨t.toArray⟩ [])
 else none
def N4:Nat->List UInt8->V × Nat × Int
 | 0,s=>let q:=T7 s 0 0;if q.2.2≠0 then (V0,0,q.2.2) else (V0,0,1)
 | f+1,s=>
  let q:=T7 s 0 0
  if q.2.2≠0 then (V0,0,q.2.2)
  else if s.length<=q.2.1+q.1 then (V0,0,2)
  else match A0u (N4 f) (s.getD (q.2.1+q.1) 0) ((s.drop q.2.1).take q.1) with
   | none=>(V0,0,1)
   | some v=>(v,q.2.1+q.1+1,0)
def V3 (s:List UInt8):V × Nat × Int:=
 let q:=N4 6 s
 if q.2.2=0/\A0t q.1=false then (V0,0,1) else q
def M7 (s:List UInt8):V × Int:=
 let q:=V3 s
 if q.2.2≠0\/q.2.1≠s.length then (V0,1) else (q.1,0)
def G6:V->List UInt8
 | .mk k n s l=>if k==1 then Lib.itoa n else if k==3 then L3 l else s.data.toList
def A6N:V->UInt8
 | .mk k n s l=>if k==1 then 35 else if k==3 then 93 else 44
theorem B3k (n:Nat):Lib.itoa (n:Int)=Lib.decDigits n:=by
 unfold Lib.itoa
 rw [if_neg (by omega),Int.toNat_natCast]
theorem U7 (v:V):I8 v=Lib.decDigits (G6 v).length++58::(G6 v++[A6N v]):=by
 obtain⟨k,n,s,l⟩:=v
 rw [I8,<-B3k]
 rfl
theorem F2 {u:Nat} (h:u<10000000):(Lib.decDigits u).length<=7:=by
 rw [Lib.decDigits_length]
 rcases Nat.lt_or_ge 7 (Lib.nDigits u) with h7 | h7
 ·exfalso
  have key:∀ (k u:Nat),k<Lib.nDigits u->10 ^ k<=u\/k=0:=by
   intro k
   induction k with
   | zero=>intro u _;exact .inr rfl
   | succ k ih=>
    intro u hk
    by_cases hu:u<10
    ·rw [Lib.nDigits_small hu] at hk;omega
    ·rw [Lib.nDigits_big hu] at hk
     have:=ih (u / 10) (by omega)
     rw [Nat.pow_succ]
     rcases this with h | h
     ·left;omega
     ·subst h;left;simp;omega
  have:=key 7 u h7
  simp at this
  omega
 ·exact h7
theorem B1D (v:V) (r:List UInt8) (h:(G6 v).length<10000000):T7 (I8 v++r) 0 0=((G6 v).length,(Lib.decDigits (G6 v).length).length+1,0):=by
 obtain⟨h1,h2,h3,h4⟩:=O7 (G6 v).length
 have hp:0<(Lib.decDigits (G6 v).length).length:=List.length_pos_iff.2 h1
 rw [U7,List.append_assoc,List.cons_append,A5E _ _ _ _ h2 (by have:=F2 h;omega) (by omega) (fun h=>by omega) (fun _=>h4),h3,Nat.zero_add]
theorem D8 (v:V):(I8 v).length=(Lib.decDigits (G6 v).length).length+1+(G6 v).length+1:=by
 rw [U7];simp;omega
theorem B1E (v:V) (r:List UInt8):((I8 v++r).drop ((Lib.decDigits (G6 v).length).length+1)).take (G6 v).length=G6 v:=by
 rw [U7]
 have e:Lib.decDigits (G6 v).length++58::(G6 v++[A6N v])++r=(Lib.decDigits (G6 v).length++[58])++(G6 v++([A6N v]++r)):=by simp
 rw [e,List.drop_left' (by simp),List.take_left' rfl]
theorem B3l (v:V) (r:List UInt8):(I8 v++r).getD ((Lib.decDigits (G6 v).length).length+1+(G6 v).length) 0=A6N v:=by
 rw [U7]
 have e:Lib.decDigits (G6 v).length++58::(G6 v++[A6N v])++r=((Lib.decDigits (G6 v).length++[58])++G6 v)++(A6N v::r):=by simp
 rw [e,List.getD_eq_getElem?_getD,List.getElem?_append_right (by simp;omega),List.length_append,List.length_append]
 simp
theorem A5F (g:V->Int) (hg:∀ v,1<=g v):∀ (l:List V) (n:Int),A03 g l n<=6000->n+l.length<=A03 g l n/\∀ x∈l,g x<=6000-n
 | [],n,h=>by rw [A03];simp
 | x::r,n,h=>by
  rw [D6] at h ⊢
  by_cases h1:6000<n+g x
  ·rw [if_pos h1] at h;omega
  ·rw [if_neg h1] at h ⊢
   have hx:=hg x
   obtain⟨h2,h3⟩:=A5F g hg r _ h
   refine⟨by rw [List.length_cons];omega,fun y hy=>?_⟩
   cases hy with
   | head=>omega
   | tail _ hy=>have:=h3 y hy;omega
theorem A6O (g:List UInt8->V × Nat × Int):∀ (l:List V) (k:Nat),l.length<=k->(∀ x∈l,∀ r,g (I8 x++r)=(x,(I8 x).length,0))->N1 g k (L3 l)=some l
 | [],k,hk,h=>by rw [L3];unfold N1;rfl
 | x::l,0,hk,h=>by simp at hk
 | x::l,k+1,hk,h=>by
  rw [L3]
  have hx:=h x (by simp) (L3 l)
  have hl:=D8 x
  cases e:I8 x++L3 l with
  | nil=>exfalso;have:=congrArg List.length e;rw [List.length_append,hl] at this;simp only [List.length_nil] at this;omega
  | cons c r=>
   rw [N1,<-e,hx]
   simp only [ne_eq,not_true_eq_false,if_false,List.drop_left]
   rw [A6O g l k (by simpa using hk) (fun y hy=>h y (by simp [hy]))]
   rfl
theorem A6P {l:List V} {x:V} (h:x∈l):(G6 x).length<(L3 l).length:=by
 have h1:=R7 h
 have h2:=D8 x
 omega
theorem Q8 {s:ByteArray} (h:mt s=true):s=⟨#[]⟩:=by
 have h2:C8 s ⟨#[]⟩=true:=h
 apply ByteArray.ext
 simpa [C8] using h2
theorem A5G:∀ (f:Nat) (v:V),cnt f v<=6000->okV v->(G6 v).length<10000000->∀ r,N4 f (I8 v++r)=(v,(I8 v).length,0):=by
 intro f
 induction f with
 | zero=>intro v h;rw [cnt] at h;omega
 | succ f ih=>
  intro v hc hok hlen r
  rw [N4,B1D v r hlen]
  simp only [ne_eq,not_true_eq_false,if_false]
  rw [if_neg (by rw [List.length_append,D8];omega),B1E,B3l]
  have hb:A0u (N4 f) (A6N v) (G6 v)=some v:=by
   obtain⟨k,n,s,l⟩:=v
   rw [cnt] at hc
   rw [okV] at hok
   by_cases h1:(k==1&&mt s&&((l.length:Int)==0))||(k==2&&n==0&&((l.length:Int)==0))
   ·simp only [Bool.or_eq_true,Bool.and_eq_true,beq_iff_eq] at h1
    rcases h1 with ⟨⟨h1,h2⟩,h3⟩ | ⟨⟨h1,h2⟩,h3⟩
    ·subst h1
     have hl:l=[]:=List.eq_nil_of_length_eq_zero (by omega)
     subst hl
     rw [Q8 h2]
     simp [A0u,A6N,G6,B3j n hok.1]
    ·subst h1
     have hl:l=[]:=List.eq_nil_of_length_eq_zero (by omega)
     subst hl
     subst h2
     simp [A0u,A6N,G6]
   ·rw [if_neg h1] at hc
    by_cases h2:(k != 3||!(n==0)||!mt s)=true
    ·rw [if_pos h2] at hc;omega
    ·rw [if_neg h2] at hc
     simp only [Bool.or_eq_true,not_or,bne_iff_ne,ne_eq,Decidable.not_not,Bool.not_eq_true',Bool.not_eq_false',beq_iff_eq,Bool.not_eq_false] at h2
     obtain⟨⟨rfl,h3⟩,h4⟩:=h2
     have h3:n=0:=by simpa using h3
     have h4:mt s=true:=by simpa using h4
     subst h3
     rw [Q8 h4]
     obtain⟨h5,h6⟩:=A5F (cnt f) (fun v=>(H6 f v).1) l 1 hc
     have ht:G6 (.mk 3 0 s l)=L3 l:=by simp [G6]
     rw [ht] at hlen
     have hl:=A6O (N4 f) l 6000 (by omega) (fun x hx r=>ih x (by have:=h6 x hx;omega) (A3J hok.2 hx) (by have:=A6P hx;omega) r)
     simp [A0u,A6N,G6,hl]
  rw [hb]
  simp only
  rw [D8]
theorem A1T (v:V) (hm:A0t v=true) (hok:okV v) (hlen:(G6 v).length<10000000):M7 (I8 v)=(v,0):=by
 have h:=A5G 6 v (by simpa [A0t] using hm) hok hlen []
 rw [List.append_nil] at h
 simp [M7,V3,h,hm]
theorem B1F (g:List UInt8->V × Nat × Int) (hg:∀ s v n,g s=(v,n,0)->n<=s.length/\I8 v=s.take n/\okV v):∀ (k:Nat) (t:List UInt8) (l:List V),N1 g k t=some l->L3 l=t/\okL l:=by
 intro k
 induction k with
 | zero=>
  intro t l h
  cases t with
  | nil=>rw [N1] at h;cases h;exact⟨by rw [L3],by rw [okL];trivial⟩
  | cons c r=>rw [N1] at h;cases h
 | succ k ih=>
  intro t l h
  cases t with
  | nil=>rw [N1] at h;cases h;exact⟨by rw [L3],by rw [okL];trivial⟩
  | cons c r=>
   rw [N1] at h
   generalize hq:g (c::r)=q at h
   obtain⟨v,n,e⟩:=q
   simp only at h
   by_cases he:e=0
   ·subst he
    simp only [ne_eq,not_true_eq_false,if_false] at h
    cases hl:N1 g k ((c::r).drop n) with
    | none=>rw [hl] at h;cases h
    | some m=>
     rw [hl] at h
     cases h
     obtain⟨h1,h2⟩:=ih _ _ hl
     obtain⟨h3,h4,h5⟩:=hg _ _ _ hq
     refine⟨?_,by rw [okL];exact⟨h5,h2⟩⟩
     rw [L3,h1,h4,List.take_append_drop]
   ·rw [if_pos he] at h;cases h
theorem A5H:∀ (f:Nat) (s:List UInt8) (v:V) (n:Nat),N4 f s=(v,n,0)->n<=s.length/\I8 v=s.take n/\okV v:=by
 intro f
 induction f with
 | zero=>
  intro s v n h
  rw [N4] at h
  try dsimp only at h
  split at h
  ·rename_i h1;simp only [Prod.mk.injEq] at h;exact absurd h.2.2 h1
  ·simp at h
 | succ f ih=>
  intro s v n h
  rw [N4] at h
  try dsimp only at h
  generalize hq:T7 s 0 0=q at h
  obtain⟨m,a,e⟩:=q
  simp only at h
  split at h
  ·rename_i h1;simp only [Prod.mk.injEq] at h;exact absurd h.2.2 h1
  rename_i h1
  have he:e=0:=by simpa using h1
  subst he
  split at h
  ·simp at h
  rename_i h2
  obtain⟨l,r,es,g1,g2,g3,g4,g5,g6,g7⟩:=A8Y s 0 0 m a (fun _=>rfl) hq
  have hne:l≠[]:=fun e=>by subst e;simp at g4
  have hdec:Lib.decDigits m=l:=by
   rw [g2]
   exact A5D l.length l (Nat.le_refl _) hne g1 (g5 rfl)
  cases hb:A0u (N4 f) (s.getD (a+m) 0) ((s.drop a).take m) with
  | none=>rw [hb] at h;simp at h
  | some u=>
   rw [hb] at h
   simp only [Prod.mk.injEq,and_true] at h
   obtain⟨rfl,rfl⟩:=h
   have hr:s.drop a=r:=by
    rw [es,g3]
    have e:l++58::r=(l++[58])++r:=by simp
    rw [e,List.drop_left' (by simp)]
   have hlen:s.length=l.length+1+r.length:=by rw [es];simp;omega
   have hmr:m<r.length:=by omega
   have hc:s.getD (a+m) 0=r[m]:=by
    rw [List.getD_eq_getElem?_getD,<-List.getElem?_drop,hr,List.getElem?_eq_getElem hmr]
    rfl
   rw [hc,hr] at hb
   have key:G6 u=r.take m/\A6N u=r[m]/\okV u:=by
    unfold A0u at hb
    by_cases c1:r[m]=35
    ·rw [if_pos c1] at hb
     cases hn:A8Z (r.take m) with
     | none=>rw [hn] at hb;cases hb
     | some k=>
      rw [hn] at hb
      cases hb
      obtain⟨k1,k2⟩:=B3i hn
      exact⟨by simp [G6,k1],by simp [A6N,c1],by rw [okV,okL];exact⟨k2,trivial⟩⟩
    rw [if_neg c1] at hb
    by_cases c2:r[m]=93
    ·rw [if_pos c2] at hb
     cases hn:N1 (N4 f) 6000 (r.take m) with
     | none=>rw [hn] at hb;cases hb
     | some k=>
      rw [hn] at hb
      cases hb
      obtain⟨k1,k2⟩:=B1F (N4 f) ih 6000 _ _ hn
      exact⟨by simp [G6,k1],by simp [A6N,c2],by rw [okV];exact⟨by unfold B9;omega,k2⟩⟩
    rw [if_neg c2] at hb
    by_cases c3:r[m]=44
    ·rw [if_pos c3] at hb
     cases hb
     exact⟨by simp [G6],by simp [A6N,c3],by rw [okV,okL];exact⟨by unfold B9;omega,trivial⟩⟩
    ·rw [if_neg c3] at hb;cases hb
   obtain⟨k1,k2,k3⟩:=key
   refine⟨by omega,?_,k3⟩
   have hl2:(G6 u).length=m:=by rw [k1,List.length_take];omega
   rw [U7,hl2,hdec,k1,k2,es,g3]
   have e1:r.take m++[r[m]]=r.take (m+1):=by rw [List.take_add_one,List.getElem?_eq_getElem hmr];rfl
   have e2:0+l.length+1+m+1=(l++[58]).length+(m+1):=by simp;omega
   have e3:l++58::r=(l++[58])++r:=by simp
   rw [e1,e2,e3,List.take_append,List.take_of_length_le (Nat.le_add_right _ _),Nat.add_sub_cancel_left]
   simp
theorem A5I {s:List UInt8} {v:V} (h:M7 s=(v,0)):I8 v=s/\A0t v=true/\okV v:=by
 unfold M7 V3 at h
 generalize hq:N4 6 s=q at h
 obtain⟨u,n,e⟩:=q
 simp only at h
 by_cases h1:e=0/\A0t u=false
 ·rw [if_pos h1] at h;simp at h
 ·rw [if_neg h1] at h
  simp only at h
  split at h
  ·simp at h
  ·rename_i h2
   simp only [not_or,ne_eq,Decidable.not_not] at h2
   obtain⟨rfl,rfl⟩:=h2
   cases h
   obtain⟨_,k2,k3⟩:=A5H 6 s _ _ hq
   exact⟨by rw [k2,List.take_length],by
    cases hm:A0t v
    ·exact absurd ⟨rfl,hm⟩ h1
    ·rfl,k3⟩
def A2W (v:V):List UInt8:=if A0t v&&decide ((Lib.decDigits (G6 v).length).length<=7) then I8 v else []
theorem A1U:∀ (l r:List UInt8),(∀ c∈l,dgt c=true)->Lib.indexByte (l++58::r) 58=l.length
 | [],r,_=>rfl
 | c::l,r,h=>by
  have hc:=O6.1 (h c (by simp))
  have ih:=A1U l r fun x hx=>h x (by simp [hx])
  have hne:(c==58)=false:=by
   rw [beq_eq_false_iff_ne]
   intro e
   subst e
   revert hc;decide
  rw [List.cons_append,Lib.indexByte,hne,ih]
  have:((l.length:Int) == -1)=false:=by rw [beq_eq_false_iff_ne];omega
  simp [this]
theorem A34 (v:V):Lib.indexByte (I8 v) 58=(Lib.decDigits (G6 v).length).length:=by
 rw [U7]
 exact A1U _ _ (O7 _).2.1
theorem X8 (v:V) (hok:okV v) (hlen:(I8 v).length<=1073741824) (k n:Int) (s:ByteArray) (A:Option Addr) (len cap:Nat) (S:Nat->Prop) (w:World) (hr:RepC S w v [.int .i64 k,.int .i64 n,.string s,.slice A len cap]) (ht:Tab w):
  Calls Tryz.prog 82 #[.agg #[.int .i64 k,.int .i64 n,.string s,.slice A len cap]] w (C7 (.string ⟨(A2W v).toArray⟩) w):=by
 refine vE Tryz.func82 ?_
 intro g2 w2 h2
 have hc:=((Ctx.start w no (fun _ h=>h.elim)).loc h2).1
 refine hc.a 0 rfl rfl ?_
 refine hc.q (A8V v k n s A len cap S w2 (hr.below hc.below)) fun w3 h3 hc=>?_
 cases hm:A0t v
 ·refine⟨?_,hc.below⟩
  simp [A2W,hm]
  rfl
 refine hc.a 0 rfl rfl ?_
 refine hc.q (B5r _ v (Nat.lt_succ_self _) hok hlen _ S w3 (hr.below hc.below) (ht.below hc.below)) fun w4 h4 hc=>?_
 have hi:Calls Tryz.prog 125 #[.string ⟨(I8 v).toArray⟩,.int .u8 58] w4 (C7 (.int .i64 (Lib.decDigits (G6 v).length).length) w4):=
  (Tryz.strings_IndexByte ⟨(I8 v).toArray⟩ 58 w4).mono fun e w' he=>⟨by rw [he.1,<-A34];rfl,by rw [he.2];exact Below.refl _ _⟩
 refine hc.q hi fun w5 h5 hc=>?_
 by_cases h7:(Lib.decDigits (G6 v).length).length<=7
 ·refine df (by omega) ?_
  refine⟨?_,hc.below⟩
  simp [A2W,hm,h7]
  rfl
 ·refine dt (by omega) ?_
  refine⟨?_,hc.below⟩
  simp [A2W,hm,h7]
  rfl
theorem A6Q (t:List UInt8) (ht:t.length<=1073741824) (w:World):
  Calls Tryz.prog 166 #[.string ⟨t.toArray⟩] w (C7 (.tuple #[.int .i64 (T7 t 0 0).1,.int .i64 (T7 t 0 0).2.1,.int .i64 (T7 t 0 0).2.2]) w):=by
 refine vE Tryz.func166 ?_
 have hsz:(((⟨t.toArray⟩:ByteArray).size:Nat):Int)=t.length:=by rw [H2]
 refine⟨Nat × Nat,fun x=>[(0,.string ⟨t.toArray⟩),(5,.int .i64 x.2),(9,.int .i64 ((⟨t.toArray⟩:ByteArray).size:Nat)),(10,.int .i64 x.1)],
  fun x w'=>x.1<=t.length/\x.1<=7/\x.2<10 ^ x.1/\T7 (t.drop x.1) x.1 x.2=T7 t 0 0/\Below w.heap.size w w',fun x _=>t.length-x.1,(0,0),
  ⟨rfl,rfl,rfl,rfl,trivial⟩,⟨Nat.zero_le _,Nat.zero_le _,Nat.one_pos,rfl,Below.refl _ _⟩,?_⟩
 rintro⟨i,n⟩ w' u ⟨hi,h7,hn,he,hb⟩
 simp only at hi h7 hn he
 have hn7:n<10000000:=Nat.lt_of_lt_of_le hn (Nat.pow_le_pow_right (by decide) h7)
 by_cases hlt:i<t.length
 ·refine dt (by rw [hsz];omega) ?_
  refine⟨⟨by omega,by rw [hsz];omega⟩,?_⟩
  have eg:t.getD i 0=t[i]:=by rw [List.getD_eq_getElem?_getD,List.getElem?_eq_getElem hlt];rfl
  have ec:(⟨t.toArray⟩:ByteArray).data.toList.getD ((i:Int).toNat) 0=t[i]:=by rw [Int.toNat_natCast];exact eg
  rw [List.drop_eq_getElem_cons hlt,T7] at he
  generalize ex:(⟨t.toArray⟩:ByteArray).data.toList.getD ((i:Int).toNat) 0=x at*
  rw [<-ec] at he
  have err:(x=58/\0<i->False)->(dgt x=false\/7<=i\/(0<i/\n=0))->C7 (.tuple #[.int .i64 (T7 t 0 0).1,.int .i64 (T7 t 0 0).2.1,.int .i64 (T7 t 0 0).2.2]) w (.returned (.tuple #[.int .i64 0,.int .i64 0,.int .i64 1])) w':=fun h1 h2=>⟨by
   rw [if_neg h1,if_pos h2] at he
   rw [<-he];rfl,hb⟩
  have go:(x=58/\0<i->False)->¬ (dgt x=false\/7<=i\/(0<i/\n=0))->T7 (t.drop (i+1)) (i+1) (10*n+(x.toNat-48))=T7 t 0 0:=fun h1 h2=>by
   rw [if_neg h1,if_neg h2] at he
   exact he
  have h58:((x.toNat:Int)==58)=decide (x=58):=by
   rw [Bool.eq_iff_iff,beq_iff_eq,decide_eq_true_eq]
   constructor
   ·intro h;exact UInt8.toNat_inj.1 (by have:(58:UInt8).toNat=58:=rfl;omega)
   ·intro h;subst h;rfl
  have rest:(x=58/\0<i->False)->True:=fun _=>trivial
  have hxx:=x.toNat_lt
  by_cases hx:x=58
  ·refine B6 (by show ((x.toNat:Int)==58)=true;rw [h58,decide_eq_true hx]) ?_
   by_cases h0:0<i
   ·refine dt (by omega) ?_
    rw [if_pos ⟨hx,h0⟩] at he
    refine⟨?_,hb⟩
    rw [<-he]
    show Ending.returned (.tuple #[.int .i64 n,.int .i64 (IntKind.i64.wrap ((i:Int)+1)),.int .i64 0])=_
    rw [C1 (by omega)]
   ·refine df (by omega) ?_
    refine df (by subst hx;decide) ?_
    refine dt (by subst hx;decide) ?_
    exact err (fun h=>h0 h.2) (.inl (by subst hx;rfl))
  ·refine B4 (by show ((x.toNat:Int)==58)=false;rw [h58,decide_eq_false hx]) ?_
   by_cases c1:x.toNat<48
   ·refine dt (by omega) ?_
    exact err (fun h=>hx h.1) (.inl (by unfold dgt;rw [decide_eq_false (by omega)];rfl))
   refine df (by omega) ?_
   by_cases c2:57<x.toNat
   ·refine dt (by omega) ?_
    exact err (fun h=>hx h.1) (.inl (by unfold dgt;rw [decide_eq_false (show ¬ x.toNat<=57 by omega),Bool.and_false]))
   refine df (by omega) ?_
   have hd:dgt x=true:=O6.2 ⟨by omega,by omega⟩
   by_cases c3:7<=i
   ·refine dt (by omega) ?_
    exact err (fun h=>hx h.1) (.inr (.inl c3))
   refine df (by omega) ?_
   have ew:IntKind.i64.wrap (IntKind.i64.wrap (10*(n:Int))+IntKind.i64.wrap (IntKind.u8.wrap ((x.toNat:Int)-48)))=((10*n+(x.toNat-48):Nat):Int):=by
    rw [IntWalk.i64_in (10*(n:Int)) ⟨by omega,by omega⟩,IntWalk.u8_in _ ⟨by omega,by omega⟩,IntWalk.i64_in ((x.toNat:Int)-48) ⟨by omega,by omega⟩,IntWalk.i64_in _ ⟨by omega,by omega⟩]
    omega
   have hn':10*n+(x.toNat-48)<10 ^ (i+1):=by rw [Nat.pow_succ];omega
   by_cases c4:0<i
   ·refine dt (by omega) ?_
    by_cases c5:n=0
    ·refine B6 (by subst c5;rfl) ?_
     exact err (fun h=>hx h.1) (.inr (.inr ⟨c4,c5⟩))
    ·refine B4 (by show ((n:Int)==0)=false;rw [beq_eq_false_iff_ne];omega) ?_
     refine⟨(i+1,10*n+(x.toNat-48)),⟨rfl,congrArg _ ew,rfl,congrArg _ (C1 (by omega)),trivial⟩,⟨hlt,by show i+1<=7;omega,hn',go (fun h=>hx h.1) (fun h=>?_),hb⟩,by show t.length-(i+1)<t.length-i;omega⟩
     rcases h with h | h | h
     ·rw [hd] at h;cases h
     ·exact c3 h
     ·exact c5 h.2
   ·refine df (by omega) ?_
    refine⟨(i+1,10*n+(x.toNat-48)),⟨rfl,congrArg _ ew,rfl,congrArg _ (C1 (by omega)),trivial⟩,⟨hlt,by show i+1<=7;omega,hn',go (fun h=>hx h.1) (fun h=>?_),hb⟩,by show t.length-(i+1)<t.length-i;omega⟩
    rcases h with h | h | h
    ·rw [hd] at h;cases h
    ·exact c3 h
    ·exact c4 h.1
 ·refine df (by rw [hsz];omega) ?_
  rw [List.drop_of_length_le (by omega),T7] at he
  refine⟨?_,hb⟩
  rw [<-he]
  rfl
end Go.Proofs.YtfekddndgakneaaGreatDoor
section
namespace Go.Proofs.YtfekddndgakneaaGreatDoor
open Go.Vc Go.RowKit Go.Fl
structure Env (w:World):Prop where
 tab:Tab w
 syn:∃ tp p,w.var? Tryz.prog "strconv.ErrSyntax"=some #[.iface tp p]
 rng:∃ tp p,w.var? Tryz.prog "strconv.ErrRange"=some #[.iface tp p]
theorem A6R {w w':World} {n:String} {x:Array Value} (h:w.var? Tryz.prog n=some x) (hb:Below w.heap.size w w'):w'.var? Tryz.prog n=some x:=by
 unfold World.var? at*
 cases hg:Tryz.prog.globalNamed n with
 | none=>simp [hg] at h
 | some g=>
  simp only [hg,Option.bind_some] at h ⊢
  have hlt:g<w.heap.size:=by
   rcases Nat.lt_or_ge g w.heap.size with h' | h'
   ·exact h'
   ·rw [Array.getElem?_eq_none h'] at h;cases h
  rw [hb.block g hlt]
  exact h
theorem Env.below {w w':World} (h:Env w) (hb:Below w.heap.size w w'):Env w':=
 ⟨h.tab.below hb,by obtain⟨a,b,c⟩:=h.syn;exact⟨a,b,A6R c hb⟩,by obtain⟨a,b,c⟩:=h.rng;exact⟨a,b,A6R c hb⟩⟩
theorem W2 (t:List UInt8) (a b:Nat):(⟨t.toArray⟩:ByteArray).extract a b=⟨((t.drop a).take (b-a)).toArray⟩:=by
 apply ByteArray.ext
 rw [ByteArray.data_extract]
 simp [List.extract]
theorem A7W (w:World) (ox:Operand):(do eqGuard .neq 203 ox (.const .nilIface) .nilIface .nilIface;Go.binOp .neq 203 .nilIface .nilIface:Sem Value).run Tryz.prog w=.ok (.bool false) w:=by
 have h:(Go.binOp .neq 203 .nilIface .nilIface).run Tryz.prog w=.ok (.bool false) w:=by kernel_rfl
 simp [eqGuard,h]
theorem A3K (w:World) (ox:Operand) (tp:TypeId) (p:Value):(do eqGuard .neq 203 ox (.const .nilIface) (.iface tp p) .nilIface;Go.binOp .neq 203 (.iface tp p) .nilIface:Sem Value).run Tryz.prog w=.ok (.bool true) w:=by
 have h:(Go.binOp .neq 203 (.iface tp p) .nilIface).run Tryz.prog w=.ok (.bool true) w:=by kernel_rfl
 simp [eqGuard,h]
theorem A7X {w w':World} {e:TypeId} (h:w'=w\/∃ t,w'=Lib.bytesWorld w e t):Below w.heap.size w w':=by
 rcases h with rfl | ⟨t,rfl⟩
 ·exact Below.refl _ _
 ·exact Lib.bytesWorld_below w e t
theorem B3m (t:List UInt8) (ht:t.length<=1073741824) (n:Int) (h:Lib.parseIntB 64 t=.ok n) (w:World):Calls Tryz.prog 202 #[.string ⟨t.toArray⟩,.int .i64 10,.int .i64 64] w (C7 (.tuple #[.int .i64 n,.nilIface]) w):=
 (Tryz.strconv_ParseInt_10_at64_ok ⟨t.toArray⟩ (by rw [H2];omega) n h w).mono fun e w' he=>⟨he.1,A7X he.2⟩
theorem A6S (t:List UInt8) (ht:t.length<=1073741824) (h:∀ n,Lib.parseIntB 64 t≠.ok n) (w:World) (hw:Env w):
  Calls Tryz.prog 202 #[.string ⟨t.toArray⟩,.int .i64 10,.int .i64 64] w (fun e w'=>∃ x tp p,e=.returned (.tuple #[.int .i64 x,.iface tp p])/\Below w.heap.size w w'):=by
 have hl:(⟨t.toArray⟩:ByteArray).size<=281474976710656:=by rw [H2];omega
 rcases hp:Lib.parseIntB 64 t with n | _ | _
 ·exact absurd hp (h n)
 ·obtain⟨tp,p,hv⟩:=hw.syn
  refine (Any.strconv_ParseInt_10_at64_syntax_var Tryz.laysC174 ⟨t.toArray⟩ hl hp tp p w hv).mono fun e w' he=>?_
  obtain⟨N,h1,_,_,h2⟩:=he
  exact⟨_,_,_,h1,h2⟩
 ·obtain⟨tp,p,hv⟩:=hw.rng
  refine (Tryz.strconv_ParseInt_10_at64_range_var ⟨t.toArray⟩ hl hp tp p w hv).mono fun e w' he=>?_
  obtain⟨N,h1,_,_,h2⟩:=he
  exact⟨_,_,_,h1,h2⟩
def A7F (t:List UInt8):Int × Int × Int:=match A8Z t with | some n=>(1,n,0) | none=>(0,0,1)
theorem A9U (t:List UInt8) (ht:t.length<=1073741824) (w:World) (hw:Env w):
  Calls Tryz.prog 167 #[.string ⟨t.toArray⟩] w (C7 (.tuple #[.agg #[.int .i64 (A7F t).1,.int .i64 (A7F t).2.1,.string ⟨#[]⟩,.slice none 0 0],.int .i64 (A7F t).2.2]) w):=by
 refine vE Tryz.func167 ?_
 have hc:=Ctx.start w no (fun _ h=>h.elim)
 refine hc.n fun gA wgA hgA hc=>?_
 have bad:A8Z t=none->A7F t=(0,0,1):=fun h=>by rw [A7F,h]
 rcases hp:Lib.parseIntB 64 t with n | _ | _
 ·have hn:B9 n:=by
   have hb:=Lib.parseIntB_bounds hp
   simp only [show (2:Nat) ^ (64-1)=9223372036854775808 by decide] at hb
   unfold B9
   omega
  refine hc.q (B3m t ht n hp _) fun w3 h3 hc=>?_
  refine⟨_,fun w=>A7W w _,?_⟩
  refine hc.q (B1C n hn _ (hw.tab.below hc.below)) fun w4 h4 hc=>?_
  by_cases he:Lib.itoa n=t
  ·refine B4 (by show (!C8 _ _)=false;rw [he];simp [C8]) ?_
   refine hc.s 0 rfl fun wS hS hc=>?_
   refine hc.a 0 rfl rfl ?_
   refine⟨?_,hc.below⟩
   have e:A7F t=(1,n,0):=by rw [A7F,A8Z,hp];simp [he]
   rw [e]
   rfl
  ·refine B6 (by show (!C8 _ _)=true;simp [C8,he]) ?_
   refine hc.s 0 rfl fun wS hS hc=>?_
   refine hc.a 0 rfl rfl ?_
   refine⟨?_,hc.below⟩
   have e:A7F t=(0,0,1):=bad (by rw [A8Z,hp];simp [he])
   rw [e]
   rfl
 ·refine⟨(A6S t ht (fun n h=>by rw [hp] at h;cases h) _ (hw.below hc.below)).mono fun e w3 he=>?_⟩
  obtain⟨x,tp,p,e1,h3⟩:=he
  refine⟨_,e1,?_⟩
  have hc:=(hc.quiet h3).1
  refine⟨_,fun w=>A3K w _ tp p,?_⟩
  refine hc.s 0 rfl fun wS hS hc=>?_
  refine hc.a 0 rfl rfl ?_
  refine⟨?_,hc.below⟩
  have e:A7F t=(0,0,1):=bad (by rw [A8Z,hp])
  rw [e]
  rfl
 ·refine⟨(A6S t ht (fun n h=>by rw [hp] at h;cases h) _ (hw.below hc.below)).mono fun e w3 he=>?_⟩
  obtain⟨x,tp,p,e1,h3⟩:=he
  refine⟨_,e1,?_⟩
  have hc:=(hc.quiet h3).1
  refine⟨_,fun w=>A3K w _ tp p,?_⟩
  refine hc.s 0 rfl fun wS hS hc=>?_
  refine hc.a 0 rfl rfl ?_
  refine⟨?_,hc.below⟩
  have e:A7F t=(0,0,1):=bad (by rw [A8Z,hp])
  rw [e]
  rfl
def B9B (f:Nat):Prop:=∀ (t:List UInt8) (depth:Int) (w:World),depth=7-(f:Int)->t.length<=1073741824->Env w->
 Calls Tryz.prog 129 #[.string ⟨t.toArray⟩,.int .i64 depth] w (fun e w'=>∃ cs,e=.returned (.tuple #[.agg cs.toArray,.int .i64 ((N4 f t).2.1:Nat),.int .i64 (N4 f t).2.2])/\Below w.heap.size w w'/\RepC (ext no w w') w' (N4 f t).1 cs)
def A1V (f:Nat) (t:List UInt8):V × Int:=match N1 (N4 f) 6000 t with | some l=>(.mk 3 0 ⟨#[]⟩ l,0) | none=>(V0,1)
theorem RepC.V0 (S:Nat->Prop) (w:World):RepC S w V0 [.int .i64 0,.int .i64 0,.string ⟨#[]⟩,.slice none 0 0]:=by
 rw [Go.Proofs.YtfekddndgakneaaGreatDoor.V0,RepC]
 exact⟨none,0,[],rfl,by rw [RepL],Nat.le_refl _,Nat.zero_le _,fun h=>absurd rfl h⟩
theorem RepC.sub {S S':Nat->Prop} {w:World} {v:V} {cs:List Value} (h:RepC S w v cs) (hs:∀ b,S b->S' b):RepC S' w v cs:=RepC.map (fun h=>h.sub hs) h
theorem RepL.sub {S S':Nat->Prop} {w:World} {v:List V} {cs:List Value} (h:RepL S w v cs) (hs:∀ b,S b->S' b):RepL S' w v cs:=RepL.map (fun h=>h.sub hs) h
theorem RepC.fut {S S':Nat->Prop} {w w':World} {v:V} {cs:List Value} (h:RepC S w v cs) (f:Fut S w S' w'):RepC S' w' v cs:=RepC.map (fun h=>h.fut f) h
theorem RepL.fut {S S':Nat->Prop} {w w':World} {v:List V} {cs:List Value} (h:RepL S w v cs) (f:Fut S w S' w'):RepL S' w' v cs:=RepL.map (fun h=>h.fut f) h
theorem RepL.snoc {S:Nat->Prop} {w:World} {x:V} {c:List Value} (hx:RepC S w x c):∀ {l:List V} {xs:List Value},RepL S w l xs->RepL S w (l++[x]) (xs++c)
 | [],xs,h=>by
  rw [RepL] at h
  subst h
  rw [List.nil_append,List.nil_append,RepL]
  exact⟨c,[],hx,by rw [RepL],by simp⟩
 | v::r,xs,h=>by
  rw [RepL] at h
  obtain⟨cs,ys,h1,h2,e⟩:=h
  rw [List.cons_append,RepL]
  exact⟨cs,ys++c,h1,RepL.snoc hx h2,by rw [e,List.append_assoc]⟩
theorem P2:(Tryz.prog.info? 79).map (fun i=>(i.zero,i.size,i.bytes))=some (some (.agg #[.int .i64 0,.int .i64 0,.string ⟨#[]⟩,.slice none 0 0]),4,56):=by kernel_rfl
attribute [local irreducible] Int.subNatNat in
theorem B3n (f:Nat) (hf:f<=6) (ih:B9B f) (t:List UInt8) (depth:Int) (w:World) (hd:depth=6-(f:Int)) (ht:t.length<=1073741824) (hw:Env w):
  Calls Tryz.prog 168 #[.string ⟨t.toArray⟩,.int .i64 depth] w (fun e w'=>∃ cs,e=.returned (.tuple #[.agg cs.toArray,.int .i64 (A1V f t).2])/\Below w.heap.size w w'/\RepC (ext no w w') w' (A1V f t).1 cs):=by
 refine vE Tryz.func168 ?_
 intro g4 w1 h1
 have hc:=((Ctx.start w no (fun _ h=>h.elim)).loc h1).1
 refine hc.n fun g6 w2 h2 hc=>?_
 refine⟨hc.may 0 rfl 0 _ (Nat.le_refl 4) rfl,?_⟩
 intro w3 h3
 have hc:=(hc.set 0 rfl h3).1
 refine⟨(Nat->Prop) × Option Addr × Nat × List V × List Value × List UInt8,fun x=>[(0,.string ⟨x.2.2.2.2.2.toArray⟩),(1,.int .i64 depth),(4,.pointer (some ⟨g4,0,none⟩)),(6,.pointer (some ⟨g6,0,none⟩))],
  fun x w'=>Ctx no w x.1 w' [(g6,79,[.int .i64 3,.int .i64 0,.string ⟨#[]⟩,.slice x.2.1 x.2.2.2.1.length x.2.2.1]),(g4,79,[.int .i64 0,.int .i64 0,.string ⟨#[]⟩,.slice none 0 0])]/\
   Own x.1 w.heap.size w' [(g6,79,[.int .i64 3,.int .i64 0,.string ⟨#[]⟩,.slice x.2.1 x.2.2.2.1.length x.2.2.1]),(g4,79,[.int .i64 0,.int .i64 0,.string ⟨#[]⟩,.slice none 0 0])] 79 4 x.2.1 x.2.2.2.1.length x.2.2.1 x.2.2.2.2.1/\
   RepL x.1 w' x.2.2.2.1 x.2.2.2.2.1/\x.2.2.2.1.length<=6000/\x.2.2.2.2.2.length<=1073741824/\
   N1 (N4 f) 6000 t=(N1 (N4 f) (6000-x.2.2.2.1.length) x.2.2.2.2.2).map (x.2.2.2.1++·),
  fun x _=>x.2.2.2.2.2.length,(no,none,0,[],[],t),⟨rfl,rfl,rfl,rfl,trivial⟩,⟨hc,Own.nil,by rw [RepL],Nat.zero_le _,ht,?_⟩,?_⟩
 ·show N1 (N4 f) 6000 t=(N1 (N4 f) (6000-0) t).map ([]++·)
  cases N1 (N4 f) 6000 t<;>simp
 rintro⟨S,A,cap,l,xs,rest⟩ w' u ⟨hc,ho,hL,hl,hrest,he⟩
 simp only at hc ho hL hl hrest he
 cases rest with
 | nil=>
  refine df (Int.lt_irrefl 0) ?_
  refine df (Int.lt_irrefl 0) ?_
  obtain⟨hc,hf,hrow⟩:=ho.told hc
  have hrow:=hrow ho.fit.1 ho.fit.2
  have hL:=hL.fut hf
  refine hc.a 0 rfl rfl ?_
  refine⟨hc.may 1 rfl 0 _ (Nat.le_refl 4) rfl,?_⟩
  intro w4 h4
  have hq:=hc.set 1 rfl h4
  have hc:=hq.1
  refine hc.a 1 rfl rfl ?_
  have e:A1V f t=(.mk 3 0 ⟨#[]⟩ l,0):=by
   rw [A1V,he,N1]
   simp
  refine⟨[.int .i64 3,.int .i64 0,.string ⟨#[]⟩,.slice A l.length cap],?_,hc.below,?_⟩
  ·rw [e];rfl
  ·rw [e,RepC]
   exact⟨A,cap,xs,rfl,(hL.fut hq.2).fut hc.out,(hrow.fut hq.2).fut hc.out⟩
 | cons c r=>
  have hpos:(0:Int)<(((⟨(c::r).toArray⟩:ByteArray).size:Nat):Int):=by rw [H2,List.length_cons];omega
  refine dt hpos ?_
  refine hc.c 0 rfl rfl ?_
  have fail:N1 (N4 f) 6000 t=none->∀ w4:World,(hq:Below w.heap.size w w4)->∃ cs:List Value,Ending.returned (.tuple #[.agg #[.int .i64 0,.int .i64 0,.string ⟨#[]⟩,.slice none 0 0],.int .i64 1])=.returned (.tuple #[.agg cs.toArray,.int .i64 (A1V f t).2])/\Below w.heap.size w w4/\RepC (ext no w w4) w4 (A1V f t).1 cs:=by
   intro hn w4 hq
   have e:A1V f t=(Go.Proofs.YtfekddndgakneaaGreatDoor.V0,1):=by rw [A1V,hn]
   rw [e]
   exact⟨[.int .i64 0,.int .i64 0,.string ⟨#[]⟩,.slice none 0 0],rfl,hq,RepC.V0 _ _⟩
  refine R4 (fun h6=>?_) (fun h6=>?_)
  ·have h6:l.length<6000:=by have:=of_decide_eq_true h6;omega
   have hdw:IntKind.i64.wrap (depth+1)=7-(f:Int):=by rw [F1 _ _ (by omega) (by omega)];omega
   refine⟨(ih (c::r) (IntKind.i64.wrap (depth+1)) w' hdw hrest (hw.below hc.below)).mono fun e w4 hq=>?_⟩
   obtain⟨cs,e1,hb4,hr4⟩:=hq
   refine⟨_,e1,?_⟩
   have hstep:N1 (N4 f) (6000-l.length) (c::r)=if (N4 f (c::r)).2.2≠0 then none else (N1 (N4 f) (6000-(l.length+1)) ((c::r).drop (N4 f (c::r)).2.1)).map ((N4 f (c::r)).1::·):=by
    rw [show 6000-l.length=(6000-(l.length+1))+1 by omega,N1]
   have hget:=A5H f (c::r)
   have hgp:∀ v n,N4 f (c::r)=(v,n,0)->0<n:=by
    intro v n hq
    have h1:=(hget v n hq).2.1
    rcases Nat.eq_zero_or_pos n with h | h
    ·subst h
     have h2:=congrArg List.length h1
     rw [D8] at h2
     simp at h2
    ·exact h
   generalize hgen:N4 f (c::r)=q at*
   obtain⟨v,n,er⟩:=q
   simp only at hstep hr4
   obtain⟨k',n',s',l'⟩:=v
   have hr4':=hr4
   rw [RepC] at hr4'
   obtain⟨A',cap',xs',rfl,_,_⟩:=hr4'
   have hC:=hc.call hb4
   have hc:=hC.1
   have ho:=ho.below hb4
   have hL:=hL.fut hC.2
   have hr:=hr4.sub (S':=ext S w' w4) (fun b hb=>.inr (hb.resolve_left (fun h=>h.elim)))
   intro g7 w5 h5
   have ho:=ho.loc h5
   have hC:=hc.loc h5
   have hc:=hC.1
   have hL:=hL.fut hC.2
   have hr:=hr.fut hC.2
   refine⟨hc.may 0 rfl 0 _ (Nat.le_refl 4) rfl,?_⟩
   intro w6 h6'
   have ho:=ho.set hc 0 rfl h6'
   have hC:=hc.set 0 rfl h6'
   have hc:=hC.1
   have hL:=hL.fut hC.2
   have hr:=hr.fut hC.2
   by_cases her:er=0
   ·subst her
    refine hc.c 1 rfl rfl ?_
    refine hc.a 0 rfl rfl ?_
    intro g8 w7 h7
    have ho:=ho.loc h7
    have hC:=hc.loc h7
    have hc:=hC.1
    have hL:=hL.fut hC.2
    have hr:=hr.fut hC.2
    refine X6 Tryz.underlying77 P2 rfl (by decide) hc ho (ys:=[.int .i64 k',.int .i64 n',.string s',.slice A' l'.length cap']) rfl (hc.cells 0 rfl) rfl (by omega) (by decide) ?_
    intro B capB w8 hc hf8 ho _
    have hL:=hL.fut hf8
    have hr:=hr.fut hf8
    refine⟨hc.may 2 rfl 3 _ (Nat.le_refl 4) rfl,?_⟩
    intro w9 h9
    have ho:=ho.set hc 2 rfl h9
    have hC:=hc.set 2 rfl h9
    have hc:=hC.1
    have hL:=hL.fut hC.2
    have hr:=hr.fut hC.2
    obtain⟨hn1,_,_⟩:=hget _ _ rfl
    have hnpos:=hgp _ _ rfl
    refine⟨⟨Int.natCast_nonneg _,by rw [H2];exact Int.ofNat_le.2 hn1,Int.le_refl _⟩,?_⟩
    have hstep:N1 (N4 f) (6000-l.length) (c::r)=(N1 (N4 f) (6000-(l.length+1)) ((c::r).drop n)).map (V.mk k' n' s' l'::·):=by simpa using hstep
    refine⟨(_,B,capB,l++[V.mk k' n' s' l'],xs++[.int .i64 k',.int .i64 n',.string s',.slice A' l'.length cap'],(c::r).drop n),⟨?_,rfl,rfl,rfl,trivial⟩,⟨?_,?_,hL.snoc hr,?_,?_,?_⟩,?_⟩
    ·refine congrArg _ ((W2 (c::r) _ _).trans ?_)
     rw [List.take_of_length_le (by rw [List.length_drop,Int.toNat_natCast,Int.toNat_natCast,H2];exact Nat.le_refl _),Int.toNat_natCast]
    ·have:=hc.drop.drop
     rw [List.length_append,List.length_singleton]
     exact this
    ·have:=ho.drop.drop
     rw [List.length_append,List.length_singleton]
     exact this
    ·show (l++[V.mk k' n' s' l']).length<=6000
     rw [List.length_append,List.length_singleton];omega
    ·show ((c::r).drop n).length<=_
     rw [List.length_drop];omega
    ·show N1 (N4 f) 6000 t=(N1 (N4 f) (6000-(l++[V.mk k' n' s' l']).length) ((c::r).drop n)).map ((l++[V.mk k' n' s' l'])++·)
     rw [he,hstep,Option.map_map,List.length_append,List.length_singleton]
     congr 1
     funext z
     simp
    ·show ((c::r).drop n).length<(c::r).length
     rw [List.length_drop,List.length_cons] at *;omega
   ·refine B6 (by show (er != 0)=true;simpa using her) ?_
    refine⟨hc.may 2 rfl 0 _ (Nat.le_refl 4) rfl,?_⟩
    intro w7 h7
    have hc:=(hc.set 2 rfl h7).1
    refine hc.a 2 rfl rfl ?_
    exact fail (by rw [he,hstep,if_pos her];rfl) _ hc.below
  ·have h6:¬ l.length<6000:=by have:=of_decide_eq_false h6;omega
   refine dt hpos ?_
   refine⟨hc.may 1 rfl 0 _ (Nat.le_refl 4) rfl,?_⟩
   intro w7 h7
   have hc:=(hc.set 1 rfl h7).1
   refine hc.a 1 rfl rfl ?_
   exact fail (by rw [he,show 6000-l.length=0 by omega,N1];rfl) _ hc.below
end Go.Proofs.YtfekddndgakneaaGreatDoor
end
namespace Go.Proofs.YtfekddndgakneaaGreatDoor
open Go.Vc Go.RowKit Go.Fl
theorem A4N:∀ (s:List UInt8) (i n:Nat),i<=7->n<10 ^ i->(T7 s i n).1<10000000/\(T7 s i n).2.1<=8/\0<=(T7 s i n).2.2/\(T7 s i n).2.2<=2
 | [],i,n,_,_=>by rw [T7];simp
 | c::r,i,n,hi,hn=>by
  rw [T7]
  split
  ·have:10 ^ i<=10 ^ 7:=Nat.pow_le_pow_right (by decide) hi
   simp only
   omega
  ·split
   ·simp
   ·rename_i h
    have hd:dgt c=true:=by
     cases e:dgt c
     ·exact absurd (.inl e) h
     ·rfl
    have hd:=O6.1 hd
    have h7:¬ 7<=i:=fun e=>h (.inr (.inl e))
    exact A4N r (i+1) _ (by omega) (by rw [Nat.pow_succ];omega)
def ResG (q:V × Nat × Int) (w:World) (e:Ending) (w':World):Prop:=∃ cs,e=.returned (.tuple #[.agg cs.toArray,.int .i64 (q.2.1:Nat),.int .i64 q.2.2])/\Below w.heap.size w w'/\RepC (ext no w w') w' q.1 cs
theorem ResG.err {w w':World} (hb:Below w.heap.size w w') (e:Int):ResG (V0,0,e) w (.returned (.tuple #[.agg #[.int .i64 0,.int .i64 0,.string ⟨#[]⟩,.slice none 0 0],.int .i64 0,.int .i64 e])) w':=
 ⟨[.int .i64 0,.int .i64 0,.string ⟨#[]⟩,.slice none 0 0],rfl,hb,RepC.V0 _ _⟩
theorem B5s:∀ f:Nat,f<=6->B9B f:=by
 intro f
 induction f with
 | zero=>
  intro _ t depth w hd ht hw
  show Calls _ _ _ _ (ResG (N4 0 t) w)
  refine vE Tryz.func129 ?_
  have hc:=Ctx.start w no (fun _ h=>h.elim)
  refine hc.n fun gA wgA hgA hc=>?_
  refine hc.q (A6Q t ht _) fun w3 h3 hc=>?_
  have eg:N4 0 t=if (T7 t 0 0).2.2≠0 then (V0,0,(T7 t 0 0).2.2) else (V0,0,1):=by rw [N4]
  rw [eg]
  generalize T7 t 0 0=q at*
  obtain⟨n,a,e⟩:=q
  simp only
  by_cases he:e=0
  ·subst he
   refine dt (by omega) ?_
   refine hc.s 0 rfl fun wS hS hc=>?_
   refine hc.a 0 rfl rfl ?_
   exact ResG.err hc.below 1
  ·refine B6 (by show (e != 0)=true;simpa using he) ?_
   refine hc.s 0 rfl fun wS hS hc=>?_
   refine hc.a 0 rfl rfl ?_
   rw [if_pos he]
   exact ResG.err hc.below e
 | succ f ih=>
  intro hf t depth w hd ht hw
  have ih:=ih (by omega)
  show Calls _ _ _ _ (ResG (N4 (f+1) t) w)
  refine vE Tryz.func129 ?_
  intro g4 w1 h1
  have hc:=((Ctx.start w no (fun _ h=>h.elim)).loc h1).1
  refine hc.q (A6Q t ht _) fun w3 h3 hc=>?_
  have hr:=A4N t 0 0 (Nat.zero_le _) Nat.one_pos
  have eg:N4 (f+1) t=if (T7 t 0 0).2.2≠0 then (V0,0,(T7 t 0 0).2.2) else if t.length<=(T7 t 0 0).2.1+(T7 t 0 0).1 then (V0,0,2)
    else match A0u (N4 f) (t.getD ((T7 t 0 0).2.1+(T7 t 0 0).1) 0) ((t.drop (T7 t 0 0).2.1).take (T7 t 0 0).1) with
     | none=>(V0,0,1)
     | some v=>(v,(T7 t 0 0).2.1+(T7 t 0 0).1+1,0):=by first | (rw [N4];done) | (rw [N4];rfl)
  rw [eg]
  clear eg
  generalize T7 t 0 0=q at*
  obtain⟨n,a,e⟩:=q
  simp only at hr ⊢
  by_cases he:e=0
  rotate_left
  ·refine B6 (by show (e != 0)=true;simpa using he) ?_
   refine hc.s 0 rfl fun wS hS hc=>?_
   refine hc.a 0 rfl rfl ?_
   rw [if_pos he]
   exact ResG.err hc.below e
  subst he
  refine df (by omega) ?_
  have hwr:IntKind.i64.wrap ((a:Int)+(n:Int))=((a+n:Nat):Int):=by rw [F1 _ _ (by omega) (by omega)];rfl
  simp only [ne_eq,not_true_eq_false,if_false]
  have hsz:(((⟨t.toArray⟩:ByteArray).size:Nat):Int)=t.length:=by rw [H2]
  by_cases hlen:t.length<=a+n
  ·refine dt (by rw [hsz,hwr];omega) ?_
   refine hc.s 0 rfl fun wS hS hc=>?_
   refine hc.a 0 rfl rfl ?_
   rw [if_pos hlen]
   exact ResG.err hc.below 2
  refine df (by rw [hsz,hwr];omega) ?_
  rw [if_neg hlen]
  refine⟨⟨by omega,by rw [hwr];omega,by rw [hsz,hwr];omega⟩,?_⟩
  have ex:(⟨t.toArray⟩:ByteArray).extract (a:Int).toNat (IntKind.i64.wrap ((a:Int)+(n:Int))).toNat=⟨((t.drop a).take n).toArray⟩:=by
   rw [W2,hwr,Int.toNat_natCast,Int.toNat_natCast,Nat.add_sub_cancel_left]
  generalize (⟨t.toArray⟩:ByteArray).extract (a:Int).toNat (IntKind.i64.wrap ((a:Int)+(n:Int))).toNat=sub at ex ⊢
  subst ex
  have hbl:((t.drop a).take n).length<=1073741824:=by rw [List.length_take,List.length_drop];omega
  generalize (t.drop a).take n=b at hbl ⊢
  refine hc.n fun g10 w4 h4 hc=>?_
  refine⟨hc.may 0 rfl 0 _ (Nat.le_refl 4) rfl,?_⟩
  intro w5 h5
  have hc:=(hc.set 0 rfl h5).1
  refine⟨⟨by rw [hwr];omega,by rw [hsz,hwr];omega⟩,?_⟩
  have ec:(⟨t.toArray⟩:ByteArray).data.toList.getD (IntKind.i64.wrap ((a:Int)+(n:Int))).toNat 0=t.getD (a+n) 0:=by rw [hwr,Int.toNat_natCast]
  generalize (⟨t.toArray⟩:ByteArray).data.toList.getD (IntKind.i64.wrap ((a:Int)+(n:Int))).toNat 0=x at ec ⊢
  rw [<-ec]
  clear ec
  have hx:∀ m:Nat,m<256->((x.toNat:Int)==(m:Int))=decide (x=UInt8.ofNat m):=fun m hm=>by
   rw [Bool.eq_iff_iff,beq_iff_eq,decide_eq_true_eq]
   constructor
   ·intro h
    exact UInt8.toNat_inj.1 (by rw [P1 m hm];omega)
   ·intro h;rw [h,P1 m hm]
  have hend:IntKind.i64.wrap (IntKind.i64.wrap ((a:Int)+(n:Int))+1)=((a+n+1:Nat):Int):=by rw [hwr,C1 (by omega)]
  by_cases x1:x=35
  ·refine B6 ((hx 35 (by decide)).trans (decide_eq_true x1)) ?_
   refine hc.c 0 rfl rfl ?_
   refine hc.q (A9U b hbl _ (hw.below hc.below)) fun w6 h6 hc=>?_
   refine⟨hc.may 0 rfl 0 _ (Nat.le_refl 4) rfl,?_⟩
   intro w7 h7
   have hc:=(hc.set 0 rfl h7).1
   have eb:A0u (N4 f) x b=(A8Z b).map fun n=>.mk 1 n ⟨#[]⟩ []:=by rw [A0u,if_pos x1]
   rw [eb]
   clear eb
   cases hn:A8Z b with
   | none=>
    have e:A7F b=(0,0,1):=by rw [A7F,hn]
    generalize A7F b=q at*
    subst e
    refine hc.s 1 rfl fun wS hS hc=>?_
    refine hc.a 1 rfl rfl ?_
    exact ResG.err hc.below 1
   | some m=>
    have e:A7F b=(1,m,0):=by rw [A7F,hn]
    generalize A7F b=q at*
    subst e
    refine hc.a 0 rfl rfl ?_
    refine hc.s 1 rfl fun wS hS hc=>?_
    refine hc.a 1 rfl rfl ?_
    refine⟨[.int .i64 1,.int .i64 m,.string ⟨#[]⟩,.slice none 0 0],?_,hc.below,?_⟩
    ·show Ending.returned (.tuple #[_,.int .i64 (IntKind.i64.wrap (IntKind.i64.wrap ((a:Int)+(n:Int))+1)),_])=_
     rw [hend];rfl
    ·simp only [Option.map_some]
     rw [RepC]
     exact⟨none,0,[],rfl,by rw [RepL],Nat.le_refl _,Nat.zero_le _,fun h=>absurd rfl h⟩
  refine B4 ((hx 35 (by decide)).trans (decide_eq_false x1)) ?_
  by_cases x2:x=93
  ·refine B6 ((hx 93 (by decide)).trans (decide_eq_true x2)) ?_
   refine hc.c 0 rfl rfl ?_
   refine⟨(B3n f (by omega) ih b depth _ (by omega) hbl (hw.below hc.below)).mono fun e w6 hq=>?_⟩
   obtain⟨cs,e1,h6,hrep⟩:=hq
   refine⟨_,e1,?_⟩
   have hC:=hc.call h6
   have hc:=hC.1
   have hrep:=hrep.sub (S':=ext no w5 w6) (fun _ h=>h)
   have eb:A0u (N4 f) x b=(N1 (N4 f) 6000 b).map fun l=>.mk 3 0 ⟨#[]⟩ l:=by rw [A0u,if_neg x1,if_pos x2]
   rw [eb]
   clear eb
   have hL:=hrep.len
   cases hl:N1 (N4 f) 6000 b with
   | none=>
    have e:A1V f b=(V0,1):=by rw [A1V,hl]
    generalize A1V f b=q at*
    subst e
    match cs,hL with
    | [c1,c2,c3,c4],_=>
    have hone:G9 [c1,c2,c3,c4]=true:=by
     rw [V0,RepC] at hrep
     obtain⟨_,_,_,e,_⟩:=hrep
     rw [e];rfl
    refine⟨hc.may 0 rfl 0 _ (Nat.le_refl 4) hone,?_⟩
    intro w7 h7
    have hc:=(hc.set 0 rfl h7).1
    refine hc.s 1 rfl fun wS hS hc=>?_
    refine hc.a 1 rfl rfl ?_
    exact ResG.err hc.below 1
   | some l=>
    have e:A1V f b=(.mk 3 0 ⟨#[]⟩ l,0):=by rw [A1V,hl]
    generalize A1V f b=q at*
    subst e
    match cs,hL with
    | [c1,c2,c3,c4],_=>
    have hone:G9 [c1,c2,c3,c4]=true:=by
     rw [RepC] at hrep
     obtain⟨_,_,_,e,_⟩:=hrep
     rw [e];rfl
    refine⟨hc.may 0 rfl 0 _ (Nat.le_refl 4) hone,?_⟩
    intro w7 h7
    have hC:=hc.set 0 rfl h7
    have hc:=hC.1
    have hrep:=hrep.fut hC.2
    refine hc.a 0 rfl rfl ?_
    refine⟨hc.may 1 rfl 0 _ (Nat.le_refl 4) hone,?_⟩
    intro w8 h8
    have hC:=hc.set 1 rfl h8
    have hc:=hC.1
    have hrep:=hrep.fut hC.2
    refine hc.a 1 rfl rfl ?_
    refine⟨[c1,c2,c3,c4],?_,hc.below,?_⟩
    ·show Ending.returned (.tuple #[_,.int .i64 (IntKind.i64.wrap (IntKind.i64.wrap ((a:Int)+(n:Int))+1)),_])=_
     rw [hend];rfl
    ·exact hrep.fut hc.out
  refine B4 ((hx 93 (by decide)).trans (decide_eq_false x2)) ?_
  by_cases x3:x=44
  ·refine B6 ((hx 44 (by decide)).trans (decide_eq_true x3)) ?_
   have eb:A0u (N4 f) x b=some (.mk 2 0 ⟨b.toArray⟩ []):=by rw [A0u,if_neg x1,if_neg x2,if_pos x3]
   rw [eb]
   clear eb
   refine hc.a 0 rfl rfl ?_
   refine hc.s 1 rfl fun wS hS hc=>?_
   refine hc.a 1 rfl rfl ?_
   refine⟨[.int .i64 2,.int .i64 0,.string ⟨b.toArray⟩,.slice none 0 0],?_,hc.below,?_⟩
   ·show Ending.returned (.tuple #[_,.int .i64 (IntKind.i64.wrap (IntKind.i64.wrap ((a:Int)+(n:Int))+1)),_])=_
    rw [hend];rfl
   ·simp only
    rw [RepC]
    exact⟨none,0,[],rfl,by rw [RepL],Nat.le_refl _,Nat.zero_le _,fun h=>absurd rfl h⟩
  ·refine B4 ((hx 44 (by decide)).trans (decide_eq_false x3)) ?_
   have eb:A0u (N4 f) x b=none:=by rw [A0u,if_neg x1,if_neg x2,if_neg x3]
   rw [eb]
   clear eb
   refine hc.s 1 rfl fun wS hS hc=>?_
   refine hc.a 1 rfl rfl ?_
   exact ResG.err hc.below 1
theorem B1G (t:List UInt8) (w:World) (ht:t.length<=1073741824) (hw:Env w):Calls Tryz.prog 85 #[.string ⟨t.toArray⟩] w (ResG (V3 t) w):=by
 refine vE Tryz.func85 ?_
 intro g2 w1 h1
 have hc:=((Ctx.start w no (fun _ h=>h.elim)).loc h1).1
 refine⟨(B5s 6 (Nat.le_refl _) t 1 _ rfl ht (hw.below hc.below)).mono fun e w6 hq=>?_⟩
 obtain⟨cs,e1,h6,hrep⟩:=hq
 refine⟨_,e1,?_⟩
 have hC:=hc.call h6
 have hc:=hC.1
 have eg:V3 t=if (N4 6 t).2.2=0/\A0t (N4 6 t).1=false then (V0,0,1) else N4 6 t:=by rw [V3]
 rw [eg]
 clear eg
 generalize N4 6 t=q at*
 obtain⟨v,n,er⟩:=q
 simp only at hrep ⊢
 have hshape:∃ k' n' s' A' len' cap',cs=[.int .i64 k',.int .i64 n',.string s',.slice A' len' cap']:=by
  obtain⟨k',n',s',l'⟩:=v
  rw [RepC] at hrep
  obtain⟨A',cap',xs',e,_,_⟩:=hrep
  exact⟨_,_,_,_,_,_,e⟩
 obtain⟨k',n',s',A',len',cap',rfl⟩:=hshape
 intro g5 w7 h7
 have hC:=hc.loc h7
 have hc:=hC.1
 have hrep:=hrep.fut hC.2
 refine⟨hc.may 0 rfl 0 _ (Nat.le_refl 4) rfl,?_⟩
 intro w8 h8
 have hC:=hc.set 0 rfl h8
 have hc:=hC.1
 have hrep:=hrep.fut hC.2
 by_cases he:er=0
 ·refine B6 (by show (er==0)=true;simpa using he) ?_
  refine hc.a 0 rfl rfl ?_
  refine C2 (A8V v k' n' s' A' len' cap' _ _ hrep) ?_
  intro w9 h9
  have hC:=hc.quiet h9
  have hc:=hC.1
  have hrep:=hrep.fut hC.2
  by_cases hm:A0t v=true
  ·refine B4 (by rw [hm];rfl) ?_
   refine hc.a 0 rfl rfl ?_
   refine⟨hc.may 1 rfl 0 _ (Nat.le_refl 4) rfl,?_⟩
   intro w10 h10
   have hC:=hc.set 1 rfl h10
   have hc:=hC.1
   have hrep:=hrep.fut hC.2
   refine hc.a 1 rfl rfl ?_
   rw [if_neg (fun h=>by rw [hm] at h;cases h.2)]
   exact⟨[.int .i64 k',.int .i64 n',.string s',.slice A' len' cap'],rfl,hc.below,hrep.fut hc.out⟩
  ·have hm:A0t v=false:=by simpa using hm
   refine B6 (by rw [hm];rfl) ?_
   refine hc.s 1 rfl fun wS hS hc=>?_
   refine hc.a 1 rfl rfl ?_
   rw [if_pos ⟨he,hm⟩]
   exact ResG.err hc.below 1
 ·refine B4 (by show (er==0)=false;simpa using he) ?_
  refine hc.a 0 rfl rfl ?_
  refine⟨hc.may 1 rfl 0 _ (Nat.le_refl 4) rfl,?_⟩
  intro w10 h10
  have hC:=hc.set 1 rfl h10
  have hc:=hC.1
  have hrep:=hrep.fut hC.2
  refine hc.a 1 rfl rfl ?_
  rw [if_neg (fun h=>he h.1)]
  exact⟨[.int .i64 k',.int .i64 n',.string s',.slice A' len' cap'],rfl,hc.below,hrep.fut hc.out⟩
theorem B1H (t:List UInt8) (w:World) (ht:t.length<=1073741824) (hw:Env w):
  Calls Tryz.prog 52 #[.string ⟨t.toArray⟩] w (fun e w'=>∃ k n s A len cap,e=.returned (.tuple #[.agg #[.int .i64 k,.int .i64 n,.string s,.slice A len cap],.int .i64 (M7 t).2])/\Below w.heap.size w w'/\RepC (ext no w w') w' (M7 t).1 [.int .i64 k,.int .i64 n,.string s,.slice A len cap]):=by
 refine vE Tryz.func52 ?_
 intro g2 w1 h1
 have hc:=((Ctx.start w no (fun _ h=>h.elim)).loc h1).1
 refine⟨(B1G t _ ht (hw.below hc.below)).mono fun e w6 hq=>?_⟩
 obtain⟨cs,e1,h6,hrep⟩:=hq
 refine⟨_,e1,?_⟩
 have hC:=hc.call h6
 have hc:=hC.1
 have eg:M7 t=if (V3 t).2.2≠0\/(V3 t).2.1≠t.length then (V0,1) else ((V3 t).1,0):=by rw [M7]
 rw [eg]
 clear eg
 generalize V3 t=q at*
 obtain⟨v,n,er⟩:=q
 simp only at hrep ⊢
 have hshape:∃ k' n' s' A' len' cap',cs=[.int .i64 k',.int .i64 n',.string s',.slice A' len' cap']:=by
  obtain⟨k',n',s',l'⟩:=v
  rw [RepC] at hrep
  obtain⟨A',cap',xs',e,_,_⟩:=hrep
  exact⟨_,_,_,_,_,_,e⟩
 obtain⟨k',n',s',A',len',cap',rfl⟩:=hshape
 intro g5 w7 h7
 have hC:=hc.loc h7
 have hc:=hC.1
 have hrep:=hrep.fut hC.2
 refine⟨hc.may 0 rfl 0 _ (Nat.le_refl 4) rfl,?_⟩
 intro w8 h8
 have hC:=hc.set 0 rfl h8
 have hc:=hC.1
 have hrep:=hrep.fut hC.2
 have hsz:(((⟨t.toArray⟩:ByteArray).size:Nat):Int)=t.length:=by rw [H2]
 by_cases he:er=0
 ·refine B4 (by show (er != 0)=false;simpa using he) ?_
  by_cases hn:n=t.length
  ·refine B4 (by show ((n:Int) != ((⟨t.toArray⟩:ByteArray).size:Nat))=false;rw [hsz,hn];simp) ?_
   refine hc.a 0 rfl rfl ?_
   refine⟨hc.may 1 rfl 0 _ (Nat.le_refl 4) rfl,?_⟩
   intro w10 h10
   have hC:=hc.set 1 rfl h10
   have hc:=hC.1
   have hrep:=hrep.fut hC.2
   refine hc.a 1 rfl rfl ?_
   rw [if_neg (fun h=>by rcases h with h | h;exact h he;exact h hn)]
   exact⟨_,_,_,_,_,_,rfl,hc.below,hrep.fut hc.out⟩
  ·refine B6 (by show ((n:Int) != ((⟨t.toArray⟩:ByteArray).size:Nat))=true;rw [hsz,bne_iff_ne];omega) ?_
   refine hc.s 1 rfl fun wS hS hc=>?_
   refine hc.a 1 rfl rfl ?_
   rw [if_pos (.inr hn)]
   exact⟨0,0,⟨#[]⟩,none,0,0,rfl,hc.below,RepC.V0 _ _⟩
 ·refine B6 (by show (er != 0)=true;simpa using he) ?_
  refine hc.s 1 rfl fun wS hS hc=>?_
  refine hc.a 1 rfl rfl ?_
  rw [if_pos (.inl he)]
  exact⟨0,0,⟨#[]⟩,none,0,0,rfl,hc.below,RepC.V0 _ _⟩
structure Ver where
 ver:Int
 gone:Bool
 body:ByteArray
structure Ent where
 key:ByteArray
 vs:List Ver
structure Res where
 err:Int
 ver:Int
structure Mem where
 req:Int
 res:Res
structure Stt where
 seq:Int
 l:List Ent
 ms:List Mem
 lows:List Int
def F3 (v:Ver):List Value:=[.int .i64 v.ver,.bool v.gone,.string v.body]
def F5 (m:Mem):List Value:=[.int .i64 m.req,.int .i64 m.res.err,.int .i64 m.res.ver]
def B8b (n:Int):Value:=.int .i64 n
def Flat (k:Nat) (css:List (List Value)):Prop:=∀ c∈css,c.length=k/\G9 c=true
theorem Flat.len {k:Nat}:∀ {css:List (List Value)},Flat k css->css.flatten.length=css.length*k
 | [],_=>by simp
 | c::r,h=>by
  rw [List.flatten_cons,List.length_append,(h c (by simp)).1,Flat.len (fun x hx=>h x (by simp [hx])),List.length_cons,Nat.succ_mul,Nat.add_comm]
theorem Flat.get {k:Nat}:∀ {css:List (List Value)},Flat k css->∀ (i:Nat) (hi:i<css.length) (j:Nat) (u:Value),css[i][j]?=some u->css.flatten[i*k+j]?=some u
 | c::r,h,0,_,j,u,hu=>by
  have hj:j<c.length:=by
   rcases Nat.lt_or_ge j c.length with h | h
   ·exact h
   ·rw [List.getElem_cons_zero,List.getElem?_eq_none h] at hu;cases hu
  rw [List.flatten_cons,Nat.zero_mul,Nat.zero_add,List.getElem?_append_left hj]
  exact hu
 | c::r,h,i+1,hi,j,u,hu=>by
  have hc:=(h c (by simp)).1
  rw [List.flatten_cons,List.getElem?_append_right (by rw [hc,Nat.succ_mul];omega),hc,show (i+1)*k+j-k=i*k+j from by rw [Nat.succ_mul];omega]
  exact Flat.get (fun x hx=>h x (by simp [hx])) i (Nat.lt_of_succ_lt_succ hi) j u hu
theorem Flat.take {k:Nat} {css:List (List Value)} (h:Flat k css) (n:Nat):Flat k (css.take n):=fun c hc=>h c (List.mem_of_mem_take hc)
theorem Flat.drop {k:Nat} {css:List (List Value)} (h:Flat k css) (n:Nat):Flat k (css.drop n):=fun c hc=>h c (List.mem_of_mem_drop hc)
theorem Flat.append {k:Nat} {a b:List (List Value)} (ha:Flat k a) (hb:Flat k b):Flat k (a++b):=fun c hc=>by
 rw [List.mem_append] at hc
 rcases hc with h | h
 ·exact ha c h
 ·exact hb c h
theorem Flat.map {α:Type} {k:Nat} (f:α->List Value) (hf:∀ a,(f a).length=k/\G9 (f a)=true) (l:List α):Flat k (l.map f):=fun c hc=>by
 obtain⟨a,_,rfl⟩:=List.mem_map.1 hc
 exact hf a
theorem Flat.flat_take {k:Nat}:∀ {css:List (List Value)},Flat k css->∀ i,(css.take i).flatten=css.flatten.take (i*k)
 | [],_,i=>by simp
 | c::r,h,0=>by simp
 | c::r,h,i+1=>by
  have hc:=(h c (by simp)).1
  rw [List.take_succ_cons,List.flatten_cons,List.flatten_cons,Flat.flat_take (fun x hx=>h x (by simp [hx])) i,Nat.succ_mul,List.take_append,hc,List.take_of_length_le (l:=c) (by omega),show i*k+k-k=i*k from by omega]
theorem Flat.flat_drop {k:Nat} {css:List (List Value)} (h:Flat k css) (i:Nat):(css.drop i).flatten=css.flatten.drop (i*k):=by
 have e:css.flatten=(css.take i).flatten++(css.drop i).flatten:=by rw [<-List.flatten_append,List.take_append_drop]
 rcases Nat.lt_or_ge i css.length with hi | hi
 ·rw [e,List.drop_left' (by rw [Flat.len (h.take i),List.length_take,Nat.min_eq_left (Nat.le_of_lt hi)])]
 ·rw [List.drop_of_length_le hi,List.drop_of_length_le (by rw [h.len];exact Nat.mul_le_mul_right _ hi)]
  rfl
theorem Flat.ones {k:Nat}:∀ {css:List (List Value)},Flat k css->G9 css.flatten=true
 | [],_=>rfl
 | c::r,h=>by
  refine A3B fun v hv=>?_
  rw [List.flatten_cons,List.mem_append] at hv
  rcases hv with hv | hv
  ·exact M6 (h c (by simp)).2 v hv
  ·exact M6 (Flat.ones (css:=r) fun x hx=>h x (by simp [hx])) v hv
theorem A8a {c:List Value} (h:c.length=2):∃ a b,c=[a,b]:=by
 match c,h with
 | [a,b],_=>exact⟨a,b,rfl⟩
theorem B1I {c:List Value} (h:c.length=3):∃ a b d,c=[a,b,d]:=by
 match c,h with
 | [a,b,d],_=>exact⟨a,b,d,rfl⟩
theorem Row.elemF {S:Nat->Prop} {w:World} {A:Option Addr} {n cap k:Nat} {css:List (List Value)} (hR:Row S w A n cap css.flatten) (hk:0<k) (hF:Flat k css) (i:Nat) (hi:i<css.length):
  ∃ ad,A=some ad/\Go.Vc.cellsAt w (ad.add (i*k)) css[i] 0:=by
 have hx:=hF.len
 have h1:(i+1)*k<=css.length*k:=Nat.mul_le_mul_right _ hi
 rw [Nat.succ_mul] at h1
 obtain⟨ad,e,hc⟩:=hR.get (i:=i*k) (by omega)
 refine⟨ad,e,?_⟩
 exact A0E hc (i*k) css[i] 0 (fun j u hu=>by rw [Nat.add_zero];exact hF.get i hi j u hu)
def RepE (S:Nat->Prop) (w:World) (e:Ent) (cs:List Value):Prop:=∃ A cap,cs=[.string e.key,.slice A e.vs.length cap]/\Row S w A e.vs.length cap (e.vs.map F3).flatten
def RepEs (S:Nat->Prop) (w:World):List Ent->List (List Value)->Prop
 | [],css=>css=[]
 | e::r,css=>∃ c t,css=c::t/\RepE S w e c/\RepEs S w r t
theorem RepE.map {S S':Nat->Prop} {w w':World} (h:∀ {A:Option Addr} {n cap:Nat} {xs:List Value},Row S w A n cap xs->Row S' w' A n cap xs) {e:Ent} {cs:List Value} (hr:RepE S w e cs):RepE S' w' e cs:=by
 obtain⟨A,cap,e1,e2⟩:=hr
 exact⟨A,cap,e1,h e2⟩
theorem RepEs.map {S S':Nat->Prop} {w w':World} (h:∀ {A:Option Addr} {n cap:Nat} {xs:List Value},Row S w A n cap xs->Row S' w' A n cap xs):∀ {l:List Ent} {css:List (List Value)},RepEs S w l css->RepEs S' w' l css
 | [],_,hr=>hr
 | e::r,_,⟨c,t,e1,e2,e3⟩=>⟨c,t,e1,e2.map h,RepEs.map h e3⟩
theorem RepEs.below {S:Nat->Prop} {w w':World} {l:List Ent} {css:List (List Value)} (h:RepEs S w l css) (hb:Below w.heap.size w w'):RepEs S w' l css:=h.map (fun h=>h.below hb)
theorem RepEs.len {S:Nat->Prop} {w:World}:∀ {l:List Ent} {css:List (List Value)},RepEs S w l css->css.length=l.length
 | [],_,h=>by rw [show _=[] from h];rfl
 | e::r,_,⟨c,t,e1,e2,e3⟩=>by rw [e1,List.length_cons,e3.len,List.length_cons]
theorem RepEs.flat {S:Nat->Prop} {w:World}:∀ {l:List Ent} {css:List (List Value)},RepEs S w l css->Flat 2 css
 | [],_,h=>by rw [show _=[] from h];intro c hc;cases hc
 | e::r,_,⟨c,t,e1,⟨A,cap,e2,_⟩,e3⟩=>by
  rw [e1]
  intro x hx
  cases hx with
  | head=>rw [e2];exact⟨rfl,rfl⟩
  | tail _ hx=>exact e3.flat x hx
theorem RepEs.get {S:Nat->Prop} {w:World}:∀ {l:List Ent} {css:List (List Value)},RepEs S w l css->∀ (i:Nat) (hi:i<l.length) (hj:i<css.length),RepE S w l[i] css[i]
 | e::r,_,⟨c,t,e1,e2,e3⟩,0,_,_=>by subst e1;exact e2
 | e::r,_,⟨c,t,e1,e2,e3⟩,i+1,hi,hj=>by subst e1;exact e3.get i (Nat.lt_of_succ_lt_succ hi) (Nat.lt_of_succ_lt_succ hj)
theorem RepEs.append {S:Nat->Prop} {w:World}:∀ {l m:List Ent} {a b:List (List Value)},RepEs S w l a->RepEs S w m b->RepEs S w (l++m) (a++b)
 | [],_,_,_,h,hb=>by rw [show _=[] from h];exact hb
 | e::r,_,_,_,⟨c,t,e1,e2,e3⟩,hb=>by subst e1;exact⟨c,_,rfl,e2,e3.append hb⟩
theorem RepEs.take {S:Nat->Prop} {w:World}:∀ {l:List Ent} {css:List (List Value)} (i:Nat),RepEs S w l css->RepEs S w (l.take i) (css.take i)
 | _,_,0,_=>by simp [RepEs]
 | [],_,i+1,h=>by rw [show _=[] from h];simp [RepEs]
 | e::r,_,i+1,⟨c,t,e1,e2,e3⟩=>by subst e1;exact⟨c,_,rfl,e2,e3.take i⟩
theorem RepEs.drop {S:Nat->Prop} {w:World}:∀ {l:List Ent} {css:List (List Value)} (i:Nat),RepEs S w l css->RepEs S w (l.drop i) (css.drop i)
 | _,_,0,h=>h
 | [],_,i+1,h=>by rw [show _=[] from h];simp [RepEs]
 | e::r,_,i+1,⟨c,t,e1,e2,e3⟩=>by subst e1;exact e3.drop i
def RepS (S:Nat->Prop) (w:World) (s:Stt) (cs:List Value):Prop:=
 ∃ A cap css B cap',cs=[.int .i64 s.seq,.slice A s.l.length cap,.slice B s.ms.length cap']++s.lows.map B8b/\s.lows.length=5/\RepEs S w s.l css/\Row S w A s.l.length cap css.flatten/\Row S w B s.ms.length cap' (s.ms.map F5).flatten
theorem RepS.map {S S':Nat->Prop} {w w':World} (h:∀ {A:Option Addr} {n cap:Nat} {xs:List Value},Row S w A n cap xs->Row S' w' A n cap xs) {s:Stt} {cs:List Value} (hr:RepS S w s cs):RepS S' w' s cs:=by
 obtain⟨A,cap,css,B,cap',e1,e2,e3,e4,e5⟩:=hr
 exact⟨A,cap,css,B,cap',e1,e2,e3.map h,h e4,h e5⟩
theorem RepS.below {S:Nat->Prop} {w w':World} {s:Stt} {cs:List Value} (h:RepS S w s cs) (hb:Below w.heap.size w w'):RepS S w' s cs:=h.map (fun h=>h.below hb)
def A55:Ver:=⟨0,false,⟨#[]⟩⟩
def A2i (a b:Ver):Bool:=a.ver==b.ver&&a.gone==b.gone&&C8 a.body b.body
theorem C5 {a b:ByteArray}:C8 a b=true↔a=b:=by
 unfold C8
 rw [beq_iff_eq]
 constructor
 ·intro h
  cases a;cases b
  simpa using h
 ·intro h;rw [h]
theorem B1J {a b:Ver}:A2i a b=true↔a=b:=by
 obtain⟨a1,a2,a3⟩:=a
 obtain⟨b1,b2,b3⟩:=b
 simp [A2i,C5,and_assoc]
def A0v (a b:Mem):Bool:=a.req==b.req&&a.res.err==b.res.err&&a.res.ver==b.res.ver
theorem B1K {a b:Mem}:A0v a b=true↔a=b:=by
 obtain⟨a1,a2,a3⟩:=a
 obtain⟨b1,b2,b3⟩:=b
 simp [A0v,and_assoc]
def D7 {α:Type} (p:α->α->Bool):List α->List α->Bool
 | [],[]=>true
 | a::r,b::t=>p a b&&D7 p r t
 | [],_::_=>false
 | _::_,[]=>false
theorem N5 {α:Type} {p:α->α->Bool} (hp:∀ a b,p a b=true↔a=b):∀ {a b:List α},D7 p a b=true↔a=b
 | [],[]=>by simp [D7]
 | a::r,b::t=>by simp [D7,hp,N5 hp (a:=r) (b:=t)]
 | [],_::_=>by simp [D7]
 | _::_,[]=>by simp [D7]
theorem L4 {α:Type} (p:α->α->Bool):∀ (a b:List α),a.length≠b.length->D7 p a b=false
 | [],[],h=>absurd rfl h
 | a::r,b::t,h=>by rw [D7,L4 p r t (fun e=>h (by rw [List.length_cons,List.length_cons,e])),Bool.and_false]
 | [],_::_,_=>by rw [D7]
 | _::_,[],_=>by rw [D7]
def eqE (a b:Ent):Bool:=C8 a.key b.key&&D7 A2i a.vs b.vs
theorem B5t {a b:Ent}:eqE a b=true↔a=b:=by
 obtain⟨a1,a2⟩:=a
 obtain⟨b1,b2⟩:=b
 simp [eqE,C5,N5 (fun a b=>B1J)]
def eqS (a b:Stt):Bool:=a.seq==b.seq&&a.lows==b.lows&&D7 A0v a.ms b.ms&&D7 eqE a.l b.l
theorem A7Y {a b:Stt}:eqS a b=true↔a=b:=by
 obtain⟨a1,a2,a3,a4⟩:=a
 obtain⟨b1,b2,b3,b4⟩:=b
 simp [eqS,N5 (fun a b=>B1K),N5 (fun a b=>B5t)]
 constructor
 ·rintro⟨⟨⟨h1,h2⟩,h3⟩,h4⟩;exact⟨h1,h4,h3,h2⟩
 ·rintro⟨h1,h4,h3,h2⟩;exact⟨⟨⟨h1,h2⟩,h3⟩,h4⟩
def T8 (v:Ver):Bool:=decide (1<=v.ver)&&decide (v.ver<=1099511627776)&&decide ((v.body.size:Int)<=300)&&(!v.gone||mt v.body)
def A7Z:Int->List Ver->Bool
 | _,[]=>true
 | a,v::r=>T8 v&&decide (a<v.ver)&&A7Z v.ver r
def A2q (e:Ent):Bool:=A7Z 0 e.vs&&A54 e.key&&decide (1<=e.vs.length)&&decide (e.vs.length<=12)
def H7 (l:List Ver):Ver:=l.getLastD A55
def A2X (e:Ent):Ver × Bool:=if e.vs.length=0 then (A55,false) else (H7 e.vs,!(H7 e.vs).gone)
def A13:List Ver->Int->Option Nat
 | [],_=>none
 | v::r,n=>if v.ver==n then some 0 else (A13 r n).map (·+1)
def A7a (e:Ent) (v:Ver):Ent × Bool:=if (e.vs.length≠0/\v.ver<=(H7 e.vs).ver)\/12<=e.vs.length then (e,false) else (⟨e.key,e.vs++[v]⟩,true)
def B1L (e:Ent) (n:Int):Ent × Bool:=
 match A13 e.vs n with
 | none=>(e,false)
 | some i=>(⟨e.key,e.vs.take i++e.vs.drop (i+1)⟩,true)
def B8p (s:ByteArray):ByteArray:=⟨(V8 (zOn (0,1) s.data.toList)).toArray⟩
def N6 (e:Ent) (c:Int) (tag:ByteArray):Bool:=if c==0 then true else if c==1 then !(A2X e).2 else if c==2 then (A2X e).2&&C8 (B8p (A2X e).1.body) tag else false
theorem Z5:∀ a:List UInt8,Op.bytesLess a a=false
 | []=>rfl
 | x::r=>by simp [Op.bytesLess,Z5 r]
theorem A1W:∀ a b:List UInt8,(!Op.bytesLess a b)=(Op.bytesLess b a||b==a)
 | [],[]=>by simp [Op.bytesLess]
 | [],y::t=>by simp [Op.bytesLess]
 | x::r,[]=>by simp [Op.bytesLess]
 | x::r,y::t=>by
  have ih:=A1W r t
  simp only [Op.bytesLess]
  by_cases h1:x<y
  ·have h2:¬ y<x:=UInt8.not_lt.2 (UInt8.le_of_lt h1)
   have h3:y≠x:=fun e=>by subst e;exact UInt8.lt_irrefl _ h1
   simp [h1,h2,h3]
  ·by_cases h2:y<x
   ·have h3:y≠x:=fun e=>by subst e;exact UInt8.lt_irrefl _ h2
    have h4:x≠y:=fun e=>h3 e.symm
    simp [h1,h2,h3,h4]
   ·have h3:x=y:=UInt8.le_antisymm (UInt8.not_lt.1 h2) (UInt8.not_lt.1 h1)
    subst h3
    simpa using ih
theorem A0L:∀ a b c:List UInt8,Op.bytesLess a b=true->Op.bytesLess b c=true->Op.bytesLess a c=true
 | a,[],c,h1,h2=>by cases a<;>simp [Op.bytesLess] at h1
 | a,y::t,[],h1,h2=>by simp [Op.bytesLess] at h2
 | [],y::t,z::u,h1,h2=>by simp [Op.bytesLess]
 | x::r,y::t,z::u,h1,h2=>by
  simp only [Op.bytesLess] at*
  have ih:=A0L r t u
  by_cases e1:x<y
  ·by_cases e2:y<z
   ·simp [UInt8.lt_trans e1 e2]
   ·by_cases e3:y=z
    ·subst e3;simp [e1]
    ·simp [e2,e3] at h2
  ·by_cases e4:x=y
   ·subst e4
    simp [UInt8.lt_irrefl] at h1
    by_cases e2:x<z
    ·simp [e2]
    ·by_cases e3:x=z
     ·subst e3
      simp [UInt8.lt_irrefl] at h2
      simp [UInt8.lt_irrefl,ih h1 h2]
     ·simp [e2,e3] at h2
   ·simp [e1,e4] at h1
theorem A2Y (a:ByteArray):D9 a a=false:=Z5 _
theorem A0M (a b:ByteArray):(!D9 a b)=(D9 b a||C8 b a):=A1W _ _
theorem X9 {a b c:ByteArray} (h:D9 a b=true) (k:D9 b c=true):D9 a c=true:=A0L _ _ _ h k
theorem B3o {a b:ByteArray} (h:D9 a b=true):C8 a b=false:=by
 cases e:C8 a b
 ·rfl
 ·rw [C5] at e
  subst e
  rw [A2Y] at h;cases h
def J9:Int:=1099511627776
def A14 (seq:Int):Option ByteArray->List Ent->Bool
 | _,[]=>true
 | p,e::r=>A2q e&&decide ((H7 e.vs).ver<=seq)&&(match p with | none=>true | some k=>D9 k e.key)&&A14 seq (some e.key) r
def Z8:Nat->List Int->Bool
 | _,[]=>true
 | i,x::r=>(x==0||C0 x==(i:Int)+1)&&Z8 (i+1) r
def M1 (lows:List Int) (h:Int):Int:=lows.getD (h-1).toNat 0
def A1X (lows:List Int) (seq:Int):Option Int->List Mem->Bool
 | _,[]=>true
 | p,m::r=>!(C0 m.req==0)&&decide (M1 lows (C0 m.req)<=m.req)&&(match p with | none=>true | some q=>decide (q<m.req))&&
   decide (0<=m.res.err)&&decide (m.res.err<=13)&&decide (0<=m.res.ver)&&decide (m.res.ver<=seq)&&A1X lows seq (some m.req) r
def Q1 (s:Stt):Bool:=
 decide (0<=s.seq)&&decide (s.seq<=J9)&&decide (s.l.length<=40)&&decide (s.ms.length<=100)&&A14 s.seq none s.l&&Z8 0 s.lows&&A1X s.lows s.seq none s.ms
def I3:List Ent->ByteArray->Nat
 | [],_=>0
 | e::r,k=>if D9 e.key k then I3 r k+1 else 0
def R8:List Mem->Int->Nat
 | [],_=>0
 | m::r,n=>if m.req<n then R8 r n+1 else 0
def J1 (l:List Ent) (k:ByteArray):Option Ent:=
 match l[I3 l k]? with
 | some e=>if C8 e.key k then some e else none
 | none=>none
def A0N (l:List Mem) (n:Int):Option Mem:=
 match l[R8 l n]? with
 | some m=>if m.req==n then some m else none
 | none=>none
def A3L (l:List Ent) (k:ByteArray) (has:Bool) (e:List Ent):List Ent:=l.take (I3 l k)++e++l.drop (if has then I3 l k+1 else I3 l k)
def doK (l:List Ent) (seq:Int) (d:D):List Ent × Res:=
 let has:=(J1 l d.key).isSome
 let e:=(J1 l d.key).getD ⟨d.key,[]⟩
 if d.kind==3 then
  match A13 e.vs d.ver with
  | none=>(l,⟨6,0⟩)
  | some j=>(A3L l d.key has (if (e.vs.take j++e.vs.drop (j+1)).length=0 then [] else [⟨e.key,e.vs.take j++e.vs.drop (j+1)⟩]),⟨0,d.ver⟩)
 else if d.kind==1&&!N6 e d.cond d.tag then (l,⟨9,0⟩)
 else if d.kind==2&&!has then (l,⟨6,0⟩)
 else if 12<=e.vs.length||(!has&&decide (40<=l.length)) then (l,⟨5,0⟩)
 else (A3L l d.key has [⟨e.key,e.vs++[⟨seq,d.kind==2,d.body⟩]⟩],⟨0,seq⟩)
def T9 (low:Int) (h:Int) (l:List Mem):List Mem:=l.filter fun m=>!(decide (m.req<low)&&C0 m.req==h)
def doS (s:Stt) (d:D):Stt × Res:=
 if !Q1 s||!J4 d then (s,⟨1,0⟩)
 else if J9<=s.seq then (s,⟨5,0⟩)
 else if d.req<M1 s.lows (C0 d.req) then (⟨s.seq+1,s.l,s.ms,s.lows⟩,⟨12,0⟩)
 else match A0N s.ms d.req with
  | some m=>(⟨s.seq+1,s.l,s.ms,s.lows⟩,m.res)
  | none=>
   if 100<=s.ms.length then (⟨s.seq+1,s.l,s.ms,s.lows⟩,⟨5,0⟩)
   else
    let q:=doK s.l (s.seq+1) d
    let ms:=s.ms.take (R8 s.ms d.req)++⟨d.req,q.2⟩::s.ms.drop (R8 s.ms d.req)
    if M1 s.lows (C0 d.req)<d.low/\C0 d.low=C0 d.req then
     (⟨s.seq+1,q.1,T9 d.low (C0 d.req) ms,s.lows.set (C0 d.req-1).toNat d.low⟩,q.2)
    else (⟨s.seq+1,q.1,ms,s.lows⟩,q.2)
def A9V:List Ent->ByteArray->Option Nat
 | [],_=>none
 | e::r,k=>if C8 e.key k then some 0 else (A9V r k).map (·+1)
def B7W (s:Stt) (k:ByteArray) (n:Int):Ver × Int:=
 match (A9V s.l k).bind fun i=>s.l[i]? with
 | none=>(A55,6)
 | some e=>
  let q:Option Ver:=if n=0 then (if e.vs.length=0 then none else some (H7 e.vs)) else (A13 e.vs n).bind fun i=>e.vs[i]?
  match q with
  | none=>(A55,6)
  | some v=>if v.gone then (A55,10) else (v,0)
def A6T (s p:ByteArray):Bool:=p.data.toList.isPrefixOf s.data.toList
def R9 (l:List Ent) (pre after:ByteArray) (now:Bool):List Ent:=l.filter fun e=>A6T e.key pre&&D9 after e.key&&(!now||(A2X e).2)
def N7 (n:Int):Nat:=(min (max n 1) 20).toNat
def A7b (s:Stt) (pre after:ByteArray) (most:Int) (now:Bool):List Ent × Bool:=
 ((R9 s.l pre after now).take (N7 most),decide (N7 most<(R9 s.l pre after now).length))
def I4 (n:Int):V:=.mk 1 n ⟨#[]⟩ []
def vStr (s:ByteArray):V:=.mk 2 0 s []
def J3 (l:List V):V:=.mk 3 0 ⟨#[]⟩ l
def A35 (v:Ver):V:=J3 [I4 v.ver,I4 (if v.gone then 1 else 0),vStr v.body]
def A36 (e:Ent):V:=J3 [vStr e.key,J3 (e.vs.map A35)]
def A37 (m:Mem):V:=J3 [I4 m.req,I4 m.res.err,I4 m.res.ver]
def A4O (s:Stt):V:=J3 [I4 s.seq,J3 (s.l.map A36),J3 (s.ms.map A37),J3 (s.lows.map I4)]
def E1 (s:Stt):List UInt8:=if Q1 s then A2W (A4O s) else []
def vN:V->Int | .mk _ n _ _=>n
def vS:V->ByteArray | .mk _ _ s _=>s
def vL:V->List V | .mk _ _ _ l=>l
def atV (v:V) (i:Nat):V:=(vL v).getD i V0
def A9W (v:V):Ver:=⟨vN (atV v 0),vN (atV v 1)==1,vS (atV v 2)⟩
def Z9 (v:V):Ent:=⟨vS (atV v 0),(vL (atV v 1)).map A9W⟩
def A30 (v:V):Mem:=⟨vN (atV v 0),⟨vN (atV v 1),vN (atV v 2)⟩⟩
def A2j (v:V):Stt:=⟨vN (atV v 0),(vL (atV v 1)).map Z9,(vL (atV v 2)).map A30,(List.range 5).map fun i=>vN (atV (atV v 3) i)⟩
def Stt0:Stt:=⟨0,[],[],[0,0,0,0,0]⟩
def Q2 (t:List UInt8):Stt × Int:=
 if (M7 t).2≠0 then (Stt0,1)
 else if E1 (A2j (M7 t).1)=[]\/E1 (A2j (M7 t).1)≠t then (Stt0,1)
 else (A2j (M7 t).1,0)
mutual
theorem A5J:∀ (a:V),eqV a a=true
 | .mk k n s l=>by
  rw [eqV,A8b l]
  simp [C5]
theorem A8b:∀ (a:List V),eqL a a=true
 | []=>by rw [eqL]
 | x::r=>by rw [eqL,A5J x,A8b r];rfl
end
def D0:D:=⟨0,⟨#[]⟩,⟨#[]⟩,0,0,⟨#[]⟩,0,0⟩
def H3 (d:D):V:=J3 [I4 d.kind,vStr d.key,vStr d.body,I4 d.ver,I4 d.cond,vStr d.tag,I4 d.req,I4 d.low]
def E3 (d:D):V:=if J4 d then H3 d else V0
def N9 (v:V):D:=⟨vN (atV v 0),vS (atV v 1),vS (atV v 2),vN (atV v 3),vN (atV v 4),vS (atV v 5),vN (atV v 6),vN (atV v 7)⟩
def vK:V->Int | .mk k _ _ _=>k
def ofD (v:V):D × Bool:=
 if vK v≠3\/(vL v).length≠8 then (D0,false)
 else if J4 (N9 v)=false\/eqV (E3 (N9 v)) v=false then (D0,false)
 else (N9 v,true)
def B69 (d:D):List UInt8:=A2W (E3 d)
def A7c (s:List UInt8):D × Int:=if (M7 s).2≠0\/(ofD (M7 s).1).2=false then (D0,1) else ((ofD (M7 s).1).1,0)
theorem A1Y (d:D) (h:J4 d=true):ofD (H3 d)=(d,true):=by
 have e:N9 (H3 d)=d:=rfl
 unfold ofD
 rw [e,E3,if_pos h,A5J]
 simp [H3,vK,vL,J3,h]
theorem A4P (d:D):A0t (H3 d)=true:=by
 simp [A0t,H3,J3,I4,vStr,cnt,A03,mt,C8]
theorem B3p (n:Int) (h:B9 n):(Lib.itoa n).length<=21:=Lib.itoa_length_le n h.1 h.2
theorem E7 (n:Int) (h:B9 n):(I8 (I4 n)).length<=30:=by
 have h1:=B3p n h
 rw [D8]
 have e:G6 (I4 n)=Lib.itoa n:=rfl
 have:=F2 (u:=(Lib.itoa n).length) (by omega)
 rw [e]
 omega
theorem P3 (s:ByteArray) (h:s.size<10000000):(I8 (vStr s)).length<=s.size+9:=by
 rw [D8]
 have e:(G6 (vStr s)).length=s.size:=L0 s
 have:=F2 h
 rw [e]
 omega
theorem A2r {s:ByteArray} (h:A54 s=true):s.size<=40:=by
 simp only [A54,B67,Bool.and_eq_true,decide_eq_true_eq] at h
 rw [<-L0 s]
 exact h.2
theorem B3q {s:ByteArray} (h:(B68 s||mt s)=true):s.size<=8:=by
 rw [Bool.or_eq_true] at h
 rcases h with h | h
 ·rcases Nat.decEq s.data.toList.length 8 with h8 | h8
  ·rw [B68,A0I _ (.inl h8)] at h;cases h
  ·rw [<-L0 s,h8];exact Nat.le_refl _
 ·rw [Q8 h];decide
theorem A2B {d:D} (h:J4 d=true):d.key.size<=40/\d.body.size<=300/\d.tag.size<=8:=by
 unfold J4 at h
 rw [Bool.and_eq_true] at h
 obtain⟨h0,h1⟩:=h
 simp only [Bool.and_eq_true] at h0
 refine⟨A2r h0.1.1.1,?_⟩
 split at h1
 ·simp only [Bool.and_eq_true,decide_eq_true_eq] at h1
  exact⟨by omega,B3q h1.2⟩
 ·split at h1
  ·simp only [Bool.and_eq_true] at h1
   rw [Q8 h1.1.1.1,Q8 h1.1.2]
   exact⟨by decide,by decide⟩
  ·split at h1
   ·simp only [Bool.and_eq_true] at h1
    rw [Q8 h1.1.1.1.1,Q8 h1.1.1.2]
    exact⟨by decide,by decide⟩
   ·cases h1
theorem A0O (d:D) (hk:d.Ok) (h:J4 d=true):(G6 (H3 d)).length<=1000:=by
 obtain⟨h1,h2,h3⟩:=A2B h
 have e:G6 (H3 d)=I8 (I4 d.kind)++(I8 (vStr d.key)++(I8 (vStr d.body)++(I8 (I4 d.ver)++(I8 (I4 d.cond)++(I8 (vStr d.tag)++(I8 (I4 d.req)++(I8 (I4 d.low)++[]))))))):=by
  simp [G6,H3,J3,L3]
 have a1:=E7 d.kind hk.kind
 have a2:=E7 d.ver hk.ver
 have a3:=E7 d.cond hk.cond
 have a4:=E7 d.req hk.req
 have a5:=E7 d.low hk.low
 have a6:=P3 d.key (by omega)
 have a7:=P3 d.body (by omega)
 have a8:=P3 d.tag (by omega)
 rw [e]
 simp only [List.length_append,List.length_nil]
 omega
theorem A3M (d:D) (hk:d.Ok):okV (H3 d):=by
 have z:B9 0:=by unfold B9;omega
 simp [okV,okL,H3,J3,I4,vStr,hk.kind,hk.ver,hk.cond,hk.req,hk.low,z]
theorem A8c (d:D) (hk:d.Ok) (h:J4 d=true):B69 d=I8 (H3 d):=by
 have h1:=A0O d hk h
 have:=F2 (u:=(G6 (H3 d)).length) (by omega)
 rw [B69,E3,if_pos h,A2W,A4P]
 simp [this]
theorem B1M (v:V):I8 v≠[]:=fun h=>by
 have:=D8 v
 rw [h] at this
 simp at this
theorem B3r (d:D) (hk:d.Ok) (h:J4 d=true):A7c (B69 d)=(d,0):=by
 have h1:=A0O d hk h
 rw [A8c d hk h]
 unfold A7c
 rw [A1T _ (A4P d) (A3M d hk) (by omega),A1Y d h]
 simp
theorem A3N (n:Int) (w:World):Calls Tryz.prog 110 #[.int .i64 n] w (C7 (.agg #[.int .i64 1,.int .i64 n,.string ⟨#[]⟩,.slice none 0 0]) w):=by
 refine vE Tryz.func110 ?_
 have hc:=Ctx.start w no (fun _ h=>h.elim)
 refine hc.n fun gA wgA hgA hc=>?_
 refine hc.s 0 rfl fun wS hS hc=>?_
 refine hc.a 0 rfl rfl ?_
 exact⟨rfl,hc.below⟩
theorem A7d (s:ByteArray) (w:World):Calls Tryz.prog 111 #[.string s] w (C7 (.agg #[.int .i64 2,.int .i64 0,.string s,.slice none 0 0]) w):=by
 refine vE Tryz.func111 ?_
 have hc:=Ctx.start w no (fun _ h=>h.elim)
 refine hc.n fun gA wgA hgA hc=>?_
 refine hc.s 0 rfl fun wS hS hc=>?_
 refine hc.a 0 rfl rfl ?_
 exact⟨rfl,hc.below⟩
theorem RepL.cons {S:Nat->Prop} {w:World} {v:V} {r:List V} {c xs:List Value} (h:RepC S w v c) (h2:RepL S w r xs):RepL S w (v::r) (c++xs):=by
 rw [RepL]
 exact⟨c,xs,h,h2,rfl⟩
theorem RepL.nil (S:Nat->Prop) (w:World):RepL S w [] []:=by rw [RepL]
theorem RepC.leaf (S:Nat->Prop) (w:World) (k n:Int) (s:ByteArray):RepC S w (.mk k n s []) [.int .i64 k,.int .i64 n,.string s,.slice none 0 0]:=by
 rw [RepC]
 exact⟨none,0,[],rfl,by rw [RepL],Nat.le_refl _,Nat.zero_le _,fun h=>absurd rfl h⟩
def leaf (k n:Int) (s:ByteArray):List Value:=[.int .i64 k,.int .i64 n,.string s,.slice none 0 0]
def B5u (d:D):List Value:=leaf 1 d.kind ⟨#[]⟩++(leaf 2 0 d.key++(leaf 2 0 d.body++(leaf 1 d.ver ⟨#[]⟩++(leaf 1 d.cond ⟨#[]⟩++(leaf 2 0 d.tag++(leaf 1 d.req ⟨#[]⟩++(leaf 1 d.low ⟨#[]⟩++[])))))))
theorem B1N (S:Nat->Prop) (w:World) (d:D):RepL S w (vL (H3 d)) (B5u d):=
 .cons (.leaf ..) (.cons (.leaf ..) (.cons (.leaf ..) (.cons (.leaf ..) (.cons (.leaf ..) (.cons (.leaf ..) (.cons (.leaf ..) (.cons (.leaf ..) (.nil _ _))))))))
def B5F (v:V) (w:World) (e:Ending) (w':World):Prop:=
 ∃ k n s A len cap,e=.returned (.agg #[.int .i64 k,.int .i64 n,.string s,.slice A len cap])/\Below w.heap.size w w'/\RepC (ext no w w') w' v [.int .i64 k,.int .i64 n,.string s,.slice A len cap]
theorem A0P (d:D) (h:d.Ok) (w:World):Calls Tryz.prog 77 #[.agg #[.int .i64 d.kind,.string d.key,.string d.body,.int .i64 d.ver,.int .i64 d.cond,.string d.tag,.int .i64 d.req,.int .i64 d.low]] w (B5F (E3 d) w):=by
 refine vE Tryz.func77 ?_
 intro g1 w1 h1
 have hc:=((Ctx.start w no (fun _ h=>h.elim)).loc h1).1
 refine hc.n fun g2 w2 h2 hc=>?_
 refine hc.a 1 rfl rfl ?_
 refine hc.q (A0J d h _) fun w3 h3 hc=>?_
 by_cases hm:J4 d=true
 rotate_left
 ·have hm:J4 d=false:=by simpa using hm
  refine B6 (by rw [hm];rfl) ?_
  refine hc.s 0 rfl fun wS hS hc=>?_
  refine hc.a 0 rfl rfl ?_
  rw [E3,if_neg (by rw [hm];exact Bool.false_ne_true)]
  exact⟨0,0,⟨#[]⟩,none,0,0,rfl,hc.below,RepC.V0 _ _⟩
 refine B4 (by rw [hm];rfl) ?_
 have b1:=hc.blk 1 rfl
 have hlt:∀ b,(fun b=>b=g1) b->b<w3.heap.size:=fun b e=>by subst e;exact b1.lt
 refine vD (.Q [0,1,3,4,6,7,9,10,12,13,15,16,18,19,21,22] (.n 2 (.n 5 (.n 8 (.n 11 (.n 14 (.n 17 (.n 20 (.n 23 (.n 24 (.q 25 .fin) .stop) .stop) .stop) .stop) .stop) .stop) .stop) .stop) .stop)) (Keeps (fun b=>b=g1) w3) (Keeps.start _ _) ?_
 have hk:=Keeps.start (fun b=>b=g1) w3
 have hc:=hc.drew
 iterate 8 refine⟨_,fun x hx=>hx.cell b1 rfl rfl,?_⟩
 refine⟨hc.q (A3N d.kind _) fun wq hq hc=>?_,trivial⟩
 have hk:=hk.below hlt hq
 refine⟨hk,?_⟩
 refine⟨hc.q (A7d d.key _) fun wq hq hc=>?_,trivial⟩
 have hk:=hk.below hlt hq
 refine⟨hk,?_⟩
 refine⟨hc.q (A7d d.body _) fun wq hq hc=>?_,trivial⟩
 have hk:=hk.below hlt hq
 refine⟨hk,?_⟩
 refine⟨hc.q (A3N d.ver _) fun wq hq hc=>?_,trivial⟩
 have hk:=hk.below hlt hq
 refine⟨hk,?_⟩
 refine⟨hc.q (A3N d.cond _) fun wq hq hc=>?_,trivial⟩
 have hk:=hk.below hlt hq
 refine⟨hk,?_⟩
 refine⟨hc.q (A7d d.tag _) fun wq hq hc=>?_,trivial⟩
 have hk:=hk.below hlt hq
 refine⟨hk,?_⟩
 refine⟨hc.q (A3N d.req _) fun wq hq hc=>?_,trivial⟩
 have hk:=hk.below hlt hq
 refine⟨hk,?_⟩
 refine⟨hc.q (A3N d.low _) fun wq hq hc=>?_,trivial⟩
 have hk:=hk.below hlt hq
 refine⟨hk,?_⟩
 refine⟨fun g3 w4 h4=>?_,trivial⟩
 refine⟨hk.below hlt h4.below,?_⟩
 have hC:=hc.call h4.below
 have hc:=hC.1
 have hrow:Row (ext no _ w4) w4 (some ⟨g3,0,none⟩) 8 8 (B5u d):=(h4.row 8 (by decide)).sub fun b e=>by
  subst e
  exact .inr ⟨Nat.le_of_eq h4.1.symm,h4.blk.lt⟩
 refine⟨hc.may 0 rfl 0 _ (Nat.le_refl 4) rfl,?_⟩
 intro w5 h5
 have hC:=hc.set 0 rfl h5
 have hc:=hC.1
 refine hc.a 0 rfl rfl ?_
 rw [E3,if_pos hm]
 refine⟨3,0,⟨#[]⟩,some ⟨g3,0,none⟩,8,8,rfl,hc.below,?_⟩
 rw [H3,J3,RepC]
 exact⟨some ⟨g3,0,none⟩,8,B5u d,rfl,B1N _ _ d,(hrow.fut hC.2).fut hc.out⟩
def dC (d:D):List Value:=[.int .i64 d.kind,.string d.key,.string d.body,.int .i64 d.ver,.int .i64 d.cond,.string d.tag,.int .i64 d.req,.int .i64 d.low]
theorem A8d (v:V) (k n:Int) (s:ByteArray) (A:Option Addr) (len cap:Nat) (S:Nat->Prop) (w:World) (hr:RepC S w v [.int .i64 k,.int .i64 n,.string s,.slice A len cap]) (hk:(N9 v).Ok):
  Calls Tryz.prog 86 #[.agg #[.int .i64 k,.int .i64 n,.string s,.slice A len cap]] w (C7 (.tuple #[.agg (dC (ofD v).1).toArray,.bool (ofD v).2]) w):=by
 have hr0:=hr
 obtain⟨k0,n0,s0,l⟩:=v
 rw [RepC] at hr
 obtain⟨A',cap',xs,e,hL,hR⟩:=hr
 cases e
 refine vE Tryz.func86 ?_
 intro g1 w1 h1
 have hc:=((Ctx.start w no (fun _ h=>h.elim)).loc h1).1
 refine hc.n fun g2 w2 h2 hc=>?_
 refine hc.c 1 rfl rfl ?_
 have bad:(vK (.mk k n s l)≠3\/(vL (.mk k n s l)).length≠8)->ofD (.mk k n s l)=(D0,false):=fun h=>by rw [ofD,if_pos h]
 by_cases k3:k=3
 rotate_left
 ·refine B6 (by show (k != 3)=true;simpa using k3) ?_
  refine hc.s 0 rfl fun wS hS hc=>?_
  refine hc.a 0 rfl rfl ?_
  rw [bad (.inl k3)]
  exact⟨rfl,hc.below⟩
 refine B4 (by show (k != 3)=false;simpa using k3) ?_
 refine hc.c 1 rfl rfl ?_
 by_cases h8:l.length=8
 rotate_left
 ·refine B6 (by show ((l.length:Int) != 8)=true;rw [bne_iff_ne];omega) ?_
  refine hc.s 0 rfl fun wS hS hc=>?_
  refine hc.a 0 rfl rfl ?_
  rw [bad (.inr h8)]
  exact⟨rfl,hc.below⟩
 have eof:ofD (.mk k n s l)=if J4 (N9 (.mk k n s l))=false\/eqV (E3 (N9 (.mk k n s l))) (.mk k n s l)=false then (D0,false) else (N9 (.mk k n s l),true):=by
  rw [ofD,if_neg]
  rintro (h | h)
  ·exact h k3
  ·exact h h8
 clear bad
 match l,h8 with
 | [.mk k0 n0 s0 l0,.mk k1 n1 s1 l1,.mk k2 n2 s2 l2,.mk k3' n3 s3 l3,.mk k4 n4 s4 l4,.mk k5 n5 s5 l5,.mk k6 n6 s6 l6,.mk k7 n7 s7 l7],_=>
 simp only [RepL,RepC] at hL
 obtain⟨c0,y0,⟨A0,cap0,x0,rfl,_⟩,⟨c1,y1,⟨A1,cap1,x1,rfl,_⟩,⟨c2,y2,⟨A2,cap2,x2,rfl,_⟩,⟨c3,y3,⟨A3,cap3,x3,rfl,_⟩,⟨c4,y4,⟨A4,cap4,x4,rfl,_⟩,⟨c5,y5,⟨A5,cap5,x5,rfl,_⟩,⟨c6,y6,⟨A6,cap6,x6,rfl,_⟩,⟨c7,y7,⟨A7,cap7,x7,rfl,_⟩,rfl,rfl⟩,rfl⟩,rfl⟩,rfl⟩,rfl⟩,rfl⟩,rfl⟩,rfl⟩:=hL
 obtain⟨ad,rfl,hS,hcell⟩:=(hR.below hc.below).2.2 (by simp)
 obtain⟨bk,off,sub⟩:=ad
 refine hc.c 1 rfl rfl ?_
 have hbk:bk<w2.heap.size:=World.block_lt_of_cell? w2 _ (hcell 0 _ rfl)
 have hlt:∀ b,(fun b=>b=bk) b->b<w2.heap.size:=fun b e=>by subst e;exact hbk
 refine vD (.Q [0,1,2,3,4,5,6,7,8,9,10,11,12,13,14,15,16,17,18,19,20,21,22,23,24,25,26,27,28,29,30,31,32] (.n 33 (.z 34) .stop)) (Keeps (fun b=>b=bk) w2) (Keeps.start _ _) ?_
 have hk1:=Keeps.start (fun b=>b=bk) w2
 have hc:=hc.drew
 refine⟨⟨by decide,(show (0:Int)<8 by decide)⟩,?_⟩
 refine⟨_,fun x hx=>hx.at (hcell 1 _ rfl) rfl,?_⟩
 refine⟨⟨by decide,(show (1:Int)<8 by decide)⟩,?_⟩
 refine⟨_,fun x hx=>hx.at (hcell 6 _ rfl) rfl,?_⟩
 refine⟨⟨by decide,(show (2:Int)<8 by decide)⟩,?_⟩
 refine⟨_,fun x hx=>hx.at (hcell 10 _ rfl) rfl,?_⟩
 refine⟨⟨by decide,(show (3:Int)<8 by decide)⟩,?_⟩
 refine⟨_,fun x hx=>hx.at (hcell 13 _ rfl) rfl,?_⟩
 refine⟨⟨by decide,(show (4:Int)<8 by decide)⟩,?_⟩
 refine⟨_,fun x hx=>hx.at (hcell 17 _ rfl) rfl,?_⟩
 refine⟨⟨by decide,(show (5:Int)<8 by decide)⟩,?_⟩
 refine⟨_,fun x hx=>hx.at (hcell 22 _ rfl) rfl,?_⟩
 refine⟨⟨by decide,(show (6:Int)<8 by decide)⟩,?_⟩
 refine⟨_,fun x hx=>hx.at (hcell 25 _ rfl) rfl,?_⟩
 refine⟨⟨by decide,(show (7:Int)<8 by decide)⟩,?_⟩
 refine⟨_,fun x hx=>hx.at (hcell 29 _ rfl) rfl,?_⟩
 refine⟨fun g5 w5 h5=>?_,trivial⟩
 refine⟨hk1.below hlt h5.below,?_⟩
 have hc:=(hc.loc h5).1
 refine⟨hc.may 0 rfl 0 _ (Nat.le_refl 8) rfl,?_⟩
 intro w6 h6
 have hc:=(hc.set 0 rfl h6).1
 have b5:=hc.blk 0 rfl
 have b1:=hc.blk 2 rfl
 have hlt:∀ b,(fun b=>b=g5\/b=g1) b->b<w6.heap.size:=fun b e=>by
  rcases e with e | e
  ·subst e;exact b5.lt
  ·subst e;exact b1.lt
 refine vD (.q 0 (.n 1 (.Q [2,3,4,6] (.n 5 (.n 7 (.Q [8,9] .fin) .stop) .stop)) .stop)) (Keeps (fun b=>b=g5\/b=g1) w6) (Keeps.start _ _) ?_
 have hk2:=Keeps.start (fun b=>b=g5\/b=g1) w6
 have hc:=hc.drew
 refine⟨_,?_,fun x hx=>hx.cells b5 (.inl rfl),?_⟩
 ·rfl
 refine⟨hc.q (A0J (N9 (.mk k n s [.mk k0 n0 s0 l0,.mk k1 n1 s1 l1,.mk k2 n2 s2 l2,.mk k3' n3 s3 l3,.mk k4 n4 s4 l4,.mk k5 n5 s5 l5,.mk k6 n6 s6 l6,.mk k7 n7 s7 l7])) hk _) fun w7 h7 hc=>?_,trivial⟩
 have hk2:=hk2.below hlt h7
 refine⟨hk2,?_⟩
 rw [eof]
 generalize hv:V.mk k n s [.mk k0 n0 s0 l0,.mk k1 n1 s1 l1,.mk k2 n2 s2 l2,.mk k3' n3 s3 l3,.mk k4 n4 s4 l4,.mk k5 n5 s5 l5,.mk k6 n6 s6 l6,.mk k7 n7 s7 l7]=v at hr0 hk ⊢
 by_cases hm:J4 (N9 v)=true
 rotate_left
 ·have hm:J4 (N9 v)=false:=by simpa using hm
  refine B6 (by rw [hm];rfl) ?_
  refine⟨?_,trivial⟩
  refine⟨hc.s 1 rfl fun wS hS hc=>?_,trivial⟩
  refine hc.a 1 rfl rfl ?_
  rw [if_pos (.inl hm)]
  exact⟨rfl,hc.below⟩
 refine B4 (by rw [hm];rfl) ?_
 refine⟨_,?_,fun x hx=>hx.cells b5 (.inl rfl),?_⟩
 ·rfl
 refine⟨_,?_,fun x hx=>hx.cells b1 (.inr rfl),?_⟩
 ·rfl
 refine⟨?_,trivial⟩
 have hcall:=A0P (N9 v) hk w7
 have earg:#[Value.agg #[.int .i64 (N9 v).kind,.string (N9 v).key,.string (N9 v).body,.int .i64 (N9 v).ver,.int .i64 (N9 v).cond,.string (N9 v).tag,.int .i64 (N9 v).req,.int .i64 (N9 v).low]]=#[Value.agg #[.int .i64 n0,.string s1,.string s2,.int .i64 n3,.int .i64 n4,.string s5,.int .i64 n6,.int .i64 n7]]:=by
  subst hv
  rfl
 rw [earg] at hcall
 refine⟨hcall.mono fun e w8 hq=>?_⟩
 obtain⟨kk,nn,ss,AA,ll,cc,e1,h8',hrep⟩:=hq
 have hk2:=hk2.below hlt h8'
 refine⟨_,e1,hk2,?_⟩
 have hc:=(hc.quiet h8').1
 refine⟨hc.q (B1A _ (E3 (N9 v)) (Nat.lt_succ_self _) v _ _ (fun b=>ext no w7 w8 b\/S b) w8 (hrep.sub fun b h=>.inl h) ((hr0.below hc.below).sub fun b h=>.inr h)) fun w9 h9 hc=>?_,trivial⟩
 have hk2:=hk2.below hlt h9
 refine⟨hk2,?_⟩
 by_cases he:eqV (E3 (N9 v)) v=true
 ·refine B4 (by rw [he];rfl) ?_
  refine hc.a 0 rfl rfl ?_
  refine hc.s 1 rfl fun wS hS hc=>?_
  refine hc.a 1 rfl rfl ?_
  rw [if_neg (by rw [hm,he];simp)]
  refine⟨?_,hc.below⟩
  subst hv
  rfl
 ·have he:eqV (E3 (N9 v)) v=false:=by simpa using he
  refine B6 (by rw [he];rfl) ?_
  refine hc.s 1 rfl fun wS hS hc=>?_
  refine hc.a 1 rfl rfl ?_
  rw [if_pos (.inr he)]
  exact⟨rfl,hc.below⟩
theorem B3s (d:D) (h:d.Ok) (w:World) (ht:Tab w):Calls Tryz.prog 186 #[.agg #[.int .i64 d.kind,.string d.key,.string d.body,.int .i64 d.ver,.int .i64 d.cond,.string d.tag,.int .i64 d.req,.int .i64 d.low]] w (C7 (.string ⟨(B69 d).toArray⟩) w):=by
 refine vE Tryz.func186 ?_
 intro g1 w1 h1
 have hc:=((Ctx.start w no (fun _ h=>h.elim)).loc h1).1
 refine hc.a 0 rfl rfl ?_
 refine⟨(A0P d h _).mono fun e w2 hq=>?_⟩
 obtain⟨k,n,s,A,len,cap,e1,h2,hrep⟩:=hq
 refine⟨_,e1,?_⟩
 have hc:=(hc.quiet h2).1
 have hsz:okV (E3 d)/\(I8 (E3 d)).length<=1073741824:=by
  by_cases hm:J4 d=true
  ·rw [E3,if_pos hm]
   have h1:=A0O d h hm
   have h3:=D8 (H3 d)
   have:=F2 (u:=(G6 (H3 d)).length) (by omega)
   exact⟨A3M d h,by omega⟩
  ·rw [E3,if_neg hm]
   refine⟨?_,?_⟩
   ·rw [V0,okV,okL];exact⟨by unfold B9;omega,trivial⟩
   ·have h3:=D8 V0
    have e:(G6 V0).length=0:=rfl
    have:=F2 (u:=(G6 V0).length) (by rw [e];decide)
    omega
 refine hc.q (X8 (E3 d) hsz.1 hsz.2 k n s A len cap _ _ hrep (ht.below hc.below)) fun w3 h3 hc=>?_
 exact⟨rfl,hc.below⟩
theorem A4Q {f:Nat} {x:V} (h:cnt f x<=6000):(vS x).size<=(I8 x).length:=by
 obtain⟨k,n,s,l⟩:=x
 cases f with
 | zero=>rw [cnt] at h;omega
 | succ f=>
  rw [cnt] at h
  show s.size<=_
  rw [D8]
  by_cases h1:(k==1&&mt s&&((l.length:Int)==0))||(k==2&&n==0&&((l.length:Int)==0))
  ·simp only [Bool.or_eq_true,Bool.and_eq_true,beq_iff_eq] at h1
   rcases h1 with ⟨⟨h1,h2⟩,h3⟩ | ⟨⟨h1,h2⟩,h3⟩
   ·rw [Q8 h2];exact Nat.zero_le _
   ·subst h1
    have e:(G6 (.mk 2 n s l)).length=s.size:=L0 s
    rw [e];omega
  ·rw [if_neg h1] at h
   by_cases h2:(k != 3||!(n==0)||!mt s)=true
   ·rw [if_pos h2] at h;omega
   ·simp only [Bool.or_eq_true,not_or,Bool.not_eq_true] at h2
    have h4:mt s=true:=by simpa using h2.2
    rw [Q8 h4];exact Nat.zero_le _
theorem B3t (t:List UInt8) (ht:t.length<=1073741824):(N9 (M7 t).1).Ok:=by
 have key:∀ i,B9 (vN (atV (M7 t).1 i))/\G7 (vS (atV (M7 t).1 i)):=by
  intro i
  have zero:B9 (vN V0)/\G7 (vS V0):=⟨by unfold B9;exact⟨by decide,by decide⟩,by unfold G7;exact Nat.zero_le _⟩
  by_cases he:(M7 t).2=0
  ·have ha:M7 t=((M7 t).1,0):=by rw [<-he]
   obtain⟨k1,k2,k3⟩:=A5I ha
   generalize (M7 t).1=v at*
   obtain⟨k,n,s,l⟩:=v
   rw [okV] at k3
   unfold atV
   show B9 (vN (l.getD i V0))/\G7 (vS (l.getD i V0))
   rw [List.getD_eq_getElem?_getD]
   cases hg:l[i]? with
   | none=>exact zero
   | some x=>
    have hm:x∈l:=List.mem_of_getElem? hg
    have hx:=A3J k3.2 hm
    simp only [Option.getD_some]
    refine⟨?_,?_⟩
    ·obtain⟨a,b,c,d⟩:=x
     rw [okV] at hx;exact hx.1
    ·have hc:cnt 6 (.mk k n s l)<=6000:=by simpa [A0t] using k2
     rw [cnt] at hc
     have hk:¬ ((k==1&&mt s&&((l.length:Int)==0))||(k==2&&n==0&&((l.length:Int)==0)))=true:=by
      have:0<l.length:=List.length_pos_of_mem hm
      simp only [Bool.or_eq_true,Bool.and_eq_true,beq_iff_eq]
      omega
     rw [if_neg hk] at hc
     by_cases h2:(k != 3||!(n==0)||!mt s)=true
     ·rw [if_pos h2] at hc;omega
     rw [if_neg h2] at hc
     have h3:=(A5F (cnt 5) (fun v=>(H6 5 v).1) l 1 hc).2 x hm
     have h4:=A4Q (f:=5) (x:=x) (by omega)
     have h5:=R7 hm
     have e3:k=3:=by
      simp only [Bool.or_eq_true,not_or,Bool.not_eq_true] at h2
      simpa using h2.1.1
     have h6:(L3 l).length<=t.length:=by
      rw [<-k1,D8]
      have:G6 (.mk k n s l)=L3 l:=by subst e3;simp [G6]
      rw [this];omega
     unfold G7;omega
  ·have e:(M7 t).1=V0:=by
    unfold M7 at he ⊢
    simp only at he ⊢
    split at he
    ·rename_i h;rw [if_pos h]
    ·exact absurd rfl he
   rw [e]
   have:atV V0 i=V0:=by unfold atV;rfl
   rw [this];exact zero
 exact⟨(key 0).1,(key 1).2,(key 2).2,(key 3).1,(key 4).1,(key 5).2,(key 6).1,(key 7).1⟩
theorem A8e (t:List UInt8) (ht:t.length<=1073741824) (w:World) (hw:Env w):Calls Tryz.prog 187 #[.string ⟨t.toArray⟩] w (C7 (.tuple #[.agg (dC (A7c t).1).toArray,.int .i64 (A7c t).2]) w):=by
 refine vE Tryz.func187 ?_
 intro g2 w1 h1
 have hc:=((Ctx.start w no (fun _ h=>h.elim)).loc h1).1
 refine⟨(B1H t _ ht (hw.below hc.below)).mono fun e w2 hq=>?_⟩
 obtain⟨k,n,s,A,len,cap,e1,h2,hrep⟩:=hq
 refine⟨_,e1,?_⟩
 have hC:=hc.call h2
 have hc:=hC.1
 have hok:=B3t t ht
 have eg:A7c t=if (M7 t).2≠0\/(ofD (M7 t).1).2=false then (D0,1) else ((ofD (M7 t).1).1,0):=by rw [A7c]
 rw [eg]
 clear eg
 generalize M7 t=q at*
 obtain⟨v,er⟩:=q
 simp only at hok hrep ⊢
 intro g4 w3 h3
 have hC:=hc.loc h3
 have hc:=hC.1
 have hrep:=hrep.fut hC.2
 refine⟨hc.may 0 rfl 0 _ (Nat.le_refl 4) rfl,?_⟩
 intro w4 h4
 have hC:=hc.set 0 rfl h4
 have hc:=hC.1
 have hrep:=hrep.fut hC.2
 refine hc.a 0 rfl rfl ?_
 refine hc.q (A8d v k n s A len cap _ _ hrep hok) fun w5 h5 hc=>?_
 generalize ofD v=q at*
 obtain⟨d,ok⟩:=q
 simp only
 refine hc.n fun g6 w6 h6 hc=>?_
 refine⟨hc.may 0 rfl 0 _ (Nat.le_refl 8) rfl,?_⟩
 intro w7 h7
 have hc:=(hc.set 0 rfl h7).1
 by_cases he:er=0
 ·refine B4 (by show (er != 0)=false;simpa using he) ?_
  cases ok
  ·refine hc.s 2 rfl fun wS hS hc=>?_
   refine hc.a 2 rfl rfl ?_
   rw [if_pos (.inr rfl)]
   exact⟨rfl,hc.below⟩
  ·refine hc.a 0 rfl rfl ?_
   refine hc.s 2 rfl fun wS hS hc=>?_
   refine hc.a 2 rfl rfl ?_
   rw [if_neg (by simp [he])]
   exact⟨rfl,hc.below⟩
 ·refine B6 (by show (er != 0)=true;simpa using he) ?_
  refine hc.s 2 rfl fun wS hS hc=>?_
  refine hc.a 2 rfl rfl ?_
  rw [if_pos (.inl he)]
  exact⟨rfl,hc.below⟩
end Go.Proofs.YtfekddndgakneaaGreatDoor
