import Derived.Test.YtokglimimnelaaaGreatDoorM03
import Derived.Lib.AppendIntMem
import Derived.Lib.ItoaLen
import Derived.Lib.ParseIntBTie
import Derived.Lib.ParseIntBCases
set_option linter.unusedVariables false
set_option linter.unusedSimpArgs false
namespace Go.Proofs.YtokglimimnelaaaGreatDoor
open Go.Vc Go.RowKit Go.Fl
set_option maxRecDepth 100000
def Tab (w:World):Prop:=Lib.TabIs Tryz.prog w "internal/strconv.uint64pow10" .u64 Lib.pow10Tab
theorem Tab.below {w w':World} (h:Tab w) (hb:Below w.heap.size w w'):Tab w':=by
 unfold Tab Lib.TabIs World.var? at*
 cases hg:Tryz.prog.globalNamed "internal/strconv.uint64pow10" with
 | none=>simp [hg] at h
 | some g=>
  simp only [hg,Option.bind_some] at h ⊢
  have hlt:g<w.heap.size:=by
   rcases Nat.lt_or_ge g w.heap.size with h' | h'
   ·exact h'
   ·rw [Array.getElem?_eq_none h'] at h;cases h
  rw [hb.block g hlt]
  exact h
theorem grow_below {w w':World} (h:∃ k os,w'=Sort.grow (w.drewN k) os):Below w.heap.size w w':=by
 obtain⟨k,os,rfl⟩:=h
 exact Lib.below_grow _ _ (Nat.le_refl _) _ _
mutual
def putV:V->List UInt8
 | .mk k n s l=>
  let t:=if k==1 then Lib.itoa n else if k==3 then putL l else s.data.toList
  Lib.itoa (t.length:Int)++58::(t++[if k==1 then 35 else if k==3 then 93 else 44])
def putL:List V->List UInt8
 | []=>[]
 | v::r=>putV v++putL r
end
mutual
def okV:V->Prop
 | .mk k n s l=>i64ok n/\okL l
def okL:List V->Prop
 | []=>True
 | v::r=>okV v/\okL r
end
theorem itoa_any (n:Int) (h:i64ok n) (w:World) (ht:Tab w):Calls Tryz.prog 176 #[.int .i64 n] w (RetB (.string ⟨(Lib.itoa n).toArray⟩) w):=
 (Tryz.strconv_Itoa n h.1 h.2 w ht).mono fun e w' he=>⟨he.1,grow_below he.2⟩
theorem fmt_any (n:Int) (h:i64ok n) (w:World) (ht:Tab w):Calls Tryz.prog 173 #[.int .i64 n,.int .i64 10] w (RetB (.string ⟨(Lib.itoa n).toArray⟩) w):=
 (Tryz.strconv_FormatInt_10 n h.1 h.2 w ht).mono fun e w' he=>⟨he.1,grow_below he.2⟩
theorem putL_append_drop (l:List V) (i:Nat) (h:i<l.length):putL (l.take i)++putV l[i]=putL (l.take (i+1)):=by
 induction l generalizing i with
 | nil=>exact absurd h (Nat.not_lt_zero _)
 | cons v r ih=>
  cases i with
  | zero=>simp [putL]
  | succ i=>
   simp only [List.take_succ_cons,putL,List.getElem_cons_succ,List.append_assoc]
   rw [ih i (Nat.lt_of_succ_lt_succ h)]
theorem putL_take_le (l:List V):∀ i,(putL (l.take i)).length<=(putL l).length:=by
 induction l with
 | nil=>intro i;simp
 | cons v r ih=>
  intro i
  cases i with
  | zero=>simp [putL]
  | succ i=>simp only [List.take_succ_cons,putL,List.length_append];have:=ih i;omega
theorem okL_mem:∀ {l:List V} {v:V},okL l->v∈l->okV v
 | x::r,v,h,hm=>by
  rw [okL] at h
  cases hm with
  | head=>exact h.1
  | tail _ hm=>exact okL_mem h.2 hm
theorem putV_mem_le:∀ {l:List V} {v:V},v∈l->(putV v).length<=(putL l).length
 | x::r,v,hm=>by
  rw [putL,List.length_append]
  cases hm with
  | head=>omega
  | tail _ hm=>have:=putV_mem_le hm;omega
theorem put_join (a t:List UInt8) (e:UInt8):((⟨a.toArray⟩++⟨#[58]⟩:ByteArray)++⟨t.toArray⟩)++⟨#[e]⟩=⟨(a++58::(t++[e])).toArray⟩:=by
 have e1:(⟨#[58]⟩:ByteArray)=⟨([58]:List UInt8).toArray⟩:=rfl
 have e2:(⟨#[e]⟩:ByteArray)=⟨[e].toArray⟩:=rfl
 rw [e1,e2,ba_append,ba_append,ba_append]
 simp
theorem join_sizes (a t:List UInt8) (e:UInt8) (ha:a.length<=100) (ht:t.length<=1073741824):
  (⟨a.toArray⟩:ByteArray).size+(⟨#[58]⟩:ByteArray).size<=9223372036854775807/\(⟨a.toArray⟩++⟨#[58]⟩:ByteArray).size+(⟨t.toArray⟩:ByteArray).size<=9223372036854775807/\
  ((⟨a.toArray⟩++⟨#[58]⟩:ByteArray)++⟨t.toArray⟩).size+(⟨#[e]⟩:ByteArray).size<=9223372036854775807:=by
 have e1:(⟨#[58]⟩:ByteArray).size=1:=rfl
 have e2:(⟨#[e]⟩:ByteArray).size=1:=rfl
 have e3:(⟨a.toArray⟩:ByteArray).size=a.length:=ba_size a
 have e4:(⟨t.toArray⟩:ByteArray).size=t.length:=ba_size t
 simp only [ByteArray.size_append]
 omega
theorem builder_old {T e:TypeId} {B b:Nat} {bs:List Value} {w w':World} (h:Lib.IsBuilder T e B b bs w) (hb:Below w.heap.size w w'):Lib.IsBuilder T e B b bs w':=by
 have one:∀ p,Lib.BuilderAt T e B b p bs w->Lib.BuilderAt T e B b p bs w':=fun p h=>by
  have hlt:=h.lt
  obtain⟨hB,v,hbk,hown,hne⟩:=h
  refine⟨hB,v,(hb.block b hlt).trans hbk,?_,hne⟩
  refine hown.kept (row:=none) ⟨hb.os,hb.tape,hb.output,hb.size,fun k hk _=>hb.block k hk⟩ ?_
  cases hv:v.ownBlock with
  | none=>exact .inl rfl
  | some k=>exact .inr (by simp)
 exact h.imp (one _) (one _)
theorem put_any:∀ (N:Nat) (v:V),SizeOf.sizeOf v<N->okV v->(putV v).length<=1073741824->∀ (cs:List Value) (S:Nat->Prop) (w:World),RepC S w v cs->Tab w->
  Calls Tryz.prog 131 #[.agg cs.toArray] w (RetB (.string ⟨(putV v).toArray⟩) w):=by
 intro N
 induction N with
 | zero=>intro v h;exact absurd h (Nat.not_lt_zero _)
 | succ N ih=>
  intro v hN hok hlen cs S w hr ht
  obtain⟨k,n,s,l⟩:=v
  rw [RepC] at hr
  obtain⟨A,cap,xs,rfl,hL,hR⟩:=hr
  rw [okV] at hok
  refine vE Tryz.func131 ?_
  intro g2 w2 h2
  have hc:=((Ctx.start w no (fun _ h=>h.elim)).loc h2).1
  refine⟨_,hc.cell 0 rfl _ rfl,?_⟩
  refine⟨_,hc.cell 0 rfl _ rfl,?_⟩
  by_cases k1:k=1
  ·subst k1
   refine⟨_,hc.cell 0 rfl _ rfl,?_⟩
   refine hc.q (fmt_any n hok.1 _ (ht.below hc.below)) fun w3 h3 hc=>?_
   have hl:(Lib.itoa n).length<=21:=Lib.itoa_length_le n hok.1.1 hok.1.2
   have hi:i64ok (((⟨(Lib.itoa n).toArray⟩:ByteArray).size:Nat):Int):=by rw [ba_size];unfold i64ok;omega
   refine hc.q (itoa_any _ hi _ (ht.below hc.below)) fun w4 h4 hc=>?_
   have hz:=join_sizes (Lib.itoa (((⟨(Lib.itoa n).toArray⟩:ByteArray).size:Nat):Int)) (Lib.itoa n) 35 (by have:=Lib.itoa_length_le _ hi.1 hi.2;omega) (by omega)
   refine⟨hz.1,?_⟩
   refine⟨hz.2.1,?_⟩
   refine⟨hz.2.2,?_⟩
   refine⟨?_,hc.below⟩
   rw [put_join,ba_size,putV]
   rfl
  ·by_cases k3:k=3
   ·subst k3
    have ev:putV (.mk 3 n s l)=Lib.itoa ((putL l).length:Int)++58::(putL l++[93]):=by rw [putV];rfl
    rw [ev] at hlen ⊢
    simp only [List.length_append,List.length_cons] at hlen
    intro gb w3 h3
    have hM:l.length<=9223372036854775807:=Nat.le_trans (Nat.le_trans hR.1 hR.2.1) (by decide)
    have hc:=(hc.loc h3).1
    have hB0:w.heap.size<=gb:=by have:=hc.locs.1;exact this
    have ib:Lib.IsBuilder 230 5 w.heap.size gb (bv (putL (l.take 0))) w3:=.inl ⟨hB0,.slice none 0 0,h3.blk,World.ownsRow_nil _ _ _ _,by simp [Value.ownBlock]⟩
    refine⟨_,hc.cell 1 rfl _ rfl,?_⟩
    refine⟨Nat,fun i=>[(5,.pointer (some ⟨gb,0,none⟩)),(20,.slice A l.length cap),(21,.int .i64 l.length),(22,.int .i64 i)],
     fun i w'=>i<=l.length/\Lib.IsBuilder 230 5 w.heap.size gb (bv (putL (l.take i))) w'/\Below w.heap.size w w',fun i _=>l.length-i,0,
     ⟨rfl,rfl,rfl,rfl,trivial⟩,⟨Nat.zero_le _,ib,hc.below⟩,?_⟩
    rintro i w' u ⟨hi,hib,hb⟩
    by_cases hlt:i<l.length
    ·refine split_t (decide_eq_true (by omega)) ?_
     obtain⟨ad,es,rfl,hre,hl4,hcell⟩:=Rep.elem (hL.below hb) (hR.below hb) i hlt
     have hmem:=List.getElem_mem hlt
     have hap:=putL_append_drop l i hlt
     have htk:=putL_take_le l (i+1)
     generalize l[i]=x at*
     have hre0:=hre
     obtain⟨k',n',s',l'⟩:=x
     rw [RepC] at hre
     obtain⟨A',cap',xs',rfl,_,_⟩:=hre
     refine⟨⟨by omega,by omega⟩,?_⟩
     refine⟨_,hl4,hcell,?_⟩
     intro g5 w5 h5
     have c5:=((Ctx.start w' no (fun _ h=>h.elim)).loc h5).1
     refine⟨c5.may 0 rfl 0 _ (Nat.le_refl 4) rfl,?_⟩
     intro w6 h6
     have c6:=(c5.set 0 rfl h6).1
     refine⟨_,?_,c6.cells 0 rfl,?_⟩
     ·rfl
     refine call_b (ih (.mk k' n' s' l') (by have:=V.kid (k:=3) (n:=n) (s:=s) hmem;omega) (okL_mem hok.2 hmem) (by have:=putV_mem_le hmem;omega) _ S w6 (hre0.below c6.below) ((ht.below hb).below c6.below)) ?_
     intro w7 h7
     have c7:=(c6.quiet h7).1
     have hb7:=hb.trans (c7.below.mono hb.size)
     refine⟨(wstr_any w.heap.size gb (putL (l.take i)) ⟨(putV (.mk k' n' s' l')).toArray⟩ w7 (builder_old hib c7.below) hb7.size (by rw [ba_size,<-List.length_append,hap];omega)).mono fun e w8 he=>⟨_,he.1,?_⟩⟩
     refine⟨i+1,⟨rfl,rfl,rfl,congrArg _ (i_down (by omega)),trivial⟩,⟨hlt,?_,hb7.trans he.2.2⟩,by show l.length-(i+1)<l.length-i;omega⟩
     rw [<-hap]
     exact he.2.1
    ·refine split_f (decide_eq_false (by omega)) ?_
     rw [List.take_of_length_le (by omega)] at hib
     refine⟨(Tryz.Builder_String_any w.heap.size gb (putL l) w' hib hb.size).mono fun e w8 he=>⟨_,he.1,?_⟩⟩
     have hb8:=hb.trans he.2
     have hi:i64ok (((⟨(putL l).toArray⟩:ByteArray).size:Nat):Int):=by rw [ba_size];unfold i64ok;omega
     refine call_b (itoa_any _ hi _ (ht.below hb8)) ?_
     intro w9 h9
     have hz:=join_sizes (Lib.itoa (((⟨(putL l).toArray⟩:ByteArray).size:Nat):Int)) (putL l) 93 (by have:=Lib.itoa_length_le _ hi.1 hi.2;omega) (by omega)
     refine⟨hz.1,?_⟩
     refine⟨hz.2.1,?_⟩
     refine⟨hz.2.2,?_⟩
     refine⟨?_,hb8.trans (h9.mono hb8.size)⟩
     rw [put_join,ba_size]
     rfl
   ·have b1:(k==1)=false:=by simpa using k1
    have b3:(k==3)=false:=by simpa using k3
    refine split_f b1 ?_
    refine split_f b3 ?_
    obtain⟨t,rfl⟩:∃ t:List UInt8,s=⟨t.toArray⟩:=⟨s.data.toList,by apply ByteArray.ext;simp⟩
    have ev:putV (.mk k n ⟨t.toArray⟩ l)=Lib.itoa (t.length:Int)++58::(t++[44]):=by rw [putV];simp [b1,b3]
    rw [ev] at hlen ⊢
    simp only [List.length_append,List.length_cons] at hlen
    have hi:i64ok (((⟨t.toArray⟩:ByteArray).size:Nat):Int):=by rw [ba_size];unfold i64ok;omega
    refine hc.q (itoa_any _ hi _ (ht.below hc.below)) fun w4 h4 hc=>?_
    have hz:=join_sizes (Lib.itoa (((⟨t.toArray⟩:ByteArray).size:Nat):Int)) t 44 (by have:=Lib.itoa_length_le _ hi.1 hi.2;omega) (by omega)
    refine⟨hz.1,?_⟩
    refine⟨hz.2.1,?_⟩
    refine⟨hz.2.2,?_⟩
    refine⟨?_,hc.below⟩
    rw [put_join,ba_size]
    rfl
set_option maxRecDepth 100000
def dgt (c:UInt8):Bool:=decide (48<=c.toNat)&&decide (c.toNat<=57)
theorem dgt_iff {c:UInt8}:dgt c=true↔48<=c.toNat/\c.toNat<=57:=by simp [dgt]
def valD (a:Nat) (l:List UInt8):Nat:=l.foldl (fun a c=>10*a+(c.toNat-48)) a
theorem valD_cons (a:Nat) (c:UInt8) (l:List UInt8):valD a (c::l)=valD (10*a+(c.toNat-48)) l:=by unfold valD;rw [List.foldl_cons]
theorem valD_snoc (a:Nat) (l:List UInt8) (c:UInt8):valD a (l++[c])=10*valD a l+(c.toNat-48):=by simp [valD]
theorem valD_ge:∀ (l:List UInt8) (a:Nat),a<=valD a l
 | [],a=>Nat.le_refl _
 | c::r,a=>by rw [valD_cons];have:=valD_ge r (10*a+(c.toNat-48));omega
theorem u8_ofNat_toNat (n:Nat) (h:n<256):(UInt8.ofNat n).toNat=n:=by
 rw [UInt8.toNat_ofNat']
 exact Nat.mod_eq_of_lt h
theorem u8_digit {c:UInt8} (h:dgt c=true):UInt8.ofNat (48+(c.toNat-48))=c:=by
 rw [dgt_iff] at h
 rw [show 48+(c.toNat-48)=c.toNat by omega]
 exact UInt8.ofNat_toNat
theorem dec_of_digits:∀ (N:Nat) (l:List UInt8),l.length<=N->l≠[]->(∀ c∈l,dgt c=true)->(∀ c r,l=c::r->r≠[]->c≠48)->Lib.decDigits (valD 0 l)=l:=by
 intro N
 induction N with
 | zero=>intro l h hn;exact absurd (List.eq_nil_of_length_eq_zero (by omega)) hn
 | succ N ih=>
  intro l hN hne hd hz
  rcases List.eq_nil_or_concat l with rfl | ⟨l',c,e0⟩
  ·exact absurd rfl hne
  rw [List.concat_eq_append] at e0
  subst e0
  have hc:dgt c=true:=hd c (by simp)
  have hc':=dgt_iff.1 hc
  rw [valD_snoc]
  cases l' with
  | nil=>
   have e:10*valD 0 []+(c.toNat-48)=c.toNat-48:=by simp [valD]
   rw [e,Lib.decDigits,dif_pos (by omega),u8_digit hc]
   rfl
  | cons b r=>
   have hb:dgt b=true:=hd b (by simp)
   have hb':=dgt_iff.1 hb
   have hb48:b≠48:=hz b (r++[c]) rfl (by simp)
   have hbn:b.toNat≠48:=fun e=>hb48 (UInt8.toNat_inj.1 e)
   have h1:1<=valD 0 (b::r):=by rw [valD_cons];have:=valD_ge r (10*0+(b.toNat-48));omega
   rw [Lib.decDigits,dif_neg (by omega),show (10*valD 0 (b::r)+(c.toNat-48)) / 10=valD 0 (b::r) by omega,show (10*valD 0 (b::r)+(c.toNat-48)) % 10=c.toNat-48 by omega,
    u8_digit hc,ih (b::r) (by simp at hN ⊢;omega) (by simp) (fun x hx=>hd x (List.mem_append_left _ hx)) (fun x y e hy=>by
     cases e;exact hb48)]
theorem dec_digits (u:Nat):Lib.decDigits u≠[]/\(∀ c∈Lib.decDigits u,dgt c=true)/\valD 0 (Lib.decDigits u)=u/\∀ c r,Lib.decDigits u=c::r->r≠[]->c≠48:=by
 induction u using Nat.strongRecOn with
 | _ u ih=>
  by_cases h:u<10
  ·rw [Lib.decDigits,dif_pos h]
   have e:=u8_ofNat_toNat (48+u) (by omega)
   refine⟨by simp,fun c hc=>?_,?_,fun c r e hr=>?_⟩
   ·rw [List.mem_singleton] at hc
    subst hc
    rw [dgt_iff,e];omega
   ·show 10*0+((UInt8.ofNat (48+u)).toNat-48)=u
    rw [e];omega
   ·cases e;exact absurd rfl hr
  ·obtain⟨h1,h2,h3,h4⟩:=ih (u / 10) (by omega)
   rw [Lib.decDigits,dif_neg h]
   have e:=u8_ofNat_toNat (48+u % 10) (by omega)
   refine⟨by simp,fun c hc=>?_,?_,fun c r e hr=>?_⟩
   ·rw [List.mem_append,List.mem_singleton] at hc
    rcases hc with hc | hc
    ·exact h2 c hc
    ·subst hc;rw [dgt_iff,e];omega
   ·rw [valD_snoc,h3,e];omega
   ·cases hd:Lib.decDigits (u / 10) with
    | nil=>exact absurd hd h1
    | cons b t=>
     rw [hd] at e
     cases e
     cases t with
     | nil=>
      rw [hd] at h3
      intro e48
      subst e48
      have:(u / 10)=0:=h3.symm
      omega
     | cons x y=>exact h4 c _ hd (by simp)
def szGo:List UInt8->Nat->Nat->Nat × Nat × Int
 | [],_,_=>(0,0,2)
 | c::r,i,n=>if c=58/\0<i then (n,i+1,0) else if dgt c=false\/7<=i\/(0<i/\n=0) then (0,0,1) else szGo r (i+1) (10*n+(c.toNat-48))
theorem szGo_put:∀ (l r:List UInt8) (i n:Nat),(∀ c∈l,dgt c=true)->i+l.length<=7->0<i+l.length->(0<i->l≠[]->0<n)->(i=0->∀ c t,l=c::t->t≠[]->c≠48)->
  szGo (l++58::r) i n=(valD n l,i+l.length+1,0)
 | [],r,i,n,hd,h7,h0,hn,hz=>by
  rw [List.nil_append,szGo,if_pos ⟨rfl,by simpa using h0⟩]
  rfl
 | c::t,r,i,n,hd,h7,h0,hn,hz=>by
  have hc:=hd c (by simp)
  have hc':=dgt_iff.1 hc
  simp only [List.length_cons] at h7
  rw [List.cons_append,szGo,if_neg (fun h=>by rw [h.1] at hc';revert hc';decide),if_neg (fun h=>by
   rcases h with h | h | h
   ·rw [hc] at h;cases h
   ·omega
   ·have:=hn h.1 (by simp);omega),szGo_put t r (i+1) _ (fun x hx=>hd x (by simp [hx])) (by omega) (by omega) (fun _ ht=>?_) (fun h=>by omega),valD_cons]
  ·rw [List.length_cons,show i+1+t.length+1=i+(t.length+1)+1 by omega]
  ·rcases Nat.eq_zero_or_pos i with h | h
   ·have h48:=hz h c t rfl ht
    have:c.toNat≠48:=fun e=>h48 (UInt8.toNat_inj.1 e)
    omega
   ·have:=hn h (by simp);omega
theorem szGo_get:∀ (s:List UInt8) (i n m a:Nat),(i=0->n=0)->szGo s i n=(m,a,0)->∃ l r,s=l++58::r/\(∀ c∈l,dgt c=true)/\m=valD n l/\a=i+l.length+1/\0<i+l.length/\(i=0->∀ c t,l=c::t->t≠[]->c≠48)/\(0<i->n=0->l=[])/\(i+l.length<=7\/l=[])
 | [],i,n,m,a,h0,h=>by simp [szGo] at h
 | c::s,i,n,m,a,h0,h=>by
  rw [szGo] at h
  by_cases h1:c=58/\0<i
  ·rw [if_pos h1] at h
   simp only [Prod.mk.injEq] at h
   obtain⟨rfl,rfl,_⟩:=h
   obtain⟨rfl,hi⟩:=h1
   exact⟨[],s,rfl,by simp,rfl,rfl,by simpa using hi,fun h=>by omega,fun _ _=>rfl,.inr rfl⟩
  ·rw [if_neg h1] at h
   by_cases h2:dgt c=false\/7<=i\/(0<i/\n=0)
   ·rw [if_pos h2] at h;simp at h
   ·rw [if_neg h2] at h
    obtain⟨l,r,e,g1,g2,g3,g4,g5,g6,g7⟩:=szGo_get s (i+1) _ m a (fun h=>by omega) h
    have hdc:dgt c=true:=by
     cases hd:dgt c
     ·exact absurd (.inl hd) h2
     ·rfl
    have hdc':=dgt_iff.1 hdc
    refine⟨c::l,r,by rw [e];rfl,fun x hx=>?_,by rw [g2,valD_cons],by rw [g3,List.length_cons];omega,by rw [List.length_cons];omega,fun hi x t ex ht=>?_,fun hi hn=>?_,?_⟩
    ·cases hx with
     | head=>exact hdc
     | tail _ hx=>exact g1 x hx
    ·cases ex
     intro e48
     subst e48
     exact ht (g6 (by omega) (by rw [h0 hi];decide))
    ·exact absurd (.inr (.inr ⟨hi,hn⟩)) h2
    ·rw [List.length_cons]
     rcases g7 with g7 | g7
     ·exact .inl (by omega)
     ·subst g7
      left
      simp only [List.length_nil]
      have:¬ 7<=i:=fun h=>h2 (.inr (.inl h))
      omega
def numP (t:List UInt8):Option Int:=
 match Lib.parseIntB 64 t with
 | .ok n=>if Lib.itoa n=t then some n else none
 | _=>none
theorem numP_get {t:List UInt8} {n:Int} (h:numP t=some n):Lib.itoa n=t/\i64ok n:=by
 unfold numP at h
 rcases e:Lib.parseIntB 64 t with m | _ | _
 ·rw [e] at h
  simp only at h
  by_cases e2:Lib.itoa m=t
  ·rw [if_pos e2] at h
   cases h
   have hb:=Lib.parseIntB_bounds e
   refine⟨e2,?_⟩
   unfold i64ok
   simp only [show (2:Nat) ^ (64-1)=9223372036854775808 by decide] at hb
   omega
  ·rw [if_neg e2] at h;cases h
 ·rw [e] at h;cases h
 ·rw [e] at h;cases h
theorem parseUintM_digits:∀ (l:List UInt8) (a:Nat),(∀ c∈l,dgt c=true)->valD a l<=18446744073709551615->Lib.parseUintM 18446744073709551615 a l=.ok (valD a l)
 | [],a,_,_=>rfl
 | c::r,a,hd,hv=>by
  have hc:=dgt_iff.1 (hd c (by simp))
  rw [valD_cons] at hv ⊢
  have hg:=valD_ge r (10*a+(c.toNat-48))
  rw [Lib.parseUintM,if_pos hc,if_neg (by omega),if_neg (by omega),Nat.mul_comm a 10]
  exact parseUintM_digits r _ (fun x hx=>hd x (by simp [hx])) hv
theorem parseUintB_dec (u:Nat) (h:u<=18446744073709551615):Lib.parseUintB 64 (Lib.decDigits u)=.ok u:=by
 obtain⟨h1,h2,h3,_⟩:=dec_digits u
 have:=parseUintM_digits (Lib.decDigits u) 0 h2 (by rw [h3];exact h)
 rw [h3] at this
 unfold Lib.parseUintB
 rw [if_neg h1]
 exact this
theorem numP_put (n:Int) (h:i64ok n):numP (Lib.itoa n)=some n:=by
 have key:Lib.parseIntB 64 (Lib.itoa n)=.ok n:=by
  unfold i64ok at h
  unfold Lib.itoa
  by_cases hn:n<0
  ·rw [if_pos hn,Lib.parseIntB_minus,parseUintB_dec _ (by omega)]
   unfold Lib.signedC
   simp only
   first
    | (rw [if_neg (by simp;omega)];congr 1;omega)
    | (split<;>(try congr 1)<;>omega)
  ·rw [if_neg hn]
   obtain⟨h1,h2,_,_⟩:=dec_digits n.toNat
   cases e:Lib.decDigits n.toNat with
   | nil=>exact absurd e h1
   | cons c r=>
    have hc:=dgt_iff.1 (h2 c (by rw [e];simp))
    rw [Lib.parseIntB_plain _ _ _ (by omega) (by omega),<-e,parseUintB_dec _ (by omega)]
    unfold Lib.signlessC
    simp only
    first
     | (rw [if_neg (by simp;omega)];congr 1;omega)
     | (split<;>(try congr 1)<;>omega)
 unfold numP
 rw [key]
 simp
def lstGo (g:List UInt8->V × Nat × Int):Nat->List UInt8->Option (List V)
 | _,[]=>some []
 | 0,_::_=>none
 | k+1,c::r=>
  let q:=g (c::r)
  if q.2.2≠0 then none else (lstGo g k ((c::r).drop q.2.1)).map (q.1::·)
def V0:V:=.mk 0 0 ⟨#[]⟩ []
def bodyP (g:List UInt8->V × Nat × Int) (c:UInt8) (t:List UInt8):Option V:=
 if c=35 then (numP t).map fun n=>.mk 1 n ⟨#[]⟩ []
 else if c=93 then (lstGo g 6000 t).map fun l=>.mk 3 0 ⟨#[]⟩ l
 else if c=44 then some (.mk 2 0 ⟨t.toArray⟩ [])
 else none
def getP:Nat->List UInt8->V × Nat × Int
 | 0,s=>let q:=szGo s 0 0;if q.2.2≠0 then (V0,0,q.2.2) else (V0,0,1)
 | f+1,s=>
  let q:=szGo s 0 0
  if q.2.2≠0 then (V0,0,q.2.2)
  else if s.length<=q.2.1+q.1 then (V0,0,2)
  else match bodyP (getP f) (s.getD (q.2.1+q.1) 0) ((s.drop q.2.1).take q.1) with
   | none=>(V0,0,1)
   | some v=>(v,q.2.1+q.1+1,0)
def getV (s:List UInt8):V × Nat × Int:=
 let q:=getP 6 s
 if q.2.2=0/\mayV q.1=false then (V0,0,1) else q
def allV (s:List UInt8):V × Int:=
 let q:=getV s
 if q.2.2≠0\/q.2.1≠s.length then (V0,1) else (q.1,0)
def txtV:V->List UInt8
 | .mk k n s l=>if k==1 then Lib.itoa n else if k==3 then putL l else s.data.toList
def endV:V->UInt8
 | .mk k n s l=>if k==1 then 35 else if k==3 then 93 else 44
theorem itoa_nat (n:Nat):Lib.itoa (n:Int)=Lib.decDigits n:=by
 unfold Lib.itoa
 rw [if_neg (by omega),Int.toNat_natCast]
theorem putV_eq (v:V):putV v=Lib.decDigits (txtV v).length++58::(txtV v++[endV v]):=by
 obtain⟨k,n,s,l⟩:=v
 rw [putV,<-itoa_nat]
 rfl
theorem dec_len7 {u:Nat} (h:u<10000000):(Lib.decDigits u).length<=7:=by
 rw [Lib.decDigits_length]
 rcases Nat.lt_or_ge 7 (Lib.nDigits u) with h7 | h7
 ·exfalso
  have key:∀ (k u:Nat),k<Lib.nDigits u->10 ^ k<=u\/k=0:=by
   intro k
   induction k with
   | zero=>intro u _;exact .inr rfl
   | succ k ih=>
    intro u hk
    by_cases hu:u<10
    ·rw [Lib.nDigits_small hu] at hk;omega
    ·rw [Lib.nDigits_big hu] at hk
     have:=ih (u / 10) (by omega)
     rw [Nat.pow_succ]
     rcases this with h | h
     ·left;omega
     ·subst h;left;simp;omega
  have:=key 7 u h7
  simp at this
  omega
 ·exact h7
theorem szGo_putV (v:V) (r:List UInt8) (h:(txtV v).length<10000000):szGo (putV v++r) 0 0=((txtV v).length,(Lib.decDigits (txtV v).length).length+1,0):=by
 obtain⟨h1,h2,h3,h4⟩:=dec_digits (txtV v).length
 have hp:0<(Lib.decDigits (txtV v).length).length:=List.length_pos_iff.2 h1
 rw [putV_eq,List.append_assoc,List.cons_append,szGo_put _ _ _ _ h2 (by have:=dec_len7 h;omega) (by omega) (fun h=>by omega) (fun _=>h4),h3,Nat.zero_add]
theorem putV_len (v:V):(putV v).length=(Lib.decDigits (txtV v).length).length+1+(txtV v).length+1:=by
 rw [putV_eq];simp;omega
theorem putV_drop (v:V) (r:List UInt8):((putV v++r).drop ((Lib.decDigits (txtV v).length).length+1)).take (txtV v).length=txtV v:=by
 rw [putV_eq]
 have e:Lib.decDigits (txtV v).length++58::(txtV v++[endV v])++r=(Lib.decDigits (txtV v).length++[58])++(txtV v++([endV v]++r)):=by simp
 rw [e,List.drop_left' (by simp),List.take_left' rfl]
theorem putV_end (v:V) (r:List UInt8):(putV v++r).getD ((Lib.decDigits (txtV v).length).length+1+(txtV v).length) 0=endV v:=by
 rw [putV_eq]
 have e:Lib.decDigits (txtV v).length++58::(txtV v++[endV v])++r=((Lib.decDigits (txtV v).length++[58])++txtV v)++(endV v::r):=by simp
 rw [e,List.getD_eq_getElem?_getD,List.getElem?_append_right (by simp;omega),List.length_append,List.length_append]
 simp
theorem cntL_le (g:V->Int) (hg:∀ v,1<=g v):∀ (l:List V) (n:Int),cntL g l n<=6000->n+l.length<=cntL g l n/\∀ x∈l,g x<=6000-n
 | [],n,h=>by rw [cntL];simp
 | x::r,n,h=>by
  rw [cntL_cons] at h ⊢
  by_cases h1:6000<n+g x
  ·rw [if_pos h1] at h;omega
  ·rw [if_neg h1] at h ⊢
   have hx:=hg x
   obtain⟨h2,h3⟩:=cntL_le g hg r _ h
   refine⟨by rw [List.length_cons];omega,fun y hy=>?_⟩
   cases hy with
   | head=>omega
   | tail _ hy=>have:=h3 y hy;omega
theorem lstGo_put (g:List UInt8->V × Nat × Int):∀ (l:List V) (k:Nat),l.length<=k->(∀ x∈l,∀ r,g (putV x++r)=(x,(putV x).length,0))->lstGo g k (putL l)=some l
 | [],k,hk,h=>by rw [putL];unfold lstGo;rfl
 | x::l,0,hk,h=>by simp at hk
 | x::l,k+1,hk,h=>by
  rw [putL]
  have hx:=h x (by simp) (putL l)
  have hl:=putV_len x
  cases e:putV x++putL l with
  | nil=>exfalso;have:=congrArg List.length e;rw [List.length_append,hl] at this;simp only [List.length_nil] at this;omega
  | cons c r=>
   rw [lstGo,<-e,hx]
   simp only [ne_eq,not_true_eq_false,if_false,List.drop_left]
   rw [lstGo_put g l k (by simpa using hk) (fun y hy=>h y (by simp [hy]))]
   rfl
theorem putL_mem_len {l:List V} {x:V} (h:x∈l):(txtV x).length<(putL l).length:=by
 have h1:=putV_mem_le h
 have h2:=putV_len x
 omega
theorem mt_empty {s:ByteArray} (h:mt s=true):s=⟨#[]⟩:=by
 have h2:strEq s ⟨#[]⟩=true:=h
 apply ByteArray.ext
 simpa [strEq] using h2
theorem getP_put:∀ (f:Nat) (v:V),cnt f v<=6000->okV v->(txtV v).length<10000000->∀ r,getP f (putV v++r)=(v,(putV v).length,0):=by
 intro f
 induction f with
 | zero=>intro v h;rw [cnt] at h;omega
 | succ f ih=>
  intro v hc hok hlen r
  rw [getP,szGo_putV v r hlen]
  simp only [ne_eq,not_true_eq_false,if_false]
  rw [if_neg (by rw [List.length_append,putV_len];omega),putV_drop,putV_end]
  have hb:bodyP (getP f) (endV v) (txtV v)=some v:=by
   obtain⟨k,n,s,l⟩:=v
   rw [cnt] at hc
   rw [okV] at hok
   by_cases h1:(k==1&&mt s&&((l.length:Int)==0))||(k==2&&n==0&&((l.length:Int)==0))
   ·simp only [Bool.or_eq_true,Bool.and_eq_true,beq_iff_eq] at h1
    rcases h1 with ⟨⟨h1,h2⟩,h3⟩ | ⟨⟨h1,h2⟩,h3⟩
    ·subst h1
     have hl:l=[]:=List.eq_nil_of_length_eq_zero (by omega)
     subst hl
     rw [mt_empty h2]
     simp [bodyP,endV,txtV,numP_put n hok.1]
    ·subst h1
     have hl:l=[]:=List.eq_nil_of_length_eq_zero (by omega)
     subst hl
     subst h2
     simp [bodyP,endV,txtV]
   ·rw [if_neg h1] at hc
    by_cases h2:(k != 3||!(n==0)||!mt s)=true
    ·rw [if_pos h2] at hc;omega
    ·rw [if_neg h2] at hc
     simp only [Bool.or_eq_true,not_or,bne_iff_ne,ne_eq,Decidable.not_not,Bool.not_eq_true',Bool.not_eq_false',beq_iff_eq,Bool.not_eq_false] at h2
     obtain⟨⟨rfl,h3⟩,h4⟩:=h2
     have h3:n=0:=by simpa using h3
     have h4:mt s=true:=by simpa using h4
     subst h3
     rw [mt_empty h4]
     obtain⟨h5,h6⟩:=cntL_le (cnt f) (fun v=>(cnt_range f v).1) l 1 hc
     have ht:txtV (.mk 3 0 s l)=putL l:=by simp [txtV]
     rw [ht] at hlen
     have hl:=lstGo_put (getP f) l 6000 (by omega) (fun x hx r=>ih x (by have:=h6 x hx;omega) (okL_mem hok.2 hx) (by have:=putL_mem_len hx;omega) r)
     simp [bodyP,endV,txtV,hl]
  rw [hb]
  simp only
  rw [putV_len]
theorem allV_put (v:V) (hm:mayV v=true) (hok:okV v) (hlen:(txtV v).length<10000000):allV (putV v)=(v,0):=by
 have h:=getP_put 6 v (by simpa [mayV] using hm) hok hlen []
 rw [List.append_nil] at h
 simp [allV,getV,h,hm]
theorem lstGo_get (g:List UInt8->V × Nat × Int) (hg:∀ s v n,g s=(v,n,0)->n<=s.length/\putV v=s.take n/\okV v):∀ (k:Nat) (t:List UInt8) (l:List V),lstGo g k t=some l->putL l=t/\okL l:=by
 intro k
 induction k with
 | zero=>
  intro t l h
  cases t with
  | nil=>rw [lstGo] at h;cases h;exact⟨by rw [putL],by rw [okL];trivial⟩
  | cons c r=>rw [lstGo] at h;cases h
 | succ k ih=>
  intro t l h
  cases t with
  | nil=>rw [lstGo] at h;cases h;exact⟨by rw [putL],by rw [okL];trivial⟩
  | cons c r=>
   rw [lstGo] at h
   generalize hq:g (c::r)=q at h
   obtain⟨v,n,e⟩:=q
   simp only at h
   by_cases he:e=0
   ·subst he
    simp only [ne_eq,not_true_eq_false,if_false] at h
    cases hl:lstGo g k ((c::r).drop n) with
    | none=>rw [hl] at h;cases h
    | some m=>
     rw [hl] at h
     cases h
     obtain⟨h1,h2⟩:=ih _ _ hl
     obtain⟨h3,h4,h5⟩:=hg _ _ _ hq
     refine⟨?_,by rw [okL];exact⟨h5,h2⟩⟩
     rw [putL,h1,h4,List.take_append_drop]
   ·rw [if_pos he] at h;cases h
theorem getP_get:∀ (f:Nat) (s:List UInt8) (v:V) (n:Nat),getP f s=(v,n,0)->n<=s.length/\putV v=s.take n/\okV v:=by
 intro f
 induction f with
 | zero=>
  intro s v n h
  rw [getP] at h
  try dsimp only at h
  split at h
  ·rename_i h1;simp only [Prod.mk.injEq] at h;exact absurd h.2.2 h1
  ·simp at h
 | succ f ih=>
  intro s v n h
  rw [getP] at h
  try dsimp only at h
  generalize hq:szGo s 0 0=q at h
  obtain⟨m,a,e⟩:=q
  simp only at h
  split at h
  ·rename_i h1;simp only [Prod.mk.injEq] at h;exact absurd h.2.2 h1
  rename_i h1
  have he:e=0:=by simpa using h1
  subst he
  split at h
  ·simp at h
  rename_i h2
  obtain⟨l,r,es,g1,g2,g3,g4,g5,g6,g7⟩:=szGo_get s 0 0 m a (fun _=>rfl) hq
  have hne:l≠[]:=fun e=>by subst e;simp at g4
  have hdec:Lib.decDigits m=l:=by
   rw [g2]
   exact dec_of_digits l.length l (Nat.le_refl _) hne g1 (g5 rfl)
  cases hb:bodyP (getP f) (s.getD (a+m) 0) ((s.drop a).take m) with
  | none=>rw [hb] at h;simp at h
  | some u=>
   rw [hb] at h
   simp only [Prod.mk.injEq,and_true] at h
   obtain⟨rfl,rfl⟩:=h
   have hr:s.drop a=r:=by
    rw [es,g3]
    have e:l++58::r=(l++[58])++r:=by simp
    rw [e,List.drop_left' (by simp)]
   have hlen:s.length=l.length+1+r.length:=by rw [es];simp;omega
   have hmr:m<r.length:=by omega
   have hc:s.getD (a+m) 0=r[m]:=by
    rw [List.getD_eq_getElem?_getD,<-List.getElem?_drop,hr,List.getElem?_eq_getElem hmr]
    rfl
   rw [hc,hr] at hb
   have key:txtV u=r.take m/\endV u=r[m]/\okV u:=by
    unfold bodyP at hb
    by_cases c1:r[m]=35
    ·rw [if_pos c1] at hb
     cases hn:numP (r.take m) with
     | none=>rw [hn] at hb;cases hb
     | some k=>
      rw [hn] at hb
      cases hb
      obtain⟨k1,k2⟩:=numP_get hn
      exact⟨by simp [txtV,k1],by simp [endV,c1],by rw [okV,okL];exact⟨k2,trivial⟩⟩
    rw [if_neg c1] at hb
    by_cases c2:r[m]=93
    ·rw [if_pos c2] at hb
     cases hn:lstGo (getP f) 6000 (r.take m) with
     | none=>rw [hn] at hb;cases hb
     | some k=>
      rw [hn] at hb
      cases hb
      obtain⟨k1,k2⟩:=lstGo_get (getP f) ih 6000 _ _ hn
      exact⟨by simp [txtV,k1],by simp [endV,c2],by rw [okV];exact⟨by unfold i64ok;omega,k2⟩⟩
    rw [if_neg c2] at hb
    by_cases c3:r[m]=44
    ·rw [if_pos c3] at hb
     cases hb
     exact⟨by simp [txtV],by simp [endV,c3],by rw [okV,okL];exact⟨by unfold i64ok;omega,trivial⟩⟩
    ·rw [if_neg c3] at hb;cases hb
   obtain⟨k1,k2,k3⟩:=key
   refine⟨by omega,?_,k3⟩
   have hl2:(txtV u).length=m:=by rw [k1,List.length_take];omega
   rw [putV_eq,hl2,hdec,k1,k2,es,g3]
   have e1:r.take m++[r[m]]=r.take (m+1):=by rw [List.take_add_one,List.getElem?_eq_getElem hmr];rfl
   have e2:0+l.length+1+m+1=(l++[58]).length+(m+1):=by simp;omega
   have e3:l++58::r=(l++[58])++r:=by simp
   rw [e1,e2,e3,List.take_append,List.take_of_length_le (Nat.le_add_right _ _),Nat.add_sub_cancel_left]
   simp
theorem allV_get {s:List UInt8} {v:V} (h:allV s=(v,0)):putV v=s/\mayV v=true/\okV v:=by
 unfold allV getV at h
 generalize hq:getP 6 s=q at h
 obtain⟨u,n,e⟩:=q
 simp only at h
 by_cases h1:e=0/\mayV u=false
 ·rw [if_pos h1] at h;simp at h
 ·rw [if_neg h1] at h
  simp only at h
  split at h
  ·simp at h
  ·rename_i h2
   simp only [not_or,ne_eq,Decidable.not_not] at h2
   obtain⟨rfl,rfl⟩:=h2
   cases h
   obtain⟨_,k2,k3⟩:=getP_get 6 s _ _ hq
   exact⟨by rw [k2,List.take_length],by
    cases hm:mayV v
    ·exact absurd ⟨rfl,hm⟩ h1
    ·rfl,k3⟩
def putS (v:V):List UInt8:=if mayV v&&decide ((Lib.decDigits (txtV v).length).length<=7) then putV v else []
set_option maxRecDepth 100000
theorem indexByte_dec:∀ (l r:List UInt8),(∀ c∈l,dgt c=true)->Lib.indexByte (l++58::r) 58=l.length
 | [],r,_=>rfl
 | c::l,r,h=>by
  have hc:=dgt_iff.1 (h c (by simp))
  have ih:=indexByte_dec l r fun x hx=>h x (by simp [hx])
  have hne:(c==58)=false:=by
   rw [beq_eq_false_iff_ne]
   intro e
   subst e
   revert hc;decide
  rw [List.cons_append,Lib.indexByte,hne,ih]
  have:((l.length:Int) == -1)=false:=by rw [beq_eq_false_iff_ne];omega
  simp [this]
theorem indexByte_putV (v:V):Lib.indexByte (putV v) 58=(Lib.decDigits (txtV v).length).length:=by
 rw [putV_eq]
 exact indexByte_dec _ _ (dec_digits _).2.1
theorem vput_any (v:V) (hok:okV v) (hlen:(putV v).length<=1073741824) (k n:Int) (s:ByteArray) (A:Option Addr) (len cap:Nat) (S:Nat->Prop) (w:World) (hr:RepC S w v [.int .i64 k,.int .i64 n,.string s,.slice A len cap]) (ht:Tab w):
  Calls Tryz.prog 82 #[.agg #[.int .i64 k,.int .i64 n,.string s,.slice A len cap]] w (RetB (.string ⟨(putS v).toArray⟩) w):=by
 refine vE Tryz.func82 ?_
 intro g2 w2 h2
 have hc:=((Ctx.start w no (fun _ h=>h.elim)).loc h2).1
 refine hc.a 0 rfl rfl ?_
 refine hc.q (vmay_any v k n s A len cap S w2 (hr.below hc.below)) fun w3 h3 hc=>?_
 cases hm:mayV v
 ·refine⟨?_,hc.below⟩
  simp [putS,hm]
  rfl
 refine hc.a 0 rfl rfl ?_
 refine hc.q (put_any _ v (Nat.lt_succ_self _) hok hlen _ S w3 (hr.below hc.below) (ht.below hc.below)) fun w4 h4 hc=>?_
 have hi:Calls Tryz.prog 132 #[.string ⟨(putV v).toArray⟩,.int .u8 58] w4 (RetB (.int .i64 (Lib.decDigits (txtV v).length).length) w4):=
  (Tryz.strings_IndexByte ⟨(putV v).toArray⟩ 58 w4).mono fun e w' he=>⟨by rw [he.1,<-indexByte_putV];rfl,by rw [he.2];exact Below.refl _ _⟩
 refine hc.q hi fun w5 h5 hc=>?_
 by_cases h7:(Lib.decDigits (txtV v).length).length<=7
 ·refine split_f (decide_eq_false (by omega)) ?_
  refine⟨?_,hc.below⟩
  simp [putS,hm,h7]
  rfl
 ·refine split_t (decide_eq_true (by omega)) ?_
  refine⟨?_,hc.below⟩
  simp [putS,hm,h7]
  rfl
theorem psize_any (t:List UInt8) (ht:t.length<=1073741824) (w:World):
  Calls Tryz.prog 199 #[.string ⟨t.toArray⟩] w (RetB (.tuple #[.int .i64 (szGo t 0 0).1,.int .i64 (szGo t 0 0).2.1,.int .i64 (szGo t 0 0).2.2]) w):=by
 refine vE Tryz.func199 ?_
 have hsz:(((⟨t.toArray⟩:ByteArray).size:Nat):Int)=t.length:=by rw [ba_size]
 refine⟨Nat × Nat,fun x=>[(0,.string ⟨t.toArray⟩),(5,.int .i64 x.2),(9,.int .i64 ((⟨t.toArray⟩:ByteArray).size:Nat)),(10,.int .i64 x.1)],
  fun x w'=>x.1<=t.length/\x.1<=7/\x.2<10 ^ x.1/\szGo (t.drop x.1) x.1 x.2=szGo t 0 0/\Below w.heap.size w w',fun x _=>t.length-x.1,(0,0),
  ⟨rfl,rfl,rfl,rfl,trivial⟩,⟨Nat.zero_le _,Nat.zero_le _,Nat.one_pos,rfl,Below.refl _ _⟩,?_⟩
 rintro⟨i,n⟩ w' u ⟨hi,h7,hn,he,hb⟩
 simp only at hi h7 hn he
 have hn7:n<10000000:=Nat.lt_of_lt_of_le hn (Nat.pow_le_pow_right (by decide) h7)
 by_cases hlt:i<t.length
 ·refine split_t (decide_eq_true (by rw [hsz];omega)) ?_
  refine⟨⟨by omega,by rw [hsz];omega⟩,?_⟩
  have eg:t.getD i 0=t[i]:=by rw [List.getD_eq_getElem?_getD,List.getElem?_eq_getElem hlt];rfl
  have ec:(⟨t.toArray⟩:ByteArray).data.toList.getD ((i:Int).toNat) 0=t[i]:=by rw [Int.toNat_natCast];exact eg
  rw [List.drop_eq_getElem_cons hlt,szGo] at he
  generalize ex:(⟨t.toArray⟩:ByteArray).data.toList.getD ((i:Int).toNat) 0=x at*
  rw [<-ec] at he
  have err:(x=58/\0<i->False)->(dgt x=false\/7<=i\/(0<i/\n=0))->RetB (.tuple #[.int .i64 (szGo t 0 0).1,.int .i64 (szGo t 0 0).2.1,.int .i64 (szGo t 0 0).2.2]) w (.returned (.tuple #[.int .i64 0,.int .i64 0,.int .i64 1])) w':=fun h1 h2=>⟨by
   rw [if_neg h1,if_pos h2] at he
   rw [<-he];rfl,hb⟩
  have go:(x=58/\0<i->False)->¬ (dgt x=false\/7<=i\/(0<i/\n=0))->szGo (t.drop (i+1)) (i+1) (10*n+(x.toNat-48))=szGo t 0 0:=fun h1 h2=>by
   rw [if_neg h1,if_neg h2] at he
   exact he
  have h58:((x.toNat:Int)==58)=decide (x=58):=by
   rw [Bool.eq_iff_iff,beq_iff_eq,decide_eq_true_eq]
   constructor
   ·intro h;exact UInt8.toNat_inj.1 (by have:(58:UInt8).toNat=58:=rfl;omega)
   ·intro h;subst h;rfl
  have rest:(x=58/\0<i->False)->True:=fun _=>trivial
  have hxx:=x.toNat_lt
  by_cases hx:x=58
  ·refine split_t (by show ((x.toNat:Int)==58)=true;rw [h58,decide_eq_true hx]) ?_
   by_cases h0:0<i
   ·refine split_t (decide_eq_true (by omega)) ?_
    rw [if_pos ⟨hx,h0⟩] at he
    refine⟨?_,hb⟩
    rw [<-he]
    show Ending.returned (.tuple #[.int .i64 n,.int .i64 (IntKind.i64.wrap ((i:Int)+1)),.int .i64 0])=_
    rw [i_down (by omega)]
   ·refine split_f (decide_eq_false (by omega)) ?_
    refine split_f (decide_eq_false (by subst hx;decide)) ?_
    refine split_t (decide_eq_true (by subst hx;decide)) ?_
    exact err (fun h=>h0 h.2) (.inl (by subst hx;rfl))
  ·refine split_f (by show ((x.toNat:Int)==58)=false;rw [h58,decide_eq_false hx]) ?_
   by_cases c1:x.toNat<48
   ·refine split_t (decide_eq_true (by omega)) ?_
    exact err (fun h=>hx h.1) (.inl (by unfold dgt;rw [decide_eq_false (by omega)];rfl))
   refine split_f (decide_eq_false (by omega)) ?_
   by_cases c2:57<x.toNat
   ·refine split_t (decide_eq_true (by omega)) ?_
    exact err (fun h=>hx h.1) (.inl (by unfold dgt;rw [decide_eq_false (show ¬ x.toNat<=57 by omega),Bool.and_false]))
   refine split_f (decide_eq_false (by omega)) ?_
   have hd:dgt x=true:=dgt_iff.2 ⟨by omega,by omega⟩
   by_cases c3:7<=i
   ·refine split_t (decide_eq_true (by omega)) ?_
    exact err (fun h=>hx h.1) (.inr (.inl c3))
   refine split_f (decide_eq_false (by omega)) ?_
   have ew:IntKind.i64.wrap (IntKind.i64.wrap (10*(n:Int))+IntKind.i64.wrap (IntKind.u8.wrap ((x.toNat:Int)-48)))=((10*n+(x.toNat-48):Nat):Int):=by
    rw [IntWalk.i64_in (10*(n:Int)) ⟨by omega,by omega⟩,IntWalk.u8_in _ ⟨by omega,by omega⟩,IntWalk.i64_in ((x.toNat:Int)-48) ⟨by omega,by omega⟩,IntWalk.i64_in _ ⟨by omega,by omega⟩]
    omega
   have hn':10*n+(x.toNat-48)<10 ^ (i+1):=by rw [Nat.pow_succ];omega
   by_cases c4:0<i
   ·refine split_t (decide_eq_true (by omega)) ?_
    by_cases c5:n=0
    ·refine split_t (by subst c5;rfl) ?_
     exact err (fun h=>hx h.1) (.inr (.inr ⟨c4,c5⟩))
    ·refine split_f (by show ((n:Int)==0)=false;rw [beq_eq_false_iff_ne];omega) ?_
     refine⟨(i+1,10*n+(x.toNat-48)),⟨rfl,congrArg _ ew,rfl,congrArg _ (i_down (by omega)),trivial⟩,⟨hlt,by show i+1<=7;omega,hn',go (fun h=>hx h.1) (fun h=>?_),hb⟩,by show t.length-(i+1)<t.length-i;omega⟩
     rcases h with h | h | h
     ·rw [hd] at h;cases h
     ·exact c3 h
     ·exact c5 h.2
   ·refine split_f (decide_eq_false (by omega)) ?_
    refine⟨(i+1,10*n+(x.toNat-48)),⟨rfl,congrArg _ ew,rfl,congrArg _ (i_down (by omega)),trivial⟩,⟨hlt,by show i+1<=7;omega,hn',go (fun h=>hx h.1) (fun h=>?_),hb⟩,by show t.length-(i+1)<t.length-i;omega⟩
    rcases h with h | h | h
    ·rw [hd] at h;cases h
    ·exact c3 h
    ·exact c4 h.1
 ·refine split_f (decide_eq_false (by rw [hsz];omega)) ?_
  rw [List.drop_of_length_le (by omega),szGo] at he
  refine⟨?_,hb⟩
  rw [<-he]
  rfl
end Go.Proofs.YtokglimimnelaaaGreatDoor
section
namespace Go.Proofs.YtokglimimnelaaaGreatDoor
open Go.Vc Go.RowKit Go.Fl
set_option maxRecDepth 100000
structure Env (w:World):Prop where
 tab:Tab w
 syn:∃ tp p,w.var? Tryz.prog "strconv.ErrSyntax"=some #[.iface tp p]
 rng:∃ tp p,w.var? Tryz.prog "strconv.ErrRange"=some #[.iface tp p]
theorem var_below {w w':World} {n:String} {x:Array Value} (h:w.var? Tryz.prog n=some x) (hb:Below w.heap.size w w'):w'.var? Tryz.prog n=some x:=by
 unfold World.var? at*
 cases hg:Tryz.prog.globalNamed n with
 | none=>simp [hg] at h
 | some g=>
  simp only [hg,Option.bind_some] at h ⊢
  have hlt:g<w.heap.size:=by
   rcases Nat.lt_or_ge g w.heap.size with h' | h'
   ·exact h'
   ·rw [Array.getElem?_eq_none h'] at h;cases h
  rw [hb.block g hlt]
  exact h
theorem Env.below {w w':World} (h:Env w) (hb:Below w.heap.size w w'):Env w':=
 ⟨h.tab.below hb,by obtain⟨a,b,c⟩:=h.syn;exact⟨a,b,var_below c hb⟩,by obtain⟨a,b,c⟩:=h.rng;exact⟨a,b,var_below c hb⟩⟩
theorem ba_extract (t:List UInt8) (a b:Nat):(⟨t.toArray⟩:ByteArray).extract a b=⟨((t.drop a).take (b-a)).toArray⟩:=by
 apply ByteArray.ext
 rw [ByteArray.data_extract]
 simp [List.extract]
theorem neq_nil_run (w:World) (ox:Operand):(do eqGuard .neq 232 ox (.const .nilIface) .nilIface .nilIface;Go.binOp .neq 232 .nilIface .nilIface:Sem Value).run Tryz.prog w=.ok (.bool false) w:=by
 have h:(Go.binOp .neq 232 .nilIface .nilIface).run Tryz.prog w=.ok (.bool false) w:=by kernel_rfl
 simp [eqGuard,h]
theorem neq_err_run (w:World) (ox:Operand) (tp:TypeId) (p:Value):(do eqGuard .neq 232 ox (.const .nilIface) (.iface tp p) .nilIface;Go.binOp .neq 232 (.iface tp p) .nilIface:Sem Value).run Tryz.prog w=.ok (.bool true) w:=by
 have h:(Go.binOp .neq 232 (.iface tp p) .nilIface).run Tryz.prog w=.ok (.bool true) w:=by kernel_rfl
 simp [eqGuard,h]
theorem bytes_below {w w':World} {e:TypeId} (h:w'=w\/∃ t,w'=Lib.bytesWorld w e t):Below w.heap.size w w':=by
 rcases h with rfl | ⟨t,rfl⟩
 ·exact Below.refl _ _
 ·exact Lib.bytesWorld_below w e t
theorem parse_ok (t:List UInt8) (ht:t.length<=1073741824) (n:Int) (h:Lib.parseIntB 64 t=.ok n) (w:World):Calls Tryz.prog 223 #[.string ⟨t.toArray⟩,.int .i64 10,.int .i64 64] w (RetB (.tuple #[.int .i64 n,.nilIface]) w):=
 (Tryz.strconv_ParseInt_10_at64_ok ⟨t.toArray⟩ (by rw [ba_size];omega) n h w).mono fun e w' he=>⟨he.1,bytes_below he.2⟩
theorem parse_bad (t:List UInt8) (ht:t.length<=1073741824) (h:∀ n,Lib.parseIntB 64 t≠.ok n) (w:World) (hw:Env w):
  Calls Tryz.prog 223 #[.string ⟨t.toArray⟩,.int .i64 10,.int .i64 64] w (fun e w'=>∃ x tp p,e=.returned (.tuple #[.int .i64 x,.iface tp p])/\Below w.heap.size w w'):=by
 have hl:(⟨t.toArray⟩:ByteArray).size<=281474976710656:=by rw [ba_size];omega
 rcases hp:Lib.parseIntB 64 t with n | _ | _
 ·exact absurd hp (h n)
 ·obtain⟨tp,p,hv⟩:=hw.syn
  refine (Any.strconv_ParseInt_10_at64_syntax_var Tryz.laysC174 ⟨t.toArray⟩ hl hp tp p w hv).mono fun e w' he=>?_
  obtain⟨N,h1,_,_,h2⟩:=he
  exact⟨_,_,_,h1,h2⟩
 ·obtain⟨tp,p,hv⟩:=hw.rng
  refine (Tryz.strconv_ParseInt_10_at64_range_var ⟨t.toArray⟩ hl hp tp p w hv).mono fun e w' he=>?_
  obtain⟨N,h1,_,_,h2⟩:=he
  exact⟨_,_,_,h1,h2⟩
def numR (t:List UInt8):Int × Int × Int:=match numP t with | some n=>(1,n,0) | none=>(0,0,1)
theorem number_any (t:List UInt8) (ht:t.length<=1073741824) (w:World) (hw:Env w):
  Calls Tryz.prog 200 #[.string ⟨t.toArray⟩] w (RetB (.tuple #[.agg #[.int .i64 (numR t).1,.int .i64 (numR t).2.1,.string ⟨#[]⟩,.slice none 0 0],.int .i64 (numR t).2.2]) w):=by
 refine vE Tryz.func200 ?_
 have hc:=Ctx.start w no (fun _ h=>h.elim)
 refine hc.n fun gA wgA hgA hc=>?_
 have bad:numP t=none->numR t=(0,0,1):=fun h=>by rw [numR,h]
 rcases hp:Lib.parseIntB 64 t with n | _ | _
 ·have hn:i64ok n:=by
   have hb:=Lib.parseIntB_bounds hp
   simp only [show (2:Nat) ^ (64-1)=9223372036854775808 by decide] at hb
   unfold i64ok
   omega
  refine hc.q (parse_ok t ht n hp _) fun w3 h3 hc=>?_
  refine⟨_,fun w=>neq_nil_run w _,?_⟩
  refine hc.q (fmt_any n hn _ (hw.tab.below hc.below)) fun w4 h4 hc=>?_
  by_cases he:Lib.itoa n=t
  ·refine split_f (by show (!strEq _ _)=false;rw [he];simp [strEq]) ?_
   refine hc.s 0 rfl fun wS hS hc=>?_
   refine hc.a 0 rfl rfl ?_
   refine⟨?_,hc.below⟩
   have e:numR t=(1,n,0):=by rw [numR,numP,hp];simp [he]
   rw [e]
   rfl
  ·refine split_t (by show (!strEq _ _)=true;simp [strEq,he]) ?_
   refine hc.s 0 rfl fun wS hS hc=>?_
   refine hc.a 0 rfl rfl ?_
   refine⟨?_,hc.below⟩
   have e:numR t=(0,0,1):=bad (by rw [numP,hp];simp [he])
   rw [e]
   rfl
 ·refine⟨(parse_bad t ht (fun n h=>by rw [hp] at h;cases h) _ (hw.below hc.below)).mono fun e w3 he=>?_⟩
  obtain⟨x,tp,p,e1,h3⟩:=he
  refine⟨_,e1,?_⟩
  have hc:=(hc.quiet h3).1
  refine⟨_,fun w=>neq_err_run w _ tp p,?_⟩
  refine hc.s 0 rfl fun wS hS hc=>?_
  refine hc.a 0 rfl rfl ?_
  refine⟨?_,hc.below⟩
  have e:numR t=(0,0,1):=bad (by rw [numP,hp])
  rw [e]
  rfl
 ·refine⟨(parse_bad t ht (fun n h=>by rw [hp] at h;cases h) _ (hw.below hc.below)).mono fun e w3 he=>?_⟩
  obtain⟨x,tp,p,e1,h3⟩:=he
  refine⟨_,e1,?_⟩
  have hc:=(hc.quiet h3).1
  refine⟨_,fun w=>neq_err_run w _ tp p,?_⟩
  refine hc.s 0 rfl fun wS hS hc=>?_
  refine hc.a 0 rfl rfl ?_
  refine⟨?_,hc.below⟩
  have e:numR t=(0,0,1):=bad (by rw [numP,hp])
  rw [e]
  rfl
def GetC (f:Nat):Prop:=∀ (t:List UInt8) (depth:Int) (w:World),depth=7-(f:Int)->t.length<=1073741824->Env w->
 Calls Tryz.prog 170 #[.string ⟨t.toArray⟩,.int .i64 depth] w (fun e w'=>∃ cs,e=.returned (.tuple #[.agg cs.toArray,.int .i64 ((getP f t).2.1:Nat),.int .i64 (getP f t).2.2])/\Below w.heap.size w w'/\RepC (ext no w w') w' (getP f t).1 cs)
def listR (f:Nat) (t:List UInt8):V × Int:=match lstGo (getP f) 6000 t with | some l=>(.mk 3 0 ⟨#[]⟩ l,0) | none=>(V0,1)
theorem RepC.V0 (S:Nat->Prop) (w:World):RepC S w V0 [.int .i64 0,.int .i64 0,.string ⟨#[]⟩,.slice none 0 0]:=by
 rw [Go.Proofs.YtokglimimnelaaaGreatDoor.V0,RepC]
 exact⟨none,0,[],rfl,by rw [RepL],Nat.le_refl _,Nat.zero_le _,fun h=>absurd rfl h⟩
theorem RepC.sub {S S':Nat->Prop} {w:World} {v:V} {cs:List Value} (h:RepC S w v cs) (hs:∀ b,S b->S' b):RepC S' w v cs:=RepC.map (fun h=>h.sub hs) h
theorem RepL.sub {S S':Nat->Prop} {w:World} {v:List V} {cs:List Value} (h:RepL S w v cs) (hs:∀ b,S b->S' b):RepL S' w v cs:=RepL.map (fun h=>h.sub hs) h
theorem RepC.fut {S S':Nat->Prop} {w w':World} {v:V} {cs:List Value} (h:RepC S w v cs) (f:Fut S w S' w'):RepC S' w' v cs:=RepC.map (fun h=>h.fut f) h
theorem RepL.fut {S S':Nat->Prop} {w w':World} {v:List V} {cs:List Value} (h:RepL S w v cs) (f:Fut S w S' w'):RepL S' w' v cs:=RepL.map (fun h=>h.fut f) h
theorem RepL.snoc {S:Nat->Prop} {w:World} {x:V} {c:List Value} (hx:RepC S w x c):∀ {l:List V} {xs:List Value},RepL S w l xs->RepL S w (l++[x]) (xs++c)
 | [],xs,h=>by
  rw [RepL] at h
  subst h
  rw [List.nil_append,List.nil_append,RepL]
  exact⟨c,[],hx,by rw [RepL],by simp⟩
 | v::r,xs,h=>by
  rw [RepL] at h
  obtain⟨cs,ys,h1,h2,e⟩:=h
  rw [List.cons_append,RepL]
  exact⟨cs,ys++c,h1,RepL.snoc hx h2,by rw [e,List.append_assoc]⟩
theorem info_val:(Tryz.prog.info? 108).map (fun i=>(i.zero,i.size,i.bytes))=some (some (.agg #[.int .i64 0,.int .i64 0,.string ⟨#[]⟩,.slice none 0 0]),4,56):=by kernel_rfl
set_option maxRecDepth 100000 in
attribute [local irreducible] Int.subNatNat in
theorem list_any (f:Nat) (hf:f<=6) (ih:GetC f) (t:List UInt8) (depth:Int) (w:World) (hd:depth=6-(f:Int)) (ht:t.length<=1073741824) (hw:Env w):
  Calls Tryz.prog 201 #[.string ⟨t.toArray⟩,.int .i64 depth] w (fun e w'=>∃ cs,e=.returned (.tuple #[.agg cs.toArray,.int .i64 (listR f t).2])/\Below w.heap.size w w'/\RepC (ext no w w') w' (listR f t).1 cs):=by
 refine vE Tryz.func201 ?_
 intro g4 w1 h1
 have hc:=((Ctx.start w no (fun _ h=>h.elim)).loc h1).1
 refine hc.n fun g6 w2 h2 hc=>?_
 refine⟨hc.may 0 rfl 0 _ (Nat.le_refl 4) rfl,?_⟩
 intro w3 h3
 have hc:=(hc.set 0 rfl h3).1
 refine⟨(Nat->Prop) × Option Addr × Nat × List V × List Value × List UInt8,fun x=>[(0,.string ⟨x.2.2.2.2.2.toArray⟩),(1,.int .i64 depth),(4,.pointer (some ⟨g4,0,none⟩)),(6,.pointer (some ⟨g6,0,none⟩))],
  fun x w'=>Ctx no w x.1 w' [(g6,108,[.int .i64 3,.int .i64 0,.string ⟨#[]⟩,.slice x.2.1 x.2.2.2.1.length x.2.2.1]),(g4,108,[.int .i64 0,.int .i64 0,.string ⟨#[]⟩,.slice none 0 0])]/\
   Own x.1 w.heap.size w' [(g6,108,[.int .i64 3,.int .i64 0,.string ⟨#[]⟩,.slice x.2.1 x.2.2.2.1.length x.2.2.1]),(g4,108,[.int .i64 0,.int .i64 0,.string ⟨#[]⟩,.slice none 0 0])] 108 4 x.2.1 x.2.2.2.1.length x.2.2.1 x.2.2.2.2.1/\
   RepL x.1 w' x.2.2.2.1 x.2.2.2.2.1/\x.2.2.2.1.length<=6000/\x.2.2.2.2.2.length<=1073741824/\
   lstGo (getP f) 6000 t=(lstGo (getP f) (6000-x.2.2.2.1.length) x.2.2.2.2.2).map (x.2.2.2.1++·),
  fun x _=>x.2.2.2.2.2.length,(no,none,0,[],[],t),⟨rfl,rfl,rfl,rfl,trivial⟩,⟨hc,Own.nil,by rw [RepL],Nat.zero_le _,ht,?_⟩,?_⟩
 ·show lstGo (getP f) 6000 t=(lstGo (getP f) (6000-0) t).map ([]++·)
  cases lstGo (getP f) 6000 t<;>simp
 rintro⟨S,A,cap,l,xs,rest⟩ w' u ⟨hc,ho,hL,hl,hrest,he⟩
 simp only at hc ho hL hl hrest he
 cases rest with
 | nil=>
  refine split_f (decide_eq_false (Int.lt_irrefl 0)) ?_
  refine split_f (decide_eq_false (Int.lt_irrefl 0)) ?_
  obtain⟨hc,hf,hrow⟩:=ho.told hc
  have hrow:=hrow ho.fit.1 ho.fit.2
  have hL:=hL.fut hf
  refine hc.a 0 rfl rfl ?_
  refine⟨hc.may 1 rfl 0 _ (Nat.le_refl 4) rfl,?_⟩
  intro w4 h4
  have hq:=hc.set 1 rfl h4
  have hc:=hq.1
  refine hc.a 1 rfl rfl ?_
  have e:listR f t=(.mk 3 0 ⟨#[]⟩ l,0):=by
   rw [listR,he,lstGo]
   simp
  refine⟨[.int .i64 3,.int .i64 0,.string ⟨#[]⟩,.slice A l.length cap],?_,hc.below,?_⟩
  ·rw [e];rfl
  ·rw [e,RepC]
   exact⟨A,cap,xs,rfl,(hL.fut hq.2).fut hc.out,(hrow.fut hq.2).fut hc.out⟩
 | cons c r=>
  have hpos:(0:Int)<(((⟨(c::r).toArray⟩:ByteArray).size:Nat):Int):=by rw [ba_size,List.length_cons];omega
  refine split_t (decide_eq_true hpos) ?_
  refine⟨_,hc.cell 0 rfl _ rfl,?_⟩
  have fail:lstGo (getP f) 6000 t=none->∀ w4:World,(hq:Below w.heap.size w w4)->∃ cs:List Value,Ending.returned (.tuple #[.agg #[.int .i64 0,.int .i64 0,.string ⟨#[]⟩,.slice none 0 0],.int .i64 1])=.returned (.tuple #[.agg cs.toArray,.int .i64 (listR f t).2])/\Below w.heap.size w w4/\RepC (ext no w w4) w4 (listR f t).1 cs:=by
   intro hn w4 hq
   have e:listR f t=(Go.Proofs.YtokglimimnelaaaGreatDoor.V0,1):=by rw [listR,hn]
   rw [e]
   exact⟨[.int .i64 0,.int .i64 0,.string ⟨#[]⟩,.slice none 0 0],rfl,hq,RepC.V0 _ _⟩
  refine split_ (fun h6=>?_) (fun h6=>?_)
  ·have h6:l.length<6000:=by have:=of_decide_eq_true h6;omega
   have hdw:IntKind.i64.wrap (depth+1)=7-(f:Int):=by rw [wrap_add _ _ (by omega) (by omega)];omega
   refine⟨(ih (c::r) (IntKind.i64.wrap (depth+1)) w' hdw hrest (hw.below hc.below)).mono fun e w4 hq=>?_⟩
   obtain⟨cs,e1,hb4,hr4⟩:=hq
   refine⟨_,e1,?_⟩
   have hstep:lstGo (getP f) (6000-l.length) (c::r)=if (getP f (c::r)).2.2≠0 then none else (lstGo (getP f) (6000-(l.length+1)) ((c::r).drop (getP f (c::r)).2.1)).map ((getP f (c::r)).1::·):=by
    rw [show 6000-l.length=(6000-(l.length+1))+1 by omega,lstGo]
   have hget:=getP_get f (c::r)
   have hgp:∀ v n,getP f (c::r)=(v,n,0)->0<n:=by
    intro v n hq
    have h1:=(hget v n hq).2.1
    rcases Nat.eq_zero_or_pos n with h | h
    ·subst h
     have h2:=congrArg List.length h1
     rw [putV_len] at h2
     simp at h2
    ·exact h
   generalize hgen:getP f (c::r)=q at*
   obtain⟨v,n,er⟩:=q
   simp only at hstep hr4
   obtain⟨k',n',s',l'⟩:=v
   have hr4':=hr4
   rw [RepC] at hr4'
   obtain⟨A',cap',xs',rfl,_,_⟩:=hr4'
   have hC:=hc.call hb4
   have hc:=hC.1
   have ho:=ho.below hb4
   have hL:=hL.fut hC.2
   have hr:=hr4.sub (S':=ext S w' w4) (fun b hb=>.inr (hb.resolve_left (fun h=>h.elim)))
   intro g7 w5 h5
   have ho:=ho.loc h5
   have hC:=hc.loc h5
   have hc:=hC.1
   have hL:=hL.fut hC.2
   have hr:=hr.fut hC.2
   refine⟨hc.may 0 rfl 0 _ (Nat.le_refl 4) rfl,?_⟩
   intro w6 h6'
   have ho:=ho.set hc 0 rfl h6'
   have hC:=hc.set 0 rfl h6'
   have hc:=hC.1
   have hL:=hL.fut hC.2
   have hr:=hr.fut hC.2
   by_cases her:er=0
   ·subst her
    refine⟨_,hc.cell 1 rfl _ rfl,?_⟩
    refine hc.a 0 rfl rfl ?_
    intro g8 w7 h7
    have ho:=ho.loc h7
    have hC:=hc.loc h7
    have hc:=hC.1
    have hL:=hL.fut hC.2
    have hr:=hr.fut hC.2
    refine app_own Tryz.underlying106 info_val rfl (by decide) hc ho (ys:=[.int .i64 k',.int .i64 n',.string s',.slice A' l'.length cap']) rfl (hc.cells 0 rfl) rfl (by omega) (by decide) ?_
    intro B capB w8 hc hf8 ho _
    have hL:=hL.fut hf8
    have hr:=hr.fut hf8
    refine⟨hc.may 2 rfl 3 _ (Nat.le_refl 4) rfl,?_⟩
    intro w9 h9
    have ho:=ho.set hc 2 rfl h9
    have hC:=hc.set 2 rfl h9
    have hc:=hC.1
    have hL:=hL.fut hC.2
    have hr:=hr.fut hC.2
    obtain⟨hn1,_,_⟩:=hget _ _ rfl
    have hnpos:=hgp _ _ rfl
    refine⟨⟨Int.natCast_nonneg _,by rw [ba_size];exact Int.ofNat_le.2 hn1,Int.le_refl _⟩,?_⟩
    have hstep:lstGo (getP f) (6000-l.length) (c::r)=(lstGo (getP f) (6000-(l.length+1)) ((c::r).drop n)).map (V.mk k' n' s' l'::·):=by simpa using hstep
    refine⟨(_,B,capB,l++[V.mk k' n' s' l'],xs++[.int .i64 k',.int .i64 n',.string s',.slice A' l'.length cap'],(c::r).drop n),⟨?_,rfl,rfl,rfl,trivial⟩,⟨?_,?_,hL.snoc hr,?_,?_,?_⟩,?_⟩
    ·refine congrArg _ ((ba_extract (c::r) _ _).trans ?_)
     rw [List.take_of_length_le (by rw [List.length_drop,Int.toNat_natCast,Int.toNat_natCast,ba_size];exact Nat.le_refl _),Int.toNat_natCast]
    ·have:=hc.drop.drop
     rw [List.length_append,List.length_singleton]
     exact this
    ·have:=ho.drop.drop
     rw [List.length_append,List.length_singleton]
     exact this
    ·show (l++[V.mk k' n' s' l']).length<=6000
     rw [List.length_append,List.length_singleton];omega
    ·show ((c::r).drop n).length<=_
     rw [List.length_drop];omega
    ·show lstGo (getP f) 6000 t=(lstGo (getP f) (6000-(l++[V.mk k' n' s' l']).length) ((c::r).drop n)).map ((l++[V.mk k' n' s' l'])++·)
     rw [he,hstep,Option.map_map,List.length_append,List.length_singleton]
     congr 1
     funext z
     simp
    ·show ((c::r).drop n).length<(c::r).length
     rw [List.length_drop,List.length_cons] at *;omega
   ·refine split_t (by show (er != 0)=true;simpa using her) ?_
    refine⟨hc.may 2 rfl 0 _ (Nat.le_refl 4) rfl,?_⟩
    intro w7 h7
    have hc:=(hc.set 2 rfl h7).1
    refine hc.a 2 rfl rfl ?_
    exact fail (by rw [he,hstep,if_pos her];rfl) _ hc.below
  ·have h6:¬ l.length<6000:=by have:=of_decide_eq_false h6;omega
   refine split_t (decide_eq_true hpos) ?_
   refine⟨hc.may 1 rfl 0 _ (Nat.le_refl 4) rfl,?_⟩
   intro w7 h7
   have hc:=(hc.set 1 rfl h7).1
   refine hc.a 1 rfl rfl ?_
   exact fail (by rw [he,show 6000-l.length=0 by omega,lstGo];rfl) _ hc.below
end Go.Proofs.YtokglimimnelaaaGreatDoor
end
namespace Go.Proofs.YtokglimimnelaaaGreatDoor
open Go.Vc Go.RowKit Go.Fl
set_option maxRecDepth 100000
theorem szGo_range:∀ (s:List UInt8) (i n:Nat),i<=7->n<10 ^ i->(szGo s i n).1<10000000/\(szGo s i n).2.1<=8/\0<=(szGo s i n).2.2/\(szGo s i n).2.2<=2
 | [],i,n,_,_=>by rw [szGo];simp
 | c::r,i,n,hi,hn=>by
  rw [szGo]
  split
  ·have:10 ^ i<=10 ^ 7:=Nat.pow_le_pow_right (by decide) hi
   simp only
   omega
  ·split
   ·simp
   ·rename_i h
    have hd:dgt c=true:=by
     cases e:dgt c
     ·exact absurd (.inl e) h
     ·rfl
    have hd:=dgt_iff.1 hd
    have h7:¬ 7<=i:=fun e=>h (.inr (.inl e))
    exact szGo_range r (i+1) _ (by omega) (by rw [Nat.pow_succ];omega)
def ResG (q:V × Nat × Int) (w:World) (e:Ending) (w':World):Prop:=∃ cs,e=.returned (.tuple #[.agg cs.toArray,.int .i64 (q.2.1:Nat),.int .i64 q.2.2])/\Below w.heap.size w w'/\RepC (ext no w w') w' q.1 cs
theorem ResG.err {w w':World} (hb:Below w.heap.size w w') (e:Int):ResG (V0,0,e) w (.returned (.tuple #[.agg #[.int .i64 0,.int .i64 0,.string ⟨#[]⟩,.slice none 0 0],.int .i64 0,.int .i64 e])) w':=
 ⟨[.int .i64 0,.int .i64 0,.string ⟨#[]⟩,.slice none 0 0],rfl,hb,RepC.V0 _ _⟩
theorem get_any:∀ f:Nat,f<=6->GetC f:=by
 intro f
 induction f with
 | zero=>
  intro _ t depth w hd ht hw
  show Calls _ _ _ _ (ResG (getP 0 t) w)
  refine vE Tryz.func170 ?_
  have hc:=Ctx.start w no (fun _ h=>h.elim)
  refine hc.n fun gA wgA hgA hc=>?_
  refine hc.q (psize_any t ht _) fun w3 h3 hc=>?_
  have eg:getP 0 t=if (szGo t 0 0).2.2≠0 then (V0,0,(szGo t 0 0).2.2) else (V0,0,1):=by rw [getP]
  rw [eg]
  generalize szGo t 0 0=q at*
  obtain⟨n,a,e⟩:=q
  simp only
  by_cases he:e=0
  ·subst he
   refine split_t (decide_eq_true (by omega)) ?_
   refine hc.s 0 rfl fun wS hS hc=>?_
   refine hc.a 0 rfl rfl ?_
   exact ResG.err hc.below 1
  ·refine split_t (by show (e != 0)=true;simpa using he) ?_
   refine hc.s 0 rfl fun wS hS hc=>?_
   refine hc.a 0 rfl rfl ?_
   rw [if_pos he]
   exact ResG.err hc.below e
 | succ f ih=>
  intro hf t depth w hd ht hw
  have ih:=ih (by omega)
  show Calls _ _ _ _ (ResG (getP (f+1) t) w)
  refine vE Tryz.func170 ?_
  intro g4 w1 h1
  have hc:=((Ctx.start w no (fun _ h=>h.elim)).loc h1).1
  refine hc.q (psize_any t ht _) fun w3 h3 hc=>?_
  have hr:=szGo_range t 0 0 (Nat.zero_le _) Nat.one_pos
  have eg:getP (f+1) t=if (szGo t 0 0).2.2≠0 then (V0,0,(szGo t 0 0).2.2) else if t.length<=(szGo t 0 0).2.1+(szGo t 0 0).1 then (V0,0,2)
    else match bodyP (getP f) (t.getD ((szGo t 0 0).2.1+(szGo t 0 0).1) 0) ((t.drop (szGo t 0 0).2.1).take (szGo t 0 0).1) with
     | none=>(V0,0,1)
     | some v=>(v,(szGo t 0 0).2.1+(szGo t 0 0).1+1,0):=by first | (rw [getP];done) | (rw [getP];rfl)
  rw [eg]
  clear eg
  generalize szGo t 0 0=q at*
  obtain⟨n,a,e⟩:=q
  simp only at hr ⊢
  by_cases he:e=0
  rotate_left
  ·refine split_t (by show (e != 0)=true;simpa using he) ?_
   refine hc.s 0 rfl fun wS hS hc=>?_
   refine hc.a 0 rfl rfl ?_
   rw [if_pos he]
   exact ResG.err hc.below e
  subst he
  refine split_f (decide_eq_false (by omega)) ?_
  have hwr:IntKind.i64.wrap ((a:Int)+(n:Int))=((a+n:Nat):Int):=by rw [wrap_add _ _ (by omega) (by omega)];rfl
  simp only [ne_eq,not_true_eq_false,if_false]
  have hsz:(((⟨t.toArray⟩:ByteArray).size:Nat):Int)=t.length:=by rw [ba_size]
  by_cases hlen:t.length<=a+n
  ·refine split_t (decide_eq_true (by rw [hsz,hwr];omega)) ?_
   refine hc.s 0 rfl fun wS hS hc=>?_
   refine hc.a 0 rfl rfl ?_
   rw [if_pos hlen]
   exact ResG.err hc.below 2
  refine split_f (decide_eq_false (by rw [hsz,hwr];omega)) ?_
  rw [if_neg hlen]
  refine⟨⟨by omega,by rw [hwr];omega,by rw [hsz,hwr];omega⟩,?_⟩
  have ex:(⟨t.toArray⟩:ByteArray).extract (a:Int).toNat (IntKind.i64.wrap ((a:Int)+(n:Int))).toNat=⟨((t.drop a).take n).toArray⟩:=by
   rw [ba_extract,hwr,Int.toNat_natCast,Int.toNat_natCast,Nat.add_sub_cancel_left]
  generalize (⟨t.toArray⟩:ByteArray).extract (a:Int).toNat (IntKind.i64.wrap ((a:Int)+(n:Int))).toNat=sub at ex ⊢
  subst ex
  have hbl:((t.drop a).take n).length<=1073741824:=by rw [List.length_take,List.length_drop];omega
  generalize (t.drop a).take n=b at hbl ⊢
  refine hc.n fun g10 w4 h4 hc=>?_
  refine⟨hc.may 0 rfl 0 _ (Nat.le_refl 4) rfl,?_⟩
  intro w5 h5
  have hc:=(hc.set 0 rfl h5).1
  refine⟨⟨by rw [hwr];omega,by rw [hsz,hwr];omega⟩,?_⟩
  have ec:(⟨t.toArray⟩:ByteArray).data.toList.getD (IntKind.i64.wrap ((a:Int)+(n:Int))).toNat 0=t.getD (a+n) 0:=by rw [hwr,Int.toNat_natCast]
  generalize (⟨t.toArray⟩:ByteArray).data.toList.getD (IntKind.i64.wrap ((a:Int)+(n:Int))).toNat 0=x at ec ⊢
  rw [<-ec]
  clear ec
  have hx:∀ m:Nat,m<256->((x.toNat:Int)==(m:Int))=decide (x=UInt8.ofNat m):=fun m hm=>by
   rw [Bool.eq_iff_iff,beq_iff_eq,decide_eq_true_eq]
   constructor
   ·intro h
    exact UInt8.toNat_inj.1 (by rw [u8_ofNat_toNat m hm];omega)
   ·intro h;rw [h,u8_ofNat_toNat m hm]
  have hend:IntKind.i64.wrap (IntKind.i64.wrap ((a:Int)+(n:Int))+1)=((a+n+1:Nat):Int):=by rw [hwr,i_down (by omega)]
  by_cases x1:x=35
  ·refine split_t ((hx 35 (by decide)).trans (decide_eq_true x1)) ?_
   refine⟨_,hc.cell 0 rfl _ rfl,?_⟩
   refine hc.q (number_any b hbl _ (hw.below hc.below)) fun w6 h6 hc=>?_
   refine⟨hc.may 0 rfl 0 _ (Nat.le_refl 4) rfl,?_⟩
   intro w7 h7
   have hc:=(hc.set 0 rfl h7).1
   have eb:bodyP (getP f) x b=(numP b).map fun n=>.mk 1 n ⟨#[]⟩ []:=by rw [bodyP,if_pos x1]
   rw [eb]
   clear eb
   cases hn:numP b with
   | none=>
    have e:numR b=(0,0,1):=by rw [numR,hn]
    generalize numR b=q at*
    subst e
    refine hc.s 1 rfl fun wS hS hc=>?_
    refine hc.a 1 rfl rfl ?_
    exact ResG.err hc.below 1
   | some m=>
    have e:numR b=(1,m,0):=by rw [numR,hn]
    generalize numR b=q at*
    subst e
    refine hc.a 0 rfl rfl ?_
    refine hc.s 1 rfl fun wS hS hc=>?_
    refine hc.a 1 rfl rfl ?_
    refine⟨[.int .i64 1,.int .i64 m,.string ⟨#[]⟩,.slice none 0 0],?_,hc.below,?_⟩
    ·show Ending.returned (.tuple #[_,.int .i64 (IntKind.i64.wrap (IntKind.i64.wrap ((a:Int)+(n:Int))+1)),_])=_
     rw [hend];rfl
    ·simp only [Option.map_some]
     rw [RepC]
     exact⟨none,0,[],rfl,by rw [RepL],Nat.le_refl _,Nat.zero_le _,fun h=>absurd rfl h⟩
  refine split_f ((hx 35 (by decide)).trans (decide_eq_false x1)) ?_
  by_cases x2:x=93
  ·refine split_t ((hx 93 (by decide)).trans (decide_eq_true x2)) ?_
   refine⟨_,hc.cell 0 rfl _ rfl,?_⟩
   refine⟨(list_any f (by omega) ih b depth _ (by omega) hbl (hw.below hc.below)).mono fun e w6 hq=>?_⟩
   obtain⟨cs,e1,h6,hrep⟩:=hq
   refine⟨_,e1,?_⟩
   have hC:=hc.call h6
   have hc:=hC.1
   have hrep:=hrep.sub (S':=ext no w5 w6) (fun _ h=>h)
   have eb:bodyP (getP f) x b=(lstGo (getP f) 6000 b).map fun l=>.mk 3 0 ⟨#[]⟩ l:=by rw [bodyP,if_neg x1,if_pos x2]
   rw [eb]
   clear eb
   have hL:=hrep.len
   cases hl:lstGo (getP f) 6000 b with
   | none=>
    have e:listR f b=(V0,1):=by rw [listR,hl]
    generalize listR f b=q at*
    subst e
    match cs,hL with
    | [c1,c2,c3,c4],_=>
    have hone:allOne [c1,c2,c3,c4]=true:=by
     rw [V0,RepC] at hrep
     obtain⟨_,_,_,e,_⟩:=hrep
     rw [e];rfl
    refine⟨hc.may 0 rfl 0 _ (Nat.le_refl 4) hone,?_⟩
    intro w7 h7
    have hc:=(hc.set 0 rfl h7).1
    refine hc.s 1 rfl fun wS hS hc=>?_
    refine hc.a 1 rfl rfl ?_
    exact ResG.err hc.below 1
   | some l=>
    have e:listR f b=(.mk 3 0 ⟨#[]⟩ l,0):=by rw [listR,hl]
    generalize listR f b=q at*
    subst e
    match cs,hL with
    | [c1,c2,c3,c4],_=>
    have hone:allOne [c1,c2,c3,c4]=true:=by
     rw [RepC] at hrep
     obtain⟨_,_,_,e,_⟩:=hrep
     rw [e];rfl
    refine⟨hc.may 0 rfl 0 _ (Nat.le_refl 4) hone,?_⟩
    intro w7 h7
    have hC:=hc.set 0 rfl h7
    have hc:=hC.1
    have hrep:=hrep.fut hC.2
    refine hc.a 0 rfl rfl ?_
    refine⟨hc.may 1 rfl 0 _ (Nat.le_refl 4) hone,?_⟩
    intro w8 h8
    have hC:=hc.set 1 rfl h8
    have hc:=hC.1
    have hrep:=hrep.fut hC.2
    refine hc.a 1 rfl rfl ?_
    refine⟨[c1,c2,c3,c4],?_,hc.below,?_⟩
    ·show Ending.returned (.tuple #[_,.int .i64 (IntKind.i64.wrap (IntKind.i64.wrap ((a:Int)+(n:Int))+1)),_])=_
     rw [hend];rfl
    ·exact hrep.fut hc.out
  refine split_f ((hx 93 (by decide)).trans (decide_eq_false x2)) ?_
  by_cases x3:x=44
  ·refine split_t ((hx 44 (by decide)).trans (decide_eq_true x3)) ?_
   have eb:bodyP (getP f) x b=some (.mk 2 0 ⟨b.toArray⟩ []):=by rw [bodyP,if_neg x1,if_neg x2,if_pos x3]
   rw [eb]
   clear eb
   refine hc.a 0 rfl rfl ?_
   refine hc.s 1 rfl fun wS hS hc=>?_
   refine hc.a 1 rfl rfl ?_
   refine⟨[.int .i64 2,.int .i64 0,.string ⟨b.toArray⟩,.slice none 0 0],?_,hc.below,?_⟩
   ·show Ending.returned (.tuple #[_,.int .i64 (IntKind.i64.wrap (IntKind.i64.wrap ((a:Int)+(n:Int))+1)),_])=_
    rw [hend];rfl
   ·simp only
    rw [RepC]
    exact⟨none,0,[],rfl,by rw [RepL],Nat.le_refl _,Nat.zero_le _,fun h=>absurd rfl h⟩
  ·refine split_f ((hx 44 (by decide)).trans (decide_eq_false x3)) ?_
   have eb:bodyP (getP f) x b=none:=by rw [bodyP,if_neg x1,if_neg x2,if_neg x3]
   rw [eb]
   clear eb
   refine hc.s 1 rfl fun wS hS hc=>?_
   refine hc.a 1 rfl rfl ?_
   exact ResG.err hc.below 1
theorem Get_any (t:List UInt8) (w:World) (ht:t.length<=1073741824) (hw:Env w):Calls Tryz.prog 119 #[.string ⟨t.toArray⟩] w (ResG (getV t) w):=by
 refine vE Tryz.func119 ?_
 intro g2 w1 h1
 have hc:=((Ctx.start w no (fun _ h=>h.elim)).loc h1).1
 refine⟨(get_any 6 (Nat.le_refl _) t 1 _ rfl ht (hw.below hc.below)).mono fun e w6 hq=>?_⟩
 obtain⟨cs,e1,h6,hrep⟩:=hq
 refine⟨_,e1,?_⟩
 have hC:=hc.call h6
 have hc:=hC.1
 have eg:getV t=if (getP 6 t).2.2=0/\mayV (getP 6 t).1=false then (V0,0,1) else getP 6 t:=by rw [getV]
 rw [eg]
 clear eg
 generalize getP 6 t=q at*
 obtain⟨v,n,er⟩:=q
 simp only at hrep ⊢
 have hshape:∃ k' n' s' A' len' cap',cs=[.int .i64 k',.int .i64 n',.string s',.slice A' len' cap']:=by
  obtain⟨k',n',s',l'⟩:=v
  rw [RepC] at hrep
  obtain⟨A',cap',xs',e,_,_⟩:=hrep
  exact⟨_,_,_,_,_,_,e⟩
 obtain⟨k',n',s',A',len',cap',rfl⟩:=hshape
 intro g5 w7 h7
 have hC:=hc.loc h7
 have hc:=hC.1
 have hrep:=hrep.fut hC.2
 refine⟨hc.may 0 rfl 0 _ (Nat.le_refl 4) rfl,?_⟩
 intro w8 h8
 have hC:=hc.set 0 rfl h8
 have hc:=hC.1
 have hrep:=hrep.fut hC.2
 by_cases he:er=0
 ·refine split_t (by show (er==0)=true;simpa using he) ?_
  refine hc.a 0 rfl rfl ?_
  refine call_b (vmay_any v k' n' s' A' len' cap' _ _ hrep) ?_
  intro w9 h9
  have hC:=hc.quiet h9
  have hc:=hC.1
  have hrep:=hrep.fut hC.2
  by_cases hm:mayV v=true
  ·refine split_f (by rw [hm];rfl) ?_
   refine hc.a 0 rfl rfl ?_
   refine⟨hc.may 1 rfl 0 _ (Nat.le_refl 4) rfl,?_⟩
   intro w10 h10
   have hC:=hc.set 1 rfl h10
   have hc:=hC.1
   have hrep:=hrep.fut hC.2
   refine hc.a 1 rfl rfl ?_
   rw [if_neg (fun h=>by rw [hm] at h;cases h.2)]
   exact⟨[.int .i64 k',.int .i64 n',.string s',.slice A' len' cap'],rfl,hc.below,hrep.fut hc.out⟩
  ·have hm:mayV v=false:=by simpa using hm
   refine split_t (by rw [hm];rfl) ?_
   refine hc.s 1 rfl fun wS hS hc=>?_
   refine hc.a 1 rfl rfl ?_
   rw [if_pos ⟨he,hm⟩]
   exact ResG.err hc.below 1
 ·refine split_f (by show (er==0)=false;simpa using he) ?_
  refine hc.a 0 rfl rfl ?_
  refine⟨hc.may 1 rfl 0 _ (Nat.le_refl 4) rfl,?_⟩
  intro w10 h10
  have hC:=hc.set 1 rfl h10
  have hc:=hC.1
  have hrep:=hrep.fut hC.2
  refine hc.a 1 rfl rfl ?_
  rw [if_neg (fun h=>he h.1)]
  exact⟨[.int .i64 k',.int .i64 n',.string s',.slice A' len' cap'],rfl,hc.below,hrep.fut hc.out⟩
theorem All_any (t:List UInt8) (w:World) (ht:t.length<=1073741824) (hw:Env w):
  Calls Tryz.prog 75 #[.string ⟨t.toArray⟩] w (fun e w'=>∃ k n s A len cap,e=.returned (.tuple #[.agg #[.int .i64 k,.int .i64 n,.string s,.slice A len cap],.int .i64 (allV t).2])/\Below w.heap.size w w'/\RepC (ext no w w') w' (allV t).1 [.int .i64 k,.int .i64 n,.string s,.slice A len cap]):=by
 refine vE Tryz.func75 ?_
 intro g2 w1 h1
 have hc:=((Ctx.start w no (fun _ h=>h.elim)).loc h1).1
 refine⟨(Get_any t _ ht (hw.below hc.below)).mono fun e w6 hq=>?_⟩
 obtain⟨cs,e1,h6,hrep⟩:=hq
 refine⟨_,e1,?_⟩
 have hC:=hc.call h6
 have hc:=hC.1
 have eg:allV t=if (getV t).2.2≠0\/(getV t).2.1≠t.length then (V0,1) else ((getV t).1,0):=by rw [allV]
 rw [eg]
 clear eg
 generalize getV t=q at*
 obtain⟨v,n,er⟩:=q
 simp only at hrep ⊢
 have hshape:∃ k' n' s' A' len' cap',cs=[.int .i64 k',.int .i64 n',.string s',.slice A' len' cap']:=by
  obtain⟨k',n',s',l'⟩:=v
  rw [RepC] at hrep
  obtain⟨A',cap',xs',e,_,_⟩:=hrep
  exact⟨_,_,_,_,_,_,e⟩
 obtain⟨k',n',s',A',len',cap',rfl⟩:=hshape
 intro g5 w7 h7
 have hC:=hc.loc h7
 have hc:=hC.1
 have hrep:=hrep.fut hC.2
 refine⟨hc.may 0 rfl 0 _ (Nat.le_refl 4) rfl,?_⟩
 intro w8 h8
 have hC:=hc.set 0 rfl h8
 have hc:=hC.1
 have hrep:=hrep.fut hC.2
 have hsz:(((⟨t.toArray⟩:ByteArray).size:Nat):Int)=t.length:=by rw [ba_size]
 by_cases he:er=0
 ·refine split_f (by show (er != 0)=false;simpa using he) ?_
  by_cases hn:n=t.length
  ·refine split_f (by show ((n:Int) != ((⟨t.toArray⟩:ByteArray).size:Nat))=false;rw [hsz,hn];simp) ?_
   refine hc.a 0 rfl rfl ?_
   refine⟨hc.may 1 rfl 0 _ (Nat.le_refl 4) rfl,?_⟩
   intro w10 h10
   have hC:=hc.set 1 rfl h10
   have hc:=hC.1
   have hrep:=hrep.fut hC.2
   refine hc.a 1 rfl rfl ?_
   rw [if_neg (fun h=>by rcases h with h | h;exact h he;exact h hn)]
   exact⟨_,_,_,_,_,_,rfl,hc.below,hrep.fut hc.out⟩
  ·refine split_t (by show ((n:Int) != ((⟨t.toArray⟩:ByteArray).size:Nat))=true;rw [hsz,bne_iff_ne];omega) ?_
   refine hc.s 1 rfl fun wS hS hc=>?_
   refine hc.a 1 rfl rfl ?_
   rw [if_pos (.inr hn)]
   exact⟨0,0,⟨#[]⟩,none,0,0,rfl,hc.below,RepC.V0 _ _⟩
 ·refine split_t (by show (er != 0)=true;simpa using he) ?_
  refine hc.s 1 rfl fun wS hS hc=>?_
  refine hc.a 1 rfl rfl ?_
  rw [if_pos (.inl he)]
  exact⟨0,0,⟨#[]⟩,none,0,0,rfl,hc.below,RepC.V0 _ _⟩
set_option maxRecDepth 100000
structure Ver where
 ver:Int
 gone:Bool
 body:ByteArray
structure Ent where
 key:ByteArray
 vs:List Ver
structure Res where
 err:Int
 ver:Int
structure Mem where
 req:Int
 res:Res
structure Stt where
 seq:Int
 l:List Ent
 ms:List Mem
 lows:List Int
def verC (v:Ver):List Value:=[.int .i64 v.ver,.bool v.gone,.string v.body]
def memC (m:Mem):List Value:=[.int .i64 m.req,.int .i64 m.res.err,.int .i64 m.res.ver]
def lowC (n:Int):Value:=.int .i64 n
def Flat (k:Nat) (css:List (List Value)):Prop:=∀ c∈css,c.length=k/\allOne c=true
theorem Flat.len {k:Nat}:∀ {css:List (List Value)},Flat k css->css.flatten.length=css.length*k
 | [],_=>by simp
 | c::r,h=>by
  rw [List.flatten_cons,List.length_append,(h c (by simp)).1,Flat.len (fun x hx=>h x (by simp [hx])),List.length_cons,Nat.succ_mul,Nat.add_comm]
theorem Flat.get {k:Nat}:∀ {css:List (List Value)},Flat k css->∀ (i:Nat) (hi:i<css.length) (j:Nat) (u:Value),css[i][j]?=some u->css.flatten[i*k+j]?=some u
 | c::r,h,0,_,j,u,hu=>by
  have hj:j<c.length:=by
   rcases Nat.lt_or_ge j c.length with h | h
   ·exact h
   ·rw [List.getElem_cons_zero,List.getElem?_eq_none h] at hu;cases hu
  rw [List.flatten_cons,Nat.zero_mul,Nat.zero_add,List.getElem?_append_left hj]
  exact hu
 | c::r,h,i+1,hi,j,u,hu=>by
  have hc:=(h c (by simp)).1
  rw [List.flatten_cons,List.getElem?_append_right (by rw [hc,Nat.succ_mul];omega),hc,show (i+1)*k+j-k=i*k+j from by rw [Nat.succ_mul];omega]
  exact Flat.get (fun x hx=>h x (by simp [hx])) i (Nat.lt_of_succ_lt_succ hi) j u hu
theorem Flat.take {k:Nat} {css:List (List Value)} (h:Flat k css) (n:Nat):Flat k (css.take n):=fun c hc=>h c (List.mem_of_mem_take hc)
theorem Flat.drop {k:Nat} {css:List (List Value)} (h:Flat k css) (n:Nat):Flat k (css.drop n):=fun c hc=>h c (List.mem_of_mem_drop hc)
theorem Flat.append {k:Nat} {a b:List (List Value)} (ha:Flat k a) (hb:Flat k b):Flat k (a++b):=fun c hc=>by
 rw [List.mem_append] at hc
 rcases hc with h | h
 ·exact ha c h
 ·exact hb c h
theorem Flat.map {α:Type} {k:Nat} (f:α->List Value) (hf:∀ a,(f a).length=k/\allOne (f a)=true) (l:List α):Flat k (l.map f):=fun c hc=>by
 obtain⟨a,_,rfl⟩:=List.mem_map.1 hc
 exact hf a
theorem Flat.flat_take {k:Nat}:∀ {css:List (List Value)},Flat k css->∀ i,(css.take i).flatten=css.flatten.take (i*k)
 | [],_,i=>by simp
 | c::r,h,0=>by simp
 | c::r,h,i+1=>by
  have hc:=(h c (by simp)).1
  rw [List.take_succ_cons,List.flatten_cons,List.flatten_cons,Flat.flat_take (fun x hx=>h x (by simp [hx])) i,Nat.succ_mul,List.take_append,hc,List.take_of_length_le (l:=c) (by omega),show i*k+k-k=i*k from by omega]
theorem Flat.flat_drop {k:Nat} {css:List (List Value)} (h:Flat k css) (i:Nat):(css.drop i).flatten=css.flatten.drop (i*k):=by
 have e:css.flatten=(css.take i).flatten++(css.drop i).flatten:=by rw [<-List.flatten_append,List.take_append_drop]
 rcases Nat.lt_or_ge i css.length with hi | hi
 ·rw [e,List.drop_left' (by rw [Flat.len (h.take i),List.length_take,Nat.min_eq_left (Nat.le_of_lt hi)])]
 ·rw [List.drop_of_length_le hi,List.drop_of_length_le (by rw [h.len];exact Nat.mul_le_mul_right _ hi)]
  rfl
theorem Flat.ones {k:Nat}:∀ {css:List (List Value)},Flat k css->allOne css.flatten=true
 | [],_=>rfl
 | c::r,h=>by
  refine allOne_of fun v hv=>?_
  rw [List.flatten_cons,List.mem_append] at hv
  rcases hv with hv | hv
  ·exact allOne_mem (h c (by simp)).2 v hv
  ·exact allOne_mem (Flat.ones (css:=r) fun x hx=>h x (by simp [hx])) v hv
theorem shape2 {c:List Value} (h:c.length=2):∃ a b,c=[a,b]:=by
 match c,h with
 | [a,b],_=>exact⟨a,b,rfl⟩
theorem Row.elemF {S:Nat->Prop} {w:World} {A:Option Addr} {n cap k:Nat} {css:List (List Value)} (hR:Row S w A n cap css.flatten) (hk:0<k) (hF:Flat k css) (i:Nat) (hi:i<css.length):
  ∃ ad,A=some ad/\Go.Vc.cellsAt w (ad.add (i*k)) css[i] 0:=by
 have hx:=hF.len
 have h1:(i+1)*k<=css.length*k:=Nat.mul_le_mul_right _ hi
 rw [Nat.succ_mul] at h1
 obtain⟨ad,e,hc⟩:=hR.get (i:=i*k) (by omega)
 refine⟨ad,e,?_⟩
 exact row_cells hc (i*k) css[i] 0 (fun j u hu=>by rw [Nat.add_zero];exact hF.get i hi j u hu)
def RepE (S:Nat->Prop) (w:World) (e:Ent) (cs:List Value):Prop:=∃ A cap,cs=[.string e.key,.slice A e.vs.length cap]/\Row S w A e.vs.length cap (e.vs.map verC).flatten
def RepEs (S:Nat->Prop) (w:World):List Ent->List (List Value)->Prop
 | [],css=>css=[]
 | e::r,css=>∃ c t,css=c::t/\RepE S w e c/\RepEs S w r t
theorem RepE.map {S S':Nat->Prop} {w w':World} (h:∀ {A:Option Addr} {n cap:Nat} {xs:List Value},Row S w A n cap xs->Row S' w' A n cap xs) {e:Ent} {cs:List Value} (hr:RepE S w e cs):RepE S' w' e cs:=by
 obtain⟨A,cap,e1,e2⟩:=hr
 exact⟨A,cap,e1,h e2⟩
theorem RepEs.map {S S':Nat->Prop} {w w':World} (h:∀ {A:Option Addr} {n cap:Nat} {xs:List Value},Row S w A n cap xs->Row S' w' A n cap xs):∀ {l:List Ent} {css:List (List Value)},RepEs S w l css->RepEs S' w' l css
 | [],_,hr=>hr
 | e::r,_,⟨c,t,e1,e2,e3⟩=>⟨c,t,e1,e2.map h,RepEs.map h e3⟩
theorem RepE.below {S:Nat->Prop} {w w':World} {e:Ent} {cs:List Value} (h:RepE S w e cs) (hb:Below w.heap.size w w'):RepE S w' e cs:=h.map (fun h=>h.below hb)
theorem RepEs.below {S:Nat->Prop} {w w':World} {l:List Ent} {css:List (List Value)} (h:RepEs S w l css) (hb:Below w.heap.size w w'):RepEs S w' l css:=h.map (fun h=>h.below hb)
theorem RepEs.len {S:Nat->Prop} {w:World}:∀ {l:List Ent} {css:List (List Value)},RepEs S w l css->css.length=l.length
 | [],_,h=>by rw [show _=[] from h];rfl
 | e::r,_,⟨c,t,e1,e2,e3⟩=>by rw [e1,List.length_cons,e3.len,List.length_cons]
theorem RepEs.flat {S:Nat->Prop} {w:World}:∀ {l:List Ent} {css:List (List Value)},RepEs S w l css->Flat 2 css
 | [],_,h=>by rw [show _=[] from h];intro c hc;cases hc
 | e::r,_,⟨c,t,e1,⟨A,cap,e2,_⟩,e3⟩=>by
  rw [e1]
  intro x hx
  cases hx with
  | head=>rw [e2];exact⟨rfl,rfl⟩
  | tail _ hx=>exact e3.flat x hx
theorem RepEs.get {S:Nat->Prop} {w:World}:∀ {l:List Ent} {css:List (List Value)},RepEs S w l css->∀ (i:Nat) (hi:i<l.length) (hj:i<css.length),RepE S w l[i] css[i]
 | e::r,_,⟨c,t,e1,e2,e3⟩,0,_,_=>by subst e1;exact e2
 | e::r,_,⟨c,t,e1,e2,e3⟩,i+1,hi,hj=>by subst e1;exact e3.get i (Nat.lt_of_succ_lt_succ hi) (Nat.lt_of_succ_lt_succ hj)
theorem RepEs.append {S:Nat->Prop} {w:World}:∀ {l m:List Ent} {a b:List (List Value)},RepEs S w l a->RepEs S w m b->RepEs S w (l++m) (a++b)
 | [],_,_,_,h,hb=>by rw [show _=[] from h];exact hb
 | e::r,_,_,_,⟨c,t,e1,e2,e3⟩,hb=>by subst e1;exact⟨c,_,rfl,e2,e3.append hb⟩
theorem RepEs.take {S:Nat->Prop} {w:World}:∀ {l:List Ent} {css:List (List Value)} (i:Nat),RepEs S w l css->RepEs S w (l.take i) (css.take i)
 | _,_,0,_=>by simp [RepEs]
 | [],_,i+1,h=>by rw [show _=[] from h];simp [RepEs]
 | e::r,_,i+1,⟨c,t,e1,e2,e3⟩=>by subst e1;exact⟨c,_,rfl,e2,e3.take i⟩
theorem RepEs.drop {S:Nat->Prop} {w:World}:∀ {l:List Ent} {css:List (List Value)} (i:Nat),RepEs S w l css->RepEs S w (l.drop i) (css.drop i)
 | _,_,0,h=>h
 | [],_,i+1,h=>by rw [show _=[] from h];simp [RepEs]
 | e::r,_,i+1,⟨c,t,e1,e2,e3⟩=>by subst e1;exact e3.drop i
def RepS (S:Nat->Prop) (w:World) (s:Stt) (cs:List Value):Prop:=
 ∃ A cap css B cap',cs=[.int .i64 s.seq,.slice A s.l.length cap,.slice B s.ms.length cap']++s.lows.map lowC/\s.lows.length=5/\RepEs S w s.l css/\Row S w A s.l.length cap css.flatten/\Row S w B s.ms.length cap' (s.ms.map memC).flatten
theorem RepS.map {S S':Nat->Prop} {w w':World} (h:∀ {A:Option Addr} {n cap:Nat} {xs:List Value},Row S w A n cap xs->Row S' w' A n cap xs) {s:Stt} {cs:List Value} (hr:RepS S w s cs):RepS S' w' s cs:=by
 obtain⟨A,cap,css,B,cap',e1,e2,e3,e4,e5⟩:=hr
 exact⟨A,cap,css,B,cap',e1,e2,e3.map h,h e4,h e5⟩
theorem RepS.below {S:Nat->Prop} {w w':World} {s:Stt} {cs:List Value} (h:RepS S w s cs) (hb:Below w.heap.size w w'):RepS S w' s cs:=h.map (fun h=>h.below hb)
def Ver0:Ver:=⟨0,false,⟨#[]⟩⟩
def eqVer (a b:Ver):Bool:=a.ver==b.ver&&a.gone==b.gone&&strEq a.body b.body
theorem strEq_iff {a b:ByteArray}:strEq a b=true↔a=b:=by
 unfold strEq
 rw [beq_iff_eq]
 constructor
 ·intro h
  cases a;cases b
  simpa using h
 ·intro h;rw [h]
theorem eqVer_iff {a b:Ver}:eqVer a b=true↔a=b:=by
 obtain⟨a1,a2,a3⟩:=a
 obtain⟨b1,b2,b3⟩:=b
 simp [eqVer,strEq_iff,and_assoc]
def eqMem (a b:Mem):Bool:=a.req==b.req&&a.res.err==b.res.err&&a.res.ver==b.res.ver
theorem eqMem_iff {a b:Mem}:eqMem a b=true↔a=b:=by
 obtain⟨a1,a2,a3⟩:=a
 obtain⟨b1,b2,b3⟩:=b
 simp [eqMem,and_assoc]
def eqAll {α:Type} (p:α->α->Bool):List α->List α->Bool
 | [],[]=>true
 | a::r,b::t=>p a b&&eqAll p r t
 | [],_::_=>false
 | _::_,[]=>false
theorem eqAll_iff {α:Type} {p:α->α->Bool} (hp:∀ a b,p a b=true↔a=b):∀ {a b:List α},eqAll p a b=true↔a=b
 | [],[]=>by simp [eqAll]
 | a::r,b::t=>by simp [eqAll,hp,eqAll_iff hp (a:=r) (b:=t)]
 | [],_::_=>by simp [eqAll]
 | _::_,[]=>by simp [eqAll]
theorem eqAll_len {α:Type} (p:α->α->Bool):∀ (a b:List α),a.length≠b.length->eqAll p a b=false
 | [],[],h=>absurd rfl h
 | a::r,b::t,h=>by rw [eqAll,eqAll_len p r t (fun e=>h (by rw [List.length_cons,List.length_cons,e])),Bool.and_false]
 | [],_::_,_=>by rw [eqAll]
 | _::_,[],_=>by rw [eqAll]
def eqE (a b:Ent):Bool:=strEq a.key b.key&&eqAll eqVer a.vs b.vs
theorem eqE_iff {a b:Ent}:eqE a b=true↔a=b:=by
 obtain⟨a1,a2⟩:=a
 obtain⟨b1,b2⟩:=b
 simp [eqE,strEq_iff,eqAll_iff (fun a b=>eqVer_iff)]
def eqS (a b:Stt):Bool:=a.seq==b.seq&&a.lows==b.lows&&eqAll eqMem a.ms b.ms&&eqAll eqE a.l b.l
theorem eqS_iff {a b:Stt}:eqS a b=true↔a=b:=by
 obtain⟨a1,a2,a3,a4⟩:=a
 obtain⟨b1,b2,b3,b4⟩:=b
 simp [eqS,eqAll_iff (fun a b=>eqMem_iff),eqAll_iff (fun a b=>eqE_iff)]
 constructor
 ·rintro⟨⟨⟨h1,h2⟩,h3⟩,h4⟩;exact⟨h1,h4,h3,h2⟩
 ·rintro⟨h1,h4,h3,h2⟩;exact⟨⟨⟨h1,h2⟩,h3⟩,h4⟩
def verOk (v:Ver):Bool:=decide (1<=v.ver)&&decide (v.ver<=1099511627776)&&decide ((v.body.size:Int)<=300)&&(!v.gone||mt v.body)
def risV:Int->List Ver->Bool
 | _,[]=>true
 | a,v::r=>verOk v&&decide (a<v.ver)&&risV v.ver r
def mayE (e:Ent):Bool:=risV 0 e.vs&&keyB e.key&&decide (1<=e.vs.length)&&decide (e.vs.length<=12)
def lastV (l:List Ver):Ver:=l.getLastD Ver0
def nowE (e:Ent):Ver × Bool:=if e.vs.length=0 then (Ver0,false) else (lastV e.vs,!(lastV e.vs).gone)
def idxV:List Ver->Int->Option Nat
 | [],_=>none
 | v::r,n=>if v.ver==n then some 0 else (idxV r n).map (·+1)
def addE (e:Ent) (v:Ver):Ent × Bool:=if (e.vs.length≠0/\v.ver<=(lastV e.vs).ver)\/12<=e.vs.length then (e,false) else (⟨e.key,e.vs++[v]⟩,true)
def purgeE (e:Ent) (n:Int):Ent × Bool:=
 match idxV e.vs n with
 | none=>(e,false)
 | some i=>(⟨e.key,e.vs.take i++e.vs.drop (i+1)⟩,true)
def tagOf (s:ByteArray):ByteArray:=⟨(zText (zOn (0,1) s.data.toList)).toArray⟩
def holdsE (e:Ent) (c:Int) (tag:ByteArray):Bool:=if c==0 then true else if c==1 then !(nowE e).2 else if c==2 then (nowE e).2&&strEq (tagOf (nowE e).1.body) tag else false
set_option maxRecDepth 100000
theorem bytesLess_irrefl:∀ a:List UInt8,Op.bytesLess a a=false
 | []=>rfl
 | x::r=>by simp [Op.bytesLess,bytesLess_irrefl r]
theorem bytesLess_tri:∀ a b:List UInt8,(!Op.bytesLess a b)=(Op.bytesLess b a||b==a)
 | [],[]=>by simp [Op.bytesLess]
 | [],y::t=>by simp [Op.bytesLess]
 | x::r,[]=>by simp [Op.bytesLess]
 | x::r,y::t=>by
  have ih:=bytesLess_tri r t
  simp only [Op.bytesLess]
  by_cases h1:x<y
  ·have h2:¬ y<x:=UInt8.not_lt.2 (UInt8.le_of_lt h1)
   have h3:y≠x:=fun e=>by subst e;exact UInt8.lt_irrefl _ h1
   simp [h1,h2,h3]
  ·by_cases h2:y<x
   ·have h3:y≠x:=fun e=>by subst e;exact UInt8.lt_irrefl _ h2
    have h4:x≠y:=fun e=>h3 e.symm
    simp [h1,h2,h3,h4]
   ·have h3:x=y:=UInt8.le_antisymm (UInt8.not_lt.1 h2) (UInt8.not_lt.1 h1)
    subst h3
    simpa using ih
theorem bytesLess_trans:∀ a b c:List UInt8,Op.bytesLess a b=true->Op.bytesLess b c=true->Op.bytesLess a c=true
 | a,[],c,h1,h2=>by cases a<;>simp [Op.bytesLess] at h1
 | a,y::t,[],h1,h2=>by simp [Op.bytesLess] at h2
 | [],y::t,z::u,h1,h2=>by simp [Op.bytesLess]
 | x::r,y::t,z::u,h1,h2=>by
  simp only [Op.bytesLess] at*
  have ih:=bytesLess_trans r t u
  by_cases e1:x<y
  ·by_cases e2:y<z
   ·simp [UInt8.lt_trans e1 e2]
   ·by_cases e3:y=z
    ·subst e3;simp [e1]
    ·simp [e2,e3] at h2
  ·by_cases e4:x=y
   ·subst e4
    simp [UInt8.lt_irrefl] at h1
    by_cases e2:x<z
    ·simp [e2]
    ·by_cases e3:x=z
     ·subst e3
      simp [UInt8.lt_irrefl] at h2
      simp [UInt8.lt_irrefl,ih h1 h2]
     ·simp [e2,e3] at h2
   ·simp [e1,e4] at h1
theorem strLt_irrefl (a:ByteArray):strLt a a=false:=bytesLess_irrefl _
theorem strLt_tri (a b:ByteArray):(!strLt a b)=(strLt b a||strEq b a):=bytesLess_tri _ _
theorem strLt_trans {a b c:ByteArray} (h:strLt a b=true) (k:strLt b c=true):strLt a c=true:=bytesLess_trans _ _ _ h k
theorem strLt_ne {a b:ByteArray} (h:strLt a b=true):strEq a b=false:=by
 cases e:strEq a b
 ·rfl
 ·rw [strEq_iff] at e
  subst e
  rw [strLt_irrefl] at h;cases h
def maxN:Int:=1099511627776
def risE (seq:Int):Option ByteArray->List Ent->Bool
 | _,[]=>true
 | p,e::r=>mayE e&&decide ((lastV e.vs).ver<=seq)&&(match p with | none=>true | some k=>strLt k e.key)&&risE seq (some e.key) r
def lowsB:Nat->List Int->Bool
 | _,[]=>true
 | i,x::r=>(x==0||homeI x==(i:Int)+1)&&lowsB (i+1) r
def lowAt (lows:List Int) (h:Int):Int:=lows.getD (h-1).toNat 0
def memB (lows:List Int) (seq:Int):Option Int->List Mem->Bool
 | _,[]=>true
 | p,m::r=>!(homeI m.req==0)&&decide (lowAt lows (homeI m.req)<=m.req)&&(match p with | none=>true | some q=>decide (q<m.req))&&
   decide (0<=m.res.err)&&decide (m.res.err<=13)&&decide (0<=m.res.ver)&&decide (m.res.ver<=seq)&&memB lows seq (some m.req) r
def mayS (s:Stt):Bool:=
 decide (0<=s.seq)&&decide (s.seq<=maxN)&&decide (s.l.length<=40)&&decide (s.ms.length<=100)&&risE s.seq none s.l&&lowsB 0 s.lows&&memB s.lows s.seq none s.ms
def posK:List Ent->ByteArray->Nat
 | [],_=>0
 | e::r,k=>if strLt e.key k then posK r k+1 else 0
def posM:List Mem->Int->Nat
 | [],_=>0
 | m::r,n=>if m.req<n then posM r n+1 else 0
def entAt (l:List Ent) (k:ByteArray):Option Ent:=
 match l[posK l k]? with
 | some e=>if strEq e.key k then some e else none
 | none=>none
def memAt (l:List Mem) (n:Int):Option Mem:=
 match l[posM l n]? with
 | some m=>if m.req==n then some m else none
 | none=>none
def putK (l:List Ent) (k:ByteArray) (has:Bool) (e:List Ent):List Ent:=l.take (posK l k)++e++l.drop (if has then posK l k+1 else posK l k)
def doK (l:List Ent) (seq:Int) (d:D):List Ent × Res:=
 let has:=(entAt l d.key).isSome
 let e:=(entAt l d.key).getD ⟨d.key,[]⟩
 if d.kind==3 then
  match idxV e.vs d.ver with
  | none=>(l,⟨6,0⟩)
  | some j=>(putK l d.key has (if (e.vs.take j++e.vs.drop (j+1)).length=0 then [] else [⟨e.key,e.vs.take j++e.vs.drop (j+1)⟩]),⟨0,d.ver⟩)
 else if d.kind==1&&!holdsE e d.cond d.tag then (l,⟨9,0⟩)
 else if d.kind==2&&!has then (l,⟨6,0⟩)
 else if 12<=e.vs.length||(!has&&decide (40<=l.length)) then (l,⟨5,0⟩)
 else (putK l d.key has [⟨e.key,e.vs++[⟨seq,d.kind==2,d.body⟩]⟩],⟨0,seq⟩)
def keepM (low:Int) (h:Int) (l:List Mem):List Mem:=l.filter fun m=>!(decide (m.req<low)&&homeI m.req==h)
def doS (s:Stt) (d:D):Stt × Res:=
 if !mayS s||!mayD d then (s,⟨1,0⟩)
 else if maxN<=s.seq then (s,⟨5,0⟩)
 else if d.req<lowAt s.lows (homeI d.req) then (⟨s.seq+1,s.l,s.ms,s.lows⟩,⟨12,0⟩)
 else match memAt s.ms d.req with
  | some m=>(⟨s.seq+1,s.l,s.ms,s.lows⟩,m.res)
  | none=>
   if 100<=s.ms.length then (⟨s.seq+1,s.l,s.ms,s.lows⟩,⟨5,0⟩)
   else
    let q:=doK s.l (s.seq+1) d
    let ms:=s.ms.take (posM s.ms d.req)++⟨d.req,q.2⟩::s.ms.drop (posM s.ms d.req)
    if lowAt s.lows (homeI d.req)<d.low/\homeI d.low=homeI d.req then
     (⟨s.seq+1,q.1,keepM d.low (homeI d.req) ms,s.lows.set (homeI d.req-1).toNat d.low⟩,q.2)
    else (⟨s.seq+1,q.1,ms,s.lows⟩,q.2)
def idxK:List Ent->ByteArray->Option Nat
 | [],_=>none
 | e::r,k=>if strEq e.key k then some 0 else (idxK r k).map (·+1)
def getS (s:Stt) (k:ByteArray) (n:Int):Ver × Int:=
 match (idxK s.l k).bind fun i=>s.l[i]? with
 | none=>(Ver0,6)
 | some e=>
  let q:Option Ver:=if n=0 then (if e.vs.length=0 then none else some (lastV e.vs)) else (idxV e.vs n).bind fun i=>e.vs[i]?
  match q with
  | none=>(Ver0,6)
  | some v=>if v.gone then (Ver0,10) else (v,0)
def hasPre (s p:ByteArray):Bool:=p.data.toList.isPrefixOf s.data.toList
def pageL (l:List Ent) (pre after:ByteArray) (now:Bool):List Ent:=l.filter fun e=>hasPre e.key pre&&strLt after e.key&&(!now||(nowE e).2)
def clampN (n:Int):Nat:=(min (max n 1) 20).toNat
def pageS (s:Stt) (pre after:ByteArray) (most:Int) (now:Bool):List Ent × Bool:=
 ((pageL s.l pre after now).take (clampN most),decide (clampN most<(pageL s.l pre after now).length))
def vNum (n:Int):V:=.mk 1 n ⟨#[]⟩ []
def vStr (s:ByteArray):V:=.mk 2 0 s []
def vRow (l:List V):V:=.mk 3 0 ⟨#[]⟩ l
def vVer (v:Ver):V:=vRow [vNum v.ver,vNum (if v.gone then 1 else 0),vStr v.body]
def vEnt (e:Ent):V:=vRow [vStr e.key,vRow (e.vs.map vVer)]
def vMem (m:Mem):V:=vRow [vNum m.req,vNum m.res.err,vNum m.res.ver]
def vStt (s:Stt):V:=vRow [vNum s.seq,vRow (s.l.map vEnt),vRow (s.ms.map vMem),vRow (s.lows.map vNum)]
def putStt (s:Stt):List UInt8:=if mayS s then putS (vStt s) else []
def vN:V->Int | .mk _ n _ _=>n
def vS:V->ByteArray | .mk _ _ s _=>s
def vL:V->List V | .mk _ _ _ l=>l
def atV (v:V) (i:Nat):V:=(vL v).getD i V0
def verV (v:V):Ver:=⟨vN (atV v 0),vN (atV v 1)==1,vS (atV v 2)⟩
def entV (v:V):Ent:=⟨vS (atV v 0),(vL (atV v 1)).map verV⟩
def memV (v:V):Mem:=⟨vN (atV v 0),⟨vN (atV v 1),vN (atV v 2)⟩⟩
def sttV (v:V):Stt:=⟨vN (atV v 0),(vL (atV v 1)).map entV,(vL (atV v 2)).map memV,(List.range 5).map fun i=>vN (atV (atV v 3) i)⟩
def Stt0:Stt:=⟨0,[],[],[0,0,0,0,0]⟩
def readStt (t:List UInt8):Stt × Int:=
 if (allV t).2≠0 then (Stt0,1)
 else if putStt (sttV (allV t).1)=[]\/putStt (sttV (allV t).1)≠t then (Stt0,1)
 else (sttV (allV t).1,0)
set_option maxRecDepth 100000
mutual
theorem eqV_refl:∀ (a:V),eqV a a=true
 | .mk k n s l=>by
  rw [eqV,eqL_refl l]
  simp [strEq_iff]
theorem eqL_refl:∀ (a:List V),eqL a a=true
 | []=>by rw [eqL]
 | x::r=>by rw [eqL,eqV_refl x,eqL_refl r];rfl
end
def D0:D:=⟨0,⟨#[]⟩,⟨#[]⟩,0,0,⟨#[]⟩,0,0⟩
def vDeed (d:D):V:=vRow [vNum d.kind,vStr d.key,vStr d.body,vNum d.ver,vNum d.cond,vStr d.tag,vNum d.req,vNum d.low]
def valD' (d:D):V:=if mayD d then vDeed d else V0
def deedV (v:V):D:=⟨vN (atV v 0),vS (atV v 1),vS (atV v 2),vN (atV v 3),vN (atV v 4),vS (atV v 5),vN (atV v 6),vN (atV v 7)⟩
def vK:V->Int | .mk k _ _ _=>k
def ofD (v:V):D × Bool:=
 if vK v≠3\/(vL v).length≠8 then (D0,false)
 else if mayD (deedV v)=false\/eqV (valD' (deedV v)) v=false then (D0,false)
 else (deedV v,true)
def putD (d:D):List UInt8:=putS (valD' d)
def getD' (s:List UInt8):D × Int:=if (allV s).2≠0\/(ofD (allV s).1).2=false then (D0,1) else ((ofD (allV s).1).1,0)
theorem ofD_vDeed (d:D) (h:mayD d=true):ofD (vDeed d)=(d,true):=by
 have e:deedV (vDeed d)=d:=rfl
 unfold ofD
 rw [e,valD',if_pos h,eqV_refl]
 simp [vDeed,vK,vL,vRow,h]
theorem mayV_vDeed (d:D):mayV (vDeed d)=true:=by
 simp [mayV,vDeed,vRow,vNum,vStr,cnt,cntL,mt,strEq]
theorem itoa_len (n:Int) (h:i64ok n):(Lib.itoa n).length<=21:=Lib.itoa_length_le n h.1 h.2
theorem putV_num (n:Int) (h:i64ok n):(putV (vNum n)).length<=30:=by
 have h1:=itoa_len n h
 rw [putV_len]
 have e:txtV (vNum n)=Lib.itoa n:=rfl
 have:=dec_len7 (u:=(Lib.itoa n).length) (by omega)
 rw [e]
 omega
theorem putV_str (s:ByteArray) (h:s.size<10000000):(putV (vStr s)).length<=s.size+9:=by
 rw [putV_len]
 have e:(txtV (vStr s)).length=s.size:=ba_len s
 have:=dec_len7 h
 rw [e]
 omega
theorem keyB_len {s:ByteArray} (h:keyB s=true):s.size<=40:=by
 simp only [keyB,keyL,Bool.and_eq_true,decide_eq_true_eq] at h
 rw [<-ba_len s]
 exact h.2
theorem tagB_len {s:ByteArray} (h:(tagB s||mt s)=true):s.size<=8:=by
 rw [Bool.or_eq_true] at h
 rcases h with h | h
 ·rcases Nat.decEq s.data.toList.length 8 with h8 | h8
  ·rw [tagB,zRead_not _ (.inl h8)] at h;cases h
  ·rw [<-ba_len s,h8];exact Nat.le_refl _
 ·rw [mt_empty h];decide
theorem mayD_sizes {d:D} (h:mayD d=true):d.key.size<=40/\d.body.size<=300/\d.tag.size<=8:=by
 unfold mayD at h
 rw [Bool.and_eq_true] at h
 obtain⟨h0,h1⟩:=h
 simp only [Bool.and_eq_true] at h0
 refine⟨keyB_len h0.1.1.1,?_⟩
 split at h1
 ·simp only [Bool.and_eq_true,decide_eq_true_eq] at h1
  exact⟨by omega,tagB_len h1.2⟩
 ·split at h1
  ·simp only [Bool.and_eq_true] at h1
   rw [mt_empty h1.1.1.1,mt_empty h1.1.2]
   exact⟨by decide,by decide⟩
  ·split at h1
   ·simp only [Bool.and_eq_true] at h1
    rw [mt_empty h1.1.1.1.1,mt_empty h1.1.1.2]
    exact⟨by decide,by decide⟩
   ·cases h1
theorem txt_vDeed (d:D) (hk:d.Ok) (h:mayD d=true):(txtV (vDeed d)).length<=1000:=by
 obtain⟨h1,h2,h3⟩:=mayD_sizes h
 have e:txtV (vDeed d)=putV (vNum d.kind)++(putV (vStr d.key)++(putV (vStr d.body)++(putV (vNum d.ver)++(putV (vNum d.cond)++(putV (vStr d.tag)++(putV (vNum d.req)++(putV (vNum d.low)++[]))))))):=by
  simp [txtV,vDeed,vRow,putL]
 have a1:=putV_num d.kind hk.kind
 have a2:=putV_num d.ver hk.ver
 have a3:=putV_num d.cond hk.cond
 have a4:=putV_num d.req hk.req
 have a5:=putV_num d.low hk.low
 have a6:=putV_str d.key (by omega)
 have a7:=putV_str d.body (by omega)
 have a8:=putV_str d.tag (by omega)
 rw [e]
 simp only [List.length_append,List.length_nil]
 omega
theorem okV_vDeed (d:D) (hk:d.Ok):okV (vDeed d):=by
 have z:i64ok 0:=by unfold i64ok;omega
 simp [okV,okL,vDeed,vRow,vNum,vStr,hk.kind,hk.ver,hk.cond,hk.req,hk.low,z]
theorem putD_may (d:D) (hk:d.Ok) (h:mayD d=true):putD d=putV (vDeed d):=by
 have h1:=txt_vDeed d hk h
 have:=dec_len7 (u:=(txtV (vDeed d)).length) (by omega)
 rw [putD,valD',if_pos h,putS,mayV_vDeed]
 simp [this]
theorem putV_ne (v:V):putV v≠[]:=fun h=>by
 have:=putV_len v
 rw [h] at this
 simp at this
theorem getD_put (d:D) (hk:d.Ok) (h:mayD d=true):getD' (putD d)=(d,0):=by
 have h1:=txt_vDeed d hk h
 rw [putD_may d hk h]
 unfold getD'
 rw [allV_put _ (mayV_vDeed d) (okV_vDeed d hk) (by omega),ofD_vDeed d h]
 simp
set_option maxRecDepth 100000
theorem num_any (n:Int) (w:World):Calls Tryz.prog 84 #[.int .i64 n] w (RetB (.agg #[.int .i64 1,.int .i64 n,.string ⟨#[]⟩,.slice none 0 0]) w):=by
 refine vE Tryz.func84 ?_
 have hc:=Ctx.start w no (fun _ h=>h.elim)
 refine hc.n fun gA wgA hgA hc=>?_
 refine hc.s 0 rfl fun wS hS hc=>?_
 refine hc.a 0 rfl rfl ?_
 exact⟨rfl,hc.below⟩
theorem str_any (s:ByteArray) (w:World):Calls Tryz.prog 85 #[.string s] w (RetB (.agg #[.int .i64 2,.int .i64 0,.string s,.slice none 0 0]) w):=by
 refine vE Tryz.func85 ?_
 have hc:=Ctx.start w no (fun _ h=>h.elim)
 refine hc.n fun gA wgA hgA hc=>?_
 refine hc.s 0 rfl fun wS hS hc=>?_
 refine hc.a 0 rfl rfl ?_
 exact⟨rfl,hc.below⟩
theorem RepL.cons {S:Nat->Prop} {w:World} {v:V} {r:List V} {c xs:List Value} (h:RepC S w v c) (h2:RepL S w r xs):RepL S w (v::r) (c++xs):=by
 rw [RepL]
 exact⟨c,xs,h,h2,rfl⟩
theorem RepL.nil (S:Nat->Prop) (w:World):RepL S w [] []:=by rw [RepL]
theorem RepC.leaf (S:Nat->Prop) (w:World) (k n:Int) (s:ByteArray):RepC S w (.mk k n s []) [.int .i64 k,.int .i64 n,.string s,.slice none 0 0]:=by
 rw [RepC]
 exact⟨none,0,[],rfl,by rw [RepL],Nat.le_refl _,Nat.zero_le _,fun h=>absurd rfl h⟩
def leaf (k n:Int) (s:ByteArray):List Value:=[.int .i64 k,.int .i64 n,.string s,.slice none 0 0]
def deedC (d:D):List Value:=leaf 1 d.kind ⟨#[]⟩++(leaf 2 0 d.key++(leaf 2 0 d.body++(leaf 1 d.ver ⟨#[]⟩++(leaf 1 d.cond ⟨#[]⟩++(leaf 2 0 d.tag++(leaf 1 d.req ⟨#[]⟩++(leaf 1 d.low ⟨#[]⟩++[])))))))
theorem deedC_rep (S:Nat->Prop) (w:World) (d:D):RepL S w (vL (vDeed d)) (deedC d):=
 .cons (.leaf ..) (.cons (.leaf ..) (.cons (.leaf ..) (.cons (.leaf ..) (.cons (.leaf ..) (.cons (.leaf ..) (.cons (.leaf ..) (.cons (.leaf ..) (.nil _ _))))))))
def RetV (v:V) (w:World) (e:Ending) (w':World):Prop:=
 ∃ k n s A len cap,e=.returned (.agg #[.int .i64 k,.int .i64 n,.string s,.slice A len cap])/\Below w.heap.size w w'/\RepC (ext no w w') w' v [.int .i64 k,.int .i64 n,.string s,.slice A len cap]
set_option maxHeartbeats 1000000 in
theorem value_any (d:D) (h:d.Ok) (w:World):Calls Tryz.prog 46 #[.agg #[.int .i64 d.kind,.string d.key,.string d.body,.int .i64 d.ver,.int .i64 d.cond,.string d.tag,.int .i64 d.req,.int .i64 d.low]] w (RetV (valD' d) w):=by
 refine vE Tryz.func46 ?_
 intro g1 w1 h1
 have hc:=((Ctx.start w no (fun _ h=>h.elim)).loc h1).1
 refine hc.n fun g2 w2 h2 hc=>?_
 refine hc.a 1 rfl rfl ?_
 refine hc.q (may_any d h _) fun w3 h3 hc=>?_
 by_cases hm:mayD d=true
 rotate_left
 ·have hm:mayD d=false:=by simpa using hm
  refine split_t (by rw [hm];rfl) ?_
  refine hc.s 0 rfl fun wS hS hc=>?_
  refine hc.a 0 rfl rfl ?_
  rw [valD',if_neg (by rw [hm];exact Bool.false_ne_true)]
  exact⟨0,0,⟨#[]⟩,none,0,0,rfl,hc.below,RepC.V0 _ _⟩
 refine split_f (by rw [hm];rfl) ?_
 have b1:=hc.blk 1 rfl
 have hlt:∀ b,(fun b=>b=g1) b->b<w3.heap.size:=fun b e=>by subst e;exact b1.lt
 refine vD (.Q [0,1,3,4,6,7,9,10,12,13,15,16,18,19,21,22] (.n 2 (.n 5 (.n 8 (.n 11 (.n 14 (.n 17 (.n 20 (.n 23 (.n 24 (.q 25 .fin) .stop) .stop) .stop) .stop) .stop) .stop) .stop) .stop) .stop)) (Keeps (fun b=>b=g1) w3) (Keeps.start _ _) ?_
 have hk:=Keeps.start (fun b=>b=g1) w3
 have hc:=hc.drew
 iterate 8 refine⟨_,fun x hx=>hx.cell b1 rfl rfl,?_⟩
 refine⟨hc.q (num_any d.kind _) fun wq hq hc=>?_,trivial⟩
 have hk:=hk.below hlt hq
 refine⟨hk,?_⟩
 refine⟨hc.q (str_any d.key _) fun wq hq hc=>?_,trivial⟩
 have hk:=hk.below hlt hq
 refine⟨hk,?_⟩
 refine⟨hc.q (str_any d.body _) fun wq hq hc=>?_,trivial⟩
 have hk:=hk.below hlt hq
 refine⟨hk,?_⟩
 refine⟨hc.q (num_any d.ver _) fun wq hq hc=>?_,trivial⟩
 have hk:=hk.below hlt hq
 refine⟨hk,?_⟩
 refine⟨hc.q (num_any d.cond _) fun wq hq hc=>?_,trivial⟩
 have hk:=hk.below hlt hq
 refine⟨hk,?_⟩
 refine⟨hc.q (str_any d.tag _) fun wq hq hc=>?_,trivial⟩
 have hk:=hk.below hlt hq
 refine⟨hk,?_⟩
 refine⟨hc.q (num_any d.req _) fun wq hq hc=>?_,trivial⟩
 have hk:=hk.below hlt hq
 refine⟨hk,?_⟩
 refine⟨hc.q (num_any d.low _) fun wq hq hc=>?_,trivial⟩
 have hk:=hk.below hlt hq
 refine⟨hk,?_⟩
 refine⟨fun g3 w4 h4=>?_,trivial⟩
 refine⟨hk.below hlt h4.below,?_⟩
 have hC:=hc.call h4.below
 have hc:=hC.1
 have hrow:Row (ext no _ w4) w4 (some ⟨g3,0,none⟩) 8 8 (deedC d):=(h4.row 8 (by decide)).sub fun b e=>by
  subst e
  exact .inr ⟨Nat.le_of_eq h4.1.symm,h4.blk.lt⟩
 refine⟨hc.may 0 rfl 0 _ (Nat.le_refl 4) rfl,?_⟩
 intro w5 h5
 have hC:=hc.set 0 rfl h5
 have hc:=hC.1
 refine hc.a 0 rfl rfl ?_
 rw [valD',if_pos hm]
 refine⟨3,0,⟨#[]⟩,some ⟨g3,0,none⟩,8,8,rfl,hc.below,?_⟩
 rw [vDeed,vRow,RepC]
 exact⟨some ⟨g3,0,none⟩,8,deedC d,rfl,deedC_rep _ _ d,(hrow.fut hC.2).fut hc.out⟩
set_option maxRecDepth 100000
def dC (d:D):List Value:=[.int .i64 d.kind,.string d.key,.string d.body,.int .i64 d.ver,.int .i64 d.cond,.string d.tag,.int .i64 d.req,.int .i64 d.low]
set_option maxHeartbeats 1000000 in
theorem of_any (v:V) (k n:Int) (s:ByteArray) (A:Option Addr) (len cap:Nat) (S:Nat->Prop) (w:World) (hr:RepC S w v [.int .i64 k,.int .i64 n,.string s,.slice A len cap]) (hk:(deedV v).Ok):
  Calls Tryz.prog 76 #[.agg #[.int .i64 k,.int .i64 n,.string s,.slice A len cap]] w (RetB (.tuple #[.agg (dC (ofD v).1).toArray,.bool (ofD v).2]) w):=by
 have hr0:=hr
 obtain⟨k0,n0,s0,l⟩:=v
 rw [RepC] at hr
 obtain⟨A',cap',xs,e,hL,hR⟩:=hr
 cases e
 refine vE Tryz.func76 ?_
 intro g1 w1 h1
 have hc:=((Ctx.start w no (fun _ h=>h.elim)).loc h1).1
 refine hc.n fun g2 w2 h2 hc=>?_
 refine⟨_,hc.cell 1 rfl _ rfl,?_⟩
 have bad:(vK (.mk k n s l)≠3\/(vL (.mk k n s l)).length≠8)->ofD (.mk k n s l)=(D0,false):=fun h=>by rw [ofD,if_pos h]
 by_cases k3:k=3
 rotate_left
 ·refine split_t (by show (k != 3)=true;simpa using k3) ?_
  refine hc.s 0 rfl fun wS hS hc=>?_
  refine hc.a 0 rfl rfl ?_
  rw [bad (.inl k3)]
  exact⟨rfl,hc.below⟩
 refine split_f (by show (k != 3)=false;simpa using k3) ?_
 refine⟨_,hc.cell 1 rfl _ rfl,?_⟩
 by_cases h8:l.length=8
 rotate_left
 ·refine split_t (by show ((l.length:Int) != 8)=true;rw [bne_iff_ne];omega) ?_
  refine hc.s 0 rfl fun wS hS hc=>?_
  refine hc.a 0 rfl rfl ?_
  rw [bad (.inr h8)]
  exact⟨rfl,hc.below⟩
 have eof:ofD (.mk k n s l)=if mayD (deedV (.mk k n s l))=false\/eqV (valD' (deedV (.mk k n s l))) (.mk k n s l)=false then (D0,false) else (deedV (.mk k n s l),true):=by
  rw [ofD,if_neg]
  rintro (h | h)
  ·exact h k3
  ·exact h h8
 clear bad
 match l,h8 with
 | [.mk k0 n0 s0 l0,.mk k1 n1 s1 l1,.mk k2 n2 s2 l2,.mk k3' n3 s3 l3,.mk k4 n4 s4 l4,.mk k5 n5 s5 l5,.mk k6 n6 s6 l6,.mk k7 n7 s7 l7],_=>
 simp only [RepL,RepC] at hL
 obtain⟨c0,y0,⟨A0,cap0,x0,rfl,_⟩,⟨c1,y1,⟨A1,cap1,x1,rfl,_⟩,⟨c2,y2,⟨A2,cap2,x2,rfl,_⟩,⟨c3,y3,⟨A3,cap3,x3,rfl,_⟩,⟨c4,y4,⟨A4,cap4,x4,rfl,_⟩,⟨c5,y5,⟨A5,cap5,x5,rfl,_⟩,⟨c6,y6,⟨A6,cap6,x6,rfl,_⟩,⟨c7,y7,⟨A7,cap7,x7,rfl,_⟩,rfl,rfl⟩,rfl⟩,rfl⟩,rfl⟩,rfl⟩,rfl⟩,rfl⟩,rfl⟩:=hL
 obtain⟨ad,rfl,hS,hcell⟩:=(hR.below hc.below).2.2 (by simp)
 obtain⟨bk,off,sub⟩:=ad
 refine⟨_,hc.cell 1 rfl _ rfl,?_⟩
 have hbk:bk<w2.heap.size:=World.block_lt_of_cell? w2 _ (hcell 0 _ rfl)
 have hlt:∀ b,(fun b=>b=bk) b->b<w2.heap.size:=fun b e=>by subst e;exact hbk
 refine vD (.Q [0,1,2,3,4,5,6,7,8,9,10,11,12,13,14,15,16,17,18,19,20,21,22,23,24,25,26,27,28,29,30,31,32] (.n 33 (.z 34) .stop)) (Keeps (fun b=>b=bk) w2) (Keeps.start _ _) ?_
 have hk1:=Keeps.start (fun b=>b=bk) w2
 have hc:=hc.drew
 refine⟨⟨by decide,(show (0:Int)<8 by decide)⟩,?_⟩
 refine⟨_,fun x hx=>hx.at (hcell 1 _ rfl) rfl,?_⟩
 refine⟨⟨by decide,(show (1:Int)<8 by decide)⟩,?_⟩
 refine⟨_,fun x hx=>hx.at (hcell 6 _ rfl) rfl,?_⟩
 refine⟨⟨by decide,(show (2:Int)<8 by decide)⟩,?_⟩
 refine⟨_,fun x hx=>hx.at (hcell 10 _ rfl) rfl,?_⟩
 refine⟨⟨by decide,(show (3:Int)<8 by decide)⟩,?_⟩
 refine⟨_,fun x hx=>hx.at (hcell 13 _ rfl) rfl,?_⟩
 refine⟨⟨by decide,(show (4:Int)<8 by decide)⟩,?_⟩
 refine⟨_,fun x hx=>hx.at (hcell 17 _ rfl) rfl,?_⟩
 refine⟨⟨by decide,(show (5:Int)<8 by decide)⟩,?_⟩
 refine⟨_,fun x hx=>hx.at (hcell 22 _ rfl) rfl,?_⟩
 refine⟨⟨by decide,(show (6:Int)<8 by decide)⟩,?_⟩
 refine⟨_,fun x hx=>hx.at (hcell 25 _ rfl) rfl,?_⟩
 refine⟨⟨by decide,(show (7:Int)<8 by decide)⟩,?_⟩
 refine⟨_,fun x hx=>hx.at (hcell 29 _ rfl) rfl,?_⟩
 refine⟨fun g5 w5 h5=>?_,trivial⟩
 refine⟨hk1.below hlt h5.below,?_⟩
 have hc:=(hc.loc h5).1
 refine⟨hc.may 0 rfl 0 _ (Nat.le_refl 8) rfl,?_⟩
 intro w6 h6
 have hc:=(hc.set 0 rfl h6).1
 have b5:=hc.blk 0 rfl
 have b1:=hc.blk 2 rfl
 have hlt:∀ b,(fun b=>b=g5\/b=g1) b->b<w6.heap.size:=fun b e=>by
  rcases e with e | e
  ·subst e;exact b5.lt
  ·subst e;exact b1.lt
 refine vD (.q 0 (.n 1 (.Q [2,3,4,6] (.n 5 (.n 7 (.Q [8,9] .fin) .stop) .stop)) .stop)) (Keeps (fun b=>b=g5\/b=g1) w6) (Keeps.start _ _) ?_
 have hk2:=Keeps.start (fun b=>b=g5\/b=g1) w6
 have hc:=hc.drew
 refine⟨_,?_,fun x hx=>hx.cells b5 (.inl rfl),?_⟩
 ·rfl
 refine⟨hc.q (may_any (deedV (.mk k n s [.mk k0 n0 s0 l0,.mk k1 n1 s1 l1,.mk k2 n2 s2 l2,.mk k3' n3 s3 l3,.mk k4 n4 s4 l4,.mk k5 n5 s5 l5,.mk k6 n6 s6 l6,.mk k7 n7 s7 l7])) hk _) fun w7 h7 hc=>?_,trivial⟩
 have hk2:=hk2.below hlt h7
 refine⟨hk2,?_⟩
 rw [eof]
 generalize hv:V.mk k n s [.mk k0 n0 s0 l0,.mk k1 n1 s1 l1,.mk k2 n2 s2 l2,.mk k3' n3 s3 l3,.mk k4 n4 s4 l4,.mk k5 n5 s5 l5,.mk k6 n6 s6 l6,.mk k7 n7 s7 l7]=v at hr0 hk ⊢
 by_cases hm:mayD (deedV v)=true
 rotate_left
 ·have hm:mayD (deedV v)=false:=by simpa using hm
  refine split_t (by rw [hm];rfl) ?_
  refine⟨?_,trivial⟩
  refine⟨hc.s 1 rfl fun wS hS hc=>?_,trivial⟩
  refine hc.a 1 rfl rfl ?_
  rw [if_pos (.inl hm)]
  exact⟨rfl,hc.below⟩
 refine split_f (by rw [hm];rfl) ?_
 refine⟨_,?_,fun x hx=>hx.cells b5 (.inl rfl),?_⟩
 ·rfl
 refine⟨_,?_,fun x hx=>hx.cells b1 (.inr rfl),?_⟩
 ·rfl
 refine⟨?_,trivial⟩
 have hcall:=value_any (deedV v) hk w7
 have earg:#[Value.agg #[.int .i64 (deedV v).kind,.string (deedV v).key,.string (deedV v).body,.int .i64 (deedV v).ver,.int .i64 (deedV v).cond,.string (deedV v).tag,.int .i64 (deedV v).req,.int .i64 (deedV v).low]]=#[Value.agg #[.int .i64 n0,.string s1,.string s2,.int .i64 n3,.int .i64 n4,.string s5,.int .i64 n6,.int .i64 n7]]:=by
  subst hv
  rfl
 rw [earg] at hcall
 refine⟨hcall.mono fun e w8 hq=>?_⟩
 obtain⟨kk,nn,ss,AA,ll,cc,e1,h8',hrep⟩:=hq
 have hk2:=hk2.below hlt h8'
 refine⟨_,e1,hk2,?_⟩
 have hc:=(hc.quiet h8').1
 refine⟨hc.q (veq_any _ (valD' (deedV v)) (Nat.lt_succ_self _) v _ _ (fun b=>ext no w7 w8 b\/S b) w8 (hrep.sub fun b h=>.inl h) ((hr0.below hc.below).sub fun b h=>.inr h)) fun w9 h9 hc=>?_,trivial⟩
 have hk2:=hk2.below hlt h9
 refine⟨hk2,?_⟩
 by_cases he:eqV (valD' (deedV v)) v=true
 ·refine split_f (by rw [he];rfl) ?_
  refine hc.a 0 rfl rfl ?_
  refine hc.s 1 rfl fun wS hS hc=>?_
  refine hc.a 1 rfl rfl ?_
  rw [if_neg (by rw [hm,he];simp)]
  refine⟨?_,hc.below⟩
  subst hv
  rfl
 ·have he:eqV (valD' (deedV v)) v=false:=by simpa using he
  refine split_t (by rw [he];rfl) ?_
  refine hc.s 1 rfl fun wS hS hc=>?_
  refine hc.a 1 rfl rfl ?_
  rw [if_pos (.inr he)]
  exact⟨rfl,hc.below⟩
theorem putD_any (d:D) (h:d.Ok) (w:World) (ht:Tab w):Calls Tryz.prog 104 #[.agg #[.int .i64 d.kind,.string d.key,.string d.body,.int .i64 d.ver,.int .i64 d.cond,.string d.tag,.int .i64 d.req,.int .i64 d.low]] w (RetB (.string ⟨(putD d).toArray⟩) w):=by
 refine vE Tryz.func104 ?_
 intro g1 w1 h1
 have hc:=((Ctx.start w no (fun _ h=>h.elim)).loc h1).1
 refine hc.a 0 rfl rfl ?_
 refine⟨(value_any d h _).mono fun e w2 hq=>?_⟩
 obtain⟨k,n,s,A,len,cap,e1,h2,hrep⟩:=hq
 refine⟨_,e1,?_⟩
 have hc:=(hc.quiet h2).1
 have hsz:okV (valD' d)/\(putV (valD' d)).length<=1073741824:=by
  by_cases hm:mayD d=true
  ·rw [valD',if_pos hm]
   have h1:=txt_vDeed d h hm
   have h3:=putV_len (vDeed d)
   have:=dec_len7 (u:=(txtV (vDeed d)).length) (by omega)
   exact⟨okV_vDeed d h,by omega⟩
  ·rw [valD',if_neg hm]
   refine⟨?_,?_⟩
   ·rw [V0,okV,okL];exact⟨by unfold i64ok;omega,trivial⟩
   ·have h3:=putV_len V0
    have e:(txtV V0).length=0:=rfl
    have:=dec_len7 (u:=(txtV V0).length) (by rw [e];decide)
    omega
 refine hc.q (vput_any (valD' d) hsz.1 hsz.2 k n s A len cap _ _ hrep (ht.below hc.below)) fun w3 h3 hc=>?_
 exact⟨rfl,hc.below⟩
theorem small_strs {f:Nat} {x:V} (h:cnt f x<=6000):(vS x).size<=(putV x).length:=by
 obtain⟨k,n,s,l⟩:=x
 cases f with
 | zero=>rw [cnt] at h;omega
 | succ f=>
  rw [cnt] at h
  show s.size<=_
  rw [putV_len]
  by_cases h1:(k==1&&mt s&&((l.length:Int)==0))||(k==2&&n==0&&((l.length:Int)==0))
  ·simp only [Bool.or_eq_true,Bool.and_eq_true,beq_iff_eq] at h1
   rcases h1 with ⟨⟨h1,h2⟩,h3⟩ | ⟨⟨h1,h2⟩,h3⟩
   ·rw [mt_empty h2];exact Nat.zero_le _
   ·subst h1
    have e:(txtV (.mk 2 n s l)).length=s.size:=ba_len s
    rw [e];omega
  ·rw [if_neg h1] at h
   by_cases h2:(k != 3||!(n==0)||!mt s)=true
   ·rw [if_pos h2] at h;omega
   ·simp only [Bool.or_eq_true,not_or,Bool.not_eq_true] at h2
    have h4:mt s=true:=by simpa using h2.2
    rw [mt_empty h4];exact Nat.zero_le _
theorem deedV_ok (t:List UInt8) (ht:t.length<=1073741824):(deedV (allV t).1).Ok:=by
 have key:∀ i,i64ok (vN (atV (allV t).1 i))/\strok (vS (atV (allV t).1 i)):=by
  intro i
  have zero:i64ok (vN V0)/\strok (vS V0):=⟨by unfold i64ok;exact⟨by decide,by decide⟩,by unfold strok;exact Nat.zero_le _⟩
  by_cases he:(allV t).2=0
  ·have ha:allV t=((allV t).1,0):=by rw [<-he]
   obtain⟨k1,k2,k3⟩:=allV_get ha
   generalize (allV t).1=v at*
   obtain⟨k,n,s,l⟩:=v
   rw [okV] at k3
   unfold atV
   show i64ok (vN (l.getD i V0))/\strok (vS (l.getD i V0))
   rw [List.getD_eq_getElem?_getD]
   cases hg:l[i]? with
   | none=>exact zero
   | some x=>
    have hm:x∈l:=List.mem_of_getElem? hg
    have hx:=okL_mem k3.2 hm
    simp only [Option.getD_some]
    refine⟨?_,?_⟩
    ·obtain⟨a,b,c,d⟩:=x
     rw [okV] at hx;exact hx.1
    ·have hc:cnt 6 (.mk k n s l)<=6000:=by simpa [mayV] using k2
     rw [cnt] at hc
     have hk:¬ ((k==1&&mt s&&((l.length:Int)==0))||(k==2&&n==0&&((l.length:Int)==0)))=true:=by
      have:0<l.length:=List.length_pos_of_mem hm
      simp only [Bool.or_eq_true,Bool.and_eq_true,beq_iff_eq]
      omega
     rw [if_neg hk] at hc
     by_cases h2:(k != 3||!(n==0)||!mt s)=true
     ·rw [if_pos h2] at hc;omega
     rw [if_neg h2] at hc
     have h3:=(cntL_le (cnt 5) (fun v=>(cnt_range 5 v).1) l 1 hc).2 x hm
     have h4:=small_strs (f:=5) (x:=x) (by omega)
     have h5:=putV_mem_le hm
     have e3:k=3:=by
      simp only [Bool.or_eq_true,not_or,Bool.not_eq_true] at h2
      simpa using h2.1.1
     have h6:(putL l).length<=t.length:=by
      rw [<-k1,putV_len]
      have:txtV (.mk k n s l)=putL l:=by subst e3;simp [txtV]
      rw [this];omega
     unfold strok;omega
  ·have e:(allV t).1=V0:=by
    unfold allV at he ⊢
    simp only at he ⊢
    split at he
    ·rename_i h;rw [if_pos h]
    ·exact absurd rfl he
   rw [e]
   have:atV V0 i=V0:=by unfold atV;rfl
   rw [this];exact zero
 exact⟨(key 0).1,(key 1).2,(key 2).2,(key 3).1,(key 4).1,(key 5).2,(key 6).1,(key 7).1⟩
theorem getD_any (t:List UInt8) (ht:t.length<=1073741824) (w:World) (hw:Env w):Calls Tryz.prog 105 #[.string ⟨t.toArray⟩] w (RetB (.tuple #[.agg (dC (getD' t).1).toArray,.int .i64 (getD' t).2]) w):=by
 refine vE Tryz.func105 ?_
 intro g2 w1 h1
 have hc:=((Ctx.start w no (fun _ h=>h.elim)).loc h1).1
 refine⟨(All_any t _ ht (hw.below hc.below)).mono fun e w2 hq=>?_⟩
 obtain⟨k,n,s,A,len,cap,e1,h2,hrep⟩:=hq
 refine⟨_,e1,?_⟩
 have hC:=hc.call h2
 have hc:=hC.1
 have hok:=deedV_ok t ht
 have eg:getD' t=if (allV t).2≠0\/(ofD (allV t).1).2=false then (D0,1) else ((ofD (allV t).1).1,0):=by rw [getD']
 rw [eg]
 clear eg
 generalize allV t=q at*
 obtain⟨v,er⟩:=q
 simp only at hok hrep ⊢
 intro g4 w3 h3
 have hC:=hc.loc h3
 have hc:=hC.1
 have hrep:=hrep.fut hC.2
 refine⟨hc.may 0 rfl 0 _ (Nat.le_refl 4) rfl,?_⟩
 intro w4 h4
 have hC:=hc.set 0 rfl h4
 have hc:=hC.1
 have hrep:=hrep.fut hC.2
 refine hc.a 0 rfl rfl ?_
 refine hc.q (of_any v k n s A len cap _ _ hrep hok) fun w5 h5 hc=>?_
 generalize ofD v=q at*
 obtain⟨d,ok⟩:=q
 simp only
 refine hc.n fun g6 w6 h6 hc=>?_
 refine⟨hc.may 0 rfl 0 _ (Nat.le_refl 8) rfl,?_⟩
 intro w7 h7
 have hc:=(hc.set 0 rfl h7).1
 by_cases he:er=0
 ·refine split_f (by show (er != 0)=false;simpa using he) ?_
  cases ok
  ·refine hc.s 2 rfl fun wS hS hc=>?_
   refine hc.a 2 rfl rfl ?_
   rw [if_pos (.inr rfl)]
   exact⟨rfl,hc.below⟩
  ·refine hc.a 0 rfl rfl ?_
   refine hc.s 2 rfl fun wS hS hc=>?_
   refine hc.a 2 rfl rfl ?_
   rw [if_neg (by simp [he])]
   exact⟨rfl,hc.below⟩
 ·refine split_t (by show (er != 0)=true;simpa using he) ?_
  refine hc.s 2 rfl fun wS hS hc=>?_
  refine hc.a 2 rfl rfl ?_
  rw [if_pos (.inl he)]
  exact⟨rfl,hc.below⟩
end Go.Proofs.YtokglimimnelaaaGreatDoor
