import Derived.Test.YtokglimimnelaaaGreatDoorM04
import Derived.Laws.StructEq
set_option linter.unusedVariables false
set_option linter.unusedSimpArgs false
namespace Go.Proofs.YtokglimimnelaaaGreatDoor
open Go.Vc Go.RowKit Go.Fl
set_option maxRecDepth 100000
def okM (lows:List Int) (seq:Int) (m:Mem):Bool:=!(homeI m.req==0)&&decide (lowAt lows (homeI m.req)<=m.req)&&decide (0<=m.res.err)&&decide (m.res.err<=13)&&decide (0<=m.res.ver)&&decide (m.res.ver<=seq)
theorem memB_iff (lows:List Int) (seq:Int):∀ (l:List Mem) (p:Option Int),memB lows seq p l=true↔(∀ m∈l,okM lows seq m=true)/\l.Pairwise (fun a b=>a.req<b.req)/\∀ q,p=some q->∀ m∈l,q<m.req
 | [],p=>by simp [memB]
 | m::r,p=>by
  have e:memB lows seq p (m::r)=(okM lows seq m&&(match p with | none=>true | some q=>decide (q<m.req))&&memB lows seq (some m.req) r):=by
   have e0:memB lows seq p (m::r)=(!(homeI m.req==0)&&decide (lowAt lows (homeI m.req)<=m.req)&&(match p with | none=>true | some q=>decide (q<m.req))&&
     decide (0<=m.res.err)&&decide (m.res.err<=13)&&decide (0<=m.res.ver)&&decide (m.res.ver<=seq)&&memB lows seq (some m.req) r):=by
    cases p<;>simp only [memB]
   rw [e0,okM,Bool.eq_iff_iff]
   simp only [Bool.and_eq_true]
   constructor
   ·rintro⟨⟨⟨⟨⟨⟨⟨h1,h2⟩,h3⟩,h4⟩,h5⟩,h6⟩,h7⟩,h8⟩;exact⟨⟨⟨⟨⟨⟨⟨h1,h2⟩,h4⟩,h5⟩,h6⟩,h7⟩,h3⟩,h8⟩
   ·rintro⟨⟨⟨⟨⟨⟨⟨h1,h2⟩,h4⟩,h5⟩,h6⟩,h7⟩,h3⟩,h8⟩;exact⟨⟨⟨⟨⟨⟨⟨h1,h2⟩,h3⟩,h4⟩,h5⟩,h6⟩,h7⟩,h8⟩
  rw [e,Bool.and_eq_true,Bool.and_eq_true,memB_iff lows seq r]
  simp only [List.mem_cons,forall_eq_or_imp,List.pairwise_cons]
  constructor
  ·rintro⟨⟨h1,h2⟩,h3,h4,h5⟩
   refine⟨⟨h1,h3⟩,⟨fun m' hm'=>h5 _ rfl m' hm',h4⟩,fun q hq=>?_⟩
   subst hq
   simp only [decide_eq_true_eq] at h2
   exact⟨h2,fun m' hm'=>Int.lt_trans h2 (h5 _ rfl m' hm')⟩
  ·rintro⟨⟨h1,h3⟩,⟨h6,h4⟩,h7⟩
   refine⟨⟨h1,?_⟩,h3,h4,fun q hq m' hm'=>by cases hq;exact h6 m' hm'⟩
   cases p with
   | none=>rfl
   | some q=>simpa using (h7 q rfl).1
theorem take_posM:∀ (l:List Mem) (n:Int),∀ m∈l.take (posM l n),m.req<n
 | [],n,m,h=>by simp at h
 | x::r,n,m,h=>by
  by_cases c:x.req<n
  ·rw [posM,if_pos c,List.take_succ_cons] at h
   cases h with
   | head=>exact c
   | tail _ h=>exact take_posM r n m h
  ·rw [posM,if_neg c] at h;simp at h
theorem drop_posM:∀ (l:List Mem) (n:Int),l.Pairwise (fun a b=>a.req<b.req)->memAt l n=none->∀ m∈l.drop (posM l n),n<m.req
 | [],n,_,_,m,h=>by simp at h
 | x::r,n,hp,hn,m,h=>by
  rw [List.pairwise_cons] at hp
  by_cases c:x.req<n
  ·rw [posM,if_pos c,List.drop_succ_cons] at h
   refine drop_posM r n hp.2 ?_ m h
   simpa [memAt,posM,c] using hn
  ·rw [posM,if_neg c,List.drop_zero] at h
   have hx:x.req≠n:=fun e=>by simp [memAt,posM,c,e] at hn
   cases h with
   | head=>omega
   | tail _ h=>have:=hp.1 m h;omega
theorem mem_split {α:Type} {l:List α} {i:Nat} {x:α} (h:x∈l.take i\/x∈l.drop i):x∈l:=by
 rcases h with h | h
 ·exact List.mem_of_mem_take h
 ·exact List.mem_of_mem_drop h
theorem pairwise_ins {α:Type} {R:α->α->Prop} {l:List α} {i j:Nat} {es:List α} (hij:i<=j) (hp:l.Pairwise R) (he:es.Pairwise R) (h1:∀ a∈l.take i,∀ e∈es,R a e) (h2:∀ e∈es,∀ b∈l.drop j,R e b):
  (l.take i++es++l.drop j).Pairwise R:=by
 have h3:∀ a∈l.take i,∀ b∈l.drop j,R a b:=by
  have hp':(l.take i++l.drop i).Pairwise R:=by rw [List.take_append_drop];exact hp
  rw [List.pairwise_append] at hp'
  intro a ha b hb
  refine hp'.2.2 a ha b ?_
  have e:l.drop j=(l.drop i).drop (j-i):=by rw [List.drop_drop];congr 1;omega
  rw [e] at hb
  exact List.mem_of_mem_drop hb
 rw [List.pairwise_append,List.pairwise_append]
 refine⟨⟨hp.sublist (List.take_sublist ..),he,h1⟩,hp.sublist (List.drop_sublist ..),fun a ha b hb=>?_⟩
 rw [List.mem_append] at ha
 rcases ha with ha | ha
 ·exact h3 a ha b hb
 ·exact h2 a ha b hb
theorem memB_ins {lows:List Int} {seq:Int} {l:List Mem} {m:Mem} (h:memB lows seq none l=true) (hn:memAt l m.req=none) (hm:okM lows seq m=true):
  memB lows seq none (l.take (posM l m.req)++m::l.drop (posM l m.req))=true:=by
 rw [memB_iff] at h ⊢
 obtain⟨h1,h2,_⟩:=h
 refine⟨fun x hx=>?_,?_,fun q hq=>by cases hq⟩
 ·rw [List.mem_append,List.mem_cons] at hx
  rcases hx with hx | hx | hx
  ·exact h1 x (mem_split (.inl hx))
  ·rw [hx];exact hm
  ·exact h1 x (mem_split (.inr hx))
 ·have:=pairwise_ins (es:=[m]) (Nat.le_refl (posM l m.req)) h2 (List.pairwise_singleton ..) (fun a ha e he=>by
   rw [List.mem_singleton] at he;subst he;exact take_posM l _ a ha) (fun e he b hb=>by
   rw [List.mem_singleton] at he;subst he;exact drop_posM l _ h2 hn b hb)
  simpa using this
theorem okM_seq {lows:List Int} {seq seq':Int} {m:Mem} (h:okM lows seq m=true) (hs:seq<=seq'):okM lows seq' m=true:=by
 unfold okM at*
 simp only [Bool.and_eq_true,decide_eq_true_eq] at*
 exact⟨h.1,by omega⟩
theorem memB_seq {lows:List Int} {seq seq':Int} {p:Option Int} {l:List Mem} (h:memB lows seq p l=true) (hs:seq<=seq'):memB lows seq' p l=true:=by
 rw [memB_iff] at h ⊢
 exact⟨fun m hm=>okM_seq (h.1 m hm) hs,h.2⟩
theorem homeI_range (n:Int):0<=homeI n/\homeI n<=5:=by unfold homeI;split<;>omega
theorem lowAt_set (lows:List Int) (h h' x:Int) (hl:lows.length=5) (r:1<=h/\h<=5) (r':1<=h'/\h'<=5):lowAt (lows.set (h-1).toNat x) h'=if h'=h then x else lowAt lows h':=by
 unfold lowAt
 rw [List.getD_eq_getElem?_getD,List.getElem?_set]
 by_cases e:h'=h
 ·subst e
  rw [if_pos rfl,if_pos rfl,if_pos (by omega)]
  rfl
 ·rw [if_neg (by omega),if_neg e,List.getD_eq_getElem?_getD]
theorem memB_keep {lows:List Int} {seq low h:Int} {l:List Mem} (hl:lows.length=5) (hr:1<=h/\h<=5) (hm:memB lows seq none l=true):memB (lows.set (h-1).toNat low) seq none (keepM low h l)=true:=by
 rw [memB_iff] at hm ⊢
 obtain⟨h1,h2,_⟩:=hm
 refine⟨fun m hmem=>?_,h2.sublist (List.filter_sublist ..),fun q hq=>by cases hq⟩
 rw [keepM,List.mem_filter] at hmem
 obtain⟨hm1,hm2⟩:=hmem
 have ho:=h1 m hm1
 unfold okM at ho ⊢
 simp only [Bool.and_eq_true,decide_eq_true_eq,Bool.not_eq_true',beq_eq_false_iff_ne,ne_eq] at ho ⊢
 have hh:=homeI_range m.req
 refine⟨⟨⟨⟨⟨ho.1.1.1.1.1,?_⟩,ho.1.1.1.2⟩,ho.1.1.2⟩,ho.1.2⟩,ho.2⟩
 rw [lowAt_set lows h _ low hl hr (by omega)]
 by_cases e:homeI m.req=h
 ·rw [if_pos e]
  simp [e] at hm2
  exact hm2
 ·rw [if_neg e];exact ho.1.1.1.1.2
theorem lowsB_iff:∀ (l:List Int) (i:Nat),lowsB i l=true↔∀ (j:Nat) (x:Int),l[j]?=some x->x=0\/homeI x=(i:Int)+j+1
 | [],i=>by simp [lowsB]
 | x::r,i=>by
  rw [lowsB,Bool.and_eq_true,lowsB_iff r (i+1),Bool.or_eq_true,beq_iff_eq,beq_iff_eq]
  constructor
  ·rintro⟨h1,h2⟩ j y hy
   cases j with
   | zero=>
    simp at hy
    subst hy
    rcases h1 with h1 | h1
    ·exact .inl h1
    ·right;rw [h1];simp
   | succ j=>
    rcases h2 j y (by simpa using hy) with h | h
    ·exact .inl h
    ·right;rw [h];push_cast;omega
  ·intro h
   refine⟨?_,fun j y hy=>?_⟩
   ·rcases h 0 x rfl with h | h
    ·exact .inl h
    ·right;rw [h];simp
   ·rcases h (j+1) y (by simpa using hy) with h | h
    ·exact .inl h
    ·right;rw [h];push_cast;omega
theorem lowsB_set {lows:List Int} {h x:Int} (hb:lowsB 0 lows=true) (hr:1<=h/\h<=5) (hx:homeI x=h):lowsB 0 (lows.set (h-1).toNat x)=true:=by
 rw [lowsB_iff] at hb ⊢
 intro j y hy
 rw [List.getElem?_set] at hy
 by_cases e:(h-1).toNat=j
 ·rw [if_pos e] at hy
  split at hy
  ·cases hy
   right
   rw [hx]
   have:(j:Int)=h-1:=by omega
   rw [this];simp<;>omega
  ·cases hy
 ·rw [if_neg e] at hy
  exact hb j y hy
theorem risV_iff:∀ (l:List Ver) (a:Int),risV a l=true↔(∀ v∈l,verOk v=true)/\l.Pairwise (fun x y=>x.ver<y.ver)/\∀ v∈l,a<v.ver
 | [],a=>by simp [risV]
 | v::r,a=>by
  rw [risV,Bool.and_eq_true,Bool.and_eq_true,risV_iff r v.ver,decide_eq_true_eq]
  simp only [List.mem_cons,forall_eq_or_imp,List.pairwise_cons]
  constructor
  ·rintro⟨⟨h1,h2⟩,h3,h4,h5⟩
   exact⟨⟨h1,h3⟩,⟨h5,h4⟩,h2,fun x hx=>Int.lt_trans h2 (h5 x hx)⟩
  ·rintro⟨⟨h1,h3⟩,⟨h5,h4⟩,h2,h6⟩
   exact⟨⟨h1,h2⟩,h3,h4,h5⟩
theorem lastV_snoc (l:List Ver) (v:Ver):lastV (l++[v])=v:=by simp [lastV,List.getLastD_eq_getLast?]
theorem lastV_mem {l:List Ver} (h:l≠[]):lastV l∈l:=by
 rcases List.eq_nil_or_concat l with rfl | ⟨l',c,e0⟩
 ·exact absurd rfl h
 ·rw [List.concat_eq_append] at e0
  subst e0
  rw [lastV_snoc];simp
theorem lastV_ge {l:List Ver} (hp:l.Pairwise (fun x y=>x.ver<y.ver)):∀ v∈l,v.ver<=(lastV l).ver:=by
 rcases List.eq_nil_or_concat l with rfl | ⟨l',c,e0⟩
 ·intro v h;cases h
 ·rw [List.concat_eq_append] at e0
  subst e0
  rw [lastV_snoc]
  rw [List.pairwise_append] at hp
  intro v hv
  rw [List.mem_append,List.mem_singleton] at hv
  rcases hv with hv | hv
  ·exact Int.le_of_lt (hp.2.2 v hv c (by simp))
  ·rw [hv];exact Int.le_refl _
def okEnt (seq:Int) (e:Ent):Prop:=mayE e=true/\∀ v∈e.vs,v.ver<=seq
theorem okEnt_iff {seq:Int} {e:Ent}:(mayE e&&decide ((lastV e.vs).ver<=seq))=true↔okEnt seq e:=by
 rw [Bool.and_eq_true,decide_eq_true_eq]
 unfold okEnt
 constructor
 ·rintro⟨h1,h2⟩
  refine⟨h1,fun v hv=>?_⟩
  unfold mayE at h1
  simp only [Bool.and_eq_true] at h1
  have:=lastV_ge ((risV_iff _ _).1 h1.1.1.1).2.1 v hv
  omega
 ·rintro⟨h1,h2⟩
  refine⟨h1,h2 _ (lastV_mem fun e0=>?_)⟩
  unfold mayE at h1
  rw [e0] at h1
  simp at h1
theorem risE_iff (seq:Int):∀ (l:List Ent) (p:Option ByteArray),risE seq p l=true↔(∀ e∈l,okEnt seq e)/\l.Pairwise (fun a b=>strLt a.key b.key=true)/\∀ q,p=some q->∀ e∈l,strLt q e.key=true
 | [],p=>by simp [risE]
 | e::r,p=>by
  have e0:risE seq p (e::r)=((mayE e&&decide ((lastV e.vs).ver<=seq))&&(match p with | none=>true | some k=>strLt k e.key)&&risE seq (some e.key) r):=by
   cases p<;>simp only [risE]
  rw [e0,Bool.and_eq_true,Bool.and_eq_true,okEnt_iff,risE_iff seq r]
  simp only [List.mem_cons,forall_eq_or_imp,List.pairwise_cons]
  constructor
  ·rintro⟨⟨h1,h2⟩,h3,h4,h5⟩
   refine⟨⟨h1,h3⟩,⟨fun m' hm'=>h5 _ rfl m' hm',h4⟩,fun q hq=>?_⟩
   subst hq
   exact⟨h2,fun m' hm'=>strLt_trans h2 (h5 _ rfl m' hm')⟩
  ·rintro⟨⟨h1,h3⟩,⟨h6,h4⟩,h7⟩
   refine⟨⟨h1,?_⟩,h3,h4,fun q hq m' hm'=>by cases hq;exact h6 m' hm'⟩
   cases p with
   | none=>rfl
   | some q=>exact (h7 q rfl).1
theorem risE_seq {seq seq':Int} {p:Option ByteArray} {l:List Ent} (h:risE seq p l=true) (hs:seq<=seq'):risE seq' p l=true:=by
 rw [risE_iff] at h ⊢
 exact⟨fun m hm=>⟨(h.1 m hm).1,fun v hv=>Int.le_trans ((h.1 m hm).2 v hv) hs⟩,h.2⟩
theorem take_posK:∀ (l:List Ent) (n:ByteArray),∀ m∈l.take (posK l n),strLt m.key n=true
 | [],n,m,h=>by simp at h
 | x::r,n,m,h=>by
  by_cases c:strLt x.key n=true
  ·rw [posK,if_pos c,List.take_succ_cons] at h
   cases h with
   | head=>exact c
   | tail _ h=>exact take_posK r n m h
  ·rw [posK,if_neg c] at h;simp at h
theorem entAt_some {l:List Ent} {k:ByteArray} {e:Ent} (h:entAt l k=some e):l[posK l k]?=some e/\e.key=k:=by
 unfold entAt at h
 cases e1:l[posK l k]? with
 | none=>rw [e1] at h;cases h
 | some x=>
  rw [e1] at h
  simp only at h
  by_cases c:strEq x.key k=true
  ·rw [if_pos c] at h
   cases h
   exact⟨rfl,strEq_iff.1 c⟩
  ·rw [if_neg c] at h;cases h
theorem drop_posK:∀ (l:List Ent) (n:ByteArray),l.Pairwise (fun a b=>strLt a.key b.key=true)->∀ m∈l.drop (if (entAt l n).isSome then posK l n+1 else posK l n),strLt n m.key=true
 | [],n,_,m,h=>by simp at h
 | x::r,n,hp,m,h=>by
  rw [List.pairwise_cons] at hp
  by_cases c:strLt x.key n=true
  ·have e1:entAt (x::r) n=entAt r n:=by simp [entAt,posK,c]
   have e2:(if (entAt (x::r) n).isSome then posK (x::r) n+1 else posK (x::r) n)=(if (entAt r n).isSome then posK r n+1 else posK r n)+1:=by
    rw [e1,posK,if_pos c]
    split<;>rfl
   rw [e2,List.drop_succ_cons] at h
   exact drop_posK r n hp.2 m h
  ·have e0:posK (x::r) n=0:=by rw [posK,if_neg c]
   have e1:entAt (x::r) n=if strEq x.key n then some x else none:=by simp [entAt,e0]
   rw [e0,e1] at h
   by_cases c2:strEq x.key n=true
   ·rw [if_pos c2] at h
    rw [strEq_iff] at c2
    simp at h
    rw [<-c2]
    exact hp.1 m h
   ·rw [if_neg c2] at h
    simp only [Option.isSome_none,Bool.false_eq_true,if_false,List.drop_zero] at h
    have hx:strLt n x.key=true:=by
     have:=strLt_tri x.key n
     have c':strLt x.key n=false:=by simpa using c
     rw [c'] at this
     have c2':strEq n x.key=false:=by
      cases e:strEq n x.key
      ·rfl
      ·rw [strEq_iff] at e;rw [e] at c2;exact absurd (strEq_iff.2 rfl) c2
     rw [c2'] at this
     simpa using this.symm
    cases h with
    | head=>exact hx
    | tail _ h=>exact strLt_trans hx (hp.1 m h)
theorem putK_ris {seq:Int} {l:List Ent} {k:ByteArray} {es:List Ent} (h:risE seq none l=true) (he:∀ e∈es,okEnt seq e/\e.key=k) (h1:es.length<=1):risE seq none (putK l k (entAt l k).isSome es)=true:=by
 rw [risE_iff] at h ⊢
 obtain⟨a1,a2,_⟩:=h
 refine⟨fun x hx=>?_,?_,fun q hq=>by cases hq⟩
 ·rw [putK,List.mem_append,List.mem_append] at hx
  rcases hx with (hx | hx) | hx
  ·exact a1 x (List.mem_of_mem_take hx)
  ·exact (he x hx).1
  ·exact a1 x (List.mem_of_mem_drop hx)
 ·refine pairwise_ins (by split<;>omega) a2 ?_ (fun a ha e hm=>by rw [(he e hm).2];exact take_posK l k a ha) (fun e hm b hb=>by rw [(he e hm).2];exact drop_posK l k a2 b hb)
  match es,h1 with
  | [],_=>exact List.Pairwise.nil
  | [x],_=>exact List.pairwise_singleton ..
theorem putK_len {l:List Ent} {k:ByteArray} {es:List Ent} (h1:es.length<=1) (h:l.length<40\/(entAt l k).isSome=true) (h0:l.length<=40):(putK l k (entAt l k).isSome es).length<=40:=by
 rw [putK,List.length_append,List.length_append,List.length_take,List.length_drop]
 cases e:entAt l k with
 | none=>
  rw [e] at h
  simp at h ⊢
  omega
 | some x=>
  have:=(entAt_some e).1
  have hlt:posK l k<l.length:=by
   rcases Nat.lt_or_ge (posK l k) l.length with h | h
   ·exact h
   ·rw [List.getElem?_eq_none h] at this;cases this
  simp
  omega
theorem entAt_mem {l:List Ent} {k:ByteArray} {e:Ent} (h:entAt l k=some e):e∈l:=List.mem_of_getElem? (entAt_some h).1
theorem idxV_lt:∀ {l:List Ver} {n:Int} {i:Nat},idxV l n=some i->∃ h:i<l.length,l[i].ver=n
 | v::r,n,i,h=>by
  rw [idxV] at h
  by_cases c:(v.ver==n)=true
  ·rw [if_pos c] at h
   cases h
   exact⟨Nat.succ_pos _,by simpa using c⟩
  ·rw [if_neg c] at h
   cases e:idxV r n with
   | none=>rw [e] at h;cases h
   | some j=>
    rw [e] at h
    cases h
    obtain⟨h1,h2⟩:=idxV_lt e
    exact⟨Nat.succ_lt_succ h1,h2⟩
 | [],n,i,h=>by rw [idxV] at h;cases h
theorem mayE_parts {e:Ent}:mayE e=true↔risV 0 e.vs=true/\keyB e.key=true/\1<=e.vs.length/\e.vs.length<=12:=by
 simp [mayE,and_assoc]
theorem doK_res (l:List Ent) (seq:Int) (d:D):0<=(doK l seq d).2.err/\(doK l seq d).2.err<=13/\((doK l seq d).2.ver=0\/(doK l seq d).2.ver=seq\/((doK l seq d).2.ver=d.ver/\d.kind=3/\(idxV ((entAt l d.key).getD ⟨d.key,[]⟩).vs d.ver).isSome=true)):=by
 unfold doK
 simp only
 split
 ·rename_i hk
  cases e:idxV ((entAt l d.key).getD ⟨d.key,[]⟩).vs d.ver with
  | none=>simp
  | some j=>simp;right;right;simpa using hk
 ·split
  ·simp
  ·split
   ·simp
   ·split<;>simp
theorem doK_ok {l:List Ent} {seq:Int} {d:D} (h0:0<=seq) (hs:seq<maxN) (hd:mayD d=true) (hr:risE seq none l=true) (hl:l.length<=40):
  risE (seq+1) none (doK l (seq+1) d).1=true/\(doK l (seq+1) d).1.length<=40/\0<=(doK l (seq+1) d).2.ver/\(doK l (seq+1) d).2.ver<=seq+1:=by
 have hr':=risE_seq hr (show seq<=seq+1 by omega)
 have old:∀ e:Ent,entAt l d.key=some e->okEnt seq e:=fun e he=>((risE_iff seq l none).1 hr).1 e (entAt_mem he)
 have hkey:keyB d.key=true:=by
  unfold mayD at hd
  simp only [Bool.and_eq_true] at hd
  exact hd.1.1.1.1
 have body:=(mayD_sizes hd).2.1
 unfold doK
 simp only
 split
 ·rename_i hk
  cases ea:entAt l d.key with
  | none=>
   simp only [Option.getD_none,idxV]
   exact⟨hr',hl,by simp;omega⟩
  | some x=>
   simp only [Option.getD_some,Option.isSome_some]
   cases e:idxV x.vs d.ver with
   | none=>exact⟨hr',hl,by simp;omega⟩
   | some j=>
    obtain⟨hj,hv⟩:=idxV_lt e
    have ho:=old x ea
    have hks:=(entAt_some ea).2
    have hsub:(x.vs.take j++x.vs.drop (j+1)).Sublist x.vs:=by
     have:=(List.Sublist.refl (x.vs.take j)).append (List.drop_sublist_drop_left x.vs (Nat.le_succ j))
     rwa [List.take_append_drop] at this
    obtain⟨p1,p2,p3,p4⟩:=mayE_parts.1 ho.1
    rw [risV_iff] at p1
    have hlen:(x.vs.take j++x.vs.drop (j+1)).length=x.vs.length-1:=by rw [List.length_append,List.length_take,List.length_drop];omega
    have hv1:1<=d.ver/\d.ver<=seq:=by
     rw [<-hv]
     have m:=List.getElem_mem hj
     have a1:=p1.2.2 _ m
     have a2:=ho.2 _ m
     omega
    have key:∀ es:List Ent,es=(if (x.vs.take j++x.vs.drop (j+1)).length=0 then [] else [⟨x.key,x.vs.take j++x.vs.drop (j+1)⟩])->es.length<=1/\∀ e∈es,okEnt (seq+1) e/\e.key=d.key:=by
     intro es hes
     subst hes
     split
     ·exact⟨by simp,fun e he=>by cases he⟩
     ·refine⟨by simp,fun e he=>?_⟩
      rw [List.mem_singleton] at he
      subst he
      refine⟨⟨mayE_parts.2 ⟨(risV_iff _ _).2 ⟨fun v hv=>p1.1 v (hsub.subset hv),p1.2.1.sublist hsub,fun v hv=>p1.2.2 v (hsub.subset hv)⟩,p2,by simp only;omega,by simp only;omega⟩,fun v hv=>?_⟩,hks⟩
      have:=ho.2 v (hsub.subset hv)
      omega
    obtain⟨k1,k2⟩:=key _ rfl
    have r1:=putK_ris hr' k2 k1
    have r2:=putK_len (l:=l) (k:=d.key) k1 (.inr (by rw [ea];rfl)) hl
    rw [ea] at r1 r2
    exact⟨r1,r2,by simp only;omega,by simp only;omega⟩
 ·rename_i hk3
  split
  ·exact⟨hr',hl,by simp;omega⟩
  ·split
   ·exact⟨hr',hl,by simp;omega⟩
   ·rename_i hk2
    split
    ·exact⟨hr',hl,by simp;omega⟩
    ·rename_i hf
     simp only [Bool.or_eq_true,Bool.and_eq_true,decide_eq_true_eq,not_or,Bool.not_eq_true'] at hf
     have hfull:=hf.2
     have hvlen:((entAt l d.key).getD ⟨d.key,[]⟩).vs.length<12:=by simpa using hf.1
     have hnew:verOk ⟨seq+1,d.kind==2,d.body⟩=true:=by
      have hm:maxN=1099511627776:=rfl
      unfold verOk
      simp only [Bool.and_eq_true,decide_eq_true_eq,Bool.or_eq_true,Bool.not_eq_true']
      refine⟨⟨⟨by omega,by omega⟩,by omega⟩,?_⟩
      by_cases k2:d.kind=2
      ·right
       unfold mayD at hd
       rw [k2] at hd
       simp only [Bool.and_eq_true] at hd
       have:=hd.2
       simp only [show ((2:Int)==1)=false by decide,show ((2:Int)==2)=true by decide,Bool.false_eq_true,if_false,if_true,Bool.and_eq_true] at this
       exact this.1.1.1
      ·left;simpa using k2
     have hold:∀ x:Ent,x=(entAt l d.key).getD ⟨d.key,[]⟩->risV 0 x.vs=true/\x.key=d.key/\∀ v∈x.vs,v.ver<=seq:=by
      intro x hx
      cases ea:entAt l d.key with
      | none=>rw [ea] at hx;subst hx;exact⟨rfl,rfl,fun v hv=>by cases hv⟩
      | some y=>
       rw [ea] at hx
       subst hx
       have ho:=old _ ea
       exact⟨(mayE_parts.1 ho.1).1,(entAt_some ea).2,ho.2⟩
     obtain⟨q1,q2,q3⟩:=hold _ rfl
     generalize (entAt l d.key).getD ⟨d.key,[]⟩=x at*
     rw [risV_iff] at q1
     have k2:∀ e∈([⟨x.key,x.vs++[⟨seq+1,d.kind==2,d.body⟩]⟩]:List Ent),okEnt (seq+1) e/\e.key=d.key:=by
      intro e he
      rw [List.mem_singleton] at he
      subst he
      refine⟨⟨mayE_parts.2 ⟨(risV_iff _ _).2 ⟨fun v hv=>?_,?_,fun v hv=>?_⟩,by simp only;rw [q2];exact hkey,by simp,by simp;omega⟩,fun v hv=>?_⟩,q2⟩
      ·simp only [List.mem_append,List.mem_singleton] at hv
       rcases hv with hv | hv
       ·exact q1.1 v hv
       ·rw [hv];exact hnew
      ·rw [List.pairwise_append]
       refine⟨q1.2.1,List.pairwise_singleton ..,fun a ha b hb=>?_⟩
       rw [List.mem_singleton] at hb
       subst hb
       have:=q3 a ha
       simp only;omega
      ·simp only [List.mem_append,List.mem_singleton] at hv
       rcases hv with hv | hv
       ·exact q1.2.2 v hv
       ·rw [hv];simp only;omega
      ·simp only [List.mem_append,List.mem_singleton] at hv
       rcases hv with hv | hv
       ·have:=q3 v hv;omega
       ·rw [hv];simp only;omega
     refine⟨putK_ris hr' k2 (by simp),putK_len (by simp) ?_ hl,by simp only;omega,by simp only;omega⟩
     by_cases c:(entAt l d.key).isSome=true
     ·exact .inr c
     ·left
      rcases Nat.lt_or_ge l.length 40 with h | h
      ·exact h
      ·exact absurd ⟨by simpa using c,h⟩ hfull
theorem mayS_parts {s:Stt}:mayS s=true↔(0<=s.seq/\s.seq<=maxN)/\(s.l.length<=40/\s.ms.length<=100)/\risE s.seq none s.l=true/\lowsB 0 s.lows=true/\memB s.lows s.seq none s.ms=true:=by
 simp [mayS,and_assoc]
theorem mayS_doS {s:Stt} {d:D} (hl5:s.lows.length=5) (h:mayS s=true):mayS (doS s d).1=true:=by
 obtain⟨⟨a1,a2⟩,⟨a3,a4⟩,a5,a6,a7⟩:=mayS_parts.1 h
 have more:maxN<=s.seq\/mayS ⟨s.seq+1,s.l,s.ms,s.lows⟩=true:=by
  rcases Int.lt_or_le s.seq maxN with c | c
  ·exact .inr (mayS_parts.2 ⟨⟨by simp only;omega,by simp only;omega⟩,⟨a3,a4⟩,risE_seq a5 (by simp only;omega),a6,memB_seq a7 (by simp only;omega)⟩)
  ·exact .inl c
 unfold doS
 split
 ·exact h
 rename_i c1
 have hd:mayD d=true:=by
  cases e:mayD d
  ·simp [e] at c1
  ·rfl
 split
 ·exact h
 rename_i c2
 have more:mayS ⟨s.seq+1,s.l,s.ms,s.lows⟩=true:=more.resolve_left c2
 split
 ·exact more
 rename_i c3
 split
 ·exact more
 rename_i c4
 split
 ·exact more
 rename_i c5
 obtain⟨b1,b2,b3,b4⟩:=doK_ok (d:=d) a1 (by omega) hd a5 a3
 obtain⟨e1,e2,_⟩:=doK_res s.l (s.seq+1) d
 have hh:=homeI_range d.req
 have hne:homeI d.req≠0:=by
  unfold mayD at hd
  simp only [Bool.and_eq_true,Bool.not_eq_true',beq_eq_false_iff_ne,ne_eq] at hd
  exact hd.1.1.1.2
 have hm:memB s.lows (s.seq+1) none (s.ms.take (posM s.ms d.req)++⟨d.req,(doK s.l (s.seq+1) d).2⟩::s.ms.drop (posM s.ms d.req))=true:=by
  refine memB_ins (m:=⟨d.req,_⟩) (memB_seq a7 (by omega)) c4 ?_
  unfold okM
  simp only [Bool.and_eq_true,decide_eq_true_eq,Bool.not_eq_true',beq_eq_false_iff_ne,ne_eq]
  exact⟨⟨⟨⟨⟨hne,by omega⟩,e1⟩,e2⟩,b3⟩,b4⟩
 have hlen:(s.ms.take (posM s.ms d.req)++⟨d.req,(doK s.l (s.seq+1) d).2⟩::s.ms.drop (posM s.ms d.req)).length<=100:=by
  rw [List.length_append,List.length_cons,List.length_take,List.length_drop];omega
 simp only
 split
 ·rename_i c6
  refine mayS_parts.2 ⟨⟨by simp only;omega,by simp only;omega⟩,⟨b2,Nat.le_trans (List.length_filter_le ..) hlen⟩,b1,lowsB_set a6 (by omega) c6.2,memB_keep hl5 (by omega) hm⟩
 ·exact mayS_parts.2 ⟨⟨by simp only;omega,by simp only;omega⟩,⟨b2,hlen⟩,b1,a6,hm⟩
set_option maxRecDepth 100000
theorem cntL_bound (g:V->Int) (hg:∀ v,1<=g v) (b:Nat):∀ (l:List V) (n:Int),(∀ x∈l,g x<=b)->n+(b*l.length:Nat)<=6000->cntL g l n<=n+(b*l.length:Nat)
 | [],n,h,hn=>by rw [cntL];simp
 | x::r,n,h,hn=>by
  have hx:=h x (by simp)
  have e:b*(x::r).length=b+b*r.length:=by rw [List.length_cons,Nat.mul_succ,Nat.add_comm]
  rw [e] at hn ⊢
  rw [cntL_cons,if_neg (by omega)]
  have:=cntL_bound g hg b r (n+g x) (fun y hy=>h y (by simp [hy])) (by omega)
  omega
theorem cnt_row (f:Nat) (l:List V):cnt (f+1) (vRow l)=cntL (cnt f) l 1:=by
 simp [vRow,cnt,mt,strEq]
theorem cnt_num (f:Nat) (n:Int):cnt (f+1) (vNum n)=1:=by simp [vNum,cnt,mt,strEq]
theorem cnt_str (f:Nat) (s:ByteArray):cnt (f+1) (vStr s)=1:=by simp [vStr,cnt]
theorem cnt_ver (v:Ver):cnt 2 (vVer v)=4:=by simp [vVer,cnt_row,cnt_num,cnt_str,cntL]
theorem cnt_mem (f:Nat) (m:Mem):cnt (f+2) (vMem m)=4:=by simp [vMem,cnt_row,cnt_num,cntL]
theorem cnt_ent (e:Ent) (h:e.vs.length<=12):cnt 4 (vEnt e)<=51:=by
 have h1:=cntL_bound (cnt 2) (fun v=>(cnt_range 2 v).1) 4 (e.vs.map vVer) 1 (fun x hx=>by
  obtain⟨v,_,rfl⟩:=List.mem_map.1 hx
  rw [cnt_ver];decide) (by rw [List.length_map];omega)
 rw [List.length_map] at h1
 rw [vEnt,cnt_row,cntL_cons,cnt_str,if_neg (by decide),cntL_cons,cnt_row,if_neg (by omega),cntL]
 omega
theorem mayV_vStt (s:Stt) (h5:s.lows.length=5) (h:mayS s=true):mayV (vStt s)=true:=by
 obtain⟨_,⟨a3,a4⟩,a5,_,_⟩:=mayS_parts.1 h
 have he:=((risE_iff _ _ _).1 a5).1
 have h1:=cntL_bound (cnt 4) (fun v=>(cnt_range 4 v).1) 51 (s.l.map vEnt) 1 (fun x hx=>by
  obtain⟨e,hm,rfl⟩:=List.mem_map.1 hx
  exact cnt_ent e (mayE_parts.1 (he e hm).1).2.2.2) (by rw [List.length_map];omega)
 have h2:=cntL_bound (cnt 4) (fun v=>(cnt_range 4 v).1) 4 (s.ms.map vMem) 1 (fun x hx=>by
  obtain⟨e,hm,rfl⟩:=List.mem_map.1 hx
  rw [cnt_mem];decide) (by rw [List.length_map];omega)
 have h3:=cntL_bound (cnt 4) (fun v=>(cnt_range 4 v).1) 1 (s.lows.map vNum) 1 (fun x hx=>by
  obtain⟨e,hm,rfl⟩:=List.mem_map.1 hx
  rw [cnt_num];decide) (by rw [List.length_map];omega)
 rw [List.length_map] at h1 h2 h3
 rw [mayV,decide_eq_true_eq,vStt,cnt_row,cntL_cons,cnt_num,if_neg (by decide),cntL_cons,cnt_row,if_neg (by omega),cntL_cons,cnt_row,if_neg (by omega),cntL_cons,cnt_row,if_neg (by omega),cntL]
 omega
theorem putL_bound (b:Nat):∀ l:List V,(∀ x∈l,(putV x).length<=b)->(putL l).length<=b*l.length
 | [],_=>by rw [putL];simp
 | x::r,h=>by
  have h1:=h x (by simp)
  have h2:=putL_bound b r fun y hy=>h y (by simp [hy])
  rw [putL,List.length_append,List.length_cons,Nat.mul_succ]
  omega
theorem txt_row (l:List V):txtV (vRow l)=putL l:=by simp [vRow,txtV]
theorem putV_row (l:List V) (b:Nat) (h:(putL l).length<=b) (hb:b<10000000):(putV (vRow l)).length<=b+9:=by
 rw [putV_len,txt_row]
 have:=dec_len7 (u:=(putL l).length) (by omega)
 omega
theorem homeI_ok {n:Int} (h:homeI n≠0):4294967296<=n/\n<25769803776:=by unfold homeI at h;split at h<;>omega
theorem okM_nums {lows:List Int} {seq:Int} {m:Mem} (hs:seq<=maxN) (h:okM lows seq m=true):i64ok m.req/\i64ok m.res.err/\i64ok m.res.ver:=by
 unfold okM at h
 simp only [Bool.and_eq_true,decide_eq_true_eq,Bool.not_eq_true',beq_eq_false_iff_ne,ne_eq] at h
 have:=homeI_ok h.1.1.1.1.1
 have hm:maxN=1099511627776:=rfl
 unfold i64ok
 omega
theorem putV_mem (m:Mem) (h:i64ok m.req/\i64ok m.res.err/\i64ok m.res.ver):(putV (vMem m)).length<=99:=by
 have a1:=putV_num _ h.1
 have a2:=putV_num _ h.2.1
 have a3:=putV_num _ h.2.2
 refine putV_row _ 90 ?_ (by decide)
 simp only [putL,List.length_append,List.length_nil]
 omega
theorem verOk_nums {v:Ver} (h:verOk v=true):i64ok v.ver/\v.body.size<=300:=by
 unfold verOk at h
 simp only [Bool.and_eq_true,decide_eq_true_eq] at h
 unfold i64ok
 omega
theorem putV_ver (v:Ver) (h:verOk v=true):(putV (vVer v)).length<=378:=by
 obtain⟨h1,h2⟩:=verOk_nums h
 have a1:=putV_num _ h1
 have a2:=putV_num (if v.gone then 1 else 0) (by unfold i64ok;split<;>omega)
 have a3:=putV_str v.body (by omega)
 refine putV_row _ 369 ?_ (by decide)
 simp only [putL,List.length_append,List.length_nil]
 omega
theorem okEnt_vers {seq:Int} {e:Ent} (h:okEnt seq e):∀ v∈e.vs,verOk v=true:=((risV_iff _ _).1 (mayE_parts.1 h.1).1).1
theorem putV_ent {seq:Int} (e:Ent) (h:okEnt seq e):(putV (vEnt e)).length<=4603:=by
 obtain⟨_,h2,_,h4⟩:=mayE_parts.1 h.1
 have a1:=putV_str e.key (by have:=keyB_len h2;omega)
 have a2:=putL_bound 378 (e.vs.map vVer) fun x hx=>by
  obtain⟨v,hv,rfl⟩:=List.mem_map.1 hx
  exact putV_ver v (okEnt_vers h v hv)
 rw [List.length_map] at a2
 have a3:=putV_row (e.vs.map vVer) 4536 (by omega) (by decide)
 have:=keyB_len h2
 refine putV_row _ 4594 ?_ (by decide)
 simp only [putL,List.length_append,List.length_nil]
 omega
theorem txt_vStt (s:Stt) (h5:s.lows.length=5) (h:mayS s=true):(txtV (vStt s)).length<=200000:=by
 obtain⟨⟨a1,a2⟩,⟨a3,a4⟩,a5,a6,a7⟩:=mayS_parts.1 h
 have hm:maxN=1099511627776:=rfl
 have he:=((risE_iff _ _ _).1 a5).1
 have hM:=((memB_iff _ _ _ _).1 a7).1
 have b1:=putL_bound 4603 (s.l.map vEnt) fun x hx=>by
  obtain⟨v,hv,rfl⟩:=List.mem_map.1 hx
  exact putV_ent v (he v hv)
 have b2:=putL_bound 99 (s.ms.map vMem) fun x hx=>by
  obtain⟨v,hv,rfl⟩:=List.mem_map.1 hx
  exact putV_mem v (okM_nums a2 (hM v hv))
 have b3:=putL_bound 30 (s.lows.map vNum) fun x hx=>by
  obtain⟨v,hv,rfl⟩:=List.mem_map.1 hx
  obtain⟨j,hj⟩:=List.getElem?_of_mem hv
  refine putV_num v ?_
  rcases (lowsB_iff _ _).1 a6 j v hj with h | h
  ·subst h;unfold i64ok;omega
  ·have:=homeI_ok (n:=v) (by omega)
   unfold i64ok;omega
 rw [List.length_map] at b1 b2 b3
 have c0:=putV_num s.seq (by unfold i64ok;omega)
 have c1:=putV_row (s.l.map vEnt) 184120 (by omega) (by decide)
 have c2:=putV_row (s.ms.map vMem) 9900 (by omega) (by decide)
 have c3:=putV_row (s.lows.map vNum) 150 (by omega) (by decide)
 rw [vStt,txt_row]
 simp only [putL,List.length_append,List.length_nil]
 omega
theorem okL_map {α:Type} (f:α->V) (l:List α) (h:∀ x∈l,okV (f x)):okL (l.map f):=by
 induction l with
 | nil=>rw [List.map_nil,okL];trivial
 | cons a r ih=>rw [List.map_cons,okL];exact⟨h a (by simp),ih fun x hx=>h x (by simp [hx])⟩
theorem okV_row (l:List V) (h:okL l):okV (vRow l):=by rw [vRow,okV];exact⟨by unfold i64ok;omega,h⟩
theorem okV_num (n:Int) (h:i64ok n):okV (vNum n):=by rw [vNum,okV,okL];exact⟨h,trivial⟩
theorem okV_str (s:ByteArray):okV (vStr s):=by rw [vStr,okV,okL];exact⟨by unfold i64ok;omega,trivial⟩
theorem okV_ver (v:Ver) (h:verOk v=true):okV (vVer v):=
 okV_row _ (by simp only [okL];exact⟨okV_num _ (verOk_nums h).1,okV_num _ (by unfold i64ok;split<;>omega),okV_str _,trivial⟩)
theorem okV_ent {seq:Int} (e:Ent) (h:okEnt seq e):okV (vEnt e):=
 okV_row _ (by simp only [okL];exact⟨okV_str _,okV_row _ (okL_map _ _ fun v hv=>okV_ver v (okEnt_vers h v hv)),trivial⟩)
theorem okV_mem (m:Mem) (h:i64ok m.req/\i64ok m.res.err/\i64ok m.res.ver):okV (vMem m):=
 okV_row _ (by simp only [okL];exact⟨okV_num _ h.1,okV_num _ h.2.1,okV_num _ h.2.2,trivial⟩)
theorem okV_vStt (s:Stt) (h:mayS s=true):okV (vStt s):=by
 obtain⟨⟨a1,a2⟩,⟨a3,a4⟩,a5,a6,a7⟩:=mayS_parts.1 h
 have hm:maxN=1099511627776:=rfl
 have he:=((risE_iff _ _ _).1 a5).1
 have hM:=((memB_iff _ _ _ _).1 a7).1
 refine okV_row _ ?_
 simp only [okL]
 refine⟨okV_num _ (by unfold i64ok;omega),okV_row _ (okL_map _ _ fun e hv=>okV_ent e (he e hv)),okV_row _ (okL_map _ _ fun m hv=>okV_mem m (okM_nums a2 (hM m hv))),okV_row _ (okL_map _ _ fun x hv=>okV_num x ?_),trivial⟩
 obtain⟨j,hj⟩:=List.getElem?_of_mem hv
 rcases (lowsB_iff _ _).1 a6 j x hj with h | h
 ·subst h;unfold i64ok;omega
 ·have:=homeI_ok (n:=x) (by omega)
  unfold i64ok;omega
theorem verV_vVer (v:Ver):verV (vVer v)=v:=by
 obtain⟨a,b,c⟩:=v
 cases b<;>rfl
theorem entV_vEnt (e:Ent):entV (vEnt e)=e:=by
 obtain⟨k,vs⟩:=e
 have e1:entV (vEnt ⟨k,vs⟩)=⟨k,(vs.map vVer).map verV⟩:=rfl
 rw [e1,List.map_map]
 have:(verV ∘ vVer)=id:=funext verV_vVer
 rw [this,List.map_id]
theorem memV_vMem (m:Mem):memV (vMem m)=m:=rfl
theorem sttV_vStt (s:Stt) (h5:s.lows.length=5):sttV (vStt s)=s:=by
 obtain⟨seq,l,ms,lows⟩:=s
 have e1:sttV (vStt ⟨seq,l,ms,lows⟩)=⟨seq,(l.map vEnt).map entV,(ms.map vMem).map memV,(List.range 5).map fun i=>vN ((lows.map vNum).getD i V0)⟩:=rfl
 have e2:(entV ∘ vEnt)=id:=funext entV_vEnt
 have e3:(memV ∘ vMem)=id:=funext memV_vMem
 rw [e1,List.map_map,List.map_map,e2,e3,List.map_id,List.map_id]
 congr 1
 simp only at h5
 match lows,h5 with
 | [a,b,c,d,e],_=>rfl
theorem putStt_may (s:Stt) (h5:s.lows.length=5) (h:mayS s=true):putStt s=putV (vStt s):=by
 have h1:=txt_vStt s h5 h
 have:=dec_len7 (u:=(txtV (vStt s)).length) (by omega)
 rw [putStt,if_pos h,putS,mayV_vStt s h5 h]
 simp [this]
theorem readStt_put (s:Stt) (h5:s.lows.length=5) (h:mayS s=true):readStt (putStt s)=(s,0):=by
 have h1:=txt_vStt s h5 h
 have ep:=putStt_may s h5 h
 have ea:=allV_put (vStt s) (mayV_vStt s h5 h) (okV_vStt s h) (by omega)
 rw [<-ep] at ea
 unfold readStt
 rw [ea]
 simp only [ne_eq,not_true_eq_false,if_false]
 rw [sttV_vStt s h5,if_neg]
 rintro (h | h)
 ·rw [ep] at h;exact putV_ne _ h
 ·exact h rfl
set_option maxRecDepth 100000
theorem toList_strEq (a b:ByteArray):(a.toList==b.toList)=strEq a b:=by
 rw [ByteArray.toList_eq,ByteArray.toList_eq]
 rfl
theorem eqVer_in (d:Nat) (w:World) (a b:Ver):(Op.equalIn (d+2) 52 (.agg (verC a).toArray) (.agg (verC b).toArray)).run Tryz.prog w=.ok (eqVer a b) w:=by
 have e:=run_equalIn_struct (P:=Tryz.prog) w (d+1) 52 (verC a).toArray (verC b).toArray (by kernel_rfl) (by kernel_rfl)
 rw [e]
 have hf:(Tryz.prog.fieldsOf 52).toList=(match Tryz.prog.underlying 52 with | some (.struct fs)=>fs.toList | _=>[]):=by kernel_rfl
 rw [hf,Tryz.underlying52]
 simp [verC,eqVer,<-toList_strEq,Op.eqFields,run_equalIn_int _ _ _ _ _ _ _ Tryz.underlying2,run_equalIn_bool' _ _ _ _ _ Tryz.underlying4,run_equalIn_string _ _ _ _ _ Tryz.underlying9,part,isAgg,run_underlying Tryz.underlying2,run_underlying Tryz.underlying4,run_underlying Tryz.underlying9]
 by_cases h1:a.ver=b.ver<;>by_cases h2:a.gone=b.gone<;>by_cases h3:a.body.toList=b.body.toList<;>simp [h1,h2,h3]
theorem eqRes_in (d:Nat) (w:World) (a b:Res):(Op.equalIn (d+2) 54 (.agg #[.int .i64 a.err,.int .i64 a.ver]) (.agg #[.int .i64 b.err,.int .i64 b.ver])).run Tryz.prog w=.ok (a.err==b.err&&a.ver==b.ver) w:=by
 have e:=run_equalIn_struct (P:=Tryz.prog) w (d+1) 54 #[.int .i64 a.err,.int .i64 a.ver] #[.int .i64 b.err,.int .i64 b.ver] (by kernel_rfl) (by kernel_rfl)
 rw [e]
 have hf:(Tryz.prog.fieldsOf 54).toList=(match Tryz.prog.underlying 54 with | some (.struct fs)=>fs.toList | _=>[]):=by kernel_rfl
 rw [hf,Tryz.underlying54]
 simp [Op.eqFields,run_equalIn_int _ _ _ _ _ _ _ Tryz.underlying2,run_equalIn_int _ _ _ _ _ _ _ Tryz.underlying27,part,isAgg,run_underlying Tryz.underlying2,run_underlying Tryz.underlying27]
 by_cases h1:a.err=b.err<;>by_cases h2:a.ver=b.ver<;>simp [h1,h2]
theorem size_res (w:World):(Go.sizeOf 54).run Tryz.prog w=.ok 2 w:=by kernel_rfl
theorem eqMem_in (d:Nat) (w:World) (a b:Mem):(Op.equalIn (d+3) 56 (.agg (memC a).toArray) (.agg (memC b).toArray)).run Tryz.prog w=.ok (eqMem a b) w:=by
 have e:=run_equalIn_struct (P:=Tryz.prog) w (d+2) 56 (memC a).toArray (memC b).toArray (by kernel_rfl) (by kernel_rfl)
 rw [e]
 have hf:(Tryz.prog.fieldsOf 56).toList=(match Tryz.prog.underlying 56 with | some (.struct fs)=>fs.toList | _=>[]):=by kernel_rfl
 rw [hf,Tryz.underlying56]
 have hr:∀ w,(Op.equalIn (d+2) 54 (.agg #[.int .i64 a.res.err,.int .i64 a.res.ver]) (.agg #[.int .i64 b.res.err,.int .i64 b.res.ver])).run Tryz.prog w=.ok (a.res.err==b.res.err&&a.res.ver==b.res.ver) w:=fun w=>eqRes_in d w a.res b.res
 simp [memC,eqMem,Op.eqFields,run_equalIn_int _ _ _ _ _ _ _ Tryz.underlying2,part,isAgg,run_underlying Tryz.underlying2,run_underlying Tryz.underlying54,size_res,hr]
 by_cases h1:a.req=b.req<;>by_cases h2:a.res.err=b.res.err<;>by_cases h3:a.res.ver=b.res.ver<;>simp [h1,h2,h3]
def eqD (a b:D):Bool:=a.kind==b.kind&&(strEq a.key b.key&&(strEq a.body b.body&&(a.ver==b.ver&&(a.cond==b.cond&&(strEq a.tag b.tag&&(a.req==b.req&&a.low==b.low))))))
theorem eqD_iff {a b:D}:eqD a b=true↔a=b:=by
 obtain⟨a1,a2,a3,a4,a5,a6,a7,a8⟩:=a
 obtain⟨b1,b2,b3,b4,b5,b6,b7,b8⟩:=b
 simp [eqD,strEq_iff]
theorem eqD_in (d:Nat) (w:World) (a b:D):(Op.equalIn (d+2) 32 (.agg (dC a).toArray) (.agg (dC b).toArray)).run Tryz.prog w=.ok (eqD a b) w:=by
 have e:=run_equalIn_struct (P:=Tryz.prog) w (d+1) 32 (dC a).toArray (dC b).toArray (by kernel_rfl) (by kernel_rfl)
 rw [e]
 have hf:(Tryz.prog.fieldsOf 32).toList=(match Tryz.prog.underlying 32 with | some (.struct fs)=>fs.toList | _=>[]):=by kernel_rfl
 rw [hf,Tryz.underlying32]
 simp [dC,eqD,<-toList_strEq,Op.eqFields,run_equalIn_int _ _ _ _ _ _ _ Tryz.underlying2,run_equalIn_int _ _ _ _ _ _ _ Tryz.underlying3,run_equalIn_string _ _ _ _ _ Tryz.underlying9,part,isAgg,run_underlying Tryz.underlying2,run_underlying Tryz.underlying3,run_underlying Tryz.underlying9]
 by_cases h1:a.kind=b.kind
 rotate_left
 ·simp [h1]
 by_cases h2:a.key.toList=b.key.toList
 rotate_left
 ·simp [h1,h2]
 by_cases h3:a.body.toList=b.body.toList
 rotate_left
 ·simp [h1,h2,h3]
 by_cases h4:a.ver=b.ver
 rotate_left
 ·simp [h1,h2,h3,h4]
 by_cases h5:a.cond=b.cond
 rotate_left
 ·simp [h1,h2,h3,h4,h5]
 by_cases h6:a.tag.toList=b.tag.toList
 rotate_left
 ·simp [h1,h2,h3,h4,h5,h6]
 by_cases h7:a.req=b.req<;>by_cases h8:a.low=b.low<;>simp [h1,h2,h3,h4,h5,h6,h7,h8]
theorem eql_run {T:TypeId} {xs ys:Array Value} {r:Bool} (hm:Tryz.prog.eqGuardType Tryz.prog.depth T=false) (h:∀ w,(Op.equalIn 10000 T (.agg xs) (.agg ys)).run Tryz.prog w=.ok r w) (ox oy:Operand) (w:World):
  (do eqGuard .eql T ox oy (.agg xs) (.agg ys);Go.binOp .eql T (.agg xs) (.agg ys):Sem Value).run Tryz.prog w=.ok (.bool r) w:=by
 simp only [Sem.run_bind,run_eqGuard_agg w .eql T ox oy xs ys hm,Result.andThen_ok,run_eql_struct,h]
theorem neq_run {T:TypeId} {xs ys:Array Value} {r:Bool} (hm:Tryz.prog.eqGuardType Tryz.prog.depth T=false) (h:∀ w,(Op.equalIn 10000 T (.agg xs) (.agg ys)).run Tryz.prog w=.ok r w) (ox oy:Operand) (w:World):
  (do eqGuard .neq T ox oy (.agg xs) (.agg ys);Go.binOp .neq T (.agg xs) (.agg ys):Sem Value).run Tryz.prog w=.ok (.bool (!r)) w:=by
 simp only [Sem.run_bind,run_eqGuard_agg w .neq T ox oy xs ys hm,Result.andThen_ok,run_neq_struct,h]
theorem gd_ver:Tryz.prog.eqGuardType Tryz.prog.depth 52=false:=by kernel_rfl
theorem gd_res:Tryz.prog.eqGuardType Tryz.prog.depth 54=false:=by kernel_rfl
theorem gd_mem:Tryz.prog.eqGuardType Tryz.prog.depth 56=false:=by kernel_rfl
theorem gd_deed:Tryz.prog.eqGuardType Tryz.prog.depth 32=false:=by kernel_rfl
set_option maxRecDepth 100000
theorem verC_flat (l:List Ver):Flat 3 (l.map verC):=Flat.map verC (fun _=>⟨rfl,rfl⟩) l
theorem RowV.elem {S:Nat->Prop} {w:World} {A:Option Addr} {n cap:Nat} {l:List Ver} (hR:Row S w A n cap (l.map verC).flatten) (i:Nat) (hi:i<l.length):∃ ad,A=some ad/\Go.Vc.cellsAt w (ad.add (i*3)) (verC l[i]) 0:=by
 obtain⟨ad,e,h⟩:=Row.elemF hR (by decide) (verC_flat l) i (by rw [List.length_map];exact hi)
 rw [List.getElem_map] at h
 exact⟨ad,e,h⟩
theorem row_max {S:Nat->Prop} {w:World} {A:Option Addr} {n cap:Nat} {xs:List Value} (hR:Row S w A n cap xs):n<=9223372036854775807:=Nat.le_trans (Nat.le_trans hR.1 hR.2.1) (by decide)
theorem lastV_get {l:List Ver} (h:l.length-1<l.length):lastV l=l[l.length-1]:=by
 unfold lastV
 rw [List.getLastD_eq_getLast?,List.getLast?_eq_getElem?,List.getElem?_eq_getElem h]
 rfl
theorem version_any (v:Ver) (w:World):Calls Tryz.prog 143 #[.agg (verC v).toArray] w (RetB (.bool (verOk v)) w):=by
 refine vE Tryz.func143 ?_
 intro g w1 h1
 have hc:=((Ctx.start w no (fun _ h=>h.elim)).loc h1).1
 repeat' (first | refine split_t (by assumption) ?_ | refine split_f (by assumption) ?_ | refine vc_nz (by decide) ?_ | refine⟨_,hc.cell 0 rfl _ rfl,?_⟩ | refine split_ (fun _=>?_) (fun _=>?_))
 all_goals (refine⟨ret_bool ?_,hc.below⟩)
 all_goals clear hc h1
 all_goals try simp only [Bool.not_eq_true',Bool.not_eq_false'] at*
 all_goals simp only [verOk,mt, *]
 all_goals first | rfl | (simp;done) | skip
theorem now_any (e:Ent) (A:Option Addr) (cap:Nat) (S:Nat->Prop) (w:World) (hR:Row S w A e.vs.length cap (e.vs.map verC).flatten):
  Calls Tryz.prog 148 #[.agg #[.string e.key,.slice A e.vs.length cap]] w (RetB (.tuple #[.agg (verC (nowE e).1).toArray,.bool (nowE e).2]) w):=by
 refine vE Tryz.func148 ?_
 intro g1 w1 h1
 have hc:=((Ctx.start w no (fun _ h=>h.elim)).loc h1).1
 refine hc.n fun g2 w2 h2 hc=>?_
 refine⟨_,hc.cell 1 rfl _ rfl,?_⟩
 have hM:=row_max hR
 by_cases h0:e.vs.length=0
 ·refine split_t (by show ((e.vs.length:Int)==0)=true;rw [h0];rfl) ?_
  repeat (first | (intro gA wA hA;have hc:=(hc.loc hA).1) | refine⟨_,hc.cell 0 rfl _ rfl,?_⟩ | (refine⟨_,?_,hc.cells 0 rfl,?_⟩;(· rfl)) | (refine⟨hc.may 0 rfl _ _ (nle rfl) rfl,?_⟩;intro wA hA;have hc:=(hc.set 0 rfl hA).1) | refine⟨_,hc.cell 1 rfl _ rfl,?_⟩ | (refine⟨_,?_,hc.cells 1 rfl,?_⟩;(· rfl)) | (refine⟨hc.may 1 rfl _ _ (nle rfl) rfl,?_⟩;intro wA hA;have hc:=(hc.set 1 rfl hA).1) | refine⟨_,hc.cell 2 rfl _ rfl,?_⟩ | (refine⟨_,?_,hc.cells 2 rfl,?_⟩;(· rfl)) | (refine⟨hc.may 2 rfl _ _ (nle rfl) rfl,?_⟩;intro wA hA;have hc:=(hc.set 2 rfl hA).1) | refine⟨_,hc.cell 3 rfl _ rfl,?_⟩ | (refine⟨_,?_,hc.cells 3 rfl,?_⟩;(· rfl)) | (refine⟨hc.may 3 rfl _ _ (nle rfl) rfl,?_⟩;intro wA hA;have hc:=(hc.set 3 rfl hA).1) | refine⟨_,hc.cell 4 rfl _ rfl,?_⟩ | (refine⟨_,?_,hc.cells 4 rfl,?_⟩;(· rfl)) | (refine⟨hc.may 4 rfl _ _ (nle rfl) rfl,?_⟩;intro wA hA;have hc:=(hc.set 4 rfl hA).1))
  rw [nowE,if_pos h0]
  exact⟨rfl,hc.below⟩
 refine split_f (by show ((e.vs.length:Int)==0)=false;rw [beq_eq_false_iff_ne];omega) ?_
 have hlt:e.vs.length-1<e.vs.length:=by omega
 obtain⟨ad,rfl,hcell⟩:=RowV.elem (hR.below hc.below) (e.vs.length-1) hlt
 have hw:IntKind.i64.wrap ((e.vs.length:Int)-1)=((e.vs.length-1:Nat):Int):=by rw [IntWalk.i64_in _ ⟨by omega,by omega⟩];omega
 refine⟨_,hc.cell 1 rfl _ rfl,?_⟩
 refine⟨_,hc.cell 1 rfl _ rfl,?_⟩
 refine⟨⟨by rw [hw];omega,by rw [hw];omega⟩,?_⟩
 refine⟨verC e.vs[e.vs.length-1],rfl,by rw [hw,Int.toNat_natCast];exact hcell,?_⟩
 refine hc.n fun g4 w4 h4 hc=>?_
 refine⟨hc.may 0 rfl 0 _ (Nat.le_refl 3) rfl,?_⟩
 intro w5 h5
 have hc:=(hc.set 0 rfl h5).1
 refine vD (.Q [0,1,2,3] (.n 4 (.q 5 .fin) .stop)) (fun x=>x.cell? ⟨g4,0,none⟩=some (.int .i64 e.vs[e.vs.length-1].ver)/\x.cell? ⟨g4,1,none⟩=some (.bool e.vs[e.vs.length-1].gone)/\x.cell? ⟨g4,2,none⟩=some (.string e.vs[e.vs.length-1].body)) ⟨hc.cell 0 rfl _ rfl,hc.cell 0 rfl _ rfl,hc.cell 0 rfl _ rfl⟩ ?_
 have hc:=hc.drew
 refine⟨verC e.vs[e.vs.length-1],rfl,fun x hx=>⟨hx.1,hx.2.1,hx.2.2,trivial⟩,?_⟩
 refine⟨_,fun x hx=>hx.2.1,?_⟩
 refine⟨⟨hc.may 1 rfl 0 _ (Nat.le_refl 3) rfl,?_⟩,trivial⟩
 intro w6 h6
 have hc:=(hc.set 1 rfl h6).1
 refine⟨⟨hc.cell 0 rfl _ rfl,hc.cell 0 rfl _ rfl,hc.cell 0 rfl _ rfl⟩,?_⟩
 refine hc.a 1 rfl rfl ?_
 refine⟨?_,hc.below⟩
 rw [nowE,if_neg h0,lastV_get hlt]
 rfl
theorem rnow_any (e:Ent) (A:Option Addr) (cap:Nat) (S:Nat->Prop) (w:World) (hR:Row S w A e.vs.length cap (e.vs.map verC).flatten):
  Calls Tryz.prog 138 #[.agg #[.string e.key,.slice A e.vs.length cap]] w (RetB (.tuple #[.agg (verC (nowE e).1).toArray,.bool (nowE e).2]) w):=by
 refine vE Tryz.func138 ?_
 intro g1 w1 h1
 have hc:=((Ctx.start w no (fun _ h=>h.elim)).loc h1).1
 refine hc.n fun g2 w2 h2 hc=>?_
 refine⟨_,hc.cell 1 rfl _ rfl,?_⟩
 have hM:=row_max hR
 by_cases h0:e.vs.length=0
 ·refine split_t (by show ((e.vs.length:Int)==0)=true;rw [h0];rfl) ?_
  repeat (first | (intro gA wA hA;have hc:=(hc.loc hA).1) | refine⟨_,hc.cell 0 rfl _ rfl,?_⟩ | (refine⟨_,?_,hc.cells 0 rfl,?_⟩;(· rfl)) | (refine⟨hc.may 0 rfl _ _ (nle rfl) rfl,?_⟩;intro wA hA;have hc:=(hc.set 0 rfl hA).1) | refine⟨_,hc.cell 1 rfl _ rfl,?_⟩ | (refine⟨_,?_,hc.cells 1 rfl,?_⟩;(· rfl)) | (refine⟨hc.may 1 rfl _ _ (nle rfl) rfl,?_⟩;intro wA hA;have hc:=(hc.set 1 rfl hA).1) | refine⟨_,hc.cell 2 rfl _ rfl,?_⟩ | (refine⟨_,?_,hc.cells 2 rfl,?_⟩;(· rfl)) | (refine⟨hc.may 2 rfl _ _ (nle rfl) rfl,?_⟩;intro wA hA;have hc:=(hc.set 2 rfl hA).1) | refine⟨_,hc.cell 3 rfl _ rfl,?_⟩ | (refine⟨_,?_,hc.cells 3 rfl,?_⟩;(· rfl)) | (refine⟨hc.may 3 rfl _ _ (nle rfl) rfl,?_⟩;intro wA hA;have hc:=(hc.set 3 rfl hA).1) | refine⟨_,hc.cell 4 rfl _ rfl,?_⟩ | (refine⟨_,?_,hc.cells 4 rfl,?_⟩;(· rfl)) | (refine⟨hc.may 4 rfl _ _ (nle rfl) rfl,?_⟩;intro wA hA;have hc:=(hc.set 4 rfl hA).1))
  rw [nowE,if_pos h0]
  exact⟨rfl,hc.below⟩
 refine split_f (by show ((e.vs.length:Int)==0)=false;rw [beq_eq_false_iff_ne];omega) ?_
 have hlt:e.vs.length-1<e.vs.length:=by omega
 obtain⟨ad,rfl,hcell⟩:=RowV.elem (hR.below hc.below) (e.vs.length-1) hlt
 have hw:IntKind.i64.wrap ((e.vs.length:Int)-1)=((e.vs.length-1:Nat):Int):=by rw [IntWalk.i64_in _ ⟨by omega,by omega⟩];omega
 refine⟨_,hc.cell 1 rfl _ rfl,?_⟩
 refine⟨_,hc.cell 1 rfl _ rfl,?_⟩
 refine⟨⟨by rw [hw];omega,by rw [hw];omega⟩,?_⟩
 refine⟨verC e.vs[e.vs.length-1],rfl,by rw [hw,Int.toNat_natCast];exact hcell,?_⟩
 refine hc.n fun g4 w4 h4 hc=>?_
 refine⟨hc.may 0 rfl 0 _ (Nat.le_refl 3) rfl,?_⟩
 intro w5 h5
 have hc:=(hc.set 0 rfl h5).1
 refine vD (.Q [0,1,2,3] (.n 4 (.q 5 .fin) .stop)) (fun x=>x.cell? ⟨g4,0,none⟩=some (.int .i64 e.vs[e.vs.length-1].ver)/\x.cell? ⟨g4,1,none⟩=some (.bool e.vs[e.vs.length-1].gone)/\x.cell? ⟨g4,2,none⟩=some (.string e.vs[e.vs.length-1].body)) ⟨hc.cell 0 rfl _ rfl,hc.cell 0 rfl _ rfl,hc.cell 0 rfl _ rfl⟩ ?_
 have hc:=hc.drew
 refine⟨verC e.vs[e.vs.length-1],rfl,fun x hx=>⟨hx.1,hx.2.1,hx.2.2,trivial⟩,?_⟩
 refine⟨_,fun x hx=>hx.2.1,?_⟩
 refine⟨⟨hc.may 1 rfl 0 _ (Nat.le_refl 3) rfl,?_⟩,trivial⟩
 intro w6 h6
 have hc:=(hc.set 1 rfl h6).1
 refine⟨⟨hc.cell 0 rfl _ rfl,hc.cell 0 rfl _ rfl,hc.cell 0 rfl _ rfl⟩,?_⟩
 refine hc.a 1 rfl rfl ?_
 refine⟨?_,hc.below⟩
 rw [nowE,if_neg h0,lastV_get hlt]
 rfl
theorem holds_any (e:Ent) (c:Int) (tag:ByteArray) (A:Option Addr) (cap:Nat) (S:Nat->Prop) (w:World) (hR:Row S w A e.vs.length cap (e.vs.map verC).flatten) (hb:(nowE e).1.body.size<=maxLen):
  Calls Tryz.prog 183 #[.agg #[.string e.key,.slice A e.vs.length cap],.int .i64 c,.string tag] w (RetB (.bool (holdsE e c tag)) w):=by
 refine vE Tryz.func183 ?_
 intro g1 w1 h1
 have hc:=((Ctx.start w no (fun _ h=>h.elim)).loc h1).1
 refine hc.a 0 rfl rfl ?_
 refine hc.q (now_any e A cap S w1 (hR.below hc.below)) fun w2 h2 hc=>?_
 refine hc.n fun g4 w4 h4 hc=>?_
 unfold holdsE
 generalize nowE e=q at*
 obtain⟨v,is⟩:=q
 simp only at hb ⊢
 refine⟨hc.may 0 rfl 0 _ (Nat.le_refl 3) rfl,?_⟩
 intro w5 h5
 have hc:=(hc.set 0 rfl h5).1
 cases c0:(c==0)
 rotate_left
 ·refine split_t c0 ?_
  exact⟨rfl,hc.below⟩
 refine split_f c0 ?_
 cases c1:(c==1)
 rotate_left
 ·refine split_t c1 ?_
  exact⟨rfl,hc.below⟩
 refine split_f c1 ?_
 cases c2:(c==2)
 ·refine split_f c2 ?_
  exact⟨rfl,hc.below⟩
 refine split_t c2 ?_
 cases is
 ·exact⟨rfl,hc.below⟩
 refine⟨_,hc.cell 0 rfl _ rfl,?_⟩
 refine hc.q (tag_any v.body hb _) fun w6 h6 hc=>?_
 exact⟨rfl,hc.below⟩
theorem rholds_any (e:Ent) (c:Int) (tag:ByteArray) (A:Option Addr) (cap:Nat) (S:Nat->Prop) (w:World) (hR:Row S w A e.vs.length cap (e.vs.map verC).flatten) (hb:(nowE e).1.body.size<=maxLen):
  Calls Tryz.prog 91 #[.agg #[.string e.key,.slice A e.vs.length cap],.int .i64 c,.string tag] w (RetB (.bool (holdsE e c tag)) w):=by
 refine vE Tryz.func91 ?_
 intro g1 w1 h1
 have hc:=((Ctx.start w no (fun _ h=>h.elim)).loc h1).1
 refine hc.a 0 rfl rfl ?_
 refine hc.q (rnow_any e A cap S w1 (hR.below hc.below)) fun w2 h2 hc=>?_
 refine hc.n fun g4 w4 h4 hc=>?_
 unfold holdsE
 generalize nowE e=q at*
 obtain⟨v,is⟩:=q
 simp only at hb ⊢
 refine⟨hc.may 0 rfl 0 _ (Nat.le_refl 3) rfl,?_⟩
 intro w5 h5
 have hc:=(hc.set 0 rfl h5).1
 cases c0:(c==0)
 rotate_left
 ·refine split_t c0 ?_
  exact⟨rfl,hc.below⟩
 refine split_f c0 ?_
 cases c1:(c==1)
 rotate_left
 ·refine split_t c1 ?_
  exact⟨rfl,hc.below⟩
 refine split_f c1 ?_
 cases c2:(c==2)
 ·refine split_f c2 ?_
  exact⟨rfl,hc.below⟩
 refine split_t c2 ?_
 cases is
 ·exact⟨rfl,hc.below⟩
 refine⟨_,hc.cell 0 rfl _ rfl,?_⟩
 refine hc.q (rtag_any v.body (by simp only [maxLen] at hb;omega) _) fun w6 h6 hc=>?_
 exact⟨rfl,hc.below⟩
def idxI (o:Option Nat):Int:=match o with | some i=>(i:Int) | none => -1
theorem place1_any (v:Ver) (a:Addr) (n:Int) (w:World) (ha:w.cell? a=some (.int .i64 n)):Calls Tryz.prog 220 #[.agg (verC v).toArray,.pointer (some a)] w (RetB (.bool (v.ver==n)) w):=by
 obtain⟨ab,ao,asub⟩:=a
 refine vE Tryz.func220 ?_
 intro g w1 h1
 have hc:=((Ctx.start w no (fun _ h=>h.elim)).loc h1).1
 refine⟨_,hc.cell 0 rfl _ rfl,?_⟩
 refine⟨_,cell_later hc.below ha,?_⟩
 exact⟨rfl,hc.below⟩
theorem idxV_drop (l:List Ver) (n:Int):∀ i,i<=l.length->(∀ j (hj:j<l.length),j<i->(l[j].ver==n)=false)->idxV l n=(idxV (l.drop i) n).map (·+i):=by
 intro i
 induction i with
 | zero=>intro _ _;simp
 | succ i ih=>
  intro hi h
  have hlt:i<l.length:=by omega
  rw [ih (by omega) fun j hj hji=>h j hj (by omega),List.drop_eq_getElem_cons hlt,idxV,h i hlt (by omega)]
  simp only [Bool.false_eq_true,if_false,Option.map_map]
  congr 1
  funext x
  simp only [Function.comp_apply]
  omega
theorem indexFuncV_any (l:List Ver) (n:Int) (a:Addr) (A:Option Addr) (cap:Nat) (S:Nat->Prop) (w:World) (hR:Row S w A l.length cap (l.map verC).flatten) (ha:w.cell? a=some (.int .i64 n)):
  Calls Tryz.prog 219 #[.slice A l.length cap,.func (.func 220) #[] #[.pointer (some a)]] w (RetB (.int .i64 (idxI (idxV l n))) w):=by
 refine vE Tryz.func219 ?_
 have hM:=row_max hR
 refine⟨Nat,fun i=>[(0,.slice A l.length cap),(1,.func (.func 220) #[] #[.pointer (some a)]),(7,.int .i64 l.length),(8,.int .i64 i)],
  fun i w'=>i<=l.length/\(∀ j (hj:j<l.length),j<i->(l[j].ver==n)=false)/\Below w.heap.size w w',fun i _=>l.length-i,0,
  ⟨rfl,rfl,rfl,rfl,trivial⟩,⟨Nat.zero_le _,fun j hj h=>absurd h (Nat.not_lt_zero _),Below.refl _ _⟩,?_⟩
 rintro i w' u ⟨hi,he,hb⟩
 by_cases hlt:i<l.length
 ·refine split_t (decide_eq_true (by omega)) ?_
  obtain⟨ad,rfl,hcell⟩:=RowV.elem (hR.below hb) i hlt
  refine⟨⟨by omega,by omega⟩,?_⟩
  refine⟨verC l[i],rfl,hcell,?_⟩
  refine call_b (place1_any l[i] a n w' (cell_later hb ha)) ?_
  intro w2 h2
  have hb2:=hb.trans (h2.mono hb.size)
  cases hv:(l[i].ver==n)
  ·refine⟨i+1,⟨rfl,rfl,rfl,congrArg _ (i_down (by omega)),trivial⟩,⟨hlt,fun j hj h=>?_,hb2⟩,by show l.length-(i+1)<l.length-i;omega⟩
   rcases Nat.lt_succ_iff_lt_or_eq.1 h with h | h
   ·exact he j hj h
   ·subst h;exact hv
  ·refine⟨?_,hb2⟩
   rw [idxV_drop l n i hi he,List.drop_eq_getElem_cons hlt,idxV,hv]
   show Ending.returned (.int .i64 (i:Int))=Ending.returned (.int .i64 ((0+i:Nat):Int))
   rw [Nat.zero_add]
 ·refine split_f (decide_eq_false (by omega)) ?_
  refine⟨?_,hb⟩
  rw [idxV_drop l n i hi he,List.drop_of_length_le (by omega),idxV]
  rfl
theorem place_any (e:Ent) (n:Int) (A:Option Addr) (cap:Nat) (S:Nat->Prop) (w:World) (hR:Row S w A e.vs.length cap (e.vs.map verC).flatten):
  Calls Tryz.prog 194 #[.agg #[.string e.key,.slice A e.vs.length cap],.int .i64 n] w (RetB (.int .i64 (idxI (idxV e.vs n))) w):=by
 refine vE Tryz.func194 ?_
 intro g1 w1 h1
 have hc:=((Ctx.start w no (fun _ h=>h.elim)).loc h1).1
 refine hc.n fun g2 w2 h2 hc=>?_
 refine⟨_,hc.cell 1 rfl _ rfl,?_⟩
 refine call_b (indexFuncV_any e.vs n ⟨g2,0,none⟩ A cap S w2 (hR.below hc.below) (hc.cell 0 rfl _ rfl)) ?_
 intro w3 h3
 exact⟨rfl,(hc.quiet h3).1.below⟩
def atE (e:Ent) (n:Int):Ver × Bool:=match idxV e.vs n with | none=>(Ver0,false) | some i=>((e.vs[i]?).getD Ver0,true)
theorem at_any (e:Ent) (n:Int) (A:Option Addr) (cap:Nat) (S:Nat->Prop) (w:World) (hR:Row S w A e.vs.length cap (e.vs.map verC).flatten):
  Calls Tryz.prog 147 #[.agg #[.string e.key,.slice A e.vs.length cap],.int .i64 n] w (RetB (.tuple #[.agg (verC (atE e n).1).toArray,.bool (atE e n).2]) w):=by
 refine vE Tryz.func147 ?_
 intro g1 w1 h1
 have hc:=((Ctx.start w no (fun _ h=>h.elim)).loc h1).1
 refine hc.n fun g2 w2 h2 hc=>?_
 refine hc.a 1 rfl rfl ?_
 refine hc.q (place_any e n A cap S w2 (hR.below hc.below)) fun w3 h3 hc=>?_
 have hM:=row_max hR
 unfold atE
 cases hi:idxV e.vs n with
 | none=>
  refine hc.s 0 rfl fun wS hS hc=>?_
  refine hc.a 0 rfl rfl ?_
  exact⟨rfl,hc.below⟩
 | some i=>
  obtain⟨hlt,_⟩:=idxV_lt hi
  refine⟨_,hc.cell 1 rfl _ rfl,?_⟩
  obtain⟨ad,rfl,hcell⟩:=RowV.elem (hR.below hc.below) i hlt
  refine⟨⟨Int.natCast_nonneg _,Int.ofNat_lt.2 hlt⟩,?_⟩
  refine⟨verC e.vs[i],rfl,hcell,?_⟩
  refine⟨hc.may 0 rfl 0 _ (Nat.le_refl 3) rfl,?_⟩
  intro w4 h4
  have hc:=(hc.set 0 rfl h4).1
  refine hc.a 0 rfl rfl ?_
  simp only
  rw [List.getElem?_eq_getElem hlt]
  exact⟨rfl,hc.below⟩
theorem rat_any (e:Ent) (n:Int) (A:Option Addr) (cap:Nat) (S:Nat->Prop) (w:World) (hR:Row S w A e.vs.length cap (e.vs.map verC).flatten):
  Calls Tryz.prog 140 #[.agg #[.string e.key,.slice A e.vs.length cap],.int .i64 n] w (RetB (.tuple #[.int .i64 ((idxV e.vs n).getD 0:Nat),.bool (idxV e.vs n).isSome]) w):=by
 refine vE Tryz.func140 ?_
 intro g1 w1 h1
 have hc:=((Ctx.start w no (fun _ h=>h.elim)).loc h1).1
 have hM:=row_max hR
 refine⟨Nat,fun i=>[(1,.int .i64 n),(2,.pointer (some ⟨g1,0,none⟩)),(6,.int .i64 i)],
  fun i w'=>i<=e.vs.length/\(∀ j (hj:j<e.vs.length),j<i->(e.vs[j].ver==n)=false)/\Ctx no w no w' [(g1,50,[.string e.key,.slice A e.vs.length cap])],fun i _=>e.vs.length-i,0,
  ⟨rfl,rfl,rfl,trivial⟩,⟨Nat.zero_le _,fun j hj h=>absurd h (Nat.not_lt_zero _),hc⟩,?_⟩
 rintro i w' u ⟨hi,he,hc⟩
 refine⟨_,hc.cell 0 rfl _ rfl,?_⟩
 by_cases hlt:i<e.vs.length
 ·refine split_t (decide_eq_true (by omega)) ?_
  obtain⟨ad,rfl,hcell⟩:=RowV.elem (hR.below hc.below) i hlt
  refine⟨_,hc.cell 0 rfl _ rfl,?_⟩
  refine⟨⟨by omega,by omega⟩,?_⟩
  have h0:w'.cell? (ad.add ((i:Int).toNat*3))=some (.int .i64 e.vs[i].ver):=by
   have:=hcell.1
   rw [add_add,Nat.add_zero] at this
   exact this
  generalize ad.add ((i:Int).toNat*3)=ae at h0 ⊢
  obtain⟨ab,ao,asub⟩:=ae
  refine⟨_,h0,?_⟩
  cases hv:(e.vs[i].ver==n)
  ·refine split_f hv ?_
   refine⟨i+1,⟨rfl,rfl,congrArg _ (i_down (by omega)),trivial⟩,⟨hlt,fun j hj h=>?_,hc⟩,by show e.vs.length-(i+1)<e.vs.length-i;omega⟩
   rcases Nat.lt_succ_iff_lt_or_eq.1 h with h | h
   ·exact he j hj h
   ·subst h;exact hv
  ·refine split_t hv ?_
   have e0:idxV e.vs n=some i:=by
    rw [idxV_drop e.vs n i hi he,List.drop_eq_getElem_cons hlt,idxV,hv]
    simp
   rw [e0]
   exact⟨rfl,hc.below⟩
 ·refine split_f (decide_eq_false (by omega)) ?_
  have e0:idxV e.vs n=none:=by rw [idxV_drop e.vs n i hi he,List.drop_of_length_le (by omega),idxV];rfl
  rw [e0]
  exact⟨rfl,hc.below⟩
set_option maxRecDepth 100000
theorem tmay_any (e:Ent) (hk:strok e.key) (A:Option Addr) (cap:Nat) (S:Nat->Prop) (w:World) (hR:Row S w A e.vs.length cap (e.vs.map verC).flatten):
  Calls Tryz.prog 99 #[.agg #[.string e.key,.slice A e.vs.length cap]] w (RetB (.bool (mayE e)) w):=by
 refine vE Tryz.func99 ?_
 intro g1 w1 h1
 have hc:=((Ctx.start w no (fun _ h=>h.elim)).loc h1).1
 refine⟨_,hc.cell 0 rfl _ rfl,?_⟩
 have hM:=row_max hR
 refine⟨Nat × Int,fun x=>[(1,.pointer (some ⟨g1,0,none⟩)),(3,.int .i64 x.2),(7,.slice A e.vs.length cap),(8,.int .i64 e.vs.length),(9,.int .i64 x.1)],
  fun x w'=>x.1<=e.vs.length/\risV x.2 (e.vs.drop x.1)=risV 0 e.vs/\Ctx no w no w' [(g1,50,[.string e.key,.slice A e.vs.length cap])],fun x _=>e.vs.length-x.1,(0,0),
  ⟨rfl,rfl,rfl,rfl,rfl,trivial⟩,⟨Nat.zero_le _,rfl,hc⟩,?_⟩
 rintro⟨i,last⟩ w' u ⟨hi,he,hc⟩
 simp only at hi he
 by_cases hlt:i<e.vs.length
 ·refine split_t (decide_eq_true (by show (i:Int)<(e.vs.length:Int);omega)) ?_
  obtain⟨ad,rfl,hcell⟩:=RowV.elem (hR.below hc.below) i hlt
  rw [List.drop_eq_getElem_cons hlt,risV] at he
  generalize e.vs[i]=v at*
  refine⟨⟨by omega,by omega⟩,?_⟩
  refine⟨verC v,rfl,hcell,?_⟩
  refine hc.n fun g5 w5 h5 hc=>?_
  refine⟨hc.may 0 rfl 0 _ (Nat.le_refl 3) rfl,?_⟩
  intro w6 h6
  have hc:=(hc.set 0 rfl h6).1
  refine⟨verC v,rfl,hc.cells 0 rfl,?_⟩
  refine hc.q (version_any v _) fun w7 h7 hc=>?_
  have out:(verOk v&&decide (last<v.ver))=false->RetB (.bool (mayE e)) w (.returned (.bool false)) w7:=fun h=>⟨by rw [h] at he;rw [mayE,<-he];rfl,hc.below⟩
  cases hv:verOk v
  ·refine out ?_
   rw [hv];rfl
  ·refine⟨_,hc.cell 0 rfl _ rfl,?_⟩
   by_cases hl:last<v.ver
   ·refine split_f (decide_eq_false (by show ¬ v.ver<=last;omega)) ?_
    refine⟨_,hc.cell 0 rfl _ rfl,?_⟩
    refine⟨(i+1,v.ver),⟨rfl,rfl,rfl,rfl,congrArg _ (i_down (by omega)),trivial⟩,⟨hlt,?_,hc.drop⟩,by show e.vs.length-(i+1)<e.vs.length-i;omega⟩
    rw [<-he,hv,decide_eq_true hl]
    rfl
   ·refine split_t (decide_eq_true (by show v.ver<=last;omega)) ?_
    refine out ?_
    rw [decide_eq_false hl,Bool.and_false]
 ·refine split_f (decide_eq_false (by show ¬ (i:Int)<(e.vs.length:Int);omega)) ?_
  rw [List.drop_of_length_le (by omega),risV] at he
  have em:mayE e=(keyB e.key&&decide (1<=e.vs.length)&&decide (e.vs.length<=12)):=by rw [mayE,<-he];rfl
  rw [em]
  refine⟨_,hc.cell 0 rfl _ rfl,?_⟩
  refine hc.q (key_any e.key hk _) fun w3 h3 hc=>?_
  cases hkk:keyB e.key
  ·exact⟨rfl,hc.below⟩
  refine⟨_,hc.cell 0 rfl _ rfl,?_⟩
  by_cases h1:1<=e.vs.length
  ·refine split_t (decide_eq_true (by show (1:Int)<=(e.vs.length:Int);omega)) ?_
   refine⟨_,hc.cell 0 rfl _ rfl,?_⟩
   refine⟨ret_bool ?_,hc.below⟩
   rw [decide_eq_true h1,Bool.true_and,Bool.true_and]
   by_cases h12:e.vs.length<=12
   ·rw [decide_eq_true h12];exact decide_eq_true (by omega)
   ·rw [decide_eq_false h12];exact decide_eq_false (by omega)
  ·refine split_f (decide_eq_false (by show ¬ (1:Int)<=(e.vs.length:Int);omega)) ?_
   refine⟨ret_bool ?_,hc.below⟩
   rw [decide_eq_false h1]
   rfl
def prevV (l:List Ver) (i:Nat):Int:=if i=0 then 0 else ((l[i-1]?).getD Ver0).ver
theorem rmayE_any (e:Ent) (hk:strok e.key) (A:Option Addr) (cap:Nat) (S:Nat->Prop) (w:World) (hR:Row S w A e.vs.length cap (e.vs.map verC).flatten):
  Calls Tryz.prog 61 #[.agg #[.string e.key,.slice A e.vs.length cap]] w (RetB (.bool (mayE e)) w):=by
 refine vE Tryz.func61 ?_
 intro g1 w1 h1
 have hc:=((Ctx.start w no (fun _ h=>h.elim)).loc h1).1
 have hM:=row_max hR
 refine⟨Nat,fun i=>[(1,.pointer (some ⟨g1,0,none⟩)),(3,.int .i64 i)],
  fun i w'=>i<=e.vs.length/\risV (prevV e.vs i) (e.vs.drop i)=risV 0 e.vs/\Ctx no w no w' [(g1,50,[.string e.key,.slice A e.vs.length cap])],fun i _=>e.vs.length-i,0,
  ⟨rfl,rfl,trivial⟩,⟨Nat.zero_le _,rfl,hc⟩,?_⟩
 rintro i w' u ⟨hi,he,hc⟩
 refine⟨_,hc.cell 0 rfl _ rfl,?_⟩
 by_cases hlt:i<e.vs.length
 ·refine split_t (decide_eq_true (by omega)) ?_
  obtain⟨ad,rfl,hcell⟩:=RowV.elem (hR.below hc.below) i hlt
  have hnext:prevV e.vs (i+1)=e.vs[i].ver:=by
   rw [prevV,if_neg (by omega),Nat.add_sub_cancel,List.getElem?_eq_getElem hlt];rfl
  rw [List.drop_eq_getElem_cons hlt,risV] at he
  generalize e.vs[i]=v at*
  refine⟨_,hc.cell 0 rfl _ rfl,?_⟩
  refine⟨⟨by omega,by omega⟩,?_⟩
  refine⟨verC v,rfl,hcell,?_⟩
  refine hc.n fun g4 w4 h4 hc=>?_
  refine⟨hc.may 0 rfl 0 _ (Nat.le_refl 3) rfl,?_⟩
  intro w5 h5
  have hc:=(hc.set 0 rfl h5).1
  have out:(verOk v&&decide (prevV e.vs i<v.ver))=false->RetB (.bool (mayE e)) w (.returned (.bool false)) w5.drew:=fun h=>⟨by rw [h] at he;rw [mayE,<-he];rfl,hc.drew.below⟩
  refine vD (.Q [0,1,2,3,4,5,6,7,8,9,10,11,12,13,14,15,16,17,18,19,20,21,22,23,24,25,26,27,28,29,30,31,32,33,34,35,36,37,38] .fin) (Keeps (fun b=>b<w5.heap.size) w5) (Keeps.start _ _) ?_
  refine⟨_,fun x hx=>hx.look (hc.cell 0 rfl _ rfl),?_⟩
  rcases Int.lt_or_le v.ver 1 with c1 | c1
  ·refine split_t (decide_eq_true c1) ?_
   refine out ?_
   rw [verOk,decide_eq_false (show ¬ 1<=v.ver by omega)];rfl
  refine split_f (decide_eq_false (show ¬ v.ver<1 by omega)) ?_
  refine⟨_,fun x hx=>hx.look (hc.cell 0 rfl _ rfl),?_⟩
  rcases Int.lt_or_le 1099511627776 v.ver with c2 | c2
  ·refine split_t (decide_eq_true c2) ?_
   refine out ?_
   rw [verOk,decide_eq_false (show ¬ v.ver<=1099511627776 by omega),Bool.and_false];rfl
  refine split_f (decide_eq_false (show ¬ 1099511627776<v.ver by omega)) ?_
  have hprev:∀ x:Int,prevV e.vs i=x->x<v.ver->decide (prevV e.vs i<v.ver)=true:=fun x e1 h=>decide_eq_true (by rw [e1];exact h)
  have tail:decide (prevV e.vs i<v.ver)=true->True:=fun _=>trivial
  rcases Nat.eq_zero_or_pos i with h3 | h3
  all_goals first
   | (refine split_f (decide_eq_false (show ¬ (0:Int)<(i:Int) by omega)) ?_;have hp:decide (prevV e.vs i<v.ver)=true:=hprev 0 (by rw [prevV,if_pos h3]) (by omega))
   | (
     refine split_t (decide_eq_true (show (0:Int)<(i:Int) by omega)) ?_
     have hj:i-1<e.vs.length:=by omega
     have hw:IntKind.i64.wrap ((i:Int)-1)=((i-1:Nat):Int):=by rw [IntWalk.i64_in _ ⟨by omega,by omega⟩];omega
     have hpv:prevV e.vs i=e.vs[i-1].ver:=by rw [prevV,if_neg (by omega),List.getElem?_eq_getElem hj];rfl
     obtain⟨ad',e',hcell'⟩:=RowV.elem (hR.below hc.below) (i-1) hj
     cases e'
     refine⟨_,fun x hx=>hx.look (hc.cell 0 rfl _ rfl),?_⟩
     refine⟨_,fun x hx=>hx.look (hc.cell 1 rfl _ rfl),?_⟩
     refine⟨⟨by rw [hw];omega,by rw [hw];omega⟩,?_⟩
     have h0:w5.cell? (ad.add ((IntKind.i64.wrap ((i:Int)-1)).toNat*3))=some (.int .i64 e.vs[i-1].ver):=by
      have:=hcell'.1
      rw [add_add,Nat.add_zero] at this
      rw [hw,Int.toNat_natCast]
      exact this
     generalize ad.add ((IntKind.i64.wrap ((i:Int)-1)).toNat*3)=ae at h0 ⊢
     obtain⟨ab,ao,asub⟩:=ae
     refine⟨_,fun x hx=>hx.look h0,?_⟩
     rcases Int.lt_or_le e.vs[i-1].ver v.ver with c4 | c4
     rotate_left
     ·refine split_t (decide_eq_true c4) ?_
      refine out ?_
      rw [hpv,decide_eq_false (show ¬ e.vs[i-1].ver<v.ver by omega),Bool.and_false]
     refine split_f (decide_eq_false (show ¬ v.ver<=e.vs[i-1].ver by omega)) ?_
     have hp:decide (prevV e.vs i<v.ver)=true:=hprev _ hpv c4)
  all_goals refine⟨_,fun x hx=>hx.look (hc.cell 0 rfl _ rfl),?_⟩
  all_goals rcases Int.lt_or_le 300 (v.body.size:Int) with c5 | c5
  all_goals first
   | (
     refine split_t (decide_eq_true c5) ?_
     refine out ?_
     rw [verOk,decide_eq_false (show ¬ (v.body.size:Int)<=300 by omega),Bool.and_false];rfl)
   | (refine split_f (decide_eq_false (show ¬ 300<(v.body.size:Int) by omega)) ?_)
  all_goals refine⟨_,fun x hx=>hx.look (hc.cell 0 rfl _ rfl),?_⟩
  all_goals have hok3:(decide (1<=v.ver)&&decide (v.ver<=1099511627776)&&decide ((v.body.size:Int)<=300))=true:=by rw [decide_eq_true c1,decide_eq_true c2,decide_eq_true c5];rfl
  all_goals rcases Bool.eq_false_or_eq_true v.gone with hg | hg
  all_goals first
   | (
     refine split_f hg ?_
     have hok:verOk v=true:=by rw [verOk,hok3,hg];rfl
     refine⟨i+1,⟨rfl,congrArg _ (i_down (by omega)),trivial⟩,⟨hlt,by rw [hnext,<-he,hok,hp];rfl,hc.drew.drop⟩,by show e.vs.length-(i+1)<e.vs.length-i;omega⟩)
   | (
     refine split_t hg ?_
     refine⟨_,fun x hx=>hx.look (hc.cell 0 rfl _ rfl),?_⟩
     cases hm:mt v.body
     ·refine split_t (by show (!strEq v.body ⟨#[]⟩)=true;rw [show strEq v.body ⟨#[]⟩=false from hm];rfl) ?_
      refine out ?_
      rw [verOk,hok3,hg,hm];rfl
     ·refine split_f (by show (!strEq v.body ⟨#[]⟩)=false;rw [show strEq v.body ⟨#[]⟩=true from hm];rfl) ?_
      have hok:verOk v=true:=by rw [verOk,hok3,hm,Bool.or_true];rfl
      refine⟨i+1,⟨rfl,congrArg _ (i_down (by omega)),trivial⟩,⟨hlt,by rw [hnext,<-he,hok,hp];rfl,hc.drew.drop⟩,by show e.vs.length-(i+1)<e.vs.length-i;omega⟩)
 ·refine split_f (decide_eq_false (by omega)) ?_
  rw [List.drop_of_length_le (by omega),risV] at he
  have em:mayE e=(keyB e.key&&decide (1<=e.vs.length)&&decide (e.vs.length<=12)):=by rw [mayE,<-he];rfl
  rw [em]
  refine⟨_,hc.cell 0 rfl _ rfl,?_⟩
  refine hc.q (rkey_any e.key hk _) fun w3 h3 hc=>?_
  cases hkk:keyB e.key
  ·exact⟨rfl,hc.below⟩
  refine⟨_,hc.cell 0 rfl _ rfl,?_⟩
  by_cases h1:1<=e.vs.length
  ·refine split_t (decide_eq_true (by show (1:Int)<=(e.vs.length:Int);omega)) ?_
   refine⟨_,hc.cell 0 rfl _ rfl,?_⟩
   refine⟨ret_bool ?_,hc.below⟩
   rw [decide_eq_true h1,Bool.true_and,Bool.true_and]
   by_cases h12:e.vs.length<=12
   ·rw [decide_eq_true h12];exact decide_eq_true (by omega)
   ·rw [decide_eq_false h12];exact decide_eq_false (by omega)
  ·refine split_f (decide_eq_false (by show ¬ (1:Int)<=(e.vs.length:Int);omega)) ?_
   refine⟨ret_bool ?_,hc.below⟩
   rw [decide_eq_false h1]
   rfl
theorem reqE_any (a b:Ent) (A B:Option Addr) (cap cap':Nat) (S:Nat->Prop) (w:World) (hR:Row S w A a.vs.length cap (a.vs.map verC).flatten) (hR':Row S w B b.vs.length cap' (b.vs.map verC).flatten):
  Calls Tryz.prog 53 #[.agg #[.string a.key,.slice A a.vs.length cap],.agg #[.string b.key,.slice B b.vs.length cap']] w (RetB (.bool (eqE a b)) w):=by
 refine vE Tryz.func53 ?_
 intro g1 w1 h1
 have hc:=((Ctx.start w no (fun _ h=>h.elim)).loc h1).1
 refine hc.n fun g2 w2 h2 hc=>?_
 have hM:=row_max hR
 refine⟨_,hc.cell 1 rfl _ rfl,?_⟩
 refine⟨_,hc.cell 0 rfl _ rfl,?_⟩
 unfold eqE
 cases hk:strEq a.key b.key
 ·refine split_t (by show (!strEq a.key b.key)=true;rw [hk];rfl) ?_
  exact⟨rfl,hc.below⟩
 refine split_f (by show (!strEq a.key b.key)=false;rw [hk];rfl) ?_
 refine⟨_,hc.cell 1 rfl _ rfl,?_⟩
 refine⟨_,hc.cell 0 rfl _ rfl,?_⟩
 by_cases hl:a.vs.length=b.vs.length
 rotate_left
 ·refine split_t (by show ((a.vs.length:Int) != (b.vs.length:Int))=true;rw [bne_iff_ne];omega) ?_
  rw [eqAll_len _ _ _ hl]
  exact⟨rfl,hc.below⟩
 refine split_f (by show ((a.vs.length:Int) != (b.vs.length:Int))=false;rw [hl];simp) ?_
 refine⟨Nat,fun i=>[(2,.pointer (some ⟨g1,0,none⟩)),(3,.pointer (some ⟨g2,0,none⟩)),(5,.int .i64 i)],
  fun i w'=>i<=a.vs.length/\eqAll eqVer (a.vs.drop i) (b.vs.drop i)=eqAll eqVer a.vs b.vs/\Ctx no w no w' [(g2,50,[.string b.key,.slice B b.vs.length cap']),(g1,50,[.string a.key,.slice A a.vs.length cap])],fun i _=>a.vs.length-i,0,
  ⟨rfl,rfl,rfl,trivial⟩,⟨Nat.zero_le _,rfl,hc⟩,?_⟩
 rintro i w' u ⟨hi,he,hc⟩
 refine⟨_,hc.cell 1 rfl _ rfl,?_⟩
 by_cases hlt:i<a.vs.length
 ·refine split_t (decide_eq_true (by omega)) ?_
  obtain⟨ad,rfl,hcell⟩:=RowV.elem (hR.below hc.below) i hlt
  obtain⟨bd,rfl,hcell'⟩:=RowV.elem (hR'.below hc.below) i (by omega)
  rw [List.drop_eq_getElem_cons hlt,List.drop_eq_getElem_cons (show i<b.vs.length by omega),eqAll] at he
  generalize a.vs[i]=x at*
  generalize b.vs[i]'(by omega)=y at*
  refine vD (.Q [0,1,2,3,4,5,6,7,8,9,10] .fin) (Keeps (fun b=>b<w'.heap.size) w') (Keeps.start _ _) ?_
  refine⟨_,fun z hz=>hz.look (hc.cell 1 rfl _ rfl),?_⟩
  refine⟨⟨by omega,by omega⟩,?_⟩
  refine⟨verC x,rfl,fun z hz=>hz.looks _ _ hcell,?_⟩
  refine⟨_,fun z hz=>hz.look (hc.cell 0 rfl _ rfl),?_⟩
  refine⟨⟨by omega,by omega⟩,?_⟩
  refine⟨verC y,rfl,fun z hz=>hz.looks _ _ hcell',?_⟩
  refine⟨_,fun w=>neq_run gd_ver (eqVer_in 9998 · x y) _ _ w,?_⟩
  have hc:=hc.drew
  cases hv:eqVer x y
  ·rw [hv] at he
   refine⟨?_,hc.below⟩
   rw [<-he]
   rfl
  ·rw [hv] at he
   refine⟨i+1,⟨rfl,rfl,congrArg _ (i_down (by omega)),trivial⟩,⟨hlt,he,hc⟩,by show a.vs.length-(i+1)<a.vs.length-i;omega⟩
 ·refine split_f (decide_eq_false (by omega)) ?_
  rw [List.drop_of_length_le (by omega),List.drop_of_length_le (by omega),eqAll] at he
  rw [<-he]
  exact⟨rfl,hc.below⟩
set_option maxRecDepth 100000
def RetO (e sz n:Nat) (xs:List Value) (w:World) (en:Ending) (w':World):Prop:=∃ A cap,en=.returned (.slice A n cap)/\Below w.heap.size w w'/\w'.ownsRow w.heap.size e sz (.slice A n cap) n xs
theorem Row.cut {S:Nat->Prop} {w:World} {A:Option Addr} {n cap k:Nat} {css:List (List Value)} (hR:Row S w A n cap css.flatten) (hF:Flat k css) (hk:0<k) (hn:css.length=n) (hA:A=none):n=0/\css.flatten=[]:=by
 subst hA
 rcases Nat.eq_zero_or_pos n with h | h
 ·refine⟨h,List.eq_nil_of_length_eq_zero ?_⟩
  rw [hF.len,hn,h,Nat.zero_mul]
 ·obtain⟨ad,e,_⟩:=Row.elemF hR hk hF 0 (by omega)
  cases e
theorem info_V:(Tryz.prog.info? 52).map (fun i=>(i.zero,i.size,i.bytes))=some (some (.agg #[.int .i64 0,.bool false,.string ⟨#[]⟩]),3,32):=by kernel_rfl
theorem slnil_V (a:Option Addr) (n c:Nat) (ox oy:Operand) (w:World):(do eqGuard .eql 48 ox oy (.slice a n c) (.slice none 0 0);Go.binOp .eql 48 (.slice a n c) (.slice none 0 0):Sem Value).run Tryz.prog w=.ok (.bool a.isNone) w:=by
 have h:=Lib.run_eql_slice_nil (P:=Tryz.prog) w 48 52 a n c 0 0 Tryz.underlying48
 simp only [eqGuard]
 simpa using h
theorem cloneV_any (A:Option Addr) (n cap:Nat) (css:List (List Value)) (hF:Flat 3 css) (hn:css.length=n) (hb:n<=1000000) (S:Nat->Prop) (w:World) (hR:Row S w A n cap css.flatten):
  Calls Tryz.prog 89 #[.slice A n cap] w (RetO 52 3 n css.flatten w):=by
 refine vE Tryz.func89 ?_
 refine⟨_,fun w=>slnil_V A n cap _ _ w,?_⟩
 cases A with
 | none=>
  obtain⟨h0,h1⟩:=Row.cut hR hF (by decide) hn rfl
  subst h0
  rw [h1]
  exact⟨none,0,rfl,Below.refl _ _,World.ownsRow_nil _ _ _ _⟩
 | some ad=>
  intro g w1 h1
  have hc:=Ctx.start w no (fun _ h=>h.elim)
  obtain⟨hc,hf,ho⟩:=Own.made hc h1 3 0 rfl (Nat.zero_le _)
  refine app_row Tryz.underlying48 info_V rfl (by decide) hc ho (hR.below h1.below) (by rw [hF.len,hn]) hF.ones (by omega) (by decide) ?_
  intro A' cap' w2 hc hf ho _
  rw [Nat.zero_add] at ho ⊢
  rw [List.nil_append] at ho
  exact⟨A',cap',rfl,hc.below,ho.row⟩
theorem deleteV_any {S0 S:Nat->Prop} {w0 w:World} {l:List LB} (hc:Ctx S0 w0 S w l) (css:List (List Value)) (hF:Flat 3 css) {A:Option Addr} {cap:Nat} (ho:Own S w0.heap.size w l 52 3 A css.length cap css.flatten) (i:Nat) (hi:i<css.length) (j:Int) (hj:j=i+1):
  Calls Tryz.prog 230 #[.slice A css.length cap,.int .i64 i,.int .i64 j] w (fun en w'=>∃ A',en=.returned (.slice A' (css.length-1) cap)/\Ctx S0 w0 S w' l/\Fut S w S w'/\Own S w0.heap.size w' l 52 3 A' (css.length-1) cap (css.take i++css.drop (i+1)).flatten):=by
 cases hA:A with
 | none=>
  obtain⟨h0,_⟩:=ho.none' hA
  omega
 | some a=>
 obtain⟨g,cur,e1,hc,hcl,hct,hnc,hcm⟩:=ho.opened hc hA
 rw [hA] at e1
 cases e1
 have hM:cap<=9223372036854775807:=Nat.le_trans hcm (by decide)
 generalize hn:css.length=n at*
 refine vE Tryz.func230 ?_
 refine⟨⟨by omega,by omega,by omega,by omega⟩,?_⟩
 refine split_f (by show ((i:Int)==j)=false;rw [beq_eq_false_iff_ne];omega) ?_
 refine vD (.Q [0,1,2,3,4,5] (.n 6 (.q 7 .fin) .stop)) (fun _=>True) trivial ?_
 have hc:=hc.drew
 refine⟨⟨by omega,by omega,by omega,by omega⟩,?_⟩
 refine⟨⟨by omega,by omega,by omega,by omega⟩,?_⟩
 refine⟨?_,trivial⟩
 have hjn:j.toNat=i+1:=by omega
 have hyl:((css.drop (i+1)).flatten).length=(n-(i+1))*3:=by rw [(hF.drop _).len,List.length_drop,hn]
 have hcd:(cur.drop ((i+1)*3)).take ((css.drop (i+1)).flatten).length=(css.drop (i+1)).flatten:=by
  rw [hF.flat_drop,<-hct,List.drop_take,List.length_take,List.length_drop,hcl]
  congr 1
  omega
 have hcells:∀ ad:Addr,ad=(if (cap:Int)=j then (⟨g,0,none⟩:Addr) else (⟨g,0,none⟩:Addr).add (j.toNat*3))->Go.Vc.cellsAt w.drew ad (css.drop (i+1)).flatten 0:=by
  intro ad had
  by_cases hcj:(cap:Int)=j
  ·have:(css.drop (i+1)).flatten=[]:=List.eq_nil_of_length_eq_zero (by rw [hyl];omega)
   rw [this];trivial
  ·rw [if_neg hcj,Addr.add_lit,Nat.zero_add,hjn] at had
   rw [had]
   exact hc.cellsAt 0 rfl _ _ hcd
 refine app_room Tryz.underlying48 info_V hc hcl (n:=i) (m:=n-(i+1)) (c:=((cap:Int)-j).toNat) (by omega) hyl (hcells _ rfl) (hF.drop _).ones ?_ ?_ ?_
 ·have e0:(if (cap:Int)=0 then some (⟨g,0,none⟩:Addr) else (some (⟨g,0,none⟩:Addr)).map (·.add ((0:Int).toNat*3)))=some ⟨g,0,none⟩:=by split<;>rfl
  show Value.slice (if (cap:Int)=0 then some (⟨g,0,none⟩:Addr) else (some (⟨g,0,none⟩:Addr)).map (·.add ((0:Int).toNat*3))) ((i:Int)-0).toNat ((cap:Int)-0).toNat=_
  rw [e0]
  congr 1<;>omega
 ·show Value.slice (if (cap:Int)=j then some (⟨g,0,none⟩:Addr) else (some (⟨g,0,none⟩:Addr)).map (·.add (j.toNat*3))) ((n:Int)-j).toNat ((cap:Int)-j).toNat=_
  have e0:(if (cap:Int)=j then some (⟨g,0,none⟩:Addr) else (some (⟨g,0,none⟩:Addr)).map (·.add (j.toNat*3)))=some (if (cap:Int)=j then (⟨g,0,none⟩:Addr) else (⟨g,0,none⟩:Addr).add (j.toNat*3)):=by split<;>rfl
  rw [e0]
  congr 1
  omega
 intro w2 hc hf2
 refine⟨trivial,?_⟩
 have hn1:i+(n-(i+1))=n-1:=by omega
 rw [hn1]
 have hcur2:(cur.take (i*3)++(css.drop (i+1)).flatten++cur.drop ((i+(n-(i+1)))*3)).length=cap*3:=by
  rw [List.length_append,List.length_append,List.length_take,List.length_drop,hyl,hcl]
  omega
 have htk2:(cur.take (i*3)++(css.drop (i+1)).flatten++cur.drop ((i+(n-(i+1)))*3)).take ((n-1)*3)=(css.take i++css.drop (i+1)).flatten:=by
  have e1:(cur.take (i*3)++(css.drop (i+1)).flatten).length=(n-1)*3:=by rw [List.length_append,List.length_take,hyl,hcl];omega
  rw [List.take_left' e1,List.flatten_append,hF.flat_take,<-hct,List.take_take]
  congr 2
  omega
 generalize cur.take (i*3)++(css.drop (i+1)).flatten++cur.drop ((i+(n-(i+1)))*3)=cur2 at*
 refine⟨⟨by omega,by omega,by omega,by omega⟩,?_⟩
 refine clear_run Tryz.underlying48 (z:=.agg #[.int .i64 0,.bool false,.string ⟨#[]⟩]) (fun w=>by kernel_rfl) (a:=⟨g,(n-1)*3,none⟩) (n:=1) (c:=cap-(n-1)) (by decide) ?_ (zs:=[.int .i64 0,.bool false,.string ⟨#[]⟩]) (by kernel_rfl) (hc.may 0 rfl ((n-1)*3) [.int .i64 0,.bool false,.string ⟨#[]⟩] (by rw [hcur2];show (n-1)*3+3<=_;omega) rfl) ?_
 ·show Value.slice (if (cap:Int)=((n-1:Nat):Int) then some (⟨g,0,none⟩:Addr) else (some (⟨g,0,none⟩:Addr)).map (·.add (((n-1:Nat):Int).toNat*3))) ((n:Int)-((n-1:Nat):Int)).toNat ((cap:Int)-((n-1:Nat):Int)).toNat=_
  rw [if_neg (by omega),Option.map_some,Addr.add_lit,Nat.zero_add,Int.toNat_natCast]
  congr 1<;>omega
 intro w3 h3
 have hC:=hc.set 0 rfl h3
 have hc:=hC.1
 have hlen3:(putAt cur2 ((n-1)*3) [.int .i64 0,.bool false,.string ⟨#[]⟩]).length=cap*3:=by rw [putAt_len,hcur2]
 obtain⟨hc,ho⟩:=Ctx.closed hc 3 (n-1) cap (by omega) hcm hlen3
 refine⟨some ⟨g,0,none⟩,rfl,hc,hf2.trans hC.2,?_⟩
 rw [<-htk2]
 have e3:(putAt cur2 ((n-1)*3) [.int .i64 0,.bool false,.string ⟨#[]⟩]).take ((n-1)*3)=cur2.take ((n-1)*3):=by
  rw [putAt_eq _ _ _ (by rw [hcur2];show (n-1)*3+3<=_;omega),List.append_assoc,List.take_left' (by rw [List.length_take,hcur2];omega)]
 rw [<-e3]
 exact ho
theorem info_E:(Tryz.prog.info? 50).map (fun i=>(i.zero,i.size,i.bytes))=some (some (.agg #[.string ⟨#[]⟩,.slice none 0 0]),2,40):=by kernel_rfl
theorem slnil_E (a:Option Addr) (n c:Nat) (ox oy:Operand) (w:World):(do eqGuard .eql 39 ox oy (.slice a n c) (.slice none 0 0);Go.binOp .eql 39 (.slice a n c) (.slice none 0 0):Sem Value).run Tryz.prog w=.ok (.bool a.isNone) w:=by
 have h:=Lib.run_eql_slice_nil (P:=Tryz.prog) w 39 50 a n c 0 0 Tryz.underlying39
 simp only [eqGuard]
 simpa using h
theorem cloneE_any (A:Option Addr) (n cap:Nat) (css:List (List Value)) (hF:Flat 2 css) (hn:css.length=n) (hb:n<=1000000) (S:Nat->Prop) (w:World) (hR:Row S w A n cap css.flatten):
  Calls Tryz.prog 87 #[.slice A n cap] w (RetO 50 2 n css.flatten w):=by
 refine vE Tryz.func87 ?_
 refine⟨_,fun w=>slnil_E A n cap _ _ w,?_⟩
 cases A with
 | none=>
  obtain⟨h0,h1⟩:=Row.cut hR hF (by decide) hn rfl
  subst h0
  rw [h1]
  exact⟨none,0,rfl,Below.refl _ _,World.ownsRow_nil _ _ _ _⟩
 | some ad=>
  intro g w1 h1
  have hc:=Ctx.start w no (fun _ h=>h.elim)
  obtain⟨hc,hf,ho⟩:=Own.made hc h1 2 0 rfl (Nat.zero_le _)
  refine app_row Tryz.underlying39 info_E rfl (by decide) hc ho (hR.below h1.below) (by rw [hF.len,hn]) hF.ones (by omega) (by decide) ?_
  intro A' cap' w2 hc hf ho _
  rw [Nat.zero_add] at ho ⊢
  rw [List.nil_append] at ho
  exact⟨A',cap',rfl,hc.below,ho.row⟩
theorem deleteE_any {S0 S:Nat->Prop} {w0 w:World} {l:List LB} (hc:Ctx S0 w0 S w l) (css:List (List Value)) (hF:Flat 2 css) {A:Option Addr} {cap:Nat} (ho:Own S w0.heap.size w l 50 2 A css.length cap css.flatten) (i:Nat) (hi:i<css.length) (j:Int) (hj:j=i+1):
  Calls Tryz.prog 211 #[.slice A css.length cap,.int .i64 i,.int .i64 j] w (fun en w'=>∃ A',en=.returned (.slice A' (css.length-1) cap)/\Ctx S0 w0 S w' l/\Fut S w S w'/\Own S w0.heap.size w' l 50 2 A' (css.length-1) cap (css.take i++css.drop (i+1)).flatten):=by
 cases hA:A with
 | none=>
  obtain⟨h0,_⟩:=ho.none' hA
  omega
 | some a=>
 obtain⟨g,cur,e1,hc,hcl,hct,hnc,hcm⟩:=ho.opened hc hA
 rw [hA] at e1
 cases e1
 have hM:cap<=9223372036854775807:=Nat.le_trans hcm (by decide)
 generalize hn:css.length=n at*
 refine vE Tryz.func211 ?_
 refine⟨⟨by omega,by omega,by omega,by omega⟩,?_⟩
 refine split_f (by show ((i:Int)==j)=false;rw [beq_eq_false_iff_ne];omega) ?_
 refine vD (.Q [0,1,2,3,4,5] (.n 6 (.q 7 .fin) .stop)) (fun _=>True) trivial ?_
 have hc:=hc.drew
 refine⟨⟨by omega,by omega,by omega,by omega⟩,?_⟩
 refine⟨⟨by omega,by omega,by omega,by omega⟩,?_⟩
 refine⟨?_,trivial⟩
 have hjn:j.toNat=i+1:=by omega
 have hyl:((css.drop (i+1)).flatten).length=(n-(i+1))*2:=by rw [(hF.drop _).len,List.length_drop,hn]
 have hcd:(cur.drop ((i+1)*2)).take ((css.drop (i+1)).flatten).length=(css.drop (i+1)).flatten:=by
  rw [hF.flat_drop,<-hct,List.drop_take,List.length_take,List.length_drop,hcl]
  congr 1
  omega
 have hcells:∀ ad:Addr,ad=(if (cap:Int)=j then (⟨g,0,none⟩:Addr) else (⟨g,0,none⟩:Addr).add (j.toNat*2))->Go.Vc.cellsAt w.drew ad (css.drop (i+1)).flatten 0:=by
  intro ad had
  by_cases hcj:(cap:Int)=j
  ·have:(css.drop (i+1)).flatten=[]:=List.eq_nil_of_length_eq_zero (by rw [hyl];omega)
   rw [this];trivial
  ·rw [if_neg hcj,Addr.add_lit,Nat.zero_add,hjn] at had
   rw [had]
   exact hc.cellsAt 0 rfl _ _ hcd
 refine app_room Tryz.underlying39 info_E hc hcl (n:=i) (m:=n-(i+1)) (c:=((cap:Int)-j).toNat) (by omega) hyl (hcells _ rfl) (hF.drop _).ones ?_ ?_ ?_
 ·have e0:(if (cap:Int)=0 then some (⟨g,0,none⟩:Addr) else (some (⟨g,0,none⟩:Addr)).map (·.add ((0:Int).toNat*2)))=some ⟨g,0,none⟩:=by split<;>rfl
  show Value.slice (if (cap:Int)=0 then some (⟨g,0,none⟩:Addr) else (some (⟨g,0,none⟩:Addr)).map (·.add ((0:Int).toNat*2))) ((i:Int)-0).toNat ((cap:Int)-0).toNat=_
  rw [e0]
  congr 1<;>omega
 ·show Value.slice (if (cap:Int)=j then some (⟨g,0,none⟩:Addr) else (some (⟨g,0,none⟩:Addr)).map (·.add (j.toNat*2))) ((n:Int)-j).toNat ((cap:Int)-j).toNat=_
  have e0:(if (cap:Int)=j then some (⟨g,0,none⟩:Addr) else (some (⟨g,0,none⟩:Addr)).map (·.add (j.toNat*2)))=some (if (cap:Int)=j then (⟨g,0,none⟩:Addr) else (⟨g,0,none⟩:Addr).add (j.toNat*2)):=by split<;>rfl
  rw [e0]
  congr 1
  omega
 intro w2 hc hf2
 refine⟨trivial,?_⟩
 have hn1:i+(n-(i+1))=n-1:=by omega
 rw [hn1]
 have hcur2:(cur.take (i*2)++(css.drop (i+1)).flatten++cur.drop ((i+(n-(i+1)))*2)).length=cap*2:=by
  rw [List.length_append,List.length_append,List.length_take,List.length_drop,hyl,hcl]
  omega
 have htk2:(cur.take (i*2)++(css.drop (i+1)).flatten++cur.drop ((i+(n-(i+1)))*2)).take ((n-1)*2)=(css.take i++css.drop (i+1)).flatten:=by
  have e1:(cur.take (i*2)++(css.drop (i+1)).flatten).length=(n-1)*2:=by rw [List.length_append,List.length_take,hyl,hcl];omega
  rw [List.take_left' e1,List.flatten_append,hF.flat_take,<-hct,List.take_take]
  congr 2
  omega
 generalize cur.take (i*2)++(css.drop (i+1)).flatten++cur.drop ((i+(n-(i+1)))*2)=cur2 at*
 refine⟨⟨by omega,by omega,by omega,by omega⟩,?_⟩
 refine clear_run Tryz.underlying39 (z:=.agg #[.string ⟨#[]⟩,.slice none 0 0]) (fun w=>by kernel_rfl) (a:=⟨g,(n-1)*2,none⟩) (n:=1) (c:=cap-(n-1)) (by decide) ?_ (zs:=[.string ⟨#[]⟩,.slice none 0 0]) (by kernel_rfl) (hc.may 0 rfl ((n-1)*2) [.string ⟨#[]⟩,.slice none 0 0] (by rw [hcur2];show (n-1)*2+2<=_;omega) rfl) ?_
 ·show Value.slice (if (cap:Int)=((n-1:Nat):Int) then some (⟨g,0,none⟩:Addr) else (some (⟨g,0,none⟩:Addr)).map (·.add (((n-1:Nat):Int).toNat*2))) ((n:Int)-((n-1:Nat):Int)).toNat ((cap:Int)-((n-1:Nat):Int)).toNat=_
  rw [if_neg (by omega),Option.map_some,Addr.add_lit,Nat.zero_add,Int.toNat_natCast]
  congr 1<;>omega
 intro w3 h3
 have hC:=hc.set 0 rfl h3
 have hc:=hC.1
 have hlen3:(putAt cur2 ((n-1)*2) [.string ⟨#[]⟩,.slice none 0 0]).length=cap*2:=by rw [putAt_len,hcur2]
 obtain⟨hc,ho⟩:=Ctx.closed hc 2 (n-1) cap (by omega) hcm hlen3
 refine⟨some ⟨g,0,none⟩,rfl,hc,hf2.trans hC.2,?_⟩
 rw [<-htk2]
 have e3:(putAt cur2 ((n-1)*2) [.string ⟨#[]⟩,.slice none 0 0]).take ((n-1)*2)=cur2.take ((n-1)*2):=by
  rw [putAt_eq _ _ _ (by rw [hcur2];show (n-1)*2+2<=_;omega),List.append_assoc,List.take_left' (by rw [List.length_take,hcur2];omega)]
 rw [<-e3]
 exact ho
theorem info_M:(Tryz.prog.info? 56).map (fun i=>(i.zero,i.size,i.bytes))=some (some (.agg #[.int .i64 0,.int .i64 0,.int .i64 0]),3,24):=by kernel_rfl
theorem slnil_M (a:Option Addr) (n c:Nat) (ox oy:Operand) (w:World):(do eqGuard .eql 40 ox oy (.slice a n c) (.slice none 0 0);Go.binOp .eql 40 (.slice a n c) (.slice none 0 0):Sem Value).run Tryz.prog w=.ok (.bool a.isNone) w:=by
 have h:=Lib.run_eql_slice_nil (P:=Tryz.prog) w 40 56 a n c 0 0 Tryz.underlying40
 simp only [eqGuard]
 simpa using h
theorem cloneM_any (A:Option Addr) (n cap:Nat) (css:List (List Value)) (hF:Flat 3 css) (hn:css.length=n) (hb:n<=1000000) (S:Nat->Prop) (w:World) (hR:Row S w A n cap css.flatten):
  Calls Tryz.prog 88 #[.slice A n cap] w (RetO 56 3 n css.flatten w):=by
 refine vE Tryz.func88 ?_
 refine⟨_,fun w=>slnil_M A n cap _ _ w,?_⟩
 cases A with
 | none=>
  obtain⟨h0,h1⟩:=Row.cut hR hF (by decide) hn rfl
  subst h0
  rw [h1]
  exact⟨none,0,rfl,Below.refl _ _,World.ownsRow_nil _ _ _ _⟩
 | some ad=>
  intro g w1 h1
  have hc:=Ctx.start w no (fun _ h=>h.elim)
  obtain⟨hc,hf,ho⟩:=Own.made hc h1 3 0 rfl (Nat.zero_le _)
  refine app_row Tryz.underlying40 info_M rfl (by decide) hc ho (hR.below h1.below) (by rw [hF.len,hn]) hF.ones (by omega) (by decide) ?_
  intro A' cap' w2 hc hf ho _
  rw [Nat.zero_add] at ho ⊢
  rw [List.nil_append] at ho
  exact⟨A',cap',rfl,hc.below,ho.row⟩
set_option maxRecDepth 100000
def RetA (A:Option Addr) (cap:Nat) (e:Ent) (q:Ent × Bool) (w:World) (en:Ending) (w':World):Prop:=
 if q.2 then ∃ A' cap',en=.returned (.tuple #[.agg #[.string q.1.key,.slice A' q.1.vs.length cap'],.bool true])/\Below w.heap.size w w'/\w'.ownsRow w.heap.size 52 3 (.slice A' q.1.vs.length cap') q.1.vs.length (q.1.vs.map verC).flatten
 else en=.returned (.tuple #[.agg #[.string e.key,.slice A e.vs.length cap],.bool false])/\Below w.heap.size w w'
theorem snocC (l:List Ver) (v:Ver):(l.map verC).flatten++verC v=((l++[v]).map verC).flatten:=by simp
theorem cutC (l:List Ver) (i:Nat):((l.map verC).take i++(l.map verC).drop (i+1)).flatten=((l.take i++l.drop (i+1)).map verC).flatten:=by simp
set_option maxHeartbeats 1000000 in
theorem add_any (e:Ent) (v:Ver) (A:Option Addr) (cap:Nat) (hb:e.vs.length<=1000000) (S:Nat->Prop) (w:World) (hR:Row S w A e.vs.length cap (e.vs.map verC).flatten):
  Calls Tryz.prog 184 #[.agg #[.string e.key,.slice A e.vs.length cap],.agg (verC v).toArray] w (RetA A cap e (addE e v) w):=by
 refine vE Tryz.func184 ?_
 intro g1 w1 h1
 have hc:=((Ctx.start w no (fun _ h=>h.elim)).loc h1).1
 refine hc.n fun g2 w2 h2 hc=>?_
 refine hc.n fun g3 w3 h3 hc=>?_
 refine hc.a 2 rfl rfl ?_
 refine hc.q (now_any e A cap S w3 (hR.below hc.below)) fun w4 h4 hc=>?_
 have hM:=row_max hR
 refine hc.n fun g5 w5 h5 hc=>?_
 refine⟨hc.may 0 rfl 0 _ (Nat.le_refl 3) rfl,?_⟩
 intro w6 h6
 have hc:=(hc.set 0 rfl h6).1
 refine⟨_,hc.cell 3 rfl _ rfl,?_⟩
 have bad:((e.vs.length≠0/\v.ver<=(lastV e.vs).ver)\/12<=e.vs.length)->addE e v=(e,false):=fun h=>by rw [addE,if_pos h]
 have full:∀ h:e.vs.length≠0->¬ v.ver<=(lastV e.vs).ver,12<=e.vs.length\/addE e v=(⟨e.key,e.vs++[v]⟩,true):=fun h=>by
  rcases Nat.lt_or_ge e.vs.length 12 with h12 | h12
  ·right
   rw [addE,if_neg]
   rintro (h' | h')
   ·exact h h'.1 h'.2
   ·omega
  ·exact .inl h12
 rcases Nat.eq_zero_or_pos e.vs.length with h0 | h0
 all_goals first
  | (
    refine split_f (decide_eq_false (show ¬ (0:Int)<(e.vs.length:Int) by omega)) ?_
    have full:=full (fun h=>absurd h0 h))
  | (
    refine split_t (decide_eq_true (show (0:Int)<(e.vs.length:Int) by omega)) ?_
    have hn:nowE e=(lastV e.vs,!(lastV e.vs).gone):=by rw [nowE,if_neg (by omega)]
    rw [hn] at hc
    refine⟨_,hc.cell 2 rfl _ rfl,?_⟩
    have hlv:w6.cell? ⟨g5,0,none⟩=some (.int .i64 (lastV e.vs).ver):=hc.cell 0 rfl _ rfl
    refine⟨_,hlv,?_⟩
    rcases Int.lt_or_le (lastV e.vs).ver v.ver with hl | hl
    rotate_left
    ·refine split_t (decide_eq_true hl) ?_
     refine hc.a 3 rfl rfl ?_
     refine hc.s 1 rfl fun wS hS hc=>?_
     refine hc.a 1 rfl rfl ?_
     rw [bad (.inl ⟨by omega,hl⟩)]
     exact⟨rfl,hc.below⟩
    refine split_f (decide_eq_false (show ¬ v.ver<=(lastV e.vs).ver by omega)) ?_
    have full:=full (fun _=>by omega))
 all_goals refine⟨_,hc.cell 3 rfl _ rfl,?_⟩
 all_goals rcases Nat.lt_or_ge e.vs.length 12 with h12 | h12
 all_goals first
  | (
    refine split_t (decide_eq_true (show (12:Int)<=(e.vs.length:Int) by omega)) ?_
    refine hc.a 3 rfl rfl ?_
    refine hc.s 1 rfl fun wS hS hc=>?_
    refine hc.a 1 rfl rfl ?_
    rw [bad (.inr h12)]
    exact⟨rfl,hc.below⟩)
  | (
    refine split_f (decide_eq_false (show ¬ (12:Int)<=(e.vs.length:Int) by omega)) ?_
    have full:=full.resolve_left (by omega)
    rw [full]
    refine vD (.Q [0,1,2,3,5] (.n 4 (.n 6 (.n 7 (.q 8 (.n 9 (.q 10 .fin) .stop)) .stop) .stop) (.n 6 (.n 4 (.n 7 (.q 8 (.n 9 (.q 10 .fin) .stop)) .stop) .stop) .stop))) (fun x=>Blk x g1 50 [.string e.key,.slice A e.vs.length cap]/\Blk x g2 52 (verC v)) ⟨hc.blk 3 rfl,hc.blk 2 rfl⟩ ?_
    have hc:=hc.drew
    refine⟨_,fun x hx=>hx.1.cell 0,?_⟩
    refine⟨_,fun x hx=>hx.1.cell 1,?_⟩
    refine⟨verC v,rfl,fun x hx=>⟨hx.2.cell 0,hx.2.cell 1,hx.2.cell 2,trivial⟩,?_⟩
    refine⟨?_,?_,trivial⟩
    ·refine⟨(cloneV_any A e.vs.length cap (e.vs.map verC) (verC_flat _) (by rw [List.length_map]) hb S _ (hR.below hc.below)).mono fun en w7 hq=>?_⟩
     obtain⟨A1,cap1,e1,h7,ho⟩:=hq
     obtain⟨hc,_,ho⟩:=hc.fresh h7 ho
     refine⟨_,e1,⟨hc.blk 3 rfl,hc.blk 2 rfl⟩,?_⟩
     refine⟨fun g8 w8 h8=>?_,trivial⟩
     have ho:=ho.loc h8
     have hc:=(hc.loc h8).1
     refine⟨⟨hc.blk 4 rfl,hc.blk 3 rfl⟩,?_⟩
     refine⟨app_own Tryz.underlying48 info_V rfl (by decide) hc ho (ys:=verC v) rfl (hc.cells 0 rfl) rfl (by omega) (by decide) ?_,trivial⟩
     intro A2 cap2 w9 hc _ ho _
     refine⟨⟨hc.blk 4 rfl,hc.blk 3 rfl⟩,?_⟩
     refine⟨⟨hc.may 2 rfl 0 _ (Nat.le_refl 2) rfl,?_⟩,trivial⟩
     intro w10 h10
     have ho:=ho.set hc 2 rfl h10
     have hc:=(hc.set 2 rfl h10).1
     refine⟨⟨hc.blk 4 rfl,hc.blk 3 rfl⟩,?_⟩
     refine hc.a 2 rfl rfl ?_
     have ho:=ho.row
     rw [snocC] at ho
     have hlen:(e.vs++[v]).length=e.vs.length+1:=by simp
     refine⟨A2,cap2,?_,hc.below,?_⟩
     ·simp only [hlen];rfl
     ·simp only [hlen];exact ho
    ·refine hc.n fun g8 w8 h8 hc=>?_
     refine⟨⟨hc.blk 4 rfl,hc.blk 3 rfl⟩,?_⟩
     refine⟨⟨(cloneV_any A e.vs.length cap (e.vs.map verC) (verC_flat _) (by rw [List.length_map]) hb S _ (hR.below hc.below)).mono fun en w7 hq=>?_⟩,trivial⟩
     obtain⟨A1,cap1,e1,h7,ho⟩:=hq
     obtain⟨hc,_,ho⟩:=hc.fresh h7 ho
     refine⟨_,e1,⟨hc.blk 4 rfl,hc.blk 3 rfl⟩,?_⟩
     refine⟨app_own Tryz.underlying48 info_V rfl (by decide) hc ho (ys:=verC v) rfl (hc.cells 0 rfl) rfl (by omega) (by decide) ?_,trivial⟩
     intro A2 cap2 w9 hc _ ho _
     refine⟨⟨hc.blk 4 rfl,hc.blk 3 rfl⟩,?_⟩
     refine⟨⟨hc.may 2 rfl 0 _ (Nat.le_refl 2) rfl,?_⟩,trivial⟩
     intro w10 h10
     have ho:=ho.set hc 2 rfl h10
     have hc:=(hc.set 2 rfl h10).1
     refine⟨⟨hc.blk 4 rfl,hc.blk 3 rfl⟩,?_⟩
     refine hc.a 2 rfl rfl ?_
     have ho:=ho.row
     rw [snocC] at ho
     have hlen:(e.vs++[v]).length=e.vs.length+1:=by simp
     refine⟨A2,cap2,?_,hc.below,?_⟩
     ·simp only [hlen];rfl
     ·simp only [hlen];exact ho)
theorem purge_any (e:Ent) (n:Int) (A:Option Addr) (cap:Nat) (hb:e.vs.length<=1000000) (S:Nat->Prop) (w:World) (hR:Row S w A e.vs.length cap (e.vs.map verC).flatten):
  Calls Tryz.prog 210 #[.agg #[.string e.key,.slice A e.vs.length cap],.int .i64 n] w (RetA A cap e (purgeE e n) w):=by
 refine vE Tryz.func210 ?_
 intro g1 w1 h1
 have hc:=((Ctx.start w no (fun _ h=>h.elim)).loc h1).1
 refine hc.n fun g2 w2 h2 hc=>?_
 refine hc.a 1 rfl rfl ?_
 refine hc.q (place_any e n A cap S w2 (hR.below hc.below)) fun w3 h3 hc=>?_
 have hM:=row_max hR
 unfold purgeE
 cases hi:idxV e.vs n with
 | none=>
  refine hc.a 1 rfl rfl ?_
  refine hc.s 0 rfl fun wS hS hc=>?_
  refine hc.a 0 rfl rfl ?_
  exact⟨rfl,hc.below⟩
 | some i=>
  obtain⟨hlt,_⟩:=idxV_lt hi
  refine vD (.Q [0,1,2,3,5,6,7] (.n 4 (.n 8 (.q 9 (.n 10 (.q 11 .fin) .stop)) .stop) .stop)) (fun x=>Blk x g1 50 [.string e.key,.slice A e.vs.length cap]) (hc.blk 1 rfl) ?_
  have hc:=hc.drew
  refine⟨_,fun x hx=>hx.cell 0,?_⟩
  refine⟨_,fun x hx=>hx.cell 1,?_⟩
  refine⟨⟨(cloneV_any A e.vs.length cap (e.vs.map verC) (verC_flat _) (by rw [List.length_map]) hb S _ (hR.below hc.below)).mono fun en w7 hq=>?_⟩,trivial⟩
  obtain⟨A1,cap1,e1,h7,ho⟩:=hq
  obtain⟨hc,_,ho⟩:=hc.fresh h7 ho
  refine⟨_,e1,hc.blk 1 rfl,?_⟩
  refine⟨?_,trivial⟩
  have hml:(e.vs.map verC).length=e.vs.length:=List.length_map ..
  have hd:=deleteV_any hc (e.vs.map verC) (verC_flat _) (A:=A1) (cap:=cap1) (by rw [hml];exact ho) i (by rw [hml];exact hlt) (IntKind.i64.wrap ((i:Int)+1)) (by rw [wrap_add _ _ (by omega) (by omega)])
  rw [hml] at hd
  refine⟨hd.mono fun en w8 hq=>?_⟩
  obtain⟨A2,e2,hc,_,ho⟩:=hq
  refine⟨_,e2,hc.blk 1 rfl,?_⟩
  refine⟨⟨hc.may 0 rfl 0 _ (Nat.le_refl 2) rfl,?_⟩,trivial⟩
  intro w10 h10
  have ho:=ho.set hc 0 rfl h10
  have hc:=(hc.set 0 rfl h10).1
  refine⟨hc.blk 1 rfl,?_⟩
  refine hc.a 0 rfl rfl ?_
  have ho:=ho.row
  rw [cutC] at ho
  have hlen:(e.vs.take i++e.vs.drop (i+1)).length=e.vs.length-1:=by rw [List.length_append,List.length_take,List.length_drop];omega
  refine⟨A2,cap1,?_,hc.below,?_⟩
  ·simp only [hlen];rfl
  ·simp only [hlen];exact ho
set_option maxRecDepth 100000
set_option maxHeartbeats 1000000 in
theorem radd_any' (e:Ent) (v:Ver) (A:Option Addr) (cap:Nat) (hb:e.vs.length<=1000000) (S:Nat->Prop) (w:World) (hR:Row S w A e.vs.length cap (e.vs.map verC).flatten):
  Calls Tryz.prog 93 #[.agg #[.string e.key,.slice A e.vs.length cap],.agg (verC v).toArray] w (RetA A cap e (addE e v) w):=by
 refine vE Tryz.func93 ?_
 intro g1 w1 h1
 have hc:=((Ctx.start w no (fun _ h=>h.elim)).loc h1).1
 refine hc.n fun g2 w2 h2 hc=>?_
 refine hc.n fun g3 w3 h3 hc=>?_
 have hM:=row_max hR
 refine⟨_,hc.cell 2 rfl _ rfl,?_⟩
 have bad:((e.vs.length≠0/\v.ver<=(lastV e.vs).ver)\/12<=e.vs.length)->addE e v=(e,false):=fun h=>by rw [addE,if_pos h]
 refine vD (.Q [0,1,2,3,4,5,6,7,8,9,10,11,12,13,14,15,16,17] .fin) (Keeps (fun b=>b<w3.heap.size) w3) (Keeps.start _ _) ?_
 rcases Nat.lt_or_ge e.vs.length 12 with h12 | h12
 rotate_left
 ·refine split_t (decide_eq_true (show (12:Int)<=(e.vs.length:Int) by omega)) ?_
  have hc:=hc.drew
  refine hc.a 2 rfl rfl ?_
  refine hc.s 0 rfl fun wS hS hc=>?_
  refine hc.a 0 rfl rfl ?_
  rw [bad (.inr h12)]
  exact⟨rfl,hc.below⟩
 refine split_f (decide_eq_false (show ¬ (12:Int)<=(e.vs.length:Int) by omega)) ?_
 have good:(e.vs.length≠0->(lastV e.vs).ver<v.ver)->addE e v=(⟨e.key,e.vs++[v]⟩,true):=fun h=>by
  rw [addE,if_neg]
  rintro (h' | h')
  ·have:=h h'.1;omega
  ·omega
 rcases Nat.eq_zero_or_pos e.vs.length with h0 | h0
 all_goals first
  | (
    refine split_f (decide_eq_false (show ¬ (0:Int)<(e.vs.length:Int) by omega)) ?_
    have good:=good (fun h=>absurd h0 h))
  | (
    refine split_t (decide_eq_true (show (0:Int)<(e.vs.length:Int) by omega)) ?_
    have hlt:e.vs.length-1<e.vs.length:=by omega
    have hw:IntKind.i64.wrap ((e.vs.length:Int)-1)=((e.vs.length-1:Nat):Int):=by rw [IntWalk.i64_in _ ⟨by omega,by omega⟩];omega
    obtain⟨ad,rfl,hcell⟩:=RowV.elem (hR.below hc.below) (e.vs.length-1) hlt
    rw [<-lastV_get hlt] at hcell
    refine⟨_,fun x hx=>hx.look (hc.cell 1 rfl _ rfl),?_⟩
    refine⟨_,fun x hx=>hx.look (hc.cell 2 rfl _ rfl),?_⟩
    refine⟨⟨by rw [hw];omega,by rw [hw];omega⟩,?_⟩
    have hl0:w3.cell? (ad.add ((IntKind.i64.wrap ((e.vs.length:Int)-1)).toNat*3))=some (.int .i64 (lastV e.vs).ver):=by
     have:=hcell.1
     rw [add_add,Nat.add_zero] at this
     rw [hw,Int.toNat_natCast]
     exact this
    generalize ad.add ((IntKind.i64.wrap ((e.vs.length:Int)-1)).toNat*3)=ae at hl0 ⊢
    obtain⟨ab,ao,asub⟩:=ae
    refine⟨_,fun x hx=>hx.look hl0,?_⟩
    rcases Int.lt_or_le (lastV e.vs).ver v.ver with hl | hl
    rotate_left
    ·refine split_t (decide_eq_true hl) ?_
     have hc:=hc.drew
     refine hc.a 2 rfl rfl ?_
     refine hc.s 0 rfl fun wS hS hc=>?_
     refine hc.a 0 rfl rfl ?_
     rw [bad (.inl ⟨by omega,hl⟩)]
     exact⟨rfl,hc.below⟩
    refine split_f (decide_eq_false (show ¬ v.ver<=(lastV e.vs).ver by omega)) ?_
    have good:=good (fun _=>hl))
 all_goals rw [good]
 all_goals try (refine forget [(2,.pointer (some ⟨g1,0,none⟩)),(3,.pointer (some ⟨g2,0,none⟩)),(4,.pointer (some ⟨g3,0,none⟩))] ?_ ?_;(· exact⟨rfl,rfl,rfl,trivial⟩);intro u)
 all_goals have hc:=hc.drew
 all_goals refine vD (.Q [0,1,3] (.n 2 (.n 4 (.n 5 (.q 6 (.z 7)) .stop) .stop) (.n 4 (.n 2 (.n 5 (.q 6 (.z 7)) .stop) .stop) .stop))) (fun x=>Blk x g1 50 [.string e.key,.slice _ e.vs.length cap]/\Blk x g2 52 (verC v)) ⟨hc.blk 2 rfl,hc.blk 1 rfl⟩ ?_
 all_goals have hc:=hc.drew
 all_goals refine⟨_,fun x hx=>hx.1.cell 1,?_⟩
 all_goals refine⟨verC v,rfl,fun x hx=>⟨hx.2.cell 0,hx.2.cell 1,hx.2.cell 2,trivial⟩,?_⟩
 all_goals have hlen:(e.vs++[v]).length=e.vs.length+1:=by simp
 all_goals refine⟨?_,?_,trivial⟩
 all_goals first
  | (
    intro g8 w8 h8
    have hc:=(hc.loc h8).1
    refine⟨⟨hc.blk 3 rfl,hc.blk 2 rfl⟩,?_⟩
    refine⟨app_row2 Tryz.underlying48 info_V rfl (by decide) hc (Own.nil (e:=52) (sz:=3)) (hR.below hc.below) (by rw [(verC_flat _).len,List.length_map]) (verC_flat _).ones (by omega) (by decide) rfl rfl ?_,trivial⟩
    intro A1 cap1 w7 hc _ ho _
    rw [Nat.zero_add e.vs.length] at ho ⊢
    rw [List.nil_append] at ho
    refine⟨⟨hc.blk 3 rfl,hc.blk 2 rfl⟩,?_⟩
    refine⟨app_own Tryz.underlying48 info_V rfl (by decide) hc ho (ys:=verC v) rfl (hc.cells 0 rfl) rfl (by omega) (by decide) ?_,trivial⟩
    intro A2 cap2 w9 hc _ ho _
    refine⟨⟨hc.blk 3 rfl,hc.blk 2 rfl⟩,?_⟩
    refine⟨hc.may 3 rfl 1 _ (Nat.le_refl 2) rfl,?_⟩
    intro w10 h10
    have ho:=ho.set hc 3 rfl h10
    have hc:=(hc.set 3 rfl h10).1
    refine hc.a 3 rfl rfl ?_
    refine⟨hc.may 1 rfl 0 _ (Nat.le_refl 2) rfl,?_⟩
    intro w11 h11
    have ho:=ho.set hc 1 rfl h11
    have hc:=(hc.set 1 rfl h11).1
    refine hc.a 1 rfl rfl ?_
    have ho:=ho.row
    rw [snocC] at ho
    refine⟨A2,cap2,?_,hc.below,?_⟩
    ·simp only [hlen];rfl
    ·simp only [hlen];exact ho)
  | (
    refine app_row2 Tryz.underlying48 info_V rfl (by decide) hc (Own.nil (e:=52) (sz:=3)) (hR.below hc.below) (by rw [(verC_flat _).len,List.length_map]) (verC_flat _).ones (by omega) (by decide) rfl rfl ?_
    intro A1 cap1 w7 hc _ ho _
    rw [Nat.zero_add e.vs.length] at ho ⊢
    rw [List.nil_append] at ho
    refine⟨⟨hc.blk 2 rfl,hc.blk 1 rfl⟩,?_⟩
    refine⟨fun g8 w8 h8=>?_,trivial⟩
    have ho:=ho.loc h8
    have hc:=(hc.loc h8).1
    refine⟨⟨hc.blk 3 rfl,hc.blk 2 rfl⟩,?_⟩
    refine⟨app_own Tryz.underlying48 info_V rfl (by decide) hc ho (ys:=verC v) rfl (hc.cells 0 rfl) rfl (by omega) (by decide) ?_,trivial⟩
    intro A2 cap2 w9 hc _ ho _
    refine⟨⟨hc.blk 3 rfl,hc.blk 2 rfl⟩,?_⟩
    refine⟨hc.may 3 rfl 1 _ (Nat.le_refl 2) rfl,?_⟩
    intro w10 h10
    have ho:=ho.set hc 3 rfl h10
    have hc:=(hc.set 3 rfl h10).1
    refine hc.a 3 rfl rfl ?_
    refine⟨hc.may 1 rfl 0 _ (Nat.le_refl 2) rfl,?_⟩
    intro w11 h11
    have ho:=ho.set hc 1 rfl h11
    have hc:=(hc.set 1 rfl h11).1
    refine hc.a 1 rfl rfl ?_
    have ho:=ho.row
    rw [snocC] at ho
    refine⟨A2,cap2,?_,hc.below,?_⟩
    ·simp only [hlen];rfl
    ·simp only [hlen];exact ho)
theorem rpurge_any (e:Ent) (n:Int) (A:Option Addr) (cap:Nat) (hb:e.vs.length<=1000000) (S:Nat->Prop) (w:World) (hR:Row S w A e.vs.length cap (e.vs.map verC).flatten):
  Calls Tryz.prog 92 #[.agg #[.string e.key,.slice A e.vs.length cap],.int .i64 n] w (RetA A cap e (purgeE e n) w):=by
 refine vE Tryz.func92 ?_
 intro g1 w1 h1
 have hc:=((Ctx.start w no (fun _ h=>h.elim)).loc h1).1
 refine hc.n fun g2 w2 h2 hc=>?_
 refine hc.a 1 rfl rfl ?_
 refine hc.q (rat_any e n A cap S w2 (hR.below hc.below)) fun w3 h3 hc=>?_
 have hM:=row_max hR
 unfold purgeE
 cases hi:idxV e.vs n with
 | none=>
  refine hc.a 1 rfl rfl ?_
  refine hc.s 0 rfl fun wS hS hc=>?_
  refine hc.a 0 rfl rfl ?_
  exact⟨rfl,hc.below⟩
 | some i=>
  obtain⟨hlt,_⟩:=idxV_lt hi
  have hnc:=hR.1
  refine vD (.Q [0,1,2,3,5,6,7,8,9] (.n 4 (.n 10 (.q 11 (.z 12)) .stop) .stop)) (fun x=>Blk x g1 50 [.string e.key,.slice A e.vs.length cap]) (hc.blk 1 rfl) ?_
  have hc:=hc.drew
  have hwi:IntKind.i64.wrap (((some i).getD 0:Nat)+(1:Int))=(i:Int)+1:=wrap_add _ _ (by simp only [Option.getD_some];omega) (by simp only [Option.getD_some];omega)
  refine⟨_,fun x hx=>hx.cell 1,?_⟩
  refine⟨⟨Int.le_refl _,Int.natCast_nonneg _,Int.ofNat_le.2 (by show i<=cap;omega),Int.le_refl _⟩,?_⟩
  refine⟨_,fun x hx=>hx.cell 1,?_⟩
  refine⟨⟨by rw [hwi];omega,by rw [hwi];omega,by omega,by omega⟩,?_⟩
  refine⟨?_,trivial⟩
  have hfl:(e.vs.map verC).flatten.length=e.vs.length*3:=by rw [(verC_flat _).len,List.length_map]
  have hfr:=hR.front 3 (k:=i) (by omega)
  have hbk:=hR.back 3 hfl (i+1) (IntKind.i64.wrap (((some i).getD 0:Nat)+(1:Int))) (by rw [hwi];omega) (by omega)
  refine app_row2 Tryz.underlying48 info_V rfl (by decide) hc (Own.nil (e:=52) (sz:=3)) (hfr.below hc.below) (by rw [List.length_take,hfl];omega) (by rw [<-(verC_flat _).flat_take];exact ((verC_flat _).take _).ones) (by omega) (by decide) rfl ?_ ?_
  ·show Value.slice (if (cap:Int)=0 then A else A.map (·.add ((0:Int).toNat*3))) ((i:Int)-0).toNat ((cap:Int)-0).toNat=_
   rw [front_eq]
   congr 1<;>omega
  intro A1 cap1 w7 hc _ ho _
  rw [Nat.zero_add i] at ho ⊢
  rw [List.nil_append] at ho
  refine⟨hc.blk 1 rfl,?_⟩
  refine⟨app_row2 Tryz.underlying48 info_V rfl (by decide) hc ho (hbk.below hc.below) (by rw [List.length_drop,hfl];omega) (by rw [<-(verC_flat _).flat_drop];exact ((verC_flat _).drop _).ones) (by omega) (by decide) rfl ?_ ?_,trivial⟩
  ·show Value.slice (if (cap:Int)=IntKind.i64.wrap (((some i).getD 0:Nat)+(1:Int)) then A else A.map (·.add ((IntKind.i64.wrap (((some i).getD 0:Nat)+(1:Int))).toNat*3))) ((e.vs.length:Int)-IntKind.i64.wrap (((some i).getD 0:Nat)+(1:Int))).toNat ((cap:Int)-IntKind.i64.wrap (((some i).getD 0:Nat)+(1:Int))).toNat=_
   congr 1<;>(rw [hwi];omega)
  intro A2 cap2 w8 hc _ ho _
  refine⟨hc.blk 1 rfl,?_⟩
  refine⟨hc.may 1 rfl 1 _ (Nat.le_refl 2) rfl,?_⟩
  intro w10 h10
  have ho:=ho.set hc 1 rfl h10
  have hc:=(hc.set 1 rfl h10).1
  refine hc.a 1 rfl rfl ?_
  refine⟨hc.may 0 rfl 0 _ (Nat.le_refl 2) rfl,?_⟩
  intro w11 h11
  have ho:=ho.set hc 0 rfl h11
  have hc:=(hc.set 0 rfl h11).1
  refine hc.a 0 rfl rfl ?_
  have ho:=ho.row
  rw [<-(verC_flat _).flat_take,<-(verC_flat _).flat_drop,<-List.flatten_append,cutC] at ho
  have hlen:(e.vs.take i++e.vs.drop (i+1)).length=i+(e.vs.length-(i+1)):=by rw [List.length_append,List.length_take,List.length_drop];omega
  refine⟨A2,cap2,?_,hc.below,?_⟩
  ·simp only [hlen];rfl
  ·simp only [hlen];exact ho
set_option maxRecDepth 100000
theorem memC_flat (l:List Mem):Flat 3 (l.map memC):=Flat.map memC (fun _=>⟨rfl,rfl⟩) l
theorem RowM.elem {S:Nat->Prop} {w:World} {A:Option Addr} {n cap:Nat} {l:List Mem} (hR:Row S w A n cap (l.map memC).flatten) (i:Nat) (hi:i<l.length):∃ ad,A=some ad/\Go.Vc.cellsAt w (ad.add (i*3)) (memC l[i]) 0:=by
 obtain⟨ad,e,h⟩:=Row.elemF hR (by decide) (memC_flat l) i (by rw [List.length_map];exact hi)
 rw [List.getElem_map] at h
 exact⟨ad,e,h⟩
theorem RowE.elem {S:Nat->Prop} {w:World} {A:Option Addr} {n cap:Nat} {l:List Ent} {css:List (List Value)} (hR:Row S w A n cap css.flatten) (hE:RepEs S w l css) (i:Nat) (hi:i<l.length):
  ∃ ad A' cap',A=some ad/\Go.Vc.cellsAt w (ad.add (i*2)) [.string l[i].key,.slice A' l[i].vs.length cap'] 0/\Row S w A' l[i].vs.length cap' (l[i].vs.map verC).flatten:=by
 have hl:=hE.len
 obtain⟨ad,e,h⟩:=Row.elemF hR (by decide) hE.flat i (by omega)
 obtain⟨A',cap',e1,h1⟩:=hE.get i hi (by omega)
 rw [e1] at h
 exact⟨ad,A',cap',e,h,h1⟩
theorem RepS.shape {S:Nat->Prop} {w:World} {s:Stt} {cs:List Value} (h:RepS S w s cs):∃ A cap css B cap' l0 l1 l2 l3 l4,cs=[.int .i64 s.seq,.slice A s.l.length cap,.slice B s.ms.length cap',.int .i64 l0,.int .i64 l1,.int .i64 l2,.int .i64 l3,.int .i64 l4]/\
  s.lows=[l0,l1,l2,l3,l4]/\RepEs S w s.l css/\Row S w A s.l.length cap css.flatten/\Row S w B s.ms.length cap' (s.ms.map memC).flatten:=by
 obtain⟨A,cap,css,B,cap',e1,e2,e3,e4,e5⟩:=h
 match hl:s.lows,e2 with
 | [l0,l1,l2,l3,l4],_=>
  rw [hl] at e1
  exact⟨A,cap,css,B,cap',l0,l1,l2,l3,l4,e1,rfl,e3,e4,e5⟩
theorem lows_in (d:Nat) (w:World) (a0 a1 a2 a3 a4 b0 b1 b2 b3 b4:Int):(Op.equalIn (d+2) 41 (.agg #[.int .i64 a0,.int .i64 a1,.int .i64 a2,.int .i64 a3,.int .i64 a4]) (.agg #[.int .i64 b0,.int .i64 b1,.int .i64 b2,.int .i64 b3,.int .i64 b4])).run Tryz.prog w=.ok ([a0,a1,a2,a3,a4]==[b0,b1,b2,b3,b4]) w:=by
 have hs:∀ w,(Go.sizeOf 2).run Tryz.prog w=.ok 1 w:=fun w=>by kernel_rfl
 have step:∀ (x y:Int) w,(Op.equalIn (d+1) 2 (.int .i64 x) (.int .i64 y)).run Tryz.prog w=.ok (x==y) w:=fun x y w=>run_equalIn_int w d 2 .i64 .i64 x y Tryz.underlying2
 rw [Op.equalIn]
 generalize Op.equalIn (d+1)=F at step ⊢
 simp only [Sem.run_bind,run_underlying Tryz.underlying41,Result.andThen_ok,hs,Std.Legacy.Range.forIn_eq_forIn_range',Std.Legacy.Range.size]
 simp [List.range',part,isAgg,run_underlying Tryz.underlying2,step]
 by_cases h0:a0=b0
 rotate_left
 ·simp [h0]
 by_cases h1:a1=b1
 rotate_left
 ·simp [h0,h1]
 by_cases h2:a2=b2
 rotate_left
 ·simp [h0,h1,h2]
 by_cases h3:a3=b3<;>by_cases h4:a4=b4<;>simp [h0,h1,h2,h3,h4]
theorem gd_lows:Tryz.prog.eqGuardType Tryz.prog.depth 41=false:=by kernel_rfl
theorem equalV_any (a b:List Ver) (A B:Option Addr) (cap cap':Nat) (S:Nat->Prop) (w:World) (hR:Row S w A a.length cap (a.map verC).flatten) (hR':Row S w B b.length cap' (b.map verC).flatten):
  Calls Tryz.prog 164 #[.slice A a.length cap,.slice B b.length cap'] w (RetB (.bool (eqAll eqVer a b)) w):=by
 refine vE Tryz.func164 ?_
 have hM:=row_max hR
 by_cases hl:a.length=b.length
 rotate_left
 ·refine split_t (by show ((a.length:Int) != (b.length:Int))=true;rw [bne_iff_ne];omega) ?_
  rw [eqAll_len _ _ _ hl]
  exact⟨rfl,Below.refl _ _⟩
 refine split_f (by show ((a.length:Int) != (b.length:Int))=false;rw [hl];simp) ?_
 refine⟨Nat,fun i=>[(0,.slice A a.length cap),(1,.slice B b.length cap'),(12,.int .i64 a.length),(13,.int .i64 i)],
  fun i w'=>i<=a.length/\eqAll eqVer (a.drop i) (b.drop i)=eqAll eqVer a b/\Below w.heap.size w w',fun i _=>a.length-i,0,
  ⟨rfl,rfl,rfl,rfl,trivial⟩,⟨Nat.zero_le _,rfl,Below.refl _ _⟩,?_⟩
 rintro i w' u ⟨hi,he,hb⟩
 by_cases hlt:i<a.length
 ·refine split_t (decide_eq_true (by omega)) ?_
  obtain⟨ad,rfl,hcell⟩:=RowV.elem (hR.below hb) i hlt
  obtain⟨bd,rfl,hcell'⟩:=RowV.elem (hR'.below hb) i (by omega)
  rw [List.drop_eq_getElem_cons hlt,List.drop_eq_getElem_cons (show i<b.length by omega),eqAll] at he
  generalize a[i]=x at*
  generalize b[i]'(by omega)=y at*
  refine vD (.Q [0,1,2,3,4,5,6,7,8] .fin) (Keeps (fun b=>b<w'.heap.size) w') (Keeps.start _ _) ?_
  refine⟨⟨by omega,by omega⟩,?_⟩
  refine⟨verC x,rfl,fun z hz=>hz.looks _ _ hcell,?_⟩
  refine⟨⟨by omega,by omega⟩,?_⟩
  refine⟨verC y,rfl,fun z hz=>hz.looks _ _ hcell',?_⟩
  refine⟨_,fun w=>neq_run gd_ver (eqVer_in 9998 · x y) _ _ w,?_⟩
  have hb:=hb.drew
  cases hv:eqVer x y
  ·rw [hv] at he
   refine⟨?_,hb⟩
   rw [<-he]
   rfl
  ·rw [hv] at he
   refine⟨i+1,⟨rfl,rfl,rfl,congrArg _ (i_down (by omega)),trivial⟩,⟨hlt,he,hb⟩,by show a.length-(i+1)<a.length-i;omega⟩
 ·refine split_f (decide_eq_false (by omega)) ?_
  rw [List.drop_of_length_le (by omega),List.drop_of_length_le (by omega),eqAll] at he
  rw [<-he]
  exact⟨rfl,hb⟩
theorem equalM_any (a b:List Mem) (A B:Option Addr) (cap cap':Nat) (S:Nat->Prop) (w:World) (hR:Row S w A a.length cap (a.map memC).flatten) (hR':Row S w B b.length cap' (b.map memC).flatten):
  Calls Tryz.prog 165 #[.slice A a.length cap,.slice B b.length cap'] w (RetB (.bool (eqAll eqMem a b)) w):=by
 refine vE Tryz.func165 ?_
 have hM:=row_max hR
 by_cases hl:a.length=b.length
 rotate_left
 ·refine split_t (by show ((a.length:Int) != (b.length:Int))=true;rw [bne_iff_ne];omega) ?_
  rw [eqAll_len _ _ _ hl]
  exact⟨rfl,Below.refl _ _⟩
 refine split_f (by show ((a.length:Int) != (b.length:Int))=false;rw [hl];simp) ?_
 refine⟨Nat,fun i=>[(0,.slice A a.length cap),(1,.slice B b.length cap'),(12,.int .i64 a.length),(13,.int .i64 i)],
  fun i w'=>i<=a.length/\eqAll eqMem (a.drop i) (b.drop i)=eqAll eqMem a b/\Below w.heap.size w w',fun i _=>a.length-i,0,
  ⟨rfl,rfl,rfl,rfl,trivial⟩,⟨Nat.zero_le _,rfl,Below.refl _ _⟩,?_⟩
 rintro i w' u ⟨hi,he,hb⟩
 by_cases hlt:i<a.length
 ·refine split_t (decide_eq_true (by omega)) ?_
  obtain⟨ad,rfl,hcell⟩:=RowM.elem (hR.below hb) i hlt
  obtain⟨bd,rfl,hcell'⟩:=RowM.elem (hR'.below hb) i (by omega)
  rw [List.drop_eq_getElem_cons hlt,List.drop_eq_getElem_cons (show i<b.length by omega),eqAll] at he
  generalize a[i]=x at*
  generalize b[i]'(by omega)=y at*
  refine vD (.Q [0,1,2,3,4,5,6,7,8] .fin) (Keeps (fun b=>b<w'.heap.size) w') (Keeps.start _ _) ?_
  refine⟨⟨by omega,by omega⟩,?_⟩
  refine⟨memC x,rfl,fun z hz=>hz.looks _ _ hcell,?_⟩
  refine⟨⟨by omega,by omega⟩,?_⟩
  refine⟨memC y,rfl,fun z hz=>hz.looks _ _ hcell',?_⟩
  refine⟨_,fun w=>neq_run gd_mem (eqMem_in 9997 · x y) _ _ w,?_⟩
  have hb:=hb.drew
  cases hv:eqMem x y
  ·rw [hv] at he
   refine⟨?_,hb⟩
   rw [<-he]
   rfl
  ·rw [hv] at he
   refine⟨i+1,⟨rfl,rfl,rfl,congrArg _ (i_down (by omega)),trivial⟩,⟨hlt,he,hb⟩,by show a.length-(i+1)<a.length-i;omega⟩
 ·refine split_f (decide_eq_false (by omega)) ?_
  rw [List.drop_of_length_le (by omega),List.drop_of_length_le (by omega),eqAll] at he
  rw [<-he]
  exact⟨rfl,hb⟩
theorem eq1_any (a b:Ent) (A B:Option Addr) (cap cap':Nat) (S:Nat->Prop) (w:World) (hR:Row S w A a.vs.length cap (a.vs.map verC).flatten) (hR':Row S w B b.vs.length cap' (b.vs.map verC).flatten):
  Calls Tryz.prog 163 #[.agg #[.string a.key,.slice A a.vs.length cap],.agg #[.string b.key,.slice B b.vs.length cap']] w (RetB (.bool (eqE a b)) w):=by
 refine vE Tryz.func163 ?_
 intro g1 w1 h1
 have hc:=((Ctx.start w no (fun _ h=>h.elim)).loc h1).1
 refine hc.n fun g2 w2 h2 hc=>?_
 refine⟨_,hc.cell 1 rfl _ rfl,?_⟩
 refine⟨_,hc.cell 0 rfl _ rfl,?_⟩
 unfold eqE
 cases hk:strEq a.key b.key
 ·refine split_f hk ?_
  exact⟨rfl,hc.below⟩
 refine split_t hk ?_
 refine⟨_,hc.cell 1 rfl _ rfl,?_⟩
 refine⟨_,hc.cell 0 rfl _ rfl,?_⟩
 refine hc.q (equalV_any a.vs b.vs A B cap cap' S w2 (hR.below hc.below) (hR'.below hc.below)) fun w3 h3 hc=>?_
 exact⟨rfl,hc.below⟩
theorem equalFuncE_any (a b:List Ent) (A B:Option Addr) (cap cap':Nat) (css css':List (List Value)) (S:Nat->Prop) (w:World) (hE:RepEs S w a css) (hR:Row S w A a.length cap css.flatten) (hE':RepEs S w b css') (hR':Row S w B b.length cap' css'.flatten):
  Calls Tryz.prog 166 #[.slice A a.length cap,.slice B b.length cap',.func (.func 163) #[] #[]] w (RetB (.bool (eqAll eqE a b)) w):=by
 refine vE Tryz.func166 ?_
 have hM:=row_max hR
 by_cases hl:a.length=b.length
 rotate_left
 ·refine split_t (by show ((a.length:Int) != (b.length:Int))=true;rw [bne_iff_ne];omega) ?_
  rw [eqAll_len _ _ _ hl]
  exact⟨rfl,Below.refl _ _⟩
 refine split_f (by show ((a.length:Int) != (b.length:Int))=false;rw [hl];simp) ?_
 refine⟨Nat,fun i=>[(1,.slice B b.length cap'),(2,.func (.func 163) #[] #[]),(15,.slice A a.length cap),(16,.int .i64 a.length),(17,.int .i64 i)],
  fun i w'=>i<=a.length/\eqAll eqE (a.drop i) (b.drop i)=eqAll eqE a b/\Below w.heap.size w w',fun i _=>a.length-i,0,
  ⟨rfl,rfl,rfl,rfl,rfl,trivial⟩,⟨Nat.zero_le _,rfl,Below.refl _ _⟩,?_⟩
 rintro i w' u ⟨hi,he,hb⟩
 by_cases hlt:i<a.length
 ·refine split_t (decide_eq_true (by omega)) ?_
  obtain⟨ad,A1,cap1,rfl,hcell,hr1⟩:=RowE.elem (hR.below hb) (hE.below hb) i hlt
  obtain⟨bd,B1,cap2,rfl,hcell',hr2⟩:=RowE.elem (hR'.below hb) (hE'.below hb) i (by omega)
  rw [List.drop_eq_getElem_cons hlt,List.drop_eq_getElem_cons (show i<b.length by omega),eqAll] at he
  generalize a[i]=x at*
  generalize b[i]'(by omega)=y at*
  refine⟨⟨by omega,by omega⟩,?_⟩
  refine⟨[.string x.key,.slice A1 x.vs.length cap1],rfl,hcell,?_⟩
  intro g5 w5 h5
  have hc:=((Ctx.start w' no (fun _ h=>h.elim)).loc h5).1
  refine⟨hc.may 0 rfl 0 _ (Nat.le_refl 2) rfl,?_⟩
  intro w6 h6
  have hc:=(hc.set 0 rfl h6).1
  refine⟨⟨by omega,by omega⟩,?_⟩
  refine⟨[.string y.key,.slice B1 y.vs.length cap2],rfl,cellsAt_later hc.below _ _ hcell',?_⟩
  refine hc.n fun g7 w7 h7 hc=>?_
  refine⟨hc.may 0 rfl 0 _ (Nat.le_refl 2) rfl,?_⟩
  intro w8 h8
  have hc:=(hc.set 0 rfl h8).1
  refine⟨[.string x.key,.slice A1 x.vs.length cap1],rfl,hc.cells 1 rfl,?_⟩
  refine⟨[.string y.key,.slice B1 y.vs.length cap2],rfl,hc.cells 0 rfl,?_⟩
  refine hc.q (eq1_any x y A1 B1 cap1 cap2 S w8 (hr1.below hc.below) (hr2.below hc.below)) fun w9 h9 hc=>?_
  have hb9:=hb.trans (hc.below.mono hb.size)
  cases hv:eqE x y
  ·rw [hv] at he
   refine⟨?_,hb9⟩
   rw [<-he]
   rfl
  ·rw [hv] at he
   exact⟨i+1,⟨rfl,rfl,rfl,rfl,congrArg _ (i_down (by omega)),trivial⟩,⟨hlt,he,hb9⟩,by show a.length-(i+1)<a.length-i;omega⟩
 ·refine split_f (decide_eq_false (by omega)) ?_
  rw [List.drop_of_length_le (by omega),List.drop_of_length_le (by omega),eqAll] at he
  rw [<-he]
  exact⟨rfl,hb⟩
theorem beqS_any (a b:Stt) (ca cb:List Value) (S:Nat->Prop) (w:World) (ha:RepS S w a ca) (hb:RepS S w b cb):Calls Tryz.prog 111 #[.agg ca.toArray,.agg cb.toArray] w (RetB (.bool (eqS a b)) w):=by
 obtain⟨A,cap,css,B,cap',l0,l1,l2,l3,l4,rfl,el,hE,hR,hM⟩:=ha.shape
 obtain⟨A',cap2,css',B',cap3,k0,k1,k2,k3,k4,rfl,ek,hE',hR',hM'⟩:=hb.shape
 refine vE Tryz.func111 ?_
 intro g1 w1 h1
 have hc:=((Ctx.start w no (fun _ h=>h.elim)).loc h1).1
 refine hc.n fun g2 w2 h2 hc=>?_
 refine⟨_,hc.cell 1 rfl _ rfl,?_⟩
 refine⟨_,hc.cell 0 rfl _ rfl,?_⟩
 have e0:eqS a b=(a.seq==b.seq&&a.lows==b.lows&&eqAll eqMem a.ms b.ms&&eqAll eqE a.l b.l):=rfl
 generalize eqS a b=r at e0 ⊢
 rcases Bool.eq_false_or_eq_true (a.seq==b.seq) with hs | hs
 rotate_left
 ·refine split_f hs ?_
  rw [hs] at e0
  exact⟨ret_bool e0.symm,hc.below⟩
 refine split_t hs ?_
 refine⟨[.int .i64 l0,.int .i64 l1,.int .i64 l2,.int .i64 l3,.int .i64 l4],rfl,hc.cellsAt 1 rfl (0+3) _ rfl,?_⟩
 refine⟨[.int .i64 k0,.int .i64 k1,.int .i64 k2,.int .i64 k3,.int .i64 k4],rfl,hc.cellsAt 0 rfl (0+3) _ rfl,?_⟩
 refine⟨_,fun w=>eql_run gd_lows (fun w=>lows_in 9998 w l0 l1 l2 l3 l4 k0 k1 k2 k3 k4) _ _ w,?_⟩
 rw [el,ek] at e0
 rcases Bool.eq_false_or_eq_true ([l0,l1,l2,l3,l4]==[k0,k1,k2,k3,k4]) with hl | hl
 rotate_left
 ·refine split_f hl ?_
  rw [hs,hl] at e0
  exact⟨ret_bool e0.symm,hc.below⟩
 refine split_t hl ?_
 rw [hs,hl,Bool.and_self,Bool.true_and] at e0
 refine⟨_,hc.cell 1 rfl _ rfl,?_⟩
 refine⟨_,hc.cell 0 rfl _ rfl,?_⟩
 refine hc.q (equalM_any a.ms b.ms B B' cap' cap3 S w2 (hM.below hc.below) (hM'.below hc.below)) fun w3 h3 hc=>?_
 generalize eqAll eqMem a.ms b.ms=q at e0 ⊢
 cases q
 ·exact⟨ret_bool e0.symm,hc.below⟩
 rw [Bool.true_and] at e0
 refine⟨_,hc.cell 1 rfl _ rfl,?_⟩
 refine⟨_,hc.cell 0 rfl _ rfl,?_⟩
 refine hc.q (equalFuncE_any a.l b.l A A' cap cap2 css css' S w3 (hE.below hc.below) (hR.below hc.below) (hE'.below hc.below) (hR'.below hc.below)) fun w4 h4 hc=>?_
 exact⟨ret_bool e0.symm,hc.below⟩
end Go.Proofs.YtokglimimnelaaaGreatDoor
