import Derived.Test.YtfekddndgakneaaGreatDoorM04
import Derived.Laws.StructEq
set_option maxRecDepth 100000
set_option maxHeartbeats 40000000
set_option linter.unusedVariables false
set_option linter.unusedSimpArgs false
namespace Go.Proofs.YtfekddndgakneaaGreatDoor
open Go.Vc Go.RowKit Go.Fl
def okM (lows:List Int) (seq:Int) (m:Mem):Bool:=!(C0 m.req==0)&&decide (M1 lows (C0 m.req)<=m.req)&&decide (0<=m.res.err)&&decide (m.res.err<=13)&&decide (0<=m.res.ver)&&decide (m.res.ver<=seq)
theorem U3 (lows:List Int) (seq:Int):∀ (l:List Mem) (p:Option Int),A1X lows seq p l=true↔(∀ m∈l,okM lows seq m=true)/\l.Pairwise (fun a b=>a.req<b.req)/\∀ q,p=some q->∀ m∈l,q<m.req
 | [],p=>by simp [A1X]
 | m::r,p=>by
  have e:A1X lows seq p (m::r)=(okM lows seq m&&(match p with | none=>true | some q=>decide (q<m.req))&&A1X lows seq (some m.req) r):=by
   have e0:A1X lows seq p (m::r)=(!(C0 m.req==0)&&decide (M1 lows (C0 m.req)<=m.req)&&(match p with | none=>true | some q=>decide (q<m.req))&&
     decide (0<=m.res.err)&&decide (m.res.err<=13)&&decide (0<=m.res.ver)&&decide (m.res.ver<=seq)&&A1X lows seq (some m.req) r):=by
    cases p<;>simp only [A1X]
   rw [e0,okM,Bool.eq_iff_iff]
   simp only [Bool.and_eq_true]
   constructor
   ·rintro⟨⟨⟨⟨⟨⟨⟨h1,h2⟩,h3⟩,h4⟩,h5⟩,h6⟩,h7⟩,h8⟩;exact⟨⟨⟨⟨⟨⟨⟨h1,h2⟩,h4⟩,h5⟩,h6⟩,h7⟩,h3⟩,h8⟩
   ·rintro⟨⟨⟨⟨⟨⟨⟨h1,h2⟩,h4⟩,h5⟩,h6⟩,h7⟩,h3⟩,h8⟩;exact⟨⟨⟨⟨⟨⟨⟨h1,h2⟩,h3⟩,h4⟩,h5⟩,h6⟩,h7⟩,h8⟩
  rw [e,Bool.and_eq_true,Bool.and_eq_true,U3 lows seq r]
  simp only [List.mem_cons,forall_eq_or_imp,List.pairwise_cons]
  constructor
  ·rintro⟨⟨h1,h2⟩,h3,h4,h5⟩
   refine⟨⟨h1,h3⟩,⟨fun m' hm'=>h5 _ rfl m' hm',h4⟩,fun q hq=>?_⟩
   subst hq
   simp only [decide_eq_true_eq] at h2
   exact⟨h2,fun m' hm'=>Int.lt_trans h2 (h5 _ rfl m' hm')⟩
  ·rintro⟨⟨h1,h3⟩,⟨h6,h4⟩,h7⟩
   refine⟨⟨h1,?_⟩,h3,h4,fun q hq m' hm'=>by cases hq;exact h6 m' hm'⟩
   cases p with
   | none=>rfl
   | some q=>simpa using (h7 q rfl).1
theorem A6U:∀ (l:List Mem) (n:Int),∀ m∈l.take (R8 l n),m.req<n
 | [],n,m,h=>by simp at h
 | x::r,n,m,h=>by
  by_cases c:x.req<n
  ·rw [R8,if_pos c,List.take_succ_cons] at h
   cases h with
   | head=>exact c
   | tail _ h=>exact A6U r n m h
  ·rw [R8,if_neg c] at h;simp at h
theorem A6V:∀ (l:List Mem) (n:Int),l.Pairwise (fun a b=>a.req<b.req)->A0N l n=none->∀ m∈l.drop (R8 l n),n<m.req
 | [],n,_,_,m,h=>by simp at h
 | x::r,n,hp,hn,m,h=>by
  rw [List.pairwise_cons] at hp
  by_cases c:x.req<n
  ·rw [R8,if_pos c,List.drop_succ_cons] at h
   refine A6V r n hp.2 ?_ m h
   simpa [A0N,R8,c] using hn
  ·rw [R8,if_neg c,List.drop_zero] at h
   have hx:x.req≠n:=fun e=>by simp [A0N,R8,c,e] at hn
   cases h with
   | head=>omega
   | tail _ h=>have:=hp.1 m h;omega
theorem A6W {α:Type} {l:List α} {i:Nat} {x:α} (h:x∈l.take i\/x∈l.drop i):x∈l:=by
 rcases h with h | h
 ·exact List.mem_of_mem_take h
 ·exact List.mem_of_mem_drop h
theorem A2Z {α:Type} {R:α->α->Prop} {l:List α} {i j:Nat} {es:List α} (hij:i<=j) (hp:l.Pairwise R) (he:es.Pairwise R) (h1:∀ a∈l.take i,∀ e∈es,R a e) (h2:∀ e∈es,∀ b∈l.drop j,R e b):
  (l.take i++es++l.drop j).Pairwise R:=by
 have h3:∀ a∈l.take i,∀ b∈l.drop j,R a b:=by
  have hp':(l.take i++l.drop i).Pairwise R:=by rw [List.take_append_drop];exact hp
  rw [List.pairwise_append] at hp'
  intro a ha b hb
  refine hp'.2.2 a ha b ?_
  have e:l.drop j=(l.drop i).drop (j-i):=by rw [List.drop_drop];congr 1;omega
  rw [e] at hb
  exact List.mem_of_mem_drop hb
 rw [List.pairwise_append,List.pairwise_append]
 refine⟨⟨hp.sublist (List.take_sublist ..),he,h1⟩,hp.sublist (List.drop_sublist ..),fun a ha b hb=>?_⟩
 rw [List.mem_append] at ha
 rcases ha with ha | ha
 ·exact h3 a ha b hb
 ·exact h2 a ha b hb
theorem B3u {lows:List Int} {seq:Int} {l:List Mem} {m:Mem} (h:A1X lows seq none l=true) (hn:A0N l m.req=none) (hm:okM lows seq m=true):
  A1X lows seq none (l.take (R8 l m.req)++m::l.drop (R8 l m.req))=true:=by
 rw [U3] at h ⊢
 obtain⟨h1,h2,_⟩:=h
 refine⟨fun x hx=>?_,?_,fun q hq=>by cases hq⟩
 ·rw [List.mem_append,List.mem_cons] at hx
  rcases hx with hx | hx | hx
  ·exact h1 x (A6W (.inl hx))
  ·rw [hx];exact hm
  ·exact h1 x (A6W (.inr hx))
 ·have:=A2Z (es:=[m]) (Nat.le_refl (R8 l m.req)) h2 (List.pairwise_singleton ..) (fun a ha e he=>by
   rw [List.mem_singleton] at he;subst he;exact A6U l _ a ha) (fun e he b hb=>by
   rw [List.mem_singleton] at he;subst he;exact A6V l _ h2 hn b hb)
  simpa using this
theorem B5v {lows:List Int} {seq seq':Int} {m:Mem} (h:okM lows seq m=true) (hs:seq<=seq'):okM lows seq' m=true:=by
 unfold okM at*
 simp only [Bool.and_eq_true,decide_eq_true_eq] at*
 exact⟨h.1,by omega⟩
theorem A8f {lows:List Int} {seq seq':Int} {p:Option Int} {l:List Mem} (h:A1X lows seq p l=true) (hs:seq<=seq'):A1X lows seq' p l=true:=by
 rw [U3] at h ⊢
 exact⟨fun m hm=>B5v (h.1 m hm) hs,h.2⟩
theorem S6 (n:Int):0<=C0 n/\C0 n<=5:=by unfold C0;split<;>omega
theorem B1O (lows:List Int) (h h' x:Int) (hl:lows.length=5) (r:1<=h/\h<=5) (r':1<=h'/\h'<=5):M1 (lows.set (h-1).toNat x) h'=if h'=h then x else M1 lows h':=by
 unfold M1
 rw [List.getD_eq_getElem?_getD,List.getElem?_set]
 by_cases e:h'=h
 ·subst e
  rw [if_pos rfl,if_pos rfl,if_pos (by omega)]
  rfl
 ·rw [if_neg (by omega),if_neg e,List.getD_eq_getElem?_getD]
theorem B1P {lows:List Int} {seq low h:Int} {l:List Mem} (hl:lows.length=5) (hr:1<=h/\h<=5) (hm:A1X lows seq none l=true):A1X (lows.set (h-1).toNat low) seq none (T9 low h l)=true:=by
 rw [U3] at hm ⊢
 obtain⟨h1,h2,_⟩:=hm
 refine⟨fun m hmem=>?_,h2.sublist (List.filter_sublist ..),fun q hq=>by cases hq⟩
 rw [T9,List.mem_filter] at hmem
 obtain⟨hm1,hm2⟩:=hmem
 have ho:=h1 m hm1
 unfold okM at ho ⊢
 simp only [Bool.and_eq_true,decide_eq_true_eq,Bool.not_eq_true',beq_eq_false_iff_ne,ne_eq] at ho ⊢
 have hh:=S6 m.req
 refine⟨⟨⟨⟨⟨ho.1.1.1.1.1,?_⟩,ho.1.1.1.2⟩,ho.1.1.2⟩,ho.1.2⟩,ho.2⟩
 rw [B1O lows h _ low hl hr (by omega)]
 by_cases e:C0 m.req=h
 ·rw [if_pos e]
  simp [e] at hm2
  exact hm2
 ·rw [if_neg e];exact ho.1.1.1.1.2
theorem A0Q:∀ (l:List Int) (i:Nat),Z8 i l=true↔∀ (j:Nat) (x:Int),l[j]?=some x->x=0\/C0 x=(i:Int)+j+1
 | [],i=>by simp [Z8]
 | x::r,i=>by
  rw [Z8,Bool.and_eq_true,A0Q r (i+1),Bool.or_eq_true,beq_iff_eq,beq_iff_eq]
  constructor
  ·rintro⟨h1,h2⟩ j y hy
   cases j with
   | zero=>
    simp at hy
    subst hy
    rcases h1 with h1 | h1
    ·exact .inl h1
    ·right;rw [h1];simp
   | succ j=>
    rcases h2 j y (by simpa using hy) with h | h
    ·exact .inl h
    ·right;rw [h];push_cast;omega
  ·intro h
   refine⟨?_,fun j y hy=>?_⟩
   ·rcases h 0 x rfl with h | h
    ·exact .inl h
    ·right;rw [h];simp
   ·rcases h (j+1) y (by simpa using hy) with h | h
    ·exact .inl h
    ·right;rw [h];push_cast;omega
theorem B1Q {lows:List Int} {h x:Int} (hb:Z8 0 lows=true) (hr:1<=h/\h<=5) (hx:C0 x=h):Z8 0 (lows.set (h-1).toNat x)=true:=by
 rw [A0Q] at hb ⊢
 intro j y hy
 rw [List.getElem?_set] at hy
 by_cases e:(h-1).toNat=j
 ·rw [if_pos e] at hy
  split at hy
  ·cases hy
   right
   rw [hx]
   have:(j:Int)=h-1:=by omega
   rw [this];simp<;>omega
  ·cases hy
 ·rw [if_neg e] at hy
  exact hb j y hy
theorem Y0:∀ (l:List Ver) (a:Int),A7Z a l=true↔(∀ v∈l,T8 v=true)/\l.Pairwise (fun x y=>x.ver<y.ver)/\∀ v∈l,a<v.ver
 | [],a=>by simp [A7Z]
 | v::r,a=>by
  rw [A7Z,Bool.and_eq_true,Bool.and_eq_true,Y0 r v.ver,decide_eq_true_eq]
  simp only [List.mem_cons,forall_eq_or_imp,List.pairwise_cons]
  constructor
  ·rintro⟨⟨h1,h2⟩,h3,h4,h5⟩
   exact⟨⟨h1,h3⟩,⟨h5,h4⟩,h2,fun x hx=>Int.lt_trans h2 (h5 x hx)⟩
  ·rintro⟨⟨h1,h3⟩,⟨h5,h4⟩,h2,h6⟩
   exact⟨⟨h1,h2⟩,h3,h4,h5⟩
theorem A4R (l:List Ver) (v:Ver):H7 (l++[v])=v:=by simp [H7,List.getLastD_eq_getLast?]
theorem A3O {l:List Ver} (h:l≠[]):H7 l∈l:=by
 rcases List.eq_nil_or_concat l with rfl | ⟨l',c,e0⟩
 ·exact absurd rfl h
 ·rw [List.concat_eq_append] at e0
  subst e0
  rw [A4R];simp
theorem B3v {l:List Ver} (hp:l.Pairwise (fun x y=>x.ver<y.ver)):∀ v∈l,v.ver<=(H7 l).ver:=by
 rcases List.eq_nil_or_concat l with rfl | ⟨l',c,e0⟩
 ·intro v h;cases h
 ·rw [List.concat_eq_append] at e0
  subst e0
  rw [A4R]
  rw [List.pairwise_append] at hp
  intro v hv
  rw [List.mem_append,List.mem_singleton] at hv
  rcases hv with hv | hv
  ·exact Int.le_of_lt (hp.2.2 v hv c (by simp))
  ·rw [hv];exact Int.le_refl _
def A38 (seq:Int) (e:Ent):Prop:=A2q e=true/\∀ v∈e.vs,v.ver<=seq
theorem B1R {seq:Int} {e:Ent}:(A2q e&&decide ((H7 e.vs).ver<=seq))=true↔A38 seq e:=by
 rw [Bool.and_eq_true,decide_eq_true_eq]
 unfold A38
 constructor
 ·rintro⟨h1,h2⟩
  refine⟨h1,fun v hv=>?_⟩
  unfold A2q at h1
  simp only [Bool.and_eq_true] at h1
  have:=B3v ((Y0 _ _).1 h1.1.1.1).2.1 v hv
  omega
 ·rintro⟨h1,h2⟩
  refine⟨h1,h2 _ (A3O fun e0=>?_)⟩
  unfold A2q at h1
  rw [e0] at h1
  simp at h1
theorem L8 (seq:Int):∀ (l:List Ent) (p:Option ByteArray),A14 seq p l=true↔(∀ e∈l,A38 seq e)/\l.Pairwise (fun a b=>D9 a.key b.key=true)/\∀ q,p=some q->∀ e∈l,D9 q e.key=true
 | [],p=>by simp [A14]
 | e::r,p=>by
  have e0:A14 seq p (e::r)=((A2q e&&decide ((H7 e.vs).ver<=seq))&&(match p with | none=>true | some k=>D9 k e.key)&&A14 seq (some e.key) r):=by
   cases p<;>simp only [A14]
  rw [e0,Bool.and_eq_true,Bool.and_eq_true,B1R,L8 seq r]
  simp only [List.mem_cons,forall_eq_or_imp,List.pairwise_cons]
  constructor
  ·rintro⟨⟨h1,h2⟩,h3,h4,h5⟩
   refine⟨⟨h1,h3⟩,⟨fun m' hm'=>h5 _ rfl m' hm',h4⟩,fun q hq=>?_⟩
   subst hq
   exact⟨h2,fun m' hm'=>X9 h2 (h5 _ rfl m' hm')⟩
  ·rintro⟨⟨h1,h3⟩,⟨h6,h4⟩,h7⟩
   refine⟨⟨h1,?_⟩,h3,h4,fun q hq m' hm'=>by cases hq;exact h6 m' hm'⟩
   cases p with
   | none=>rfl
   | some q=>exact (h7 q rfl).1
theorem A8g {seq seq':Int} {p:Option ByteArray} {l:List Ent} (h:A14 seq p l=true) (hs:seq<=seq'):A14 seq' p l=true:=by
 rw [L8] at h ⊢
 exact⟨fun m hm=>⟨(h.1 m hm).1,fun v hv=>Int.le_trans ((h.1 m hm).2 v hv) hs⟩,h.2⟩
theorem A6X:∀ (l:List Ent) (n:ByteArray),∀ m∈l.take (I3 l n),D9 m.key n=true
 | [],n,m,h=>by simp at h
 | x::r,n,m,h=>by
  by_cases c:D9 x.key n=true
  ·rw [I3,if_pos c,List.take_succ_cons] at h
   cases h with
   | head=>exact c
   | tail _ h=>exact A6X r n m h
  ·rw [I3,if_neg c] at h;simp at h
theorem W3 {l:List Ent} {k:ByteArray} {e:Ent} (h:J1 l k=some e):l[I3 l k]?=some e/\e.key=k:=by
 unfold J1 at h
 cases e1:l[I3 l k]? with
 | none=>rw [e1] at h;cases h
 | some x=>
  rw [e1] at h
  simp only at h
  by_cases c:C8 x.key k=true
  ·rw [if_pos c] at h
   cases h
   exact⟨rfl,C5.1 c⟩
  ·rw [if_neg c] at h;cases h
theorem A6Y:∀ (l:List Ent) (n:ByteArray),l.Pairwise (fun a b=>D9 a.key b.key=true)->∀ m∈l.drop (if (J1 l n).isSome then I3 l n+1 else I3 l n),D9 n m.key=true
 | [],n,_,m,h=>by simp at h
 | x::r,n,hp,m,h=>by
  rw [List.pairwise_cons] at hp
  by_cases c:D9 x.key n=true
  ·have e1:J1 (x::r) n=J1 r n:=by simp [J1,I3,c]
   have e2:(if (J1 (x::r) n).isSome then I3 (x::r) n+1 else I3 (x::r) n)=(if (J1 r n).isSome then I3 r n+1 else I3 r n)+1:=by
    rw [e1,I3,if_pos c]
    split<;>rfl
   rw [e2,List.drop_succ_cons] at h
   exact A6Y r n hp.2 m h
  ·have e0:I3 (x::r) n=0:=by rw [I3,if_neg c]
   have e1:J1 (x::r) n=if C8 x.key n then some x else none:=by simp [J1,e0]
   rw [e0,e1] at h
   by_cases c2:C8 x.key n=true
   ·rw [if_pos c2] at h
    rw [C5] at c2
    simp at h
    rw [<-c2]
    exact hp.1 m h
   ·rw [if_neg c2] at h
    simp only [Option.isSome_none,Bool.false_eq_true,if_false,List.drop_zero] at h
    have hx:D9 n x.key=true:=by
     have:=A0M x.key n
     have c':D9 x.key n=false:=by simpa using c
     rw [c'] at this
     have c2':C8 n x.key=false:=by
      cases e:C8 n x.key
      ·rfl
      ·rw [C5] at e;rw [e] at c2;exact absurd (C5.2 rfl) c2
     rw [c2'] at this
     simpa using this.symm
    cases h with
    | head=>exact hx
    | tail _ h=>exact X9 hx (hp.1 m h)
theorem A8h {seq:Int} {l:List Ent} {k:ByteArray} {es:List Ent} (h:A14 seq none l=true) (he:∀ e∈es,A38 seq e/\e.key=k) (h1:es.length<=1):A14 seq none (A3L l k (J1 l k).isSome es)=true:=by
 rw [L8] at h ⊢
 obtain⟨a1,a2,_⟩:=h
 refine⟨fun x hx=>?_,?_,fun q hq=>by cases hq⟩
 ·rw [A3L,List.mem_append,List.mem_append] at hx
  rcases hx with (hx | hx) | hx
  ·exact a1 x (List.mem_of_mem_take hx)
  ·exact (he x hx).1
  ·exact a1 x (List.mem_of_mem_drop hx)
 ·refine A2Z (by split<;>omega) a2 ?_ (fun a ha e hm=>by rw [(he e hm).2];exact A6X l k a ha) (fun e hm b hb=>by rw [(he e hm).2];exact A6Y l k a2 b hb)
  match es,h1 with
  | [],_=>exact List.Pairwise.nil
  | [x],_=>exact List.pairwise_singleton ..
theorem A8i {l:List Ent} {k:ByteArray} {es:List Ent} (h1:es.length<=1) (h:l.length<40\/(J1 l k).isSome=true) (h0:l.length<=40):(A3L l k (J1 l k).isSome es).length<=40:=by
 rw [A3L,List.length_append,List.length_append,List.length_take,List.length_drop]
 cases e:J1 l k with
 | none=>
  rw [e] at h
  simp at h ⊢
  omega
 | some x=>
  have:=(W3 e).1
  have hlt:I3 l k<l.length:=by
   rcases Nat.lt_or_ge (I3 l k) l.length with h | h
   ·exact h
   ·rw [List.getElem?_eq_none h] at this;cases this
  simp
  omega
theorem A6Z {l:List Ent} {k:ByteArray} {e:Ent} (h:J1 l k=some e):e∈l:=List.mem_of_getElem? (W3 h).1
theorem A3P:∀ {l:List Ver} {n:Int} {i:Nat},A13 l n=some i->∃ h:i<l.length,l[i].ver=n
 | v::r,n,i,h=>by
  rw [A13] at h
  by_cases c:(v.ver==n)=true
  ·rw [if_pos c] at h
   cases h
   exact⟨Nat.succ_pos _,by simpa using c⟩
  ·rw [if_neg c] at h
   cases e:A13 r n with
   | none=>rw [e] at h;cases h
   | some j=>
    rw [e] at h
    cases h
    obtain⟨h1,h2⟩:=A3P e
    exact⟨Nat.succ_lt_succ h1,h2⟩
 | [],n,i,h=>by rw [A13] at h;cases h
theorem F4 {e:Ent}:A2q e=true↔A7Z 0 e.vs=true/\A54 e.key=true/\1<=e.vs.length/\e.vs.length<=12:=by
 simp [A2q,and_assoc]
theorem B5w (l:List Ent) (seq:Int) (d:D):0<=(doK l seq d).2.err/\(doK l seq d).2.err<=13/\((doK l seq d).2.ver=0\/(doK l seq d).2.ver=seq\/((doK l seq d).2.ver=d.ver/\d.kind=3/\(A13 ((J1 l d.key).getD ⟨d.key,[]⟩).vs d.ver).isSome=true)):=by
 unfold doK
 simp only
 split
 ·rename_i hk
  cases e:A13 ((J1 l d.key).getD ⟨d.key,[]⟩).vs d.ver with
  | none=>simp
  | some j=>simp;right;right;simpa using hk
 ·split
  ·simp
  ·split
   ·simp
   ·split<;>simp
theorem B7X {l:List Ent} {seq:Int} {d:D} (h0:0<=seq) (hs:seq<J9) (hd:J4 d=true) (hr:A14 seq none l=true) (hl:l.length<=40):
  A14 (seq+1) none (doK l (seq+1) d).1=true/\(doK l (seq+1) d).1.length<=40/\0<=(doK l (seq+1) d).2.ver/\(doK l (seq+1) d).2.ver<=seq+1:=by
 have hr':=A8g hr (show seq<=seq+1 by omega)
 have old:∀ e:Ent,J1 l d.key=some e->A38 seq e:=fun e he=>((L8 seq l none).1 hr).1 e (A6Z he)
 have hkey:A54 d.key=true:=by
  unfold J4 at hd
  simp only [Bool.and_eq_true] at hd
  exact hd.1.1.1.1
 have body:=(A2B hd).2.1
 unfold doK
 simp only
 split
 ·rename_i hk
  cases ea:J1 l d.key with
  | none=>
   simp only [Option.getD_none,A13]
   exact⟨hr',hl,by simp;omega⟩
  | some x=>
   simp only [Option.getD_some,Option.isSome_some]
   cases e:A13 x.vs d.ver with
   | none=>exact⟨hr',hl,by simp;omega⟩
   | some j=>
    obtain⟨hj,hv⟩:=A3P e
    have ho:=old x ea
    have hks:=(W3 ea).2
    have hsub:(x.vs.take j++x.vs.drop (j+1)).Sublist x.vs:=by
     have:=(List.Sublist.refl (x.vs.take j)).append (List.drop_sublist_drop_left x.vs (Nat.le_succ j))
     rwa [List.take_append_drop] at this
    obtain⟨p1,p2,p3,p4⟩:=F4.1 ho.1
    rw [Y0] at p1
    have hlen:(x.vs.take j++x.vs.drop (j+1)).length=x.vs.length-1:=by rw [List.length_append,List.length_take,List.length_drop];omega
    have hv1:1<=d.ver/\d.ver<=seq:=by
     rw [<-hv]
     have m:=List.getElem_mem hj
     have a1:=p1.2.2 _ m
     have a2:=ho.2 _ m
     omega
    have key:∀ es:List Ent,es=(if (x.vs.take j++x.vs.drop (j+1)).length=0 then [] else [⟨x.key,x.vs.take j++x.vs.drop (j+1)⟩])->es.length<=1/\∀ e∈es,A38 (seq+1) e/\e.key=d.key:=by
     intro es hes
     subst hes
     split
     ·exact⟨by simp,fun e he=>by cases he⟩
     ·refine⟨by simp,fun e he=>?_⟩
      rw [List.mem_singleton] at he
      subst he
      refine⟨⟨F4.2 ⟨(Y0 _ _).2 ⟨fun v hv=>p1.1 v (hsub.subset hv),p1.2.1.sublist hsub,fun v hv=>p1.2.2 v (hsub.subset hv)⟩,p2,by simp only;omega,by simp only;omega⟩,fun v hv=>?_⟩,hks⟩
      have:=ho.2 v (hsub.subset hv)
      omega
    obtain⟨k1,k2⟩:=key _ rfl
    have r1:=A8h hr' k2 k1
    have r2:=A8i (l:=l) (k:=d.key) k1 (.inr (by rw [ea];rfl)) hl
    rw [ea] at r1 r2
    exact⟨r1,r2,by simp only;omega,by simp only;omega⟩
 ·rename_i hk3
  split
  ·exact⟨hr',hl,by simp;omega⟩
  ·split
   ·exact⟨hr',hl,by simp;omega⟩
   ·rename_i hk2
    split
    ·exact⟨hr',hl,by simp;omega⟩
    ·rename_i hf
     simp only [Bool.or_eq_true,Bool.and_eq_true,decide_eq_true_eq,not_or,Bool.not_eq_true'] at hf
     have hfull:=hf.2
     have hvlen:((J1 l d.key).getD ⟨d.key,[]⟩).vs.length<12:=by simpa using hf.1
     have hnew:T8 ⟨seq+1,d.kind==2,d.body⟩=true:=by
      have hm:J9=1099511627776:=rfl
      unfold T8
      simp only [Bool.and_eq_true,decide_eq_true_eq,Bool.or_eq_true,Bool.not_eq_true']
      refine⟨⟨⟨by omega,by omega⟩,by omega⟩,?_⟩
      by_cases k2:d.kind=2
      ·right
       unfold J4 at hd
       rw [k2] at hd
       simp only [Bool.and_eq_true] at hd
       have:=hd.2
       simp only [show ((2:Int)==1)=false by decide,show ((2:Int)==2)=true by decide,Bool.false_eq_true,if_false,if_true,Bool.and_eq_true] at this
       exact this.1.1.1
      ·left;simpa using k2
     have hold:∀ x:Ent,x=(J1 l d.key).getD ⟨d.key,[]⟩->A7Z 0 x.vs=true/\x.key=d.key/\∀ v∈x.vs,v.ver<=seq:=by
      intro x hx
      cases ea:J1 l d.key with
      | none=>rw [ea] at hx;subst hx;exact⟨rfl,rfl,fun v hv=>by cases hv⟩
      | some y=>
       rw [ea] at hx
       subst hx
       have ho:=old _ ea
       exact⟨(F4.1 ho.1).1,(W3 ea).2,ho.2⟩
     obtain⟨q1,q2,q3⟩:=hold _ rfl
     generalize (J1 l d.key).getD ⟨d.key,[]⟩=x at*
     rw [Y0] at q1
     have k2:∀ e∈([⟨x.key,x.vs++[⟨seq+1,d.kind==2,d.body⟩]⟩]:List Ent),A38 (seq+1) e/\e.key=d.key:=by
      intro e he
      rw [List.mem_singleton] at he
      subst he
      refine⟨⟨F4.2 ⟨(Y0 _ _).2 ⟨fun v hv=>?_,?_,fun v hv=>?_⟩,by simp only;rw [q2];exact hkey,by simp,by simp;omega⟩,fun v hv=>?_⟩,q2⟩
      ·simp only [List.mem_append,List.mem_singleton] at hv
       rcases hv with hv | hv
       ·exact q1.1 v hv
       ·rw [hv];exact hnew
      ·rw [List.pairwise_append]
       refine⟨q1.2.1,List.pairwise_singleton ..,fun a ha b hb=>?_⟩
       rw [List.mem_singleton] at hb
       subst hb
       have:=q3 a ha
       simp only;omega
      ·simp only [List.mem_append,List.mem_singleton] at hv
       rcases hv with hv | hv
       ·exact q1.2.2 v hv
       ·rw [hv];simp only;omega
      ·simp only [List.mem_append,List.mem_singleton] at hv
       rcases hv with hv | hv
       ·have:=q3 v hv;omega
       ·rw [hv];simp only;omega
     refine⟨A8h hr' k2 (by simp),A8i (by simp) ?_ hl,by simp only;omega,by simp only;omega⟩
     by_cases c:(J1 l d.key).isSome=true
     ·exact .inr c
     ·left
      rcases Nat.lt_or_ge l.length 40 with h | h
      ·exact h
      ·exact absurd ⟨by simpa using c,h⟩ hfull
theorem E5 {s:Stt}:Q1 s=true↔(0<=s.seq/\s.seq<=J9)/\(s.l.length<=40/\s.ms.length<=100)/\A14 s.seq none s.l=true/\Z8 0 s.lows=true/\A1X s.lows s.seq none s.ms=true:=by
 simp [Q1,and_assoc]
theorem A8j {s:Stt} {d:D} (hl5:s.lows.length=5) (h:Q1 s=true):Q1 (doS s d).1=true:=by
 obtain⟨⟨a1,a2⟩,⟨a3,a4⟩,a5,a6,a7⟩:=E5.1 h
 have more:J9<=s.seq\/Q1 ⟨s.seq+1,s.l,s.ms,s.lows⟩=true:=by
  rcases Int.lt_or_le s.seq J9 with c | c
  ·exact .inr (E5.2 ⟨⟨by simp only;omega,by simp only;omega⟩,⟨a3,a4⟩,A8g a5 (by simp only;omega),a6,A8f a7 (by simp only;omega)⟩)
  ·exact .inl c
 unfold doS
 split
 ·exact h
 rename_i c1
 have hd:J4 d=true:=by
  cases e:J4 d
  ·simp [e] at c1
  ·rfl
 split
 ·exact h
 rename_i c2
 have more:Q1 ⟨s.seq+1,s.l,s.ms,s.lows⟩=true:=more.resolve_left c2
 split
 ·exact more
 rename_i c3
 split
 ·exact more
 rename_i c4
 split
 ·exact more
 rename_i c5
 obtain⟨b1,b2,b3,b4⟩:=B7X (d:=d) a1 (by omega) hd a5 a3
 obtain⟨e1,e2,_⟩:=B5w s.l (s.seq+1) d
 have hh:=S6 d.req
 have hne:C0 d.req≠0:=by
  unfold J4 at hd
  simp only [Bool.and_eq_true,Bool.not_eq_true',beq_eq_false_iff_ne,ne_eq] at hd
  exact hd.1.1.1.2
 have hm:A1X s.lows (s.seq+1) none (s.ms.take (R8 s.ms d.req)++⟨d.req,(doK s.l (s.seq+1) d).2⟩::s.ms.drop (R8 s.ms d.req))=true:=by
  refine B3u (m:=⟨d.req,_⟩) (A8f a7 (by omega)) c4 ?_
  unfold okM
  simp only [Bool.and_eq_true,decide_eq_true_eq,Bool.not_eq_true',beq_eq_false_iff_ne,ne_eq]
  exact⟨⟨⟨⟨⟨hne,by omega⟩,e1⟩,e2⟩,b3⟩,b4⟩
 have hlen:(s.ms.take (R8 s.ms d.req)++⟨d.req,(doK s.l (s.seq+1) d).2⟩::s.ms.drop (R8 s.ms d.req)).length<=100:=by
  rw [List.length_append,List.length_cons,List.length_take,List.length_drop];omega
 simp only
 split
 ·rename_i c6
  refine E5.2 ⟨⟨by simp only;omega,by simp only;omega⟩,⟨b2,Nat.le_trans (List.length_filter_le ..) hlen⟩,b1,B1Q a6 (by omega) c6.2,B1P hl5 (by omega) hm⟩
 ·exact E5.2 ⟨⟨by simp only;omega,by simp only;omega⟩,⟨b2,hlen⟩,b1,a6,hm⟩
theorem M8 (g:V->Int) (hg:∀ v,1<=g v) (b:Nat):∀ (l:List V) (n:Int),(∀ x∈l,g x<=b)->n+(b*l.length:Nat)<=6000->A03 g l n<=n+(b*l.length:Nat)
 | [],n,h,hn=>by rw [A03];simp
 | x::r,n,h,hn=>by
  have hx:=h x (by simp)
  have e:b*(x::r).length=b+b*r.length:=by rw [List.length_cons,Nat.mul_succ,Nat.add_comm]
  rw [e] at hn ⊢
  rw [D6,if_neg (by omega)]
  have:=M8 g hg b r (n+g x) (fun y hy=>h y (by simp [hy])) (by omega)
  omega
theorem K0 (f:Nat) (l:List V):cnt (f+1) (J3 l)=A03 (cnt f) l 1:=by
 simp [J3,cnt,mt,C8]
theorem O0 (f:Nat) (n:Int):cnt (f+1) (I4 n)=1:=by simp [I4,cnt,mt,C8]
theorem A3Q (f:Nat) (s:ByteArray):cnt (f+1) (vStr s)=1:=by simp [vStr,cnt]
theorem B5x (v:Ver):cnt 2 (A35 v)=4:=by simp [A35,K0,O0,A3Q,A03]
theorem B5y (f:Nat) (m:Mem):cnt (f+2) (A37 m)=4:=by simp [A37,K0,O0,A03]
theorem B5z (e:Ent) (h:e.vs.length<=12):cnt 4 (A36 e)<=51:=by
 have h1:=M8 (cnt 2) (fun v=>(H6 2 v).1) 4 (e.vs.map A35) 1 (fun x hx=>by
  obtain⟨v,_,rfl⟩:=List.mem_map.1 hx
  rw [B5x];decide) (by rw [List.length_map];omega)
 rw [List.length_map] at h1
 rw [A36,K0,D6,A3Q,if_neg (by decide),D6,K0,if_neg (by omega),A03]
 omega
theorem A6a (s:Stt) (h5:s.lows.length=5) (h:Q1 s=true):A0t (A4O s)=true:=by
 obtain⟨_,⟨a3,a4⟩,a5,_,_⟩:=E5.1 h
 have he:=((L8 _ _ _).1 a5).1
 have h1:=M8 (cnt 4) (fun v=>(H6 4 v).1) 51 (s.l.map A36) 1 (fun x hx=>by
  obtain⟨e,hm,rfl⟩:=List.mem_map.1 hx
  exact B5z e (F4.1 (he e hm).1).2.2.2) (by rw [List.length_map];omega)
 have h2:=M8 (cnt 4) (fun v=>(H6 4 v).1) 4 (s.ms.map A37) 1 (fun x hx=>by
  obtain⟨e,hm,rfl⟩:=List.mem_map.1 hx
  rw [B5y];decide) (by rw [List.length_map];omega)
 have h3:=M8 (cnt 4) (fun v=>(H6 4 v).1) 1 (s.lows.map I4) 1 (fun x hx=>by
  obtain⟨e,hm,rfl⟩:=List.mem_map.1 hx
  rw [O0];decide) (by rw [List.length_map];omega)
 rw [List.length_map] at h1 h2 h3
 rw [A0t,decide_eq_true_eq,A4O,K0,D6,O0,if_neg (by decide),D6,K0,if_neg (by omega),D6,K0,if_neg (by omega),D6,K0,if_neg (by omega),A03]
 omega
theorem K5 (b:Nat):∀ l:List V,(∀ x∈l,(I8 x).length<=b)->(L3 l).length<=b*l.length
 | [],_=>by rw [L3];simp
 | x::r,h=>by
  have h1:=h x (by simp)
  have h2:=K5 b r fun y hy=>h y (by simp [hy])
  rw [L3,List.length_append,List.length_cons,Nat.mul_succ]
  omega
theorem A0R (l:List V):G6 (J3 l)=L3 l:=by simp [J3,G6]
theorem P4 (l:List V) (b:Nat) (h:(L3 l).length<=b) (hb:b<10000000):(I8 (J3 l)).length<=b+9:=by
 rw [D8,A0R]
 have:=F2 (u:=(L3 l).length) (by omega)
 omega
theorem A1Z {n:Int} (h:C0 n≠0):4294967296<=n/\n<25769803776:=by unfold C0 at h;split at h<;>omega
theorem A5K {lows:List Int} {seq:Int} {m:Mem} (hs:seq<=J9) (h:okM lows seq m=true):B9 m.req/\B9 m.res.err/\B9 m.res.ver:=by
 unfold okM at h
 simp only [Bool.and_eq_true,decide_eq_true_eq,Bool.not_eq_true',beq_eq_false_iff_ne,ne_eq] at h
 have:=A1Z h.1.1.1.1.1
 have hm:J9=1099511627776:=rfl
 unfold B9
 omega
theorem B3w (m:Mem) (h:B9 m.req/\B9 m.res.err/\B9 m.res.ver):(I8 (A37 m)).length<=99:=by
 have a1:=E7 _ h.1
 have a2:=E7 _ h.2.1
 have a3:=E7 _ h.2.2
 refine P4 _ 90 ?_ (by decide)
 simp only [L3,List.length_append,List.length_nil]
 omega
theorem A0i {v:Ver} (h:T8 v=true):B9 v.ver/\v.body.size<=300:=by
 unfold T8 at h
 simp only [Bool.and_eq_true,decide_eq_true_eq] at h
 unfold B9
 omega
theorem B3x (v:Ver) (h:T8 v=true):(I8 (A35 v)).length<=378:=by
 obtain⟨h1,h2⟩:=A0i h
 have a1:=E7 _ h1
 have a2:=E7 (if v.gone then 1 else 0) (by unfold B9;split<;>omega)
 have a3:=P3 v.body (by omega)
 refine P4 _ 369 ?_ (by decide)
 simp only [L3,List.length_append,List.length_nil]
 omega
theorem A0j {seq:Int} {e:Ent} (h:A38 seq e):∀ v∈e.vs,T8 v=true:=((Y0 _ _).1 (F4.1 h.1).1).1
theorem B3y {seq:Int} (e:Ent) (h:A38 seq e):(I8 (A36 e)).length<=4603:=by
 obtain⟨_,h2,_,h4⟩:=F4.1 h.1
 have a1:=P3 e.key (by have:=A2r h2;omega)
 have a2:=K5 378 (e.vs.map A35) fun x hx=>by
  obtain⟨v,hv,rfl⟩:=List.mem_map.1 hx
  exact B3x v (A0j h v hv)
 rw [List.length_map] at a2
 have a3:=P4 (e.vs.map A35) 4536 (by omega) (by decide)
 have:=A2r h2
 refine P4 _ 4594 ?_ (by decide)
 simp only [L3,List.length_append,List.length_nil]
 omega
theorem A1a (s:Stt) (h5:s.lows.length=5) (h:Q1 s=true):(G6 (A4O s)).length<=200000:=by
 obtain⟨⟨a1,a2⟩,⟨a3,a4⟩,a5,a6,a7⟩:=E5.1 h
 have hm:J9=1099511627776:=rfl
 have he:=((L8 _ _ _).1 a5).1
 have hM:=((U3 _ _ _ _).1 a7).1
 have b1:=K5 4603 (s.l.map A36) fun x hx=>by
  obtain⟨v,hv,rfl⟩:=List.mem_map.1 hx
  exact B3y v (he v hv)
 have b2:=K5 99 (s.ms.map A37) fun x hx=>by
  obtain⟨v,hv,rfl⟩:=List.mem_map.1 hx
  exact B3w v (A5K a2 (hM v hv))
 have b3:=K5 30 (s.lows.map I4) fun x hx=>by
  obtain⟨v,hv,rfl⟩:=List.mem_map.1 hx
  obtain⟨j,hj⟩:=List.getElem?_of_mem hv
  refine E7 v ?_
  rcases (A0Q _ _).1 a6 j v hj with h | h
  ·subst h;unfold B9;omega
  ·have:=A1Z (n:=v) (by omega)
   unfold B9;omega
 rw [List.length_map] at b1 b2 b3
 have c0:=E7 s.seq (by unfold B9;omega)
 have c1:=P4 (s.l.map A36) 184120 (by omega) (by decide)
 have c2:=P4 (s.ms.map A37) 9900 (by omega) (by decide)
 have c3:=P4 (s.lows.map I4) 150 (by omega) (by decide)
 rw [A4O,A0R]
 simp only [L3,List.length_append,List.length_nil]
 omega
theorem A04 {α:Type} (f:α->V) (l:List α) (h:∀ x∈l,okV (f x)):okL (l.map f):=by
 induction l with
 | nil=>rw [List.map_nil,okL];trivial
 | cons a r ih=>rw [List.map_cons,okL];exact⟨h a (by simp),ih fun x hx=>h x (by simp [hx])⟩
theorem K1 (l:List V) (h:okL l):okV (J3 l):=by rw [J3,okV];exact⟨by unfold B9;omega,h⟩
theorem L1 (n:Int) (h:B9 n):okV (I4 n):=by rw [I4,okV,okL];exact⟨h,trivial⟩
theorem A3R (s:ByteArray):okV (vStr s):=by rw [vStr,okV,okL];exact⟨by unfold B9;omega,trivial⟩
theorem B50 (v:Ver) (h:T8 v=true):okV (A35 v):=
 K1 _ (by simp only [okL];exact⟨L1 _ (A0i h).1,L1 _ (by unfold B9;split<;>omega),A3R _,trivial⟩)
theorem B51 {seq:Int} (e:Ent) (h:A38 seq e):okV (A36 e):=
 K1 _ (by simp only [okL];exact⟨A3R _,K1 _ (A04 _ _ fun v hv=>B50 v (A0j h v hv)),trivial⟩)
theorem B52 (m:Mem) (h:B9 m.req/\B9 m.res.err/\B9 m.res.ver):okV (A37 m):=
 K1 _ (by simp only [okL];exact⟨L1 _ h.1,L1 _ h.2.1,L1 _ h.2.2,trivial⟩)
theorem A8k (s:Stt) (h:Q1 s=true):okV (A4O s):=by
 obtain⟨⟨a1,a2⟩,⟨a3,a4⟩,a5,a6,a7⟩:=E5.1 h
 have hm:J9=1099511627776:=rfl
 have he:=((L8 _ _ _).1 a5).1
 have hM:=((U3 _ _ _ _).1 a7).1
 refine K1 _ ?_
 simp only [okL]
 refine⟨L1 _ (by unfold B9;omega),K1 _ (A04 _ _ fun e hv=>B51 e (he e hv)),K1 _ (A04 _ _ fun m hv=>B52 m (A5K a2 (hM m hv))),K1 _ (A04 _ _ fun x hv=>L1 x ?_),trivial⟩
 obtain⟨j,hj⟩:=List.getElem?_of_mem hv
 rcases (A0Q _ _).1 a6 j x hj with h | h
 ·subst h;unfold B9;omega
 ·have:=A1Z (n:=x) (by omega)
  unfold B9;omega
theorem B1S (v:Ver):A9W (A35 v)=v:=by
 obtain⟨a,b,c⟩:=v
 cases b<;>rfl
theorem B1T (e:Ent):Z9 (A36 e)=e:=by
 obtain⟨k,vs⟩:=e
 have e1:Z9 (A36 ⟨k,vs⟩)=⟨k,(vs.map A35).map A9W⟩:=rfl
 rw [e1,List.map_map]
 have:(A9W ∘ A35)=id:=funext B1S
 rw [this,List.map_id]
theorem B1U (m:Mem):A30 (A37 m)=m:=rfl
theorem B1V (s:Stt) (h5:s.lows.length=5):A2j (A4O s)=s:=by
 obtain⟨seq,l,ms,lows⟩:=s
 have e1:A2j (A4O ⟨seq,l,ms,lows⟩)=⟨seq,(l.map A36).map Z9,(ms.map A37).map A30,(List.range 5).map fun i=>vN ((lows.map I4).getD i V0)⟩:=rfl
 have e2:(Z9 ∘ A36)=id:=funext B1T
 have e3:(A30 ∘ A37)=id:=funext B1U
 rw [e1,List.map_map,List.map_map,e2,e3,List.map_id,List.map_id]
 congr 1
 simp only at h5
 match lows,h5 with
 | [a,b,c,d,e],_=>rfl
theorem A2C (s:Stt) (h5:s.lows.length=5) (h:Q1 s=true):E1 s=I8 (A4O s):=by
 have h1:=A1a s h5 h
 have:=F2 (u:=(G6 (A4O s)).length) (by omega)
 rw [E1,if_pos h,A2W,A6a s h5 h]
 simp [this]
theorem Y1 (s:Stt) (h5:s.lows.length=5) (h:Q1 s=true):Q2 (E1 s)=(s,0):=by
 have h1:=A1a s h5 h
 have ep:=A2C s h5 h
 have ea:=A1T (A4O s) (A6a s h5 h) (A8k s h) (by omega)
 rw [<-ep] at ea
 unfold Q2
 rw [ea]
 simp only [ne_eq,not_true_eq_false,if_false]
 rw [B1V s h5,if_neg]
 rintro (h | h)
 ·rw [ep] at h;exact B1M _ h
 ·exact h rfl
theorem A2a (a b:ByteArray):(a.toList==b.toList)=C8 a b:=by
 rw [ByteArray.toList_eq,ByteArray.toList_eq]
 rfl
theorem A8l (d:Nat) (w:World) (a b:Ver):(Op.equalIn (d+2) 102 (.agg (F3 a).toArray) (.agg (F3 b).toArray)).run Tryz.prog w=.ok (A2i a b) w:=by
 have e:=run_equalIn_struct (P:=Tryz.prog) w (d+1) 102 (F3 a).toArray (F3 b).toArray (by kernel_rfl) (by kernel_rfl)
 rw [e]
 have hf:(Tryz.prog.fieldsOf 102).toList=(match Tryz.prog.underlying 102 with | some (.struct fs)=>fs.toList | _=>[]):=by kernel_rfl
 rw [hf,Tryz.underlying102]
 simp [F3,A2i,<-A2a,Op.eqFields,run_equalIn_int _ _ _ _ _ _ _ Tryz.underlying2,run_equalIn_bool' _ _ _ _ _ Tryz.underlying4,run_equalIn_string _ _ _ _ _ Tryz.underlying9,part,isAgg,run_underlying Tryz.underlying2,run_underlying Tryz.underlying4,run_underlying Tryz.underlying9]
 by_cases h1:a.ver=b.ver<;>by_cases h2:a.gone=b.gone<;>by_cases h3:a.body.toList=b.body.toList<;>simp [h1,h2,h3]
theorem A2s (d:Nat) (w:World) (a b:Res):(Op.equalIn (d+2) 24 (.agg #[.int .i64 a.err,.int .i64 a.ver]) (.agg #[.int .i64 b.err,.int .i64 b.ver])).run Tryz.prog w=.ok (a.err==b.err&&a.ver==b.ver) w:=by
 have e:=run_equalIn_struct (P:=Tryz.prog) w (d+1) 24 #[.int .i64 a.err,.int .i64 a.ver] #[.int .i64 b.err,.int .i64 b.ver] (by kernel_rfl) (by kernel_rfl)
 rw [e]
 have hf:(Tryz.prog.fieldsOf 24).toList=(match Tryz.prog.underlying 24 with | some (.struct fs)=>fs.toList | _=>[]):=by kernel_rfl
 rw [hf,Tryz.underlying24]
 simp [Op.eqFields,run_equalIn_int _ _ _ _ _ _ _ Tryz.underlying2,run_equalIn_int _ _ _ _ _ _ _ Tryz.underlying22,part,isAgg,run_underlying Tryz.underlying2,run_underlying Tryz.underlying22]
 by_cases h1:a.err=b.err<;>by_cases h2:a.ver=b.ver<;>simp [h1,h2]
theorem B3z (w:World):(Go.sizeOf 24).run Tryz.prog w=.ok 2 w:=by kernel_rfl
theorem A8m (d:Nat) (w:World) (a b:Mem):(Op.equalIn (d+3) 104 (.agg (F5 a).toArray) (.agg (F5 b).toArray)).run Tryz.prog w=.ok (A0v a b) w:=by
 have e:=run_equalIn_struct (P:=Tryz.prog) w (d+2) 104 (F5 a).toArray (F5 b).toArray (by kernel_rfl) (by kernel_rfl)
 rw [e]
 have hf:(Tryz.prog.fieldsOf 104).toList=(match Tryz.prog.underlying 104 with | some (.struct fs)=>fs.toList | _=>[]):=by kernel_rfl
 rw [hf,Tryz.underlying104]
 have hr:∀ w,(Op.equalIn (d+2) 24 (.agg #[.int .i64 a.res.err,.int .i64 a.res.ver]) (.agg #[.int .i64 b.res.err,.int .i64 b.res.ver])).run Tryz.prog w=.ok (a.res.err==b.res.err&&a.res.ver==b.res.ver) w:=fun w=>A2s d w a.res b.res
 simp [F5,A0v,Op.eqFields,run_equalIn_int _ _ _ _ _ _ _ Tryz.underlying2,part,isAgg,run_underlying Tryz.underlying2,run_underlying Tryz.underlying24,B3z,hr]
 by_cases h1:a.req=b.req<;>by_cases h2:a.res.err=b.res.err<;>by_cases h3:a.res.ver=b.res.ver<;>simp [h1,h2,h3]
def eqD (a b:D):Bool:=a.kind==b.kind&&(C8 a.key b.key&&(C8 a.body b.body&&(a.ver==b.ver&&(a.cond==b.cond&&(C8 a.tag b.tag&&(a.req==b.req&&a.low==b.low))))))
theorem A5L {a b:D}:eqD a b=true↔a=b:=by
 obtain⟨a1,a2,a3,a4,a5,a6,a7,a8⟩:=a
 obtain⟨b1,b2,b3,b4,b5,b6,b7,b8⟩:=b
 simp [eqD,C5]
theorem B1W (d:Nat) (w:World) (a b:D):(Op.equalIn (d+2) 60 (.agg (dC a).toArray) (.agg (dC b).toArray)).run Tryz.prog w=.ok (eqD a b) w:=by
 have e:=run_equalIn_struct (P:=Tryz.prog) w (d+1) 60 (dC a).toArray (dC b).toArray (by kernel_rfl) (by kernel_rfl)
 rw [e]
 have hf:(Tryz.prog.fieldsOf 60).toList=(match Tryz.prog.underlying 60 with | some (.struct fs)=>fs.toList | _=>[]):=by kernel_rfl
 rw [hf,Tryz.underlying60]
 simp [dC,eqD,<-A2a,Op.eqFields,run_equalIn_int _ _ _ _ _ _ _ Tryz.underlying2,run_equalIn_int _ _ _ _ _ _ _ Tryz.underlying3,run_equalIn_string _ _ _ _ _ Tryz.underlying9,part,isAgg,run_underlying Tryz.underlying2,run_underlying Tryz.underlying3,run_underlying Tryz.underlying9]
 by_cases h1:a.kind=b.kind
 rotate_left
 ·simp [h1]
 by_cases h2:a.key.toList=b.key.toList
 rotate_left
 ·simp [h1,h2]
 by_cases h3:a.body.toList=b.body.toList
 rotate_left
 ·simp [h1,h2,h3]
 by_cases h4:a.ver=b.ver
 rotate_left
 ·simp [h1,h2,h3,h4]
 by_cases h5:a.cond=b.cond
 rotate_left
 ·simp [h1,h2,h3,h4,h5]
 by_cases h6:a.tag.toList=b.tag.toList
 rotate_left
 ·simp [h1,h2,h3,h4,h5,h6]
 by_cases h7:a.req=b.req<;>by_cases h8:a.low=b.low<;>simp [h1,h2,h3,h4,h5,h6,h7,h8]
theorem A3S {T:TypeId} {xs ys:Array Value} {r:Bool} (hm:Tryz.prog.eqGuardType Tryz.prog.depth T=false) (h:∀ w,(Op.equalIn 10000 T (.agg xs) (.agg ys)).run Tryz.prog w=.ok r w) (ox oy:Operand) (w:World):
  (do eqGuard .eql T ox oy (.agg xs) (.agg ys);Go.binOp .eql T (.agg xs) (.agg ys):Sem Value).run Tryz.prog w=.ok (.bool r) w:=by
 simp only [Sem.run_bind,run_eqGuard_agg w .eql T ox oy xs ys hm,Result.andThen_ok,run_eql_struct,h]
theorem A05 {T:TypeId} {xs ys:Array Value} {r:Bool} (hm:Tryz.prog.eqGuardType Tryz.prog.depth T=false) (h:∀ w,(Op.equalIn 10000 T (.agg xs) (.agg ys)).run Tryz.prog w=.ok r w) (ox oy:Operand) (w:World):
  (do eqGuard .neq T ox oy (.agg xs) (.agg ys);Go.binOp .neq T (.agg xs) (.agg ys):Sem Value).run Tryz.prog w=.ok (.bool (!r)) w:=by
 simp only [Sem.run_bind,run_eqGuard_agg w .neq T ox oy xs ys hm,Result.andThen_ok,run_neq_struct,h]
theorem B5G:Tryz.prog.eqGuardType Tryz.prog.depth 102=false:=by kernel_rfl
theorem B1X:Tryz.prog.eqGuardType Tryz.prog.depth 24=false:=by kernel_rfl
theorem B5H:Tryz.prog.eqGuardType Tryz.prog.depth 104=false:=by kernel_rfl
theorem A7e:Tryz.prog.eqGuardType Tryz.prog.depth 60=false:=by kernel_rfl
theorem F0 (l:List Ver):Flat 3 (l.map F3):=Flat.map F3 (fun _=>⟨rfl,rfl⟩) l
theorem RowV.elem {S:Nat->Prop} {w:World} {A:Option Addr} {n cap:Nat} {l:List Ver} (hR:Row S w A n cap (l.map F3).flatten) (i:Nat) (hi:i<l.length):∃ ad,A=some ad/\Go.Vc.cellsAt w (ad.add (i*3)) (F3 l[i]) 0:=by
 obtain⟨ad,e,h⟩:=Row.elemF hR (by decide) (F0 l) i (by rw [List.length_map];exact hi)
 rw [List.getElem_map] at h
 exact⟨ad,e,h⟩
theorem C9 {S:Nat->Prop} {w:World} {A:Option Addr} {n cap:Nat} {xs:List Value} (hR:Row S w A n cap xs):n<=9223372036854775807:=Nat.le_trans (Nat.le_trans hR.1 hR.2.1) (by decide)
theorem A3T {l:List Ver} (h:l.length-1<l.length):H7 l=l[l.length-1]:=by
 unfold H7
 rw [List.getLastD_eq_getLast?,List.getLast?_eq_getElem?,List.getElem?_eq_getElem h]
 rfl
theorem A7f (v:Ver) (w:World):Calls Tryz.prog 109 #[.agg (F3 v).toArray] w (C7 (.bool (T8 v)) w):=by
 refine vE Tryz.func109 ?_
 intro g w1 h1
 have hc:=((Ctx.start w no (fun _ h=>h.elim)).loc h1).1
 repeat' (first | refine B6 (by assumption) ?_ | refine B4 (by assumption) ?_ | refine J7 (by decide) ?_ | refine hc.c 0 rfl rfl ?_ | refine R4 (fun _=>?_) (fun _=>?_))
 all_goals (refine⟨B7 ?_,hc.below⟩)
 all_goals clear hc h1
 all_goals try simp only [Bool.not_eq_true',Bool.not_eq_false'] at*
 all_goals simp only [T8,mt, *]
 all_goals first | rfl | (simp;done) | skip
theorem A5M (e:Ent) (A:Option Addr) (cap:Nat) (S:Nat->Prop) (w:World) (hR:Row S w A e.vs.length cap (e.vs.map F3).flatten):
  Calls Tryz.prog 219 #[.agg #[.string e.key,.slice A e.vs.length cap]] w (C7 (.tuple #[.agg (F3 (A2X e).1).toArray,.bool (A2X e).2]) w):=by
 refine vE Tryz.func219 ?_
 intro g1 w1 h1
 have hc:=((Ctx.start w no (fun _ h=>h.elim)).loc h1).1
 refine hc.n fun g2 w2 h2 hc=>?_
 refine hc.c 1 rfl rfl ?_
 have hM:=C9 hR
 by_cases h0:e.vs.length=0
 ·refine B6 (by show ((e.vs.length:Int)==0)=true;rw [h0];rfl) ?_
  repeat (first | (intro gA wA hA;have hc:=(hc.loc hA).1) | refine hc.c 0 rfl rfl ?_ | (refine⟨_,?_,hc.cells 0 rfl,?_⟩;(· rfl)) | (refine⟨hc.may 0 rfl _ _ (nle rfl) rfl,?_⟩;intro wA hA;have hc:=(hc.set 0 rfl hA).1) | refine hc.c 1 rfl rfl ?_ | (refine⟨_,?_,hc.cells 1 rfl,?_⟩;(· rfl)) | (refine⟨hc.may 1 rfl _ _ (nle rfl) rfl,?_⟩;intro wA hA;have hc:=(hc.set 1 rfl hA).1) | refine hc.c 2 rfl rfl ?_ | (refine⟨_,?_,hc.cells 2 rfl,?_⟩;(· rfl)) | (refine⟨hc.may 2 rfl _ _ (nle rfl) rfl,?_⟩;intro wA hA;have hc:=(hc.set 2 rfl hA).1) | refine hc.c 3 rfl rfl ?_ | (refine⟨_,?_,hc.cells 3 rfl,?_⟩;(· rfl)) | (refine⟨hc.may 3 rfl _ _ (nle rfl) rfl,?_⟩;intro wA hA;have hc:=(hc.set 3 rfl hA).1) | refine hc.c 4 rfl rfl ?_ | (refine⟨_,?_,hc.cells 4 rfl,?_⟩;(· rfl)) | (refine⟨hc.may 4 rfl _ _ (nle rfl) rfl,?_⟩;intro wA hA;have hc:=(hc.set 4 rfl hA).1))
  rw [A2X,if_pos h0]
  exact⟨rfl,hc.below⟩
 refine B4 (by show ((e.vs.length:Int)==0)=false;rw [beq_eq_false_iff_ne];omega) ?_
 have hlt:e.vs.length-1<e.vs.length:=by omega
 obtain⟨ad,rfl,hcell⟩:=RowV.elem (hR.below hc.below) (e.vs.length-1) hlt
 have hw:IntKind.i64.wrap ((e.vs.length:Int)-1)=((e.vs.length-1:Nat):Int):=by rw [IntWalk.i64_in _ ⟨by omega,by omega⟩];omega
 refine hc.c 1 rfl rfl ?_
 refine hc.c 1 rfl rfl ?_
 refine⟨⟨by rw [hw];omega,by rw [hw];omega⟩,?_⟩
 refine⟨F3 e.vs[e.vs.length-1],rfl,by rw [hw,Int.toNat_natCast];exact hcell,?_⟩
 refine hc.n fun g4 w4 h4 hc=>?_
 refine⟨hc.may 0 rfl 0 _ (Nat.le_refl 3) rfl,?_⟩
 intro w5 h5
 have hc:=(hc.set 0 rfl h5).1
 refine vD (.Q [0,1,2,3] (.n 4 (.q 5 .fin) .stop)) (fun x=>x.cell? ⟨g4,0,none⟩=some (.int .i64 e.vs[e.vs.length-1].ver)/\x.cell? ⟨g4,1,none⟩=some (.bool e.vs[e.vs.length-1].gone)/\x.cell? ⟨g4,2,none⟩=some (.string e.vs[e.vs.length-1].body)) ⟨hc.cell 0 rfl _ rfl,hc.cell 0 rfl _ rfl,hc.cell 0 rfl _ rfl⟩ ?_
 have hc:=hc.drew
 refine⟨F3 e.vs[e.vs.length-1],rfl,fun x hx=>⟨hx.1,hx.2.1,hx.2.2,trivial⟩,?_⟩
 refine⟨_,fun x hx=>hx.2.1,?_⟩
 refine⟨⟨hc.may 1 rfl 0 _ (Nat.le_refl 3) rfl,?_⟩,trivial⟩
 intro w6 h6
 have hc:=(hc.set 1 rfl h6).1
 refine⟨⟨hc.cell 0 rfl _ rfl,hc.cell 0 rfl _ rfl,hc.cell 0 rfl _ rfl⟩,?_⟩
 refine hc.a 1 rfl rfl ?_
 refine⟨?_,hc.below⟩
 rw [A2X,if_neg h0,A3T hlt]
 rfl
theorem A3U (e:Ent) (c:Int) (tag:ByteArray) (A:Option Addr) (cap:Nat) (S:Nat->Prop) (w:World) (hR:Row S w A e.vs.length cap (e.vs.map F3).flatten) (hb:(A2X e).1.body.size<=maxLen):
  Calls Tryz.prog 241 #[.agg #[.string e.key,.slice A e.vs.length cap],.int .i64 c,.string tag] w (C7 (.bool (N6 e c tag)) w):=by
 refine vE Tryz.func241 ?_
 intro g1 w1 h1
 have hc:=((Ctx.start w no (fun _ h=>h.elim)).loc h1).1
 refine hc.a 0 rfl rfl ?_
 refine hc.q (A5M e A cap S w1 (hR.below hc.below)) fun w2 h2 hc=>?_
 refine hc.n fun g4 w4 h4 hc=>?_
 unfold N6
 generalize A2X e=q at*
 obtain⟨v,is⟩:=q
 simp only at hb ⊢
 refine⟨hc.may 0 rfl 0 _ (Nat.le_refl 3) rfl,?_⟩
 intro w5 h5
 have hc:=(hc.set 0 rfl h5).1
 cases c0:(c==0)
 rotate_left
 ·refine B6 c0 ?_
  exact⟨rfl,hc.below⟩
 refine B4 c0 ?_
 cases c1:(c==1)
 rotate_left
 ·refine B6 c1 ?_
  exact⟨rfl,hc.below⟩
 refine B4 c1 ?_
 cases c2:(c==2)
 ·refine B4 c2 ?_
  exact⟨rfl,hc.below⟩
 refine B6 c2 ?_
 cases is
 ·exact⟨rfl,hc.below⟩
 refine hc.c 0 rfl rfl ?_
 refine hc.q (B5q v.body hb _) fun w6 h6 hc=>?_
 exact⟨rfl,hc.below⟩
def B3Q (o:Option Nat):Int:=match o with | some i=>(i:Int) | none => -1
theorem A9X (v:Ver) (a:Addr) (n:Int) (w:World) (ha:w.cell? a=some (.int .i64 n)):Calls Tryz.prog 273 #[.agg (F3 v).toArray,.pointer (some a)] w (C7 (.bool (v.ver==n)) w):=by
 obtain⟨ab,ao,asub⟩:=a
 refine vE Tryz.func273 ?_
 intro g w1 h1
 have hc:=((Ctx.start w no (fun _ h=>h.elim)).loc h1).1
 refine hc.c 0 rfl rfl ?_
 refine⟨_,cell_later hc.below ha,?_⟩
 exact⟨rfl,hc.below⟩
theorem A6b (l:List Ver) (n:Int):∀ i,i<=l.length->(∀ j (hj:j<l.length),j<i->(l[j].ver==n)=false)->A13 l n=(A13 (l.drop i) n).map (·+i):=by
 intro i
 induction i with
 | zero=>intro _ _;simp
 | succ i ih=>
  intro hi h
  have hlt:i<l.length:=by omega
  rw [ih (by omega) fun j hj hji=>h j hj (by omega),List.drop_eq_getElem_cons hlt,A13,h i hlt (by omega)]
  simp only [Bool.false_eq_true,if_false,Option.map_map]
  congr 1
  funext x
  simp only [Function.comp_apply]
  omega
theorem A39 (l:List Ver) (n:Int) (a:Addr) (A:Option Addr) (cap:Nat) (S:Nat->Prop) (w:World) (hR:Row S w A l.length cap (l.map F3).flatten) (ha:w.cell? a=some (.int .i64 n)):
  Calls Tryz.prog 272 #[.slice A l.length cap,.func (.func 273) #[] #[.pointer (some a)]] w (C7 (.int .i64 (B3Q (A13 l n))) w):=by
 refine vE Tryz.func272 ?_
 have hM:=C9 hR
 refine⟨Nat,fun i=>[(0,.slice A l.length cap),(1,.func (.func 273) #[] #[.pointer (some a)]),(7,.int .i64 l.length),(8,.int .i64 i)],
  fun i w'=>i<=l.length/\(∀ j (hj:j<l.length),j<i->(l[j].ver==n)=false)/\Below w.heap.size w w',fun i _=>l.length-i,0,
  ⟨rfl,rfl,rfl,rfl,trivial⟩,⟨Nat.zero_le _,fun j hj h=>absurd h (Nat.not_lt_zero _),Below.refl _ _⟩,?_⟩
 rintro i w' u ⟨hi,he,hb⟩
 by_cases hlt:i<l.length
 ·refine dt (by omega) ?_
  obtain⟨ad,rfl,hcell⟩:=RowV.elem (hR.below hb) i hlt
  refine⟨⟨by omega,by omega⟩,?_⟩
  refine⟨F3 l[i],rfl,hcell,?_⟩
  refine C2 (A9X l[i] a n w' (cell_later hb ha)) ?_
  intro w2 h2
  have hb2:=hb.trans (h2.mono hb.size)
  cases hv:(l[i].ver==n)
  ·refine⟨i+1,⟨rfl,rfl,rfl,congrArg _ (C1 (by omega)),trivial⟩,⟨hlt,fun j hj h=>?_,hb2⟩,by show l.length-(i+1)<l.length-i;omega⟩
   rcases Nat.lt_succ_iff_lt_or_eq.1 h with h | h
   ·exact he j hj h
   ·subst h;exact hv
  ·refine⟨?_,hb2⟩
   rw [A6b l n i hi he,List.drop_eq_getElem_cons hlt,A13,hv]
   show Ending.returned (.int .i64 (i:Int))=Ending.returned (.int .i64 ((0+i:Nat):Int))
   rw [Nat.zero_add]
 ·refine df (by omega) ?_
  refine⟨?_,hb⟩
  rw [A6b l n i hi he,List.drop_of_length_le (by omega),A13]
  rfl
theorem A6c (e:Ent) (n:Int) (A:Option Addr) (cap:Nat) (S:Nat->Prop) (w:World) (hR:Row S w A e.vs.length cap (e.vs.map F3).flatten):
  Calls Tryz.prog 249 #[.agg #[.string e.key,.slice A e.vs.length cap],.int .i64 n] w (C7 (.int .i64 (B3Q (A13 e.vs n))) w):=by
 refine vE Tryz.func249 ?_
 intro g1 w1 h1
 have hc:=((Ctx.start w no (fun _ h=>h.elim)).loc h1).1
 refine hc.n fun g2 w2 h2 hc=>?_
 refine hc.c 1 rfl rfl ?_
 refine C2 (A39 e.vs n ⟨g2,0,none⟩ A cap S w2 (hR.below hc.below) (hc.cell 0 rfl _ rfl)) ?_
 intro w3 h3
 exact⟨rfl,(hc.quiet h3).1.below⟩
def atE (e:Ent) (n:Int):Ver × Bool:=match A13 e.vs n with | none=>(A55,false) | some i=>((e.vs[i]?).getD A55,true)
theorem B7Y (e:Ent) (n:Int) (A:Option Addr) (cap:Nat) (S:Nat->Prop) (w:World) (hR:Row S w A e.vs.length cap (e.vs.map F3).flatten):
  Calls Tryz.prog 218 #[.agg #[.string e.key,.slice A e.vs.length cap],.int .i64 n] w (C7 (.tuple #[.agg (F3 (atE e n).1).toArray,.bool (atE e n).2]) w):=by
 refine vE Tryz.func218 ?_
 intro g1 w1 h1
 have hc:=((Ctx.start w no (fun _ h=>h.elim)).loc h1).1
 refine hc.n fun g2 w2 h2 hc=>?_
 refine hc.a 1 rfl rfl ?_
 refine hc.q (A6c e n A cap S w2 (hR.below hc.below)) fun w3 h3 hc=>?_
 have hM:=C9 hR
 unfold atE
 cases hi:A13 e.vs n with
 | none=>
  refine hc.s 0 rfl fun wS hS hc=>?_
  refine hc.a 0 rfl rfl ?_
  exact⟨rfl,hc.below⟩
 | some i=>
  obtain⟨hlt,_⟩:=A3P hi
  refine hc.c 1 rfl rfl ?_
  obtain⟨ad,rfl,hcell⟩:=RowV.elem (hR.below hc.below) i hlt
  refine⟨⟨Int.natCast_nonneg _,Int.ofNat_lt.2 hlt⟩,?_⟩
  refine⟨F3 e.vs[i],rfl,hcell,?_⟩
  refine⟨hc.may 0 rfl 0 _ (Nat.le_refl 3) rfl,?_⟩
  intro w4 h4
  have hc:=(hc.set 0 rfl h4).1
  refine hc.a 0 rfl rfl ?_
  simp only
  rw [List.getElem?_eq_getElem hlt]
  exact⟨rfl,hc.below⟩
theorem A8n (e:Ent) (hk:G7 e.key) (A:Option Addr) (cap:Nat) (S:Nat->Prop) (w:World) (hR:Row S w A e.vs.length cap (e.vs.map F3).flatten):
  Calls Tryz.prog 66 #[.agg #[.string e.key,.slice A e.vs.length cap]] w (C7 (.bool (A2q e)) w):=by
 refine vE Tryz.func66 ?_
 intro g1 w1 h1
 have hc:=((Ctx.start w no (fun _ h=>h.elim)).loc h1).1
 refine hc.c 0 rfl rfl ?_
 have hM:=C9 hR
 refine⟨Nat × Int,fun x=>[(1,.pointer (some ⟨g1,0,none⟩)),(3,.int .i64 x.2),(7,.slice A e.vs.length cap),(8,.int .i64 e.vs.length),(9,.int .i64 x.1)],
  fun x w'=>x.1<=e.vs.length/\A7Z x.2 (e.vs.drop x.1)=A7Z 0 e.vs/\Ctx no w no w' [(g1,90,[.string e.key,.slice A e.vs.length cap])],fun x _=>e.vs.length-x.1,(0,0),
  ⟨rfl,rfl,rfl,rfl,rfl,trivial⟩,⟨Nat.zero_le _,rfl,hc⟩,?_⟩
 rintro⟨i,last⟩ w' u ⟨hi,he,hc⟩
 simp only at hi he
 by_cases hlt:i<e.vs.length
 ·refine dt (by show (i:Int)<(e.vs.length:Int);omega) ?_
  obtain⟨ad,rfl,hcell⟩:=RowV.elem (hR.below hc.below) i hlt
  rw [List.drop_eq_getElem_cons hlt,A7Z] at he
  generalize e.vs[i]=v at*
  refine⟨⟨by omega,by omega⟩,?_⟩
  refine⟨F3 v,rfl,hcell,?_⟩
  refine hc.n fun g5 w5 h5 hc=>?_
  refine⟨hc.may 0 rfl 0 _ (Nat.le_refl 3) rfl,?_⟩
  intro w6 h6
  have hc:=(hc.set 0 rfl h6).1
  refine⟨F3 v,rfl,hc.cells 0 rfl,?_⟩
  refine hc.q (A7f v _) fun w7 h7 hc=>?_
  have out:(T8 v&&decide (last<v.ver))=false->C7 (.bool (A2q e)) w (.returned (.bool false)) w7:=fun h=>⟨by rw [h] at he;rw [A2q,<-he];rfl,hc.below⟩
  cases hv:T8 v
  ·refine out ?_
   rw [hv];rfl
  ·refine hc.c 0 rfl rfl ?_
   by_cases hl:last<v.ver
   ·refine df (by show ¬ v.ver<=last;omega) ?_
    refine hc.c 0 rfl rfl ?_
    refine⟨(i+1,v.ver),⟨rfl,rfl,rfl,rfl,congrArg _ (C1 (by omega)),trivial⟩,⟨hlt,?_,hc.drop⟩,by show e.vs.length-(i+1)<e.vs.length-i;omega⟩
    rw [<-he,hv,decide_eq_true hl]
    rfl
   ·refine dt (by show v.ver<=last;omega) ?_
    refine out ?_
    rw [decide_eq_false hl,Bool.and_false]
 ·refine df (by show ¬ (i:Int)<(e.vs.length:Int);omega) ?_
  rw [List.drop_of_length_le (by omega),A7Z] at he
  have em:A2q e=(A54 e.key&&decide (1<=e.vs.length)&&decide (e.vs.length<=12)):=by rw [A2q,<-he];rfl
  rw [em]
  refine hc.c 0 rfl rfl ?_
  refine hc.q (A42 e.key hk _) fun w3 h3 hc=>?_
  cases hkk:A54 e.key
  ·exact⟨rfl,hc.below⟩
  refine hc.c 0 rfl rfl ?_
  by_cases h1:1<=e.vs.length
  ·refine dt (by show (1:Int)<=(e.vs.length:Int);omega) ?_
   refine hc.c 0 rfl rfl ?_
   refine⟨B7 ?_,hc.below⟩
   rw [decide_eq_true h1,Bool.true_and,Bool.true_and]
   by_cases h12:e.vs.length<=12
   ·rw [decide_eq_true h12];exact decide_eq_true (by omega)
   ·rw [decide_eq_false h12];exact decide_eq_false (by omega)
  ·refine df (by show ¬ (1:Int)<=(e.vs.length:Int);omega) ?_
   refine⟨B7 ?_,hc.below⟩
   rw [decide_eq_false h1]
   rfl
def A2k (l:List Ver) (i:Nat):Int:=if i=0 then 0 else ((l[i-1]?).getD A55).ver
theorem B1Y (e:Ent) (hk:G7 e.key) (A:Option Addr) (cap:Nat) (S:Nat->Prop) (w:World) (hR:Row S w A e.vs.length cap (e.vs.map F3).flatten):
  Calls Tryz.prog 67 #[.agg #[.string e.key,.slice A e.vs.length cap]] w (C7 (.bool (A2q e)) w):=by
 refine vE Tryz.func67 ?_
 intro g1 w1 h1
 have hc:=((Ctx.start w no (fun _ h=>h.elim)).loc h1).1
 have hM:=C9 hR
 refine⟨Nat,fun i=>[(1,.pointer (some ⟨g1,0,none⟩)),(3,.int .i64 i)],
  fun i w'=>i<=e.vs.length/\A7Z (A2k e.vs i) (e.vs.drop i)=A7Z 0 e.vs/\Ctx no w no w' [(g1,90,[.string e.key,.slice A e.vs.length cap])],fun i _=>e.vs.length-i,0,
  ⟨rfl,rfl,trivial⟩,⟨Nat.zero_le _,rfl,hc⟩,?_⟩
 rintro i w' u ⟨hi,he,hc⟩
 refine hc.c 0 rfl rfl ?_
 by_cases hlt:i<e.vs.length
 ·refine dt (by omega) ?_
  obtain⟨ad,rfl,hcell⟩:=RowV.elem (hR.below hc.below) i hlt
  have hnext:A2k e.vs (i+1)=e.vs[i].ver:=by
   rw [A2k,if_neg (by omega),Nat.add_sub_cancel,List.getElem?_eq_getElem hlt];rfl
  rw [List.drop_eq_getElem_cons hlt,A7Z] at he
  generalize e.vs[i]=v at*
  refine hc.c 0 rfl rfl ?_
  refine⟨⟨by omega,by omega⟩,?_⟩
  refine⟨F3 v,rfl,hcell,?_⟩
  refine hc.n fun g4 w4 h4 hc=>?_
  refine⟨hc.may 0 rfl 0 _ (Nat.le_refl 3) rfl,?_⟩
  intro w5 h5
  have hc:=(hc.set 0 rfl h5).1
  have out:(T8 v&&decide (A2k e.vs i<v.ver))=false->C7 (.bool (A2q e)) w (.returned (.bool false)) w5.drew:=fun h=>⟨by rw [h] at he;rw [A2q,<-he];rfl,hc.drew.below⟩
  refine vD (.Q [0,1,2,3,4,5,6,7,8,9,10,11,12,13,14,15,16,17,18,19,20,21,22,23,24,25,26,27,28,29,30,31,32,33,34,35,36,37,38] .fin) (Keeps (fun b=>b<w5.heap.size) w5) (Keeps.start _ _) ?_
  refine⟨_,fun x hx=>hx.look (hc.cell 0 rfl _ rfl),?_⟩
  rcases Int.lt_or_le v.ver 1 with c1 | c1
  ·refine dt c1 ?_
   refine out ?_
   rw [T8,decide_eq_false (show ¬ 1<=v.ver by omega)];rfl
  refine df (show ¬ v.ver<1 by omega) ?_
  refine⟨_,fun x hx=>hx.look (hc.cell 0 rfl _ rfl),?_⟩
  rcases Int.lt_or_le 1099511627776 v.ver with c2 | c2
  ·refine dt c2 ?_
   refine out ?_
   rw [T8,decide_eq_false (show ¬ v.ver<=1099511627776 by omega),Bool.and_false];rfl
  refine df (show ¬ 1099511627776<v.ver by omega) ?_
  have hprev:∀ x:Int,A2k e.vs i=x->x<v.ver->decide (A2k e.vs i<v.ver)=true:=fun x e1 h=>decide_eq_true (by rw [e1];exact h)
  have tail:decide (A2k e.vs i<v.ver)=true->True:=fun _=>trivial
  rcases Nat.eq_zero_or_pos i with h3 | h3
  all_goals first
   | (refine df (show ¬ (0:Int)<(i:Int) by omega) ?_;have hp:decide (A2k e.vs i<v.ver)=true:=hprev 0 (by rw [A2k,if_pos h3]) (by omega))
   | (
     refine dt (show (0:Int)<(i:Int) by omega) ?_
     have hj:i-1<e.vs.length:=by omega
     have hw:IntKind.i64.wrap ((i:Int)-1)=((i-1:Nat):Int):=by rw [IntWalk.i64_in _ ⟨by omega,by omega⟩];omega
     have hpv:A2k e.vs i=e.vs[i-1].ver:=by rw [A2k,if_neg (by omega),List.getElem?_eq_getElem hj];rfl
     obtain⟨ad',e',hcell'⟩:=RowV.elem (hR.below hc.below) (i-1) hj
     cases e'
     refine⟨_,fun x hx=>hx.look (hc.cell 0 rfl _ rfl),?_⟩
     refine⟨_,fun x hx=>hx.look (hc.cell 1 rfl _ rfl),?_⟩
     refine⟨⟨by rw [hw];omega,by rw [hw];omega⟩,?_⟩
     have h0:w5.cell? (ad.add ((IntKind.i64.wrap ((i:Int)-1)).toNat*3))=some (.int .i64 e.vs[i-1].ver):=by
      have:=hcell'.1
      rw [add_add,Nat.add_zero] at this
      rw [hw,Int.toNat_natCast]
      exact this
     generalize ad.add ((IntKind.i64.wrap ((i:Int)-1)).toNat*3)=ae at h0 ⊢
     obtain⟨ab,ao,asub⟩:=ae
     refine⟨_,fun x hx=>hx.look h0,?_⟩
     rcases Int.lt_or_le e.vs[i-1].ver v.ver with c4 | c4
     rotate_left
     ·refine dt c4 ?_
      refine out ?_
      rw [hpv,decide_eq_false (show ¬ e.vs[i-1].ver<v.ver by omega),Bool.and_false]
     refine df (show ¬ v.ver<=e.vs[i-1].ver by omega) ?_
     have hp:decide (A2k e.vs i<v.ver)=true:=hprev _ hpv c4)
  all_goals refine⟨_,fun x hx=>hx.look (hc.cell 0 rfl _ rfl),?_⟩
  all_goals rcases Int.lt_or_le 300 (v.body.size:Int) with c5 | c5
  all_goals first
   | (
     refine dt c5 ?_
     refine out ?_
     rw [T8,decide_eq_false (show ¬ (v.body.size:Int)<=300 by omega),Bool.and_false];rfl)
   | (refine df (show ¬ 300<(v.body.size:Int) by omega) ?_)
  all_goals refine⟨_,fun x hx=>hx.look (hc.cell 0 rfl _ rfl),?_⟩
  all_goals have hok3:(decide (1<=v.ver)&&decide (v.ver<=1099511627776)&&decide ((v.body.size:Int)<=300))=true:=by rw [decide_eq_true c1,decide_eq_true c2,decide_eq_true c5];rfl
  all_goals rcases Bool.eq_false_or_eq_true v.gone with hg | hg
  all_goals first
   | (
     refine B4 hg ?_
     have hok:T8 v=true:=by rw [T8,hok3,hg];rfl
     refine⟨i+1,⟨rfl,congrArg _ (C1 (by omega)),trivial⟩,⟨hlt,by rw [hnext,<-he,hok,hp];rfl,hc.drew.drop⟩,by show e.vs.length-(i+1)<e.vs.length-i;omega⟩)
   | (
     refine B6 hg ?_
     refine⟨_,fun x hx=>hx.look (hc.cell 0 rfl _ rfl),?_⟩
     cases hm:mt v.body
     ·refine B6 (by show (!C8 v.body ⟨#[]⟩)=true;rw [show C8 v.body ⟨#[]⟩=false from hm];rfl) ?_
      refine out ?_
      rw [T8,hok3,hg,hm];rfl
     ·refine B4 (by show (!C8 v.body ⟨#[]⟩)=false;rw [show C8 v.body ⟨#[]⟩=true from hm];rfl) ?_
      have hok:T8 v=true:=by rw [T8,hok3,hm,Bool.or_true];rfl
      refine⟨i+1,⟨rfl,congrArg _ (C1 (by omega)),trivial⟩,⟨hlt,by rw [hnext,<-he,hok,hp];rfl,hc.drew.drop⟩,by show e.vs.length-(i+1)<e.vs.length-i;omega⟩)
 ·refine df (by omega) ?_
  rw [List.drop_of_length_le (by omega),A7Z] at he
  have em:A2q e=(A54 e.key&&decide (1<=e.vs.length)&&decide (e.vs.length<=12)):=by rw [A2q,<-he];rfl
  rw [em]
  refine hc.c 0 rfl rfl ?_
  refine hc.q (A8O e.key hk _) fun w3 h3 hc=>?_
  cases hkk:A54 e.key
  ·exact⟨rfl,hc.below⟩
  refine hc.c 0 rfl rfl ?_
  by_cases h1:1<=e.vs.length
  ·refine dt (by show (1:Int)<=(e.vs.length:Int);omega) ?_
   refine hc.c 0 rfl rfl ?_
   refine⟨B7 ?_,hc.below⟩
   rw [decide_eq_true h1,Bool.true_and,Bool.true_and]
   by_cases h12:e.vs.length<=12
   ·rw [decide_eq_true h12];exact decide_eq_true (by omega)
   ·rw [decide_eq_false h12];exact decide_eq_false (by omega)
  ·refine df (by show ¬ (1:Int)<=(e.vs.length:Int);omega) ?_
   refine⟨B7 ?_,hc.below⟩
   rw [decide_eq_false h1]
   rfl
theorem B30 (a b:Ent) (A B:Option Addr) (cap cap':Nat) (S:Nat->Prop) (w:World) (hR:Row S w A a.vs.length cap (a.vs.map F3).flatten) (hR':Row S w B b.vs.length cap' (b.vs.map F3).flatten):
  Calls Tryz.prog 76 #[.agg #[.string a.key,.slice A a.vs.length cap],.agg #[.string b.key,.slice B b.vs.length cap']] w (C7 (.bool (eqE a b)) w):=by
 refine vE Tryz.func76 ?_
 intro g1 w1 h1
 have hc:=((Ctx.start w no (fun _ h=>h.elim)).loc h1).1
 refine hc.n fun g2 w2 h2 hc=>?_
 have hM:=C9 hR
 refine hc.c 1 rfl rfl ?_
 refine hc.c 0 rfl rfl ?_
 unfold eqE
 cases hk:C8 a.key b.key
 ·refine B6 (by show (!C8 a.key b.key)=true;rw [hk];rfl) ?_
  exact⟨rfl,hc.below⟩
 refine B4 (by show (!C8 a.key b.key)=false;rw [hk];rfl) ?_
 refine hc.c 1 rfl rfl ?_
 refine hc.c 0 rfl rfl ?_
 by_cases hl:a.vs.length=b.vs.length
 rotate_left
 ·refine B6 (by show ((a.vs.length:Int) != (b.vs.length:Int))=true;rw [bne_iff_ne];omega) ?_
  rw [L4 _ _ _ hl]
  exact⟨rfl,hc.below⟩
 refine B4 (by show ((a.vs.length:Int) != (b.vs.length:Int))=false;rw [hl];simp) ?_
 refine⟨Nat,fun i=>[(2,.pointer (some ⟨g1,0,none⟩)),(3,.pointer (some ⟨g2,0,none⟩)),(5,.int .i64 i)],
  fun i w'=>i<=a.vs.length/\D7 A2i (a.vs.drop i) (b.vs.drop i)=D7 A2i a.vs b.vs/\Ctx no w no w' [(g2,90,[.string b.key,.slice B b.vs.length cap']),(g1,90,[.string a.key,.slice A a.vs.length cap])],fun i _=>a.vs.length-i,0,
  ⟨rfl,rfl,rfl,trivial⟩,⟨Nat.zero_le _,rfl,hc⟩,?_⟩
 rintro i w' u ⟨hi,he,hc⟩
 refine hc.c 1 rfl rfl ?_
 by_cases hlt:i<a.vs.length
 ·refine dt (by omega) ?_
  obtain⟨ad,rfl,hcell⟩:=RowV.elem (hR.below hc.below) i hlt
  obtain⟨bd,rfl,hcell'⟩:=RowV.elem (hR'.below hc.below) i (by omega)
  rw [List.drop_eq_getElem_cons hlt,List.drop_eq_getElem_cons (show i<b.vs.length by omega),D7] at he
  generalize a.vs[i]=x at*
  generalize b.vs[i]'(by omega)=y at*
  refine vD (.Q [0,1,2,3,4,5,6,7,8,9,10] .fin) (Keeps (fun b=>b<w'.heap.size) w') (Keeps.start _ _) ?_
  refine⟨_,fun z hz=>hz.look (hc.cell 1 rfl _ rfl),?_⟩
  refine⟨⟨by omega,by omega⟩,?_⟩
  refine⟨F3 x,rfl,fun z hz=>hz.looks _ _ hcell,?_⟩
  refine⟨_,fun z hz=>hz.look (hc.cell 0 rfl _ rfl),?_⟩
  refine⟨⟨by omega,by omega⟩,?_⟩
  refine⟨F3 y,rfl,fun z hz=>hz.looks _ _ hcell',?_⟩
  refine⟨_,fun w=>A05 B5G (A8l 9998 · x y) _ _ w,?_⟩
  have hc:=hc.drew
  cases hv:A2i x y
  ·rw [hv] at he
   refine⟨?_,hc.below⟩
   rw [<-he]
   rfl
  ·rw [hv] at he
   refine⟨i+1,⟨rfl,rfl,congrArg _ (C1 (by omega)),trivial⟩,⟨hlt,he,hc⟩,by show a.vs.length-(i+1)<a.vs.length-i;omega⟩
 ·refine df (by omega) ?_
  rw [List.drop_of_length_le (by omega),List.drop_of_length_le (by omega),D7] at he
  rw [<-he]
  exact⟨rfl,hc.below⟩
def B3R (e sz n:Nat) (xs:List Value) (w:World) (en:Ending) (w':World):Prop:=∃ A cap,en=.returned (.slice A n cap)/\Below w.heap.size w w'/\w'.ownsRow w.heap.size e sz (.slice A n cap) n xs
theorem Row.cut {S:Nat->Prop} {w:World} {A:Option Addr} {n cap k:Nat} {css:List (List Value)} (hR:Row S w A n cap css.flatten) (hF:Flat k css) (hk:0<k) (hn:css.length=n) (hA:A=none):n=0/\css.flatten=[]:=by
 subst hA
 rcases Nat.eq_zero_or_pos n with h | h
 ·refine⟨h,List.eq_nil_of_length_eq_zero ?_⟩
  rw [hF.len,hn,h,Nat.zero_mul]
 ·obtain⟨ad,e,_⟩:=Row.elemF hR hk hF 0 (by omega)
  cases e
theorem A4S:(Tryz.prog.info? 102).map (fun i=>(i.zero,i.size,i.bytes))=some (some (.agg #[.int .i64 0,.bool false,.string ⟨#[]⟩]),3,32):=by kernel_rfl
theorem B53 (a:Option Addr) (n c:Nat) (ox oy:Operand) (w:World):(do eqGuard .eql 88 ox oy (.slice a n c) (.slice none 0 0);Go.binOp .eql 88 (.slice a n c) (.slice none 0 0):Sem Value).run Tryz.prog w=.ok (.bool a.isNone) w:=by
 have h:=Lib.run_eql_slice_nil (P:=Tryz.prog) w 88 102 a n c 0 0 Tryz.underlying88
 simp only [eqGuard]
 simpa using h
theorem M9 (A:Option Addr) (n cap:Nat) (css:List (List Value)) (hF:Flat 3 css) (hn:css.length=n) (hb:n<=1000000) (S:Nat->Prop) (w:World) (hR:Row S w A n cap css.flatten):
  Calls Tryz.prog 194 #[.slice A n cap] w (B3R 102 3 n css.flatten w):=by
 refine vE Tryz.func194 ?_
 refine⟨_,fun w=>B53 A n cap _ _ w,?_⟩
 cases A with
 | none=>
  obtain⟨h0,h1⟩:=Row.cut hR hF (by decide) hn rfl
  subst h0
  rw [h1]
  exact⟨none,0,rfl,Below.refl _ _,World.ownsRow_nil _ _ _ _⟩
 | some ad=>
  intro g w1 h1
  have hc:=Ctx.start w no (fun _ h=>h.elim)
  obtain⟨hc,hf,ho⟩:=Own.made hc h1 3 0 rfl (Nat.zero_le _)
  refine A02 Tryz.underlying88 A4S rfl (by decide) hc ho (hR.below h1.below) (by rw [hF.len,hn]) hF.ones (by omega) (by decide) ?_
  intro A' cap' w2 hc hf ho _
  rw [Nat.zero_add] at ho ⊢
  rw [List.nil_append] at ho
  exact⟨A',cap',rfl,hc.below,ho.row⟩
theorem A7g {S0 S:Nat->Prop} {w0 w:World} {l:List LB} (hc:Ctx S0 w0 S w l) (css:List (List Value)) (hF:Flat 3 css) {A:Option Addr} {cap:Nat} (ho:Own S w0.heap.size w l 102 3 A css.length cap css.flatten) (i:Nat) (hi:i<css.length) (j:Int) (hj:j=i+1):
  Calls Tryz.prog 282 #[.slice A css.length cap,.int .i64 i,.int .i64 j] w (fun en w'=>∃ A',en=.returned (.slice A' (css.length-1) cap)/\Ctx S0 w0 S w' l/\Fut S w S w'/\Own S w0.heap.size w' l 102 3 A' (css.length-1) cap (css.take i++css.drop (i+1)).flatten):=by
 cases hA:A with
 | none=>
  obtain⟨h0,_⟩:=ho.none' hA
  omega
 | some a=>
 obtain⟨g,cur,e1,hc,hcl,hct,hnc,hcm⟩:=ho.opened hc hA
 rw [hA] at e1
 cases e1
 have hM:cap<=9223372036854775807:=Nat.le_trans hcm (by decide)
 generalize hn:css.length=n at*
 refine vE Tryz.func282 ?_
 refine⟨⟨by omega,by omega,by omega,by omega⟩,?_⟩
 refine B4 (by show ((i:Int)==j)=false;rw [beq_eq_false_iff_ne];omega) ?_
 refine vD (.Q [0,1,2,3,4,5] (.n 6 (.q 7 .fin) .stop)) (fun _=>True) trivial ?_
 have hc:=hc.drew
 refine⟨⟨by omega,by omega,by omega,by omega⟩,?_⟩
 refine⟨⟨by omega,by omega,by omega,by omega⟩,?_⟩
 refine⟨?_,trivial⟩
 have hjn:j.toNat=i+1:=by omega
 have hyl:((css.drop (i+1)).flatten).length=(n-(i+1))*3:=by rw [(hF.drop _).len,List.length_drop,hn]
 have hcd:(cur.drop ((i+1)*3)).take ((css.drop (i+1)).flatten).length=(css.drop (i+1)).flatten:=by
  rw [hF.flat_drop,<-hct,List.drop_take,List.length_take,List.length_drop,hcl]
  congr 1
  omega
 have hcells:∀ ad:Addr,ad=(if (cap:Int)=j then (⟨g,0,none⟩:Addr) else (⟨g,0,none⟩:Addr).add (j.toNat*3))->Go.Vc.cellsAt w.drew ad (css.drop (i+1)).flatten 0:=by
  intro ad had
  by_cases hcj:(cap:Int)=j
  ·have:(css.drop (i+1)).flatten=[]:=List.eq_nil_of_length_eq_zero (by rw [hyl];omega)
   rw [this];trivial
  ·rw [if_neg hcj,Addr.add_lit,Nat.zero_add,hjn] at had
   rw [had]
   exact hc.cellsAt 0 rfl _ _ hcd
 refine A2p Tryz.underlying88 A4S hc hcl (n:=i) (m:=n-(i+1)) (c:=((cap:Int)-j).toNat) (by omega) hyl (hcells _ rfl) (hF.drop _).ones ?_ ?_ ?_
 ·have e0:(if (cap:Int)=0 then some (⟨g,0,none⟩:Addr) else (some (⟨g,0,none⟩:Addr)).map (·.add ((0:Int).toNat*3)))=some ⟨g,0,none⟩:=by split<;>rfl
  show Value.slice (if (cap:Int)=0 then some (⟨g,0,none⟩:Addr) else (some (⟨g,0,none⟩:Addr)).map (·.add ((0:Int).toNat*3))) ((i:Int)-0).toNat ((cap:Int)-0).toNat=_
  rw [e0]
  congr 1<;>omega
 ·show Value.slice (if (cap:Int)=j then some (⟨g,0,none⟩:Addr) else (some (⟨g,0,none⟩:Addr)).map (·.add (j.toNat*3))) ((n:Int)-j).toNat ((cap:Int)-j).toNat=_
  have e0:(if (cap:Int)=j then some (⟨g,0,none⟩:Addr) else (some (⟨g,0,none⟩:Addr)).map (·.add (j.toNat*3)))=some (if (cap:Int)=j then (⟨g,0,none⟩:Addr) else (⟨g,0,none⟩:Addr).add (j.toNat*3)):=by split<;>rfl
  rw [e0]
  congr 1
  omega
 intro w2 hc hf2
 refine⟨trivial,?_⟩
 have hn1:i+(n-(i+1))=n-1:=by omega
 rw [hn1]
 have hcur2:(cur.take (i*3)++(css.drop (i+1)).flatten++cur.drop ((i+(n-(i+1)))*3)).length=cap*3:=by
  rw [List.length_append,List.length_append,List.length_take,List.length_drop,hyl,hcl]
  omega
 have htk2:(cur.take (i*3)++(css.drop (i+1)).flatten++cur.drop ((i+(n-(i+1)))*3)).take ((n-1)*3)=(css.take i++css.drop (i+1)).flatten:=by
  have e1:(cur.take (i*3)++(css.drop (i+1)).flatten).length=(n-1)*3:=by rw [List.length_append,List.length_take,hyl,hcl];omega
  rw [List.take_left' e1,List.flatten_append,hF.flat_take,<-hct,List.take_take]
  congr 2
  omega
 generalize cur.take (i*3)++(css.drop (i+1)).flatten++cur.drop ((i+(n-(i+1)))*3)=cur2 at*
 refine⟨⟨by omega,by omega,by omega,by omega⟩,?_⟩
 refine A0F Tryz.underlying88 (z:=.agg #[.int .i64 0,.bool false,.string ⟨#[]⟩]) (fun w=>by kernel_rfl) (a:=⟨g,(n-1)*3,none⟩) (n:=1) (c:=cap-(n-1)) (by decide) ?_ (zs:=[.int .i64 0,.bool false,.string ⟨#[]⟩]) (by kernel_rfl) (hc.may 0 rfl ((n-1)*3) [.int .i64 0,.bool false,.string ⟨#[]⟩] (by rw [hcur2];show (n-1)*3+3<=_;omega) rfl) ?_
 ·show Value.slice (if (cap:Int)=((n-1:Nat):Int) then some (⟨g,0,none⟩:Addr) else (some (⟨g,0,none⟩:Addr)).map (·.add (((n-1:Nat):Int).toNat*3))) ((n:Int)-((n-1:Nat):Int)).toNat ((cap:Int)-((n-1:Nat):Int)).toNat=_
  rw [if_neg (by omega),Option.map_some,Addr.add_lit,Nat.zero_add,Int.toNat_natCast]
  congr 1<;>omega
 intro w3 h3
 have hC:=hc.set 0 rfl h3
 have hc:=hC.1
 have hlen3:(D3 cur2 ((n-1)*3) [.int .i64 0,.bool false,.string ⟨#[]⟩]).length=cap*3:=by rw [D4,hcur2]
 obtain⟨hc,ho⟩:=Ctx.closed hc 3 (n-1) cap (by omega) hcm hlen3
 refine⟨some ⟨g,0,none⟩,rfl,hc,hf2.trans hC.2,?_⟩
 rw [<-htk2]
 have e3:(D3 cur2 ((n-1)*3) [.int .i64 0,.bool false,.string ⟨#[]⟩]).take ((n-1)*3)=cur2.take ((n-1)*3):=by
  rw [H5 _ _ _ (by rw [hcur2];show (n-1)*3+3<=_;omega),List.append_assoc,List.take_left' (by rw [List.length_take,hcur2];omega)]
 rw [<-e3]
 exact ho
theorem A0S:(Tryz.prog.info? 90).map (fun i=>(i.zero,i.size,i.bytes))=some (some (.agg #[.string ⟨#[]⟩,.slice none 0 0]),2,40):=by kernel_rfl
theorem B54 (a:Option Addr) (n c:Nat) (ox oy:Operand) (w:World):(do eqGuard .eql 29 ox oy (.slice a n c) (.slice none 0 0);Go.binOp .eql 29 (.slice a n c) (.slice none 0 0):Sem Value).run Tryz.prog w=.ok (.bool a.isNone) w:=by
 have h:=Lib.run_eql_slice_nil (P:=Tryz.prog) w 29 90 a n c 0 0 Tryz.underlying29
 simp only [eqGuard]
 simpa using h
theorem K6 (A:Option Addr) (n cap:Nat) (css:List (List Value)) (hF:Flat 2 css) (hn:css.length=n) (hb:n<=1000000) (S:Nat->Prop) (w:World) (hR:Row S w A n cap css.flatten):
  Calls Tryz.prog 192 #[.slice A n cap] w (B3R 90 2 n css.flatten w):=by
 refine vE Tryz.func192 ?_
 refine⟨_,fun w=>B54 A n cap _ _ w,?_⟩
 cases A with
 | none=>
  obtain⟨h0,h1⟩:=Row.cut hR hF (by decide) hn rfl
  subst h0
  rw [h1]
  exact⟨none,0,rfl,Below.refl _ _,World.ownsRow_nil _ _ _ _⟩
 | some ad=>
  intro g w1 h1
  have hc:=Ctx.start w no (fun _ h=>h.elim)
  obtain⟨hc,hf,ho⟩:=Own.made hc h1 2 0 rfl (Nat.zero_le _)
  refine A02 Tryz.underlying29 A0S rfl (by decide) hc ho (hR.below h1.below) (by rw [hF.len,hn]) hF.ones (by omega) (by decide) ?_
  intro A' cap' w2 hc hf ho _
  rw [Nat.zero_add] at ho ⊢
  rw [List.nil_append] at ho
  exact⟨A',cap',rfl,hc.below,ho.row⟩
theorem A7h {S0 S:Nat->Prop} {w0 w:World} {l:List LB} (hc:Ctx S0 w0 S w l) (css:List (List Value)) (hF:Flat 2 css) {A:Option Addr} {cap:Nat} (ho:Own S w0.heap.size w l 90 2 A css.length cap css.flatten) (i:Nat) (hi:i<css.length) (j:Int) (hj:j=i+1):
  Calls Tryz.prog 267 #[.slice A css.length cap,.int .i64 i,.int .i64 j] w (fun en w'=>∃ A',en=.returned (.slice A' (css.length-1) cap)/\Ctx S0 w0 S w' l/\Fut S w S w'/\Own S w0.heap.size w' l 90 2 A' (css.length-1) cap (css.take i++css.drop (i+1)).flatten):=by
 cases hA:A with
 | none=>
  obtain⟨h0,_⟩:=ho.none' hA
  omega
 | some a=>
 obtain⟨g,cur,e1,hc,hcl,hct,hnc,hcm⟩:=ho.opened hc hA
 rw [hA] at e1
 cases e1
 have hM:cap<=9223372036854775807:=Nat.le_trans hcm (by decide)
 generalize hn:css.length=n at*
 refine vE Tryz.func267 ?_
 refine⟨⟨by omega,by omega,by omega,by omega⟩,?_⟩
 refine B4 (by show ((i:Int)==j)=false;rw [beq_eq_false_iff_ne];omega) ?_
 refine vD (.Q [0,1,2,3,4,5] (.n 6 (.q 7 .fin) .stop)) (fun _=>True) trivial ?_
 have hc:=hc.drew
 refine⟨⟨by omega,by omega,by omega,by omega⟩,?_⟩
 refine⟨⟨by omega,by omega,by omega,by omega⟩,?_⟩
 refine⟨?_,trivial⟩
 have hjn:j.toNat=i+1:=by omega
 have hyl:((css.drop (i+1)).flatten).length=(n-(i+1))*2:=by rw [(hF.drop _).len,List.length_drop,hn]
 have hcd:(cur.drop ((i+1)*2)).take ((css.drop (i+1)).flatten).length=(css.drop (i+1)).flatten:=by
  rw [hF.flat_drop,<-hct,List.drop_take,List.length_take,List.length_drop,hcl]
  congr 1
  omega
 have hcells:∀ ad:Addr,ad=(if (cap:Int)=j then (⟨g,0,none⟩:Addr) else (⟨g,0,none⟩:Addr).add (j.toNat*2))->Go.Vc.cellsAt w.drew ad (css.drop (i+1)).flatten 0:=by
  intro ad had
  by_cases hcj:(cap:Int)=j
  ·have:(css.drop (i+1)).flatten=[]:=List.eq_nil_of_length_eq_zero (by rw [hyl];omega)
   rw [this];trivial
  ·rw [if_neg hcj,Addr.add_lit,Nat.zero_add,hjn] at had
   rw [had]
   exact hc.cellsAt 0 rfl _ _ hcd
 refine A2p Tryz.underlying29 A0S hc hcl (n:=i) (m:=n-(i+1)) (c:=((cap:Int)-j).toNat) (by omega) hyl (hcells _ rfl) (hF.drop _).ones ?_ ?_ ?_
 ·have e0:(if (cap:Int)=0 then some (⟨g,0,none⟩:Addr) else (some (⟨g,0,none⟩:Addr)).map (·.add ((0:Int).toNat*2)))=some ⟨g,0,none⟩:=by split<;>rfl
  show Value.slice (if (cap:Int)=0 then some (⟨g,0,none⟩:Addr) else (some (⟨g,0,none⟩:Addr)).map (·.add ((0:Int).toNat*2))) ((i:Int)-0).toNat ((cap:Int)-0).toNat=_
  rw [e0]
  congr 1<;>omega
 ·show Value.slice (if (cap:Int)=j then some (⟨g,0,none⟩:Addr) else (some (⟨g,0,none⟩:Addr)).map (·.add (j.toNat*2))) ((n:Int)-j).toNat ((cap:Int)-j).toNat=_
  have e0:(if (cap:Int)=j then some (⟨g,0,none⟩:Addr) else (some (⟨g,0,none⟩:Addr)).map (·.add (j.toNat*2)))=some (if (cap:Int)=j then (⟨g,0,none⟩:Addr) else (⟨g,0,none⟩:Addr).add (j.toNat*2)):=by split<;>rfl
  rw [e0]
  congr 1
  omega
 intro w2 hc hf2
 refine⟨trivial,?_⟩
 have hn1:i+(n-(i+1))=n-1:=by omega
 rw [hn1]
 have hcur2:(cur.take (i*2)++(css.drop (i+1)).flatten++cur.drop ((i+(n-(i+1)))*2)).length=cap*2:=by
  rw [List.length_append,List.length_append,List.length_take,List.length_drop,hyl,hcl]
  omega
 have htk2:(cur.take (i*2)++(css.drop (i+1)).flatten++cur.drop ((i+(n-(i+1)))*2)).take ((n-1)*2)=(css.take i++css.drop (i+1)).flatten:=by
  have e1:(cur.take (i*2)++(css.drop (i+1)).flatten).length=(n-1)*2:=by rw [List.length_append,List.length_take,hyl,hcl];omega
  rw [List.take_left' e1,List.flatten_append,hF.flat_take,<-hct,List.take_take]
  congr 2
  omega
 generalize cur.take (i*2)++(css.drop (i+1)).flatten++cur.drop ((i+(n-(i+1)))*2)=cur2 at*
 refine⟨⟨by omega,by omega,by omega,by omega⟩,?_⟩
 refine A0F Tryz.underlying29 (z:=.agg #[.string ⟨#[]⟩,.slice none 0 0]) (fun w=>by kernel_rfl) (a:=⟨g,(n-1)*2,none⟩) (n:=1) (c:=cap-(n-1)) (by decide) ?_ (zs:=[.string ⟨#[]⟩,.slice none 0 0]) (by kernel_rfl) (hc.may 0 rfl ((n-1)*2) [.string ⟨#[]⟩,.slice none 0 0] (by rw [hcur2];show (n-1)*2+2<=_;omega) rfl) ?_
 ·show Value.slice (if (cap:Int)=((n-1:Nat):Int) then some (⟨g,0,none⟩:Addr) else (some (⟨g,0,none⟩:Addr)).map (·.add (((n-1:Nat):Int).toNat*2))) ((n:Int)-((n-1:Nat):Int)).toNat ((cap:Int)-((n-1:Nat):Int)).toNat=_
  rw [if_neg (by omega),Option.map_some,Addr.add_lit,Nat.zero_add,Int.toNat_natCast]
  congr 1<;>omega
 intro w3 h3
 have hC:=hc.set 0 rfl h3
 have hc:=hC.1
 have hlen3:(D3 cur2 ((n-1)*2) [.string ⟨#[]⟩,.slice none 0 0]).length=cap*2:=by rw [D4,hcur2]
 obtain⟨hc,ho⟩:=Ctx.closed hc 2 (n-1) cap (by omega) hcm hlen3
 refine⟨some ⟨g,0,none⟩,rfl,hc,hf2.trans hC.2,?_⟩
 rw [<-htk2]
 have e3:(D3 cur2 ((n-1)*2) [.string ⟨#[]⟩,.slice none 0 0]).take ((n-1)*2)=cur2.take ((n-1)*2):=by
  rw [H5 _ _ _ (by rw [hcur2];show (n-1)*2+2<=_;omega),List.append_assoc,List.take_left' (by rw [List.length_take,hcur2];omega)]
 rw [<-e3]
 exact ho
theorem A1b:(Tryz.prog.info? 104).map (fun i=>(i.zero,i.size,i.bytes))=some (some (.agg #[.int .i64 0,.int .i64 0,.int .i64 0]),3,24):=by kernel_rfl
theorem B55 (a:Option Addr) (n c:Nat) (ox oy:Operand) (w:World):(do eqGuard .eql 30 ox oy (.slice a n c) (.slice none 0 0);Go.binOp .eql 30 (.slice a n c) (.slice none 0 0):Sem Value).run Tryz.prog w=.ok (.bool a.isNone) w:=by
 have h:=Lib.run_eql_slice_nil (P:=Tryz.prog) w 30 104 a n c 0 0 Tryz.underlying30
 simp only [eqGuard]
 simpa using h
theorem W4 (A:Option Addr) (n cap:Nat) (css:List (List Value)) (hF:Flat 3 css) (hn:css.length=n) (hb:n<=1000000) (S:Nat->Prop) (w:World) (hR:Row S w A n cap css.flatten):
  Calls Tryz.prog 193 #[.slice A n cap] w (B3R 104 3 n css.flatten w):=by
 refine vE Tryz.func193 ?_
 refine⟨_,fun w=>B55 A n cap _ _ w,?_⟩
 cases A with
 | none=>
  obtain⟨h0,h1⟩:=Row.cut hR hF (by decide) hn rfl
  subst h0
  rw [h1]
  exact⟨none,0,rfl,Below.refl _ _,World.ownsRow_nil _ _ _ _⟩
 | some ad=>
  intro g w1 h1
  have hc:=Ctx.start w no (fun _ h=>h.elim)
  obtain⟨hc,hf,ho⟩:=Own.made hc h1 3 0 rfl (Nat.zero_le _)
  refine A02 Tryz.underlying30 A1b rfl (by decide) hc ho (hR.below h1.below) (by rw [hF.len,hn]) hF.ones (by omega) (by decide) ?_
  intro A' cap' w2 hc hf ho _
  rw [Nat.zero_add] at ho ⊢
  rw [List.nil_append] at ho
  exact⟨A',cap',rfl,hc.below,ho.row⟩
def B8q (A:Option Addr) (cap:Nat) (e:Ent) (q:Ent × Bool) (w:World) (en:Ending) (w':World):Prop:=
 if q.2 then ∃ A' cap',en=.returned (.tuple #[.agg #[.string q.1.key,.slice A' q.1.vs.length cap'],.bool true])/\Below w.heap.size w w'/\w'.ownsRow w.heap.size 102 3 (.slice A' q.1.vs.length cap') q.1.vs.length (q.1.vs.map F3).flatten
 else en=.returned (.tuple #[.agg #[.string e.key,.slice A e.vs.length cap],.bool false])/\Below w.heap.size w w'
theorem B7Z (l:List Ver) (v:Ver):(l.map F3).flatten++F3 v=((l++[v]).map F3).flatten:=by simp
theorem B9H (l:List Ver) (i:Nat):((l.map F3).take i++(l.map F3).drop (i+1)).flatten=((l.take i++l.drop (i+1)).map F3).flatten:=by simp
theorem A3V (e:Ent) (v:Ver) (A:Option Addr) (cap:Nat) (hb:e.vs.length<=1000000) (S:Nat->Prop) (w:World) (hR:Row S w A e.vs.length cap (e.vs.map F3).flatten):
  Calls Tryz.prog 242 #[.agg #[.string e.key,.slice A e.vs.length cap],.agg (F3 v).toArray] w (B8q A cap e (A7a e v) w):=by
 refine vE Tryz.func242 ?_
 intro g1 w1 h1
 have hc:=((Ctx.start w no (fun _ h=>h.elim)).loc h1).1
 refine hc.n fun g2 w2 h2 hc=>?_
 refine hc.n fun g3 w3 h3 hc=>?_
 refine hc.a 2 rfl rfl ?_
 refine hc.q (A5M e A cap S w3 (hR.below hc.below)) fun w4 h4 hc=>?_
 have hM:=C9 hR
 refine hc.n fun g5 w5 h5 hc=>?_
 refine⟨hc.may 0 rfl 0 _ (Nat.le_refl 3) rfl,?_⟩
 intro w6 h6
 have hc:=(hc.set 0 rfl h6).1
 refine hc.c 3 rfl rfl ?_
 have bad:((e.vs.length≠0/\v.ver<=(H7 e.vs).ver)\/12<=e.vs.length)->A7a e v=(e,false):=fun h=>by rw [A7a,if_pos h]
 have full:∀ h:e.vs.length≠0->¬ v.ver<=(H7 e.vs).ver,12<=e.vs.length\/A7a e v=(⟨e.key,e.vs++[v]⟩,true):=fun h=>by
  rcases Nat.lt_or_ge e.vs.length 12 with h12 | h12
  ·right
   rw [A7a,if_neg]
   rintro (h' | h')
   ·exact h h'.1 h'.2
   ·omega
  ·exact .inl h12
 rcases Nat.eq_zero_or_pos e.vs.length with h0 | h0
 all_goals first
  | (
    refine df (show ¬ (0:Int)<(e.vs.length:Int) by omega) ?_
    have full:=full (fun h=>absurd h0 h))
  | (
    refine dt (show (0:Int)<(e.vs.length:Int) by omega) ?_
    have hn:A2X e=(H7 e.vs,!(H7 e.vs).gone):=by rw [A2X,if_neg (by omega)]
    rw [hn] at hc
    refine hc.c 2 rfl rfl ?_
    have hlv:w6.cell? ⟨g5,0,none⟩=some (.int .i64 (H7 e.vs).ver):=hc.cell 0 rfl _ rfl
    refine⟨_,hlv,?_⟩
    rcases Int.lt_or_le (H7 e.vs).ver v.ver with hl | hl
    rotate_left
    ·refine dt hl ?_
     refine hc.a 3 rfl rfl ?_
     refine hc.s 1 rfl fun wS hS hc=>?_
     refine hc.a 1 rfl rfl ?_
     rw [bad (.inl ⟨by omega,hl⟩)]
     exact⟨rfl,hc.below⟩
    refine df (show ¬ v.ver<=(H7 e.vs).ver by omega) ?_
    have full:=full (fun _=>by omega))
 all_goals refine hc.c 3 rfl rfl ?_
 all_goals rcases Nat.lt_or_ge e.vs.length 12 with h12 | h12
 all_goals first
  | (
    refine dt (show (12:Int)<=(e.vs.length:Int) by omega) ?_
    refine hc.a 3 rfl rfl ?_
    refine hc.s 1 rfl fun wS hS hc=>?_
    refine hc.a 1 rfl rfl ?_
    rw [bad (.inr h12)]
    exact⟨rfl,hc.below⟩)
  | (
    refine df (show ¬ (12:Int)<=(e.vs.length:Int) by omega) ?_
    have full:=full.resolve_left (by omega)
    rw [full]
    refine vD (.Q [0,1,2,3,5] (.n 4 (.n 6 (.n 7 (.q 8 (.n 9 (.q 10 .fin) .stop)) .stop) .stop) (.n 6 (.n 4 (.n 7 (.q 8 (.n 9 (.q 10 .fin) .stop)) .stop) .stop) .stop))) (fun x=>Blk x g1 90 [.string e.key,.slice A e.vs.length cap]/\Blk x g2 102 (F3 v)) ⟨hc.blk 3 rfl,hc.blk 2 rfl⟩ ?_
    have hc:=hc.drew
    refine⟨_,fun x hx=>hx.1.cell 0,?_⟩
    refine⟨_,fun x hx=>hx.1.cell 1,?_⟩
    refine⟨F3 v,rfl,fun x hx=>⟨hx.2.cell 0,hx.2.cell 1,hx.2.cell 2,trivial⟩,?_⟩
    refine⟨?_,?_,trivial⟩
    ·refine⟨(M9 A e.vs.length cap (e.vs.map F3) (F0 _) (by rw [List.length_map]) hb S _ (hR.below hc.below)).mono fun en w7 hq=>?_⟩
     obtain⟨A1,cap1,e1,h7,ho⟩:=hq
     obtain⟨hc,_,ho⟩:=hc.fresh h7 ho
     refine⟨_,e1,⟨hc.blk 3 rfl,hc.blk 2 rfl⟩,?_⟩
     refine⟨fun g8 w8 h8=>?_,trivial⟩
     have ho:=ho.loc h8
     have hc:=(hc.loc h8).1
     refine⟨⟨hc.blk 4 rfl,hc.blk 3 rfl⟩,?_⟩
     refine⟨X6 Tryz.underlying88 A4S rfl (by decide) hc ho (ys:=F3 v) rfl (hc.cells 0 rfl) rfl (by omega) (by decide) ?_,trivial⟩
     intro A2 cap2 w9 hc _ ho _
     refine⟨⟨hc.blk 4 rfl,hc.blk 3 rfl⟩,?_⟩
     refine⟨⟨hc.may 2 rfl 0 _ (Nat.le_refl 2) rfl,?_⟩,trivial⟩
     intro w10 h10
     have ho:=ho.set hc 2 rfl h10
     have hc:=(hc.set 2 rfl h10).1
     refine⟨⟨hc.blk 4 rfl,hc.blk 3 rfl⟩,?_⟩
     refine hc.a 2 rfl rfl ?_
     have ho:=ho.row
     rw [B7Z] at ho
     have hlen:(e.vs++[v]).length=e.vs.length+1:=by simp
     refine⟨A2,cap2,?_,hc.below,?_⟩
     ·simp only [hlen];rfl
     ·simp only [hlen];exact ho
    ·refine hc.n fun g8 w8 h8 hc=>?_
     refine⟨⟨hc.blk 4 rfl,hc.blk 3 rfl⟩,?_⟩
     refine⟨⟨(M9 A e.vs.length cap (e.vs.map F3) (F0 _) (by rw [List.length_map]) hb S _ (hR.below hc.below)).mono fun en w7 hq=>?_⟩,trivial⟩
     obtain⟨A1,cap1,e1,h7,ho⟩:=hq
     obtain⟨hc,_,ho⟩:=hc.fresh h7 ho
     refine⟨_,e1,⟨hc.blk 4 rfl,hc.blk 3 rfl⟩,?_⟩
     refine⟨X6 Tryz.underlying88 A4S rfl (by decide) hc ho (ys:=F3 v) rfl (hc.cells 0 rfl) rfl (by omega) (by decide) ?_,trivial⟩
     intro A2 cap2 w9 hc _ ho _
     refine⟨⟨hc.blk 4 rfl,hc.blk 3 rfl⟩,?_⟩
     refine⟨⟨hc.may 2 rfl 0 _ (Nat.le_refl 2) rfl,?_⟩,trivial⟩
     intro w10 h10
     have ho:=ho.set hc 2 rfl h10
     have hc:=(hc.set 2 rfl h10).1
     refine⟨⟨hc.blk 4 rfl,hc.blk 3 rfl⟩,?_⟩
     refine hc.a 2 rfl rfl ?_
     have ho:=ho.row
     rw [B7Z] at ho
     have hlen:(e.vs++[v]).length=e.vs.length+1:=by simp
     refine⟨A2,cap2,?_,hc.below,?_⟩
     ·simp only [hlen];rfl
     ·simp only [hlen];exact ho)
theorem B1Z (e:Ent) (n:Int) (A:Option Addr) (cap:Nat) (hb:e.vs.length<=1000000) (S:Nat->Prop) (w:World) (hR:Row S w A e.vs.length cap (e.vs.map F3).flatten):
  Calls Tryz.prog 266 #[.agg #[.string e.key,.slice A e.vs.length cap],.int .i64 n] w (B8q A cap e (B1L e n) w):=by
 refine vE Tryz.func266 ?_
 intro g1 w1 h1
 have hc:=((Ctx.start w no (fun _ h=>h.elim)).loc h1).1
 refine hc.n fun g2 w2 h2 hc=>?_
 refine hc.a 1 rfl rfl ?_
 refine hc.q (A6c e n A cap S w2 (hR.below hc.below)) fun w3 h3 hc=>?_
 have hM:=C9 hR
 unfold B1L
 cases hi:A13 e.vs n with
 | none=>
  refine hc.a 1 rfl rfl ?_
  refine hc.s 0 rfl fun wS hS hc=>?_
  refine hc.a 0 rfl rfl ?_
  exact⟨rfl,hc.below⟩
 | some i=>
  obtain⟨hlt,_⟩:=A3P hi
  refine vD (.Q [0,1,2,3,5,6,7] (.n 4 (.n 8 (.q 9 (.n 10 (.q 11 .fin) .stop)) .stop) .stop)) (fun x=>Blk x g1 90 [.string e.key,.slice A e.vs.length cap]) (hc.blk 1 rfl) ?_
  have hc:=hc.drew
  refine⟨_,fun x hx=>hx.cell 0,?_⟩
  refine⟨_,fun x hx=>hx.cell 1,?_⟩
  refine⟨⟨(M9 A e.vs.length cap (e.vs.map F3) (F0 _) (by rw [List.length_map]) hb S _ (hR.below hc.below)).mono fun en w7 hq=>?_⟩,trivial⟩
  obtain⟨A1,cap1,e1,h7,ho⟩:=hq
  obtain⟨hc,_,ho⟩:=hc.fresh h7 ho
  refine⟨_,e1,hc.blk 1 rfl,?_⟩
  refine⟨?_,trivial⟩
  have hml:(e.vs.map F3).length=e.vs.length:=List.length_map ..
  have hd:=A7g hc (e.vs.map F3) (F0 _) (A:=A1) (cap:=cap1) (by rw [hml];exact ho) i (by rw [hml];exact hlt) (IntKind.i64.wrap ((i:Int)+1)) (by rw [F1 _ _ (by omega) (by omega)])
  rw [hml] at hd
  refine⟨hd.mono fun en w8 hq=>?_⟩
  obtain⟨A2,e2,hc,_,ho⟩:=hq
  refine⟨_,e2,hc.blk 1 rfl,?_⟩
  refine⟨⟨hc.may 0 rfl 0 _ (Nat.le_refl 2) rfl,?_⟩,trivial⟩
  intro w10 h10
  have ho:=ho.set hc 0 rfl h10
  have hc:=(hc.set 0 rfl h10).1
  refine⟨hc.blk 1 rfl,?_⟩
  refine hc.a 0 rfl rfl ?_
  have ho:=ho.row
  rw [B9H] at ho
  have hlen:(e.vs.take i++e.vs.drop (i+1)).length=e.vs.length-1:=by rw [List.length_append,List.length_take,List.length_drop];omega
  refine⟨A2,cap1,?_,hc.below,?_⟩
  ·simp only [hlen];rfl
  ·simp only [hlen];exact ho
theorem H8 (l:List Mem):Flat 3 (l.map F5):=Flat.map F5 (fun _=>⟨rfl,rfl⟩) l
theorem RowM.elem {S:Nat->Prop} {w:World} {A:Option Addr} {n cap:Nat} {l:List Mem} (hR:Row S w A n cap (l.map F5).flatten) (i:Nat) (hi:i<l.length):∃ ad,A=some ad/\Go.Vc.cellsAt w (ad.add (i*3)) (F5 l[i]) 0:=by
 obtain⟨ad,e,h⟩:=Row.elemF hR (by decide) (H8 l) i (by rw [List.length_map];exact hi)
 rw [List.getElem_map] at h
 exact⟨ad,e,h⟩
theorem RowE.elem {S:Nat->Prop} {w:World} {A:Option Addr} {n cap:Nat} {l:List Ent} {css:List (List Value)} (hR:Row S w A n cap css.flatten) (hE:RepEs S w l css) (i:Nat) (hi:i<l.length):
  ∃ ad A' cap',A=some ad/\Go.Vc.cellsAt w (ad.add (i*2)) [.string l[i].key,.slice A' l[i].vs.length cap'] 0/\Row S w A' l[i].vs.length cap' (l[i].vs.map F3).flatten:=by
 have hl:=hE.len
 obtain⟨ad,e,h⟩:=Row.elemF hR (by decide) hE.flat i (by omega)
 obtain⟨A',cap',e1,h1⟩:=hE.get i hi (by omega)
 rw [e1] at h
 exact⟨ad,A',cap',e,h,h1⟩
theorem RepS.shape {S:Nat->Prop} {w:World} {s:Stt} {cs:List Value} (h:RepS S w s cs):∃ A cap css B cap' l0 l1 l2 l3 l4,cs=[.int .i64 s.seq,.slice A s.l.length cap,.slice B s.ms.length cap',.int .i64 l0,.int .i64 l1,.int .i64 l2,.int .i64 l3,.int .i64 l4]/\
  s.lows=[l0,l1,l2,l3,l4]/\RepEs S w s.l css/\Row S w A s.l.length cap css.flatten/\Row S w B s.ms.length cap' (s.ms.map F5).flatten:=by
 obtain⟨A,cap,css,B,cap',e1,e2,e3,e4,e5⟩:=h
 match hl:s.lows,e2 with
 | [l0,l1,l2,l3,l4],_=>
  rw [hl] at e1
  exact⟨A,cap,css,B,cap',l0,l1,l2,l3,l4,e1,rfl,e3,e4,e5⟩
theorem B1a (d:Nat) (w:World) (a0 a1 a2 a3 a4 b0 b1 b2 b3 b4:Int):(Op.equalIn (d+2) 31 (.agg #[.int .i64 a0,.int .i64 a1,.int .i64 a2,.int .i64 a3,.int .i64 a4]) (.agg #[.int .i64 b0,.int .i64 b1,.int .i64 b2,.int .i64 b3,.int .i64 b4])).run Tryz.prog w=.ok ([a0,a1,a2,a3,a4]==[b0,b1,b2,b3,b4]) w:=by
 have hs:∀ w,(Go.sizeOf 2).run Tryz.prog w=.ok 1 w:=fun w=>by kernel_rfl
 have step:∀ (x y:Int) w,(Op.equalIn (d+1) 2 (.int .i64 x) (.int .i64 y)).run Tryz.prog w=.ok (x==y) w:=fun x y w=>run_equalIn_int w d 2 .i64 .i64 x y Tryz.underlying2
 rw [Op.equalIn]
 generalize Op.equalIn (d+1)=F at step ⊢
 simp only [Sem.run_bind,run_underlying Tryz.underlying31,Result.andThen_ok,hs,Std.Legacy.Range.forIn_eq_forIn_range',Std.Legacy.Range.size]
 simp [List.range',part,isAgg,run_underlying Tryz.underlying2,step]
 by_cases h0:a0=b0
 rotate_left
 ·simp [h0]
 by_cases h1:a1=b1
 rotate_left
 ·simp [h0,h1]
 by_cases h2:a2=b2
 rotate_left
 ·simp [h0,h1,h2]
 by_cases h3:a3=b3<;>by_cases h4:a4=b4<;>simp [h0,h1,h2,h3,h4]
theorem B1b:Tryz.prog.eqGuardType Tryz.prog.depth 31=false:=by kernel_rfl
theorem A9Y (a b:List Ver) (A B:Option Addr) (cap cap':Nat) (S:Nat->Prop) (w:World) (hR:Row S w A a.length cap (a.map F3).flatten) (hR':Row S w B b.length cap' (b.map F3).flatten):
  Calls Tryz.prog 73 #[.slice A a.length cap,.slice B b.length cap'] w (C7 (.bool (D7 A2i a b)) w):=by
 refine vE Tryz.func73 ?_
 have hM:=C9 hR
 by_cases hl:a.length=b.length
 rotate_left
 ·refine B6 (by show ((a.length:Int) != (b.length:Int))=true;rw [bne_iff_ne];omega) ?_
  rw [L4 _ _ _ hl]
  exact⟨rfl,Below.refl _ _⟩
 refine B4 (by show ((a.length:Int) != (b.length:Int))=false;rw [hl];simp) ?_
 refine⟨Nat,fun i=>[(0,.slice A a.length cap),(1,.slice B b.length cap'),(12,.int .i64 a.length),(13,.int .i64 i)],
  fun i w'=>i<=a.length/\D7 A2i (a.drop i) (b.drop i)=D7 A2i a b/\Below w.heap.size w w',fun i _=>a.length-i,0,
  ⟨rfl,rfl,rfl,rfl,trivial⟩,⟨Nat.zero_le _,rfl,Below.refl _ _⟩,?_⟩
 rintro i w' u ⟨hi,he,hb⟩
 by_cases hlt:i<a.length
 ·refine dt (by omega) ?_
  obtain⟨ad,rfl,hcell⟩:=RowV.elem (hR.below hb) i hlt
  obtain⟨bd,rfl,hcell'⟩:=RowV.elem (hR'.below hb) i (by omega)
  rw [List.drop_eq_getElem_cons hlt,List.drop_eq_getElem_cons (show i<b.length by omega),D7] at he
  generalize a[i]=x at*
  generalize b[i]'(by omega)=y at*
  refine vD (.Q [0,1,2,3,4,5,6,7,8] .fin) (Keeps (fun b=>b<w'.heap.size) w') (Keeps.start _ _) ?_
  refine⟨⟨by omega,by omega⟩,?_⟩
  refine⟨F3 x,rfl,fun z hz=>hz.looks _ _ hcell,?_⟩
  refine⟨⟨by omega,by omega⟩,?_⟩
  refine⟨F3 y,rfl,fun z hz=>hz.looks _ _ hcell',?_⟩
  refine⟨_,fun w=>A05 B5G (A8l 9998 · x y) _ _ w,?_⟩
  have hb:=hb.drew
  cases hv:A2i x y
  ·rw [hv] at he
   refine⟨?_,hb⟩
   rw [<-he]
   rfl
  ·rw [hv] at he
   refine⟨i+1,⟨rfl,rfl,rfl,congrArg _ (C1 (by omega)),trivial⟩,⟨hlt,he,hb⟩,by show a.length-(i+1)<a.length-i;omega⟩
 ·refine df (by omega) ?_
  rw [List.drop_of_length_le (by omega),List.drop_of_length_le (by omega),D7] at he
  rw [<-he]
  exact⟨rfl,hb⟩
theorem A9Z (a b:List Mem) (A B:Option Addr) (cap cap':Nat) (S:Nat->Prop) (w:World) (hR:Row S w A a.length cap (a.map F5).flatten) (hR':Row S w B b.length cap' (b.map F5).flatten):
  Calls Tryz.prog 74 #[.slice A a.length cap,.slice B b.length cap'] w (C7 (.bool (D7 A0v a b)) w):=by
 refine vE Tryz.func74 ?_
 have hM:=C9 hR
 by_cases hl:a.length=b.length
 rotate_left
 ·refine B6 (by show ((a.length:Int) != (b.length:Int))=true;rw [bne_iff_ne];omega) ?_
  rw [L4 _ _ _ hl]
  exact⟨rfl,Below.refl _ _⟩
 refine B4 (by show ((a.length:Int) != (b.length:Int))=false;rw [hl];simp) ?_
 refine⟨Nat,fun i=>[(0,.slice A a.length cap),(1,.slice B b.length cap'),(12,.int .i64 a.length),(13,.int .i64 i)],
  fun i w'=>i<=a.length/\D7 A0v (a.drop i) (b.drop i)=D7 A0v a b/\Below w.heap.size w w',fun i _=>a.length-i,0,
  ⟨rfl,rfl,rfl,rfl,trivial⟩,⟨Nat.zero_le _,rfl,Below.refl _ _⟩,?_⟩
 rintro i w' u ⟨hi,he,hb⟩
 by_cases hlt:i<a.length
 ·refine dt (by omega) ?_
  obtain⟨ad,rfl,hcell⟩:=RowM.elem (hR.below hb) i hlt
  obtain⟨bd,rfl,hcell'⟩:=RowM.elem (hR'.below hb) i (by omega)
  rw [List.drop_eq_getElem_cons hlt,List.drop_eq_getElem_cons (show i<b.length by omega),D7] at he
  generalize a[i]=x at*
  generalize b[i]'(by omega)=y at*
  refine vD (.Q [0,1,2,3,4,5,6,7,8] .fin) (Keeps (fun b=>b<w'.heap.size) w') (Keeps.start _ _) ?_
  refine⟨⟨by omega,by omega⟩,?_⟩
  refine⟨F5 x,rfl,fun z hz=>hz.looks _ _ hcell,?_⟩
  refine⟨⟨by omega,by omega⟩,?_⟩
  refine⟨F5 y,rfl,fun z hz=>hz.looks _ _ hcell',?_⟩
  refine⟨_,fun w=>A05 B5H (A8m 9997 · x y) _ _ w,?_⟩
  have hb:=hb.drew
  cases hv:A0v x y
  ·rw [hv] at he
   refine⟨?_,hb⟩
   rw [<-he]
   rfl
  ·rw [hv] at he
   refine⟨i+1,⟨rfl,rfl,rfl,congrArg _ (C1 (by omega)),trivial⟩,⟨hlt,he,hb⟩,by show a.length-(i+1)<a.length-i;omega⟩
 ·refine df (by omega) ?_
  rw [List.drop_of_length_le (by omega),List.drop_of_length_le (by omega),D7] at he
  rw [<-he]
  exact⟨rfl,hb⟩
theorem B56 (a b:Ent) (A B:Option Addr) (cap cap':Nat) (S:Nat->Prop) (w:World) (hR:Row S w A a.vs.length cap (a.vs.map F3).flatten) (hR':Row S w B b.vs.length cap' (b.vs.map F3).flatten):
  Calls Tryz.prog 72 #[.agg #[.string a.key,.slice A a.vs.length cap],.agg #[.string b.key,.slice B b.vs.length cap']] w (C7 (.bool (eqE a b)) w):=by
 refine vE Tryz.func72 ?_
 intro g1 w1 h1
 have hc:=((Ctx.start w no (fun _ h=>h.elim)).loc h1).1
 refine hc.n fun g2 w2 h2 hc=>?_
 refine hc.c 1 rfl rfl ?_
 refine hc.c 0 rfl rfl ?_
 unfold eqE
 cases hk:C8 a.key b.key
 ·refine B4 hk ?_
  exact⟨rfl,hc.below⟩
 refine B6 hk ?_
 refine hc.c 1 rfl rfl ?_
 refine hc.c 0 rfl rfl ?_
 refine hc.q (A9Y a.vs b.vs A B cap cap' S w2 (hR.below hc.below) (hR'.below hc.below)) fun w3 h3 hc=>?_
 exact⟨rfl,hc.below⟩
theorem A4A (a b:List Ent) (A B:Option Addr) (cap cap':Nat) (css css':List (List Value)) (S:Nat->Prop) (w:World) (hE:RepEs S w a css) (hR:Row S w A a.length cap css.flatten) (hE':RepEs S w b css') (hR':Row S w B b.length cap' css'.flatten):
  Calls Tryz.prog 75 #[.slice A a.length cap,.slice B b.length cap',.func (.func 72) #[] #[]] w (C7 (.bool (D7 eqE a b)) w):=by
 refine vE Tryz.func75 ?_
 have hM:=C9 hR
 by_cases hl:a.length=b.length
 rotate_left
 ·refine B6 (by show ((a.length:Int) != (b.length:Int))=true;rw [bne_iff_ne];omega) ?_
  rw [L4 _ _ _ hl]
  exact⟨rfl,Below.refl _ _⟩
 refine B4 (by show ((a.length:Int) != (b.length:Int))=false;rw [hl];simp) ?_
 refine⟨Nat,fun i=>[(1,.slice B b.length cap'),(2,.func (.func 72) #[] #[]),(15,.slice A a.length cap),(16,.int .i64 a.length),(17,.int .i64 i)],
  fun i w'=>i<=a.length/\D7 eqE (a.drop i) (b.drop i)=D7 eqE a b/\Below w.heap.size w w',fun i _=>a.length-i,0,
  ⟨rfl,rfl,rfl,rfl,rfl,trivial⟩,⟨Nat.zero_le _,rfl,Below.refl _ _⟩,?_⟩
 rintro i w' u ⟨hi,he,hb⟩
 by_cases hlt:i<a.length
 ·refine dt (by omega) ?_
  obtain⟨ad,A1,cap1,rfl,hcell,hr1⟩:=RowE.elem (hR.below hb) (hE.below hb) i hlt
  obtain⟨bd,B1,cap2,rfl,hcell',hr2⟩:=RowE.elem (hR'.below hb) (hE'.below hb) i (by omega)
  rw [List.drop_eq_getElem_cons hlt,List.drop_eq_getElem_cons (show i<b.length by omega),D7] at he
  generalize a[i]=x at*
  generalize b[i]'(by omega)=y at*
  refine⟨⟨by omega,by omega⟩,?_⟩
  refine⟨[.string x.key,.slice A1 x.vs.length cap1],rfl,hcell,?_⟩
  intro g5 w5 h5
  have hc:=((Ctx.start w' no (fun _ h=>h.elim)).loc h5).1
  refine⟨hc.may 0 rfl 0 _ (Nat.le_refl 2) rfl,?_⟩
  intro w6 h6
  have hc:=(hc.set 0 rfl h6).1
  refine⟨⟨by omega,by omega⟩,?_⟩
  refine⟨[.string y.key,.slice B1 y.vs.length cap2],rfl,cellsAt_later hc.below _ _ hcell',?_⟩
  refine hc.n fun g7 w7 h7 hc=>?_
  refine⟨hc.may 0 rfl 0 _ (Nat.le_refl 2) rfl,?_⟩
  intro w8 h8
  have hc:=(hc.set 0 rfl h8).1
  refine⟨[.string x.key,.slice A1 x.vs.length cap1],rfl,hc.cells 1 rfl,?_⟩
  refine⟨[.string y.key,.slice B1 y.vs.length cap2],rfl,hc.cells 0 rfl,?_⟩
  refine hc.q (B56 x y A1 B1 cap1 cap2 S w8 (hr1.below hc.below) (hr2.below hc.below)) fun w9 h9 hc=>?_
  have hb9:=hb.trans (hc.below.mono hb.size)
  cases hv:eqE x y
  ·rw [hv] at he
   refine⟨?_,hb9⟩
   rw [<-he]
   rfl
  ·rw [hv] at he
   exact⟨i+1,⟨rfl,rfl,rfl,rfl,congrArg _ (C1 (by omega)),trivial⟩,⟨hlt,he,hb9⟩,by show a.length-(i+1)<a.length-i;omega⟩
 ·refine df (by omega) ?_
  rw [List.drop_of_length_le (by omega),List.drop_of_length_le (by omega),D7] at he
  rw [<-he]
  exact⟨rfl,hb⟩
theorem A8o (a b:Stt) (ca cb:List Value) (S:Nat->Prop) (w:World) (ha:RepS S w a ca) (hb:RepS S w b cb):Calls Tryz.prog 46 #[.agg ca.toArray,.agg cb.toArray] w (C7 (.bool (eqS a b)) w):=by
 obtain⟨A,cap,css,B,cap',l0,l1,l2,l3,l4,rfl,el,hE,hR,hM⟩:=ha.shape
 obtain⟨A',cap2,css',B',cap3,k0,k1,k2,k3,k4,rfl,ek,hE',hR',hM'⟩:=hb.shape
 refine vE Tryz.func46 ?_
 intro g1 w1 h1
 have hc:=((Ctx.start w no (fun _ h=>h.elim)).loc h1).1
 refine hc.n fun g2 w2 h2 hc=>?_
 refine hc.c 1 rfl rfl ?_
 refine hc.c 0 rfl rfl ?_
 have e0:eqS a b=(a.seq==b.seq&&a.lows==b.lows&&D7 A0v a.ms b.ms&&D7 eqE a.l b.l):=rfl
 generalize eqS a b=r at e0 ⊢
 rcases Bool.eq_false_or_eq_true (a.seq==b.seq) with hs | hs
 rotate_left
 ·refine B4 hs ?_
  rw [hs] at e0
  exact⟨B7 e0.symm,hc.below⟩
 refine B6 hs ?_
 refine⟨[.int .i64 l0,.int .i64 l1,.int .i64 l2,.int .i64 l3,.int .i64 l4],rfl,hc.cellsAt 1 rfl (0+3) _ rfl,?_⟩
 refine⟨[.int .i64 k0,.int .i64 k1,.int .i64 k2,.int .i64 k3,.int .i64 k4],rfl,hc.cellsAt 0 rfl (0+3) _ rfl,?_⟩
 refine⟨_,fun w=>A3S B1b (fun w=>B1a 9998 w l0 l1 l2 l3 l4 k0 k1 k2 k3 k4) _ _ w,?_⟩
 rw [el,ek] at e0
 rcases Bool.eq_false_or_eq_true ([l0,l1,l2,l3,l4]==[k0,k1,k2,k3,k4]) with hl | hl
 rotate_left
 ·refine B4 hl ?_
  rw [hs,hl] at e0
  exact⟨B7 e0.symm,hc.below⟩
 refine B6 hl ?_
 rw [hs,hl,Bool.and_self,Bool.true_and] at e0
 refine hc.c 1 rfl rfl ?_
 refine hc.c 0 rfl rfl ?_
 refine hc.q (A9Z a.ms b.ms B B' cap' cap3 S w2 (hM.below hc.below) (hM'.below hc.below)) fun w3 h3 hc=>?_
 generalize D7 A0v a.ms b.ms=q at e0 ⊢
 cases q
 ·exact⟨B7 e0.symm,hc.below⟩
 rw [Bool.true_and] at e0
 refine hc.c 1 rfl rfl ?_
 refine hc.c 0 rfl rfl ?_
 refine hc.q (A4A a.l b.l A A' cap cap2 css css' S w3 (hE.below hc.below) (hR.below hc.below) (hE'.below hc.below) (hR'.below hc.below)) fun w4 h4 hc=>?_
 exact⟨B7 e0.symm,hc.below⟩
theorem B31 (a b:Stt) (ca cb:List Value) (S:Nat->Prop) (w:World) (ha:RepS S w a ca) (hb:RepS S w b cb):Calls Tryz.prog 48 #[.agg ca.toArray,.agg cb.toArray] w (C7 (.bool (eqS a b)) w):=by
 obtain⟨A,cap,css,B,cap',l0,l1,l2,l3,l4,rfl,el,hE,hR,hM⟩:=ha.shape
 obtain⟨A',cap2,css',B',cap3,k0,k1,k2,k3,k4,rfl,ek,hE',hR',hM'⟩:=hb.shape
 have hMa:=C9 hR
 have hMm:=C9 hM
 refine vE Tryz.func48 ?_
 intro g1 w1 h1
 have hc:=((Ctx.start w no (fun _ h=>h.elim)).loc h1).1
 refine hc.n fun g2 w2 h2 hc=>?_
 refine hc.c 1 rfl rfl ?_
 refine hc.c 0 rfl rfl ?_
 have e0:eqS a b=(a.seq==b.seq&&a.lows==b.lows&&D7 A0v a.ms b.ms&&D7 eqE a.l b.l):=rfl
 generalize eqS a b=r at e0 ⊢
 rcases Bool.eq_false_or_eq_true (a.seq==b.seq) with hs | hs
 rotate_left
 ·refine B6 (by show (!(a.seq==b.seq))=true;rw [hs];rfl) ?_
  rw [hs] at e0
  exact⟨B7 e0.symm,hc.below⟩
 refine B4 (by show (!(a.seq==b.seq))=false;rw [hs];rfl) ?_
 refine⟨[.int .i64 l0,.int .i64 l1,.int .i64 l2,.int .i64 l3,.int .i64 l4],rfl,hc.cellsAt 1 rfl (0+3) _ rfl,?_⟩
 refine⟨[.int .i64 k0,.int .i64 k1,.int .i64 k2,.int .i64 k3,.int .i64 k4],rfl,hc.cellsAt 0 rfl (0+3) _ rfl,?_⟩
 refine⟨_,fun w=>A05 B1b (fun w=>B1a 9998 w l0 l1 l2 l3 l4 k0 k1 k2 k3 k4) _ _ w,?_⟩
 rw [el,ek] at e0
 rcases Bool.eq_false_or_eq_true ([l0,l1,l2,l3,l4]==[k0,k1,k2,k3,k4]) with hl | hl
 rotate_left
 ·refine B6 (by show (!([l0,l1,l2,l3,l4]==[k0,k1,k2,k3,k4]))=true;rw [hl];rfl) ?_
  rw [hs,hl] at e0
  exact⟨B7 e0.symm,hc.below⟩
 refine B4 (by show (!([l0,l1,l2,l3,l4]==[k0,k1,k2,k3,k4]))=false;rw [hl];rfl) ?_
 rw [hs,hl,Bool.and_self,Bool.true_and] at e0
 refine hc.c 1 rfl rfl ?_
 refine hc.c 0 rfl rfl ?_
 rcases Nat.decEq a.l.length b.l.length with hle | hle
 ·refine B6 (by show ((a.l.length:Int) != (b.l.length:Int))=true;rw [bne_iff_ne];omega) ?_
  rw [L4 eqE _ _ hle,Bool.and_false] at e0
  exact⟨B7 e0.symm,hc.below⟩
 refine B4 (by show ((a.l.length:Int) != (b.l.length:Int))=false;rw [hle];simp) ?_
 refine hc.c 1 rfl rfl ?_
 refine hc.c 0 rfl rfl ?_
 rcases Nat.decEq a.ms.length b.ms.length with hlm | hlm
 ·refine B6 (by show ((a.ms.length:Int) != (b.ms.length:Int))=true;rw [bne_iff_ne];omega) ?_
  rw [L4 A0v _ _ hlm,Bool.false_and] at e0
  exact⟨B7 e0.symm,hc.below⟩
 refine B4 (by show ((a.ms.length:Int) != (b.ms.length:Int))=false;rw [hlm];simp) ?_
 refine⟨Nat,fun i=>[(2,.pointer (some ⟨g1,0,none⟩)),(3,.pointer (some ⟨g2,0,none⟩)),(5,.int .i64 i)],
  fun i w'=>i<=a.l.length/\D7 eqE (a.l.drop i) (b.l.drop i)=D7 eqE a.l b.l/\Ctx no w no w' [(g2,33,[.int .i64 b.seq,.slice A' b.l.length cap2,.slice B' b.ms.length cap3,.int .i64 k0,.int .i64 k1,.int .i64 k2,.int .i64 k3,.int .i64 k4]),(g1,33,[.int .i64 a.seq,.slice A a.l.length cap,.slice B a.ms.length cap',.int .i64 l0,.int .i64 l1,.int .i64 l2,.int .i64 l3,.int .i64 l4])],fun i _=>a.l.length-i,0,
  ⟨rfl,rfl,rfl,trivial⟩,⟨Nat.zero_le _,rfl,hc⟩,?_⟩
 rintro i w' u ⟨hi,he,hc⟩
 refine hc.c 1 rfl rfl ?_
 rcases Nat.lt_or_ge i a.l.length with hlt | hlt
 ·refine dt (by omega) ?_
  obtain⟨ad,A1,cap1,e1,hcell,hr1⟩:=RowE.elem (hR.below hc.below) (hE.below hc.below) i hlt
  obtain⟨bd,B1,capb,e2,hcell',hr2⟩:=RowE.elem (hR'.below hc.below) (hE'.below hc.below) i (by omega)
  subst e1
  subst e2
  rw [List.drop_eq_getElem_cons hlt,List.drop_eq_getElem_cons (show i<b.l.length by omega),D7] at he
  generalize a.l[i]=x at*
  generalize b.l[i]'(by omega)=y at*
  refine vD (.Q [0,1,2,3,4,5,6,7,8,9] (.n 10 (.q 11 .fin) .stop)) (Keeps (fun b=>b<w'.heap.size) w') (Keeps.start _ _) ?_
  refine⟨_,fun z hz=>hz.look (hc.cell 1 rfl _ rfl),?_⟩
  refine⟨⟨by omega,by omega⟩,?_⟩
  refine⟨[.string x.key,.slice A1 x.vs.length cap1],rfl,fun z hz=>hz.looks _ _ hcell,?_⟩
  refine⟨_,fun z hz=>hz.look (hc.cell 0 rfl _ rfl),?_⟩
  refine⟨⟨by omega,by omega⟩,?_⟩
  refine⟨[.string y.key,.slice B1 y.vs.length capb],rfl,fun z hz=>hz.looks _ _ hcell',?_⟩
  refine⟨C2 (B30 x y A1 B1 cap1 capb S _ (hr1.below (Below.refl _ _).drew) (hr2.below (Below.refl _ _).drew)) ?_,trivial⟩
  intro w3 h3
  have hcq:=(hc.drew.quiet h3).1
  refine⟨(Keeps.start _ _).below (fun b hb=>hb) h3,?_⟩
  rcases Bool.eq_false_or_eq_true (eqE x y) with hv | hv
  ·refine B4 (by rw [hv];rfl) ?_
   rw [hv,Bool.true_and] at he
   refine⟨i+1,⟨rfl,rfl,congrArg _ (C1 (by omega)),trivial⟩,⟨hlt,he,hcq⟩,by show a.l.length-(i+1)<a.l.length-i;omega⟩
  ·refine B6 (by rw [hv];rfl) ?_
   rw [hv,Bool.false_and] at he
   rw [<-he,Bool.and_false] at e0
   exact⟨B7 e0.symm,hcq.below⟩
 refine df (by omega) ?_
 rw [List.drop_of_length_le (by omega),List.drop_of_length_le (by omega),D7] at he
 rw [<-he,Bool.and_true] at e0
 refine⟨Nat,fun i=>[(2,.pointer (some ⟨g1,0,none⟩)),(3,.pointer (some ⟨g2,0,none⟩)),(6,.int .i64 i)],
  fun i w'=>i<=a.ms.length/\D7 A0v (a.ms.drop i) (b.ms.drop i)=D7 A0v a.ms b.ms/\Ctx no w no w' [(g2,33,[.int .i64 b.seq,.slice A' b.l.length cap2,.slice B' b.ms.length cap3,.int .i64 k0,.int .i64 k1,.int .i64 k2,.int .i64 k3,.int .i64 k4]),(g1,33,[.int .i64 a.seq,.slice A a.l.length cap,.slice B a.ms.length cap',.int .i64 l0,.int .i64 l1,.int .i64 l2,.int .i64 l3,.int .i64 l4])],fun i _=>a.ms.length-i,0,
  ⟨rfl,rfl,rfl,trivial⟩,⟨Nat.zero_le _,rfl,hc⟩,?_⟩
 rintro i w' u ⟨hi,he,hc⟩
 refine hc.c 1 rfl rfl ?_
 rcases Nat.lt_or_ge i a.ms.length with hlt | hlt
 ·refine dt (by omega) ?_
  obtain⟨ad,e1,hcell⟩:=RowM.elem (hM.below hc.below) i hlt
  obtain⟨bd,e2,hcell'⟩:=RowM.elem (hM'.below hc.below) i (by omega)
  subst e1
  subst e2
  rw [List.drop_eq_getElem_cons hlt,List.drop_eq_getElem_cons (show i<b.ms.length by omega),D7] at he
  generalize a.ms[i]=x at*
  generalize b.ms[i]'(by omega)=y at*
  refine vD (.Q [0,1,2,3,4,5,6,7,8,9,10] .fin) (Keeps (fun b=>b<w'.heap.size) w') (Keeps.start _ _) ?_
  refine⟨_,fun z hz=>hz.look (hc.cell 1 rfl _ rfl),?_⟩
  refine⟨⟨by omega,by omega⟩,?_⟩
  refine⟨F5 x,rfl,fun z hz=>hz.looks _ _ hcell,?_⟩
  refine⟨_,fun z hz=>hz.look (hc.cell 0 rfl _ rfl),?_⟩
  refine⟨⟨by omega,by omega⟩,?_⟩
  refine⟨F5 y,rfl,fun z hz=>hz.looks _ _ hcell',?_⟩
  refine⟨_,fun w=>A05 B5H (A8m 9997 · x y) _ _ w,?_⟩
  have hc:=hc.drew
  rcases Bool.eq_false_or_eq_true (A0v x y) with hv | hv
  ·refine B4 (by rw [hv];rfl) ?_
   rw [hv,Bool.true_and] at he
   refine⟨i+1,⟨rfl,rfl,congrArg _ (C1 (by omega)),trivial⟩,⟨hlt,he,hc⟩,by show a.ms.length-(i+1)<a.ms.length-i;omega⟩
  ·refine B6 (by rw [hv];rfl) ?_
   rw [hv,Bool.false_and] at he
   rw [<-he] at e0
   exact⟨B7 e0.symm,hc.below⟩
 ·refine df (by omega) ?_
  rw [List.drop_of_length_le (by omega),List.drop_of_length_le (by omega),D7] at he
  rw [<-he] at e0
  exact⟨B7 e0.symm,hc.below⟩
end Go.Proofs.YtfekddndgakneaaGreatDoor
