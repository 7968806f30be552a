import Derived.Test.YtefdfaeieekioaaGreatDoorZ12
import Derived.Deep.AppendSrc
import Derived.Deep.Upon
import Derived.MapKept
import Derived.Maps.RangeRun
import Derived.Carry
set_option maxRecDepth 100000
set_option maxHeartbeats 40000000
set_option linter.unusedVariables false
set_option linter.unusedSimpArgs false
section
namespace Go.Vx
open Go Go.Vc Go.RowKit
def bit (i:Nat):Nat:=Nat.pow 2 i
def A4C (m i:Nat):Bool:=Nat.beq (Nat.land (Nat.shiftRight m i) 1) 1
def A83 (a b:Nat):Bool:=Nat.beq (Nat.land a b) a
theorem A0q (m i:Nat):A4C m i=m.testBit i:=by unfold A4C Nat.testBit;rw [Bool.eq_iff_iff,bne_iff_ne];show Nat.beq ((m >>> i) &&& 1) 1=true↔1 &&& (m >>> i)≠0;rw [Nat.and_comm 1];have h1:(m >>> i) &&& 1=(m >>> i) % 2:=Nat.and_one_is_mod _;rw [h1];have:=Nat.mod_lt (m >>> i) (show 0<2 by decide);exact⟨fun h=>by have:=z8 h;omega,fun h=>by rw [show (m >>> i) % 2=1 by omega];rfl⟩
theorem O4 (i j:Nat):(bit i).testBit j=decide (i=j):=Nat.testBit_two_pow
theorem A4D (a b:Nat):A83 a b=true↔∀ i,a.testBit i=true->b.testBit i=true:=by
 unfold A83;constructor
 ·intro h i hi;have e:a &&& b=a:=z8 h;rw [<-e,Nat.testBit_and,z7] at hi;exact hi.2
 ·intro h;have e:a &&& b=a:=Nat.eq_of_testBit_eq fun i=>by
   rw [Nat.testBit_and];cases hi:a.testBit i with
   | false=>rfl
   | true=>rw [h i hi];rfl
  show Nat.beq (a &&& b) a=true;rw [e];exact Nat.beq_refl _
structure RI where
 D:Nat
 B:Nat
 q:Bool
noncomputable def A84 (l:List Edge):Nat:=List.rec (motive:=fun _=>Nat) 0 (fun e _ s=>cond (Region.binds .any e) (Nat.lor (bit e.on) s) s) l
theorem Q6:∀ (l:List Edge) (j:Nat),(A84 l).testBit j=l.any fun e=>Region.binds .any e&&e.on==j
 | [],j=>Nat.zero_testBit j
 | e::l,j=>by
  show (cond (Region.binds .any e) (bit e.on ||| A84 l) (A84 l)).testBit j=(Region.binds .any e&&e.on==j||l.any _);cases Region.binds .any e with
  | false=>exact Q6 l j
  | true=>
   show (bit e.on ||| A84 l).testBit j=_;rw [Nat.testBit_or,O4,Q6 l j];rfl
noncomputable def B6W (ops:Array Oper) (i:Nat) (oi:Oper) (l:List Oper):Nat->Nat:=List.rec (motive:=fun _=>Nat->Nat) (fun _=>0) (fun o _ ih j=>cond (Nat.beq j i||A4C (A84 o.after.toList) i||oi.apart ops o) (ih (Nat.succ j)) (Nat.lor (bit j) (ih (Nat.succ j)))) l
theorem B1d {ops:Array Oper} {i k:Nat} {oi x:Oper} {l:List Oper}:B6W ops i oi (x::l) k=cond (Nat.beq k i||A4C (A84 x.after.toList) i||oi.apart ops x) (B6W ops i oi l (k+1)) (bit k ||| B6W ops i oi l (k+1)):=rfl
theorem B1e {ops:Array Oper} {i:Nat} {oi:Oper} (l:List Oper):∀ (k j:Nat) (o:Oper),l[j]?=some o->(k+j=i\/(A84 o.after.toList).testBit i=true\/oi.apart ops o=true)\/(B6W ops i oi l k).testBit (k+j)=true:=by
 induction l with
 | nil=>intro k j o h;cases h
 | cons x l ih=>
  intro k j o h;rw [B1d];cases j with
  | zero=>
   cases h;cases hc:(Nat.beq k i||A4C (A84 x.after.toList) i||oi.apart ops x) with
   | true=>
    left;rw [Bool.or_eq_true,Bool.or_eq_true,A0q] at hc;rcases hc with (hc | hc) | hc
    ·exact .inl (z8 hc)
    ·exact .inr (.inl hc)
    ·exact .inr (.inr hc)
   | false=>
    right;rw [cond_false,Nat.testBit_or,O4,zy (by omega)];rfl
  | succ j=>
   have:=ih (k+1) j o (by simpa using h);rw [show k+1+j=k+(j+1) by omega] at this;rcases this with h1 | h1
   ·exact .inl h1
   ·right;cases (Nat.beq k i||A4C (A84 x.after.toList) i||oi.apart ops x) with
    | true=>rw [cond_true];exact h1
    | false=>rw [cond_false,Nat.testBit_or,h1,Bool.or_true]
noncomputable def Y0 (ops:Array Oper) (all:List Oper) (nq:List Bool) (l:List Oper):Nat->List RI:=List.rec (motive:=fun _=>Nat->List RI) (fun _=>[]) (fun o _ ih i=>⟨A84 o.after.toList,B6W ops i o all 0,not (nq.getD i true)⟩::ih (Nat.succ i)) l
theorem W0 {ops:Array Oper} {all:List Oper} {nq:List Bool}:∀ (l:List Oper) (k i:Nat),(Y0 ops all nq l k)[i]?=(l[i]?).map fun o=>⟨A84 o.after.toList,B6W ops (k+i) o all 0,not (nq.getD (k+i) true)⟩
 | [],_,_=>rfl
 | o::l,k,0=>rfl
 | o::l,k,i+1=>by show (Y0 ops all nq l (k+1))[i]?=_;rw [W0 l (k+1) i,show k+1+i=k+(i+1) by omega];rfl
noncomputable def O5 (l:List RI) (m:Nat):Nat->Nat:=List.rec (motive:=fun _=>Nat->Nat) (fun _=>0) (fun r _ ih i=>cond (not (A4C m i)&&A83 r.D m) (Nat.lor (bit i) (ih (Nat.succ i))) (ih (Nat.succ i))) l
theorem A2a {m:Nat}:∀ (l:List RI) (k j:Nat),(O5 l m k).testBit j=true↔∃ i r,l[i]?=some r/\j=k+i/\m.testBit j=false/\A83 r.D m=true
 | [],k,j=>by
  show (0:Nat).testBit j=true↔_;rw [Nat.zero_testBit];exact⟨fun h=>(by cases h),fun ⟨i,r,h,_⟩=>(by cases h)⟩
 | r::l,k,j=>by
  have e:O5 (r::l) m k=cond (not (A4C m k)&&A83 r.D m) (bit k ||| O5 l m (k+1)) (O5 l m (k+1)):=rfl;have ih:=A2a (m:=m) l (k+1) j;rw [e];constructor
  ·intro h;cases hc:(not (A4C m k)&&A83 r.D m) with
   | false=>
    rw [hc] at h;obtain⟨i,r',h1,h2,h3⟩:=ih.1 h;exact⟨i+1,r',h1,by omega,h3⟩
   | true=>
    rw [hc] at h;have h:(bit k ||| O5 l m (k+1)).testBit j=true:=h;rw [Nat.testBit_or,Bool.or_eq_true,O4,decide_eq_true_iff] at h;rcases h with h | h
    ·subst h;rw [z7,Bool.not_eq_true',A0q] at hc;exact⟨0,r,rfl,rfl,hc.1,hc.2⟩
    ·obtain⟨i,r',h1,h2,h3⟩:=ih.1 h;exact⟨i+1,r',h1,by omega,h3⟩
  ·rintro⟨i,r',h1,h2,h3,h4⟩;cases i with
   | zero=>
    cases h1;obtain rfl:j=k:=h2;rw [show (not (A4C m j)&&A83 r.D m)=true from by rw [A0q,h3,h4];rfl];show (bit j ||| _).testBit j=true;rw [Nat.testBit_or,O4,zy rfl];rfl
   | succ i=>
    have:=ih.2 ⟨i,r',h1,by omega,h3,h4⟩;cases (not (A4C m k)&&A83 r.D m) with
    | false=>exact this
    | true=>show (bit k ||| _).testBit j=true;rw [Nat.testBit_or,this,Bool.or_true]
noncomputable def okM (l:List RI) (full:Nat) (s:Sched):Nat->Nat->Nat->Bool:=
 Sched.rec (motive:=fun _=>Nat->Nat->Nat->Bool) (fun _ _ r=>Nat.beq r 0)
  (fun i fuel m r=>Nat.rec (motive:=fun _=>Bool) false (fun _ _=>match l[i]? with
   | some x=>A4C r i&&Nat.beq r (bit i)&&Nat.beq (Nat.lor x.D (bit i)) full&&Nat.beq (O5 l (Nat.lor m (bit i)) 0) 0
   | none=>false) fuel)
  (fun i s ih fuel m r=>Nat.rec (motive:=fun _=>Bool) false (fun fuel' _=>match l[i]? with
   | some x=>A4C r i&&A83 x.B m&&not s.isStop&&ih fuel' (Nat.lor m (bit i)) (O5 l (Nat.lor m (bit i)) 0)
   | none=>false) fuel)
  (fun i s t ihs iht fuel m r=>Nat.rec (motive:=fun _=>Bool) false (fun fuel' _=>A4C r i&&not s.isStop&&t.isAlt&&ihs fuel' (Nat.lor m (bit i)) (O5 l (Nat.lor m (bit i)) 0)&&iht (Nat.succ fuel') m (Nat.xor r (bit i))) fuel)
  (fun _ _ r=>Nat.beq r 0) s
section
variable {ops:List Oper} {nq:List Bool}
structure LM (n:Nat) (listed:Array Bool) (m:Nat):Prop where
 size:listed.size=n
 bits:∀ i,listed.getD i false=m.testBit i
theorem LM.tr {n:Nat} {listed:Array Bool} {m:Nat} (h:LM n listed m) {i:Nat} (hi:i<n):listed.getD i true=m.testBit i:=by
 rw [<-h.bits];have:i<listed.size:=by rw [h.size];exact hi
 simp [Array.getD,this]
theorem LM.add {n:Nat} {listed:Array Bool} {m:Nat} (h:LM n listed m) {i:Nat} (hi:i<n):LM n (listed.setIfInBounds i true) (Nat.lor m (bit i)):=
 ⟨by simp [h.size],fun j=>by
  show _=(m ||| bit i).testBit j;rw [Nat.testBit_or,O4,<-h.bits];have hs:i<listed.size:=by rw [h.size];exact hi
  by_cases e:i=j
  ·subst e;simp [Array.getD,hs]
  ·rw [zz e,Bool.or_false];simp only [Array.getD,Array.size_setIfInBounds];split
   ·rename_i hj;exact Array.getElem_setIfInBounds_ne (by omega) e
   ·rfl⟩
theorem A5l {listed:Array Bool} {m:Nat} (h:LM ops.length listed m) (j:Nat):j∈Region.ready .any ops.toArray listed↔(O5 (Y0 ops.toArray ops nq ops 0) m 0).testBit j=true:=by
 rw [mem_ready,A2a];constructor
 ·rintro⟨h1,o,h2,h3⟩;have h2:ops[j]?=some o:=by simpa using h2
  have hj:j<ops.length:=(List.getElem?_eq_some_iff.1 h2).1;refine⟨j,_,by rw [W0,h2];rfl,by omega,by rw [<-h.tr hj];exact h1,(A4D _ _).2 fun i hi=>?_⟩;rw [Q6] at hi;obtain⟨e,he,hb⟩:=List.any_eq_true.1 hi;rw [z7,beq_iff_eq] at hb;rw [<-h.bits,<-hb.2];exact h3 e (by simpa using he) hb.1
 ·rintro⟨i,r,h1,h2,h3,h4⟩;obtain rfl:i=j:=by omega
  rw [W0,Option.map_eq_some_iff] at h1;obtain⟨o,h5,rfl⟩:=h1;have hj:i<ops.length:=(List.getElem?_eq_some_iff.1 h5).1;refine⟨by rw [h.tr hj];exact h3,o,by simpa using h5,fun e he hb=>?_⟩;rw [h.bits];refine (A4D _ _).1 h4 _ ?_;rw [Q6];exact List.any_eq_true.2 ⟨e,by simpa using he,by rw [hb,Bool.true_and,beq_self_eq_true]⟩
theorem B7P (hfull:∀ j,j<ops.length->(bit ops.length-1).testBit j=true):∀ (s:Sched) (fuel m r:Nat) (listed:Array Bool) (rem:List Nat),okM (Y0 ops.toArray ops nq ops 0) (bit ops.length-1) s fuel m r=true->LM ops.length listed m->(∀ j,j∈rem↔r.testBit j=true)->(∀ j∈rem,j<ops.length)->
  I1 ops.toArray s fuel listed rem=true:=by
 have emp:∀ {r:Nat} {rem:List Nat},Nat.beq r 0=true->(∀ j,j∈rem↔r.testBit j=true)->rem.isEmpty=true:=fun h hr=>by rw [List.isEmpty_iff,List.eq_nil_iff_forall_not_mem];intro j hj;rw [hr,z8 h,Nat.zero_testBit] at hj;cases hj
 have next:∀ {listed m},LM ops.length listed m->(∀ j,j∈Region.ready .any ops.toArray listed↔(O5 (Y0 ops.toArray ops nq ops 0) m 0).testBit j=true)/\∀ j∈Region.ready .any ops.toArray listed,j<ops.length:=fun h=>
  ⟨A5l h,fun j hj=>by obtain⟨_,o,h2,_⟩:=mem_ready.1 hj;simpa using (Array.getElem?_eq_some_iff.1 h2).1⟩
 intro s;induction s with
 | fin=>intro fuel m r listed rem h hL hr hb;exact emp h hr
 | stop=>intro fuel m r listed rem h hL hr hb;exact emp h hr
 | z i=>
  intro fuel m r listed rem h hL hr hb;cases fuel with
  | zero=>cases h
  | succ fuel=>
   have h:(match (Y0 ops.toArray ops nq ops 0)[i]? with
    | some x=>A4C r i&&Nat.beq r (bit i)&&Nat.beq (Nat.lor x.D (bit i)) (bit ops.length-1)&&Nat.beq (O5 (Y0 ops.toArray ops nq ops 0) (Nat.lor m (bit i)) 0) 0
    | none=>false)=true:=h
   split at h
   ·rename_i x hx;rw [W0,Option.map_eq_some_iff] at hx;obtain⟨o,ho,rfl⟩:=hx;simp only [z7] at h;obtain⟨⟨⟨h1,h2⟩,h3⟩,h4⟩:=h;rw [A0q] at h1;have h2:=z8 h2;have h3:A84 o.after.toList ||| bit i=bit ops.length-1:=z8 h3;have hi:=hb i ((hr i).2 h1);simp only [I1,z7];refine⟨⟨⟨?_,by simpa using (hr i).2 h1⟩,?_⟩,emp h4 (next (hL.add hi)).1⟩
    ·rw [List.all_eq_true];intro j hj;rw [hr,h2,O4,decide_eq_true_iff] at hj;rw [hj];exact Nat.beq_refl _
    ·unfold Z9;rw [show ops.toArray[i]?=some o from by simpa using ho];simp only;rw [List.all_eq_true];intro j hj;have hj:j<ops.length:=by simpa using hj
     have:=hfull j hj;rw [<-h3,Nat.testBit_or,O4,Q6,Bool.or_eq_true,decide_eq_true_iff] at this;rw [Bool.or_eq_true];rcases this with h5 | h5
     ·right;obtain⟨e,he,hb'⟩:=List.any_eq_true.1 h5;rw [z7,beq_iff_eq] at hb';refine List.any_eq_true.2 ⟨e,he,?_⟩;rw [hb'.1,hb'.2];exact Nat.beq_refl _
     ·left;rw [h5];exact Nat.beq_refl _
   ·cases h
 | q i s ih=>
  intro fuel m r listed rem h hL hr hb;cases fuel with
  | zero=>cases h
  | succ fuel=>
   have h:(match (Y0 ops.toArray ops nq ops 0)[i]? with
    | some x=>A4C r i&&A83 x.B m&&not s.isStop&&okM (Y0 ops.toArray ops nq ops 0) (bit ops.length-1) s fuel (Nat.lor m (bit i)) (O5 (Y0 ops.toArray ops nq ops 0) (Nat.lor m (bit i)) 0)
    | none=>false)=true:=h
   split at h
   ·rename_i x hx;rw [W0,Option.map_eq_some_iff] at hx;obtain⟨o,ho,rfl⟩:=hx;simp only [z7] at h;obtain⟨⟨⟨h1,h2⟩,h3⟩,h4⟩:=h;rw [A0q] at h1;have hi:=hb i ((hr i).2 h1);simp only [I1,z7];refine⟨⟨⟨by simpa using (hr i).2 h1,?_⟩,h3⟩,ih fuel _ _ _ _ h4 (hL.add hi) (next (hL.add hi)).1 (next (hL.add hi)).2⟩;unfold Region.free;rw [show ops.toArray[i]?=some o from by simpa using ho];simp only;rw [List.all_eq_true];intro j hj;have hj:j<ops.length:=by simpa using hj
    have hoj:ops[j]?=some ops[j]:=List.getElem?_eq_getElem hj;rw [show ops.toArray[j]?=some ops[j] from by simp];simp only [Bool.or_eq_true];have:=B1e (ops:=ops.toArray) (i:=i) (oi:=o) ops 0 j _ hoj;rw [zm] at this;rcases this with (h5 | h5 | h5) | h5
    ·exact .inl (.inl (by rw [h5];exact beq_self_eq_true _))
    ·refine .inr (.inl ?_);rw [Q6] at h5;obtain⟨e,he,hb'⟩:=List.any_eq_true.1 h5;exact Array.any_eq_true'.2 ⟨e,by simpa using he,hb'⟩
    ·exact .inr (.inr h5)
    ·refine .inl (.inr ?_);rw [hL.tr hj];refine (A4D _ _).1 h2 j ?_;rw [zm];exact h5
   ·cases h
 | n i s t ihs iht=>
  intro fuel m r listed rem h hL hr hb;cases fuel with
  | zero=>cases h
  | succ fuel=>
   have h:(A4C r i&&not s.isStop&&t.isAlt&&okM (Y0 ops.toArray ops nq ops 0) (bit ops.length-1) s fuel (Nat.lor m (bit i)) (O5 (Y0 ops.toArray ops nq ops 0) (Nat.lor m (bit i)) 0)&&okM (Y0 ops.toArray ops nq ops 0) (bit ops.length-1) t (Nat.succ fuel) m (Nat.xor r (bit i)))=true:=h;simp only [z7] at h;obtain⟨⟨⟨⟨h1,h2⟩,h3⟩,h4⟩,h5⟩:=h;rw [A0q] at h1;have hi:=hb i ((hr i).2 h1);simp only [I1,z7];refine⟨⟨⟨⟨by simpa using (hr i).2 h1,h2⟩,h3⟩,ihs fuel _ _ _ _ h4 (hL.add hi) (next (hL.add hi)).1 (next (hL.add hi)).2⟩,iht (fuel+1) _ _ _ _ h5 hL (fun j=>?_) (fun j hj=>hb j (List.mem_filter.1 hj).1)⟩;rw [List.mem_filter,hr];show _↔(r ^^^ bit i).testBit j=true;rw [Nat.testBit_xor,O4];by_cases e:i=j
   ·subst e;rw [zy rfl,h1];simp
   ·rw [zz e,Bool.xor_false,show Nat.beq j i=false from Bool.eq_false_iff.2 fun h=>e (z8 h).symm];simp
noncomputable def A5m (ops:List Oper) (nq:List Bool) (s:Sched):Bool:=Region.noSelect ops.toArray&&not s.isStop&&okM (Y0 ops.toArray ops nq ops 0) (bit ops.length-1) s ops.length 0 (O5 (Y0 ops.toArray ops nq ops 0) 0 0)
theorem B1f {s:Sched} (h:A5m ops nq s=true):A1b ops.toArray s=true:=by
 unfold A5m at h;simp only [z7] at h;obtain⟨⟨h1,h2⟩,h3⟩:=h;have hL:LM ops.length (Array.replicate ops.toArray.size false) 0:=⟨by simp,fun i=>by
  rw [Nat.zero_testBit];simp only [Array.getD];split
  ·simp
  ·rfl⟩
 unfold A1b;simp only [z7];refine⟨⟨h1,h2⟩,?_⟩;have hf:∀ j,j<ops.length->(bit ops.length-1).testBit j=true:=fun j hj=>by show (2 ^ ops.length-1).testBit j=true;rw [Nat.testBit_two_pow_sub_one,zy hj]
 have:=B7P hf s ops.length 0 _ _ (Region.ready .any ops.toArray (Array.replicate ops.toArray.size false)) h3 hL (A5l hL) (fun j hj=>by obtain⟨_,o,h2,_⟩:=mem_ready.1 hj;simpa using (Array.getElem?_eq_some_iff.1 h2).1);simpa using this
end
noncomputable def B7Q (l:List RI) (m:Nat):Nat->Option Nat:=List.rec (motive:=fun _=>Nat->Option Nat) (fun _=>none) (fun r _ ih i=>cond (r.q&&not (A4C m i)&&A83 r.D m&&A83 r.B m) (some i) (ih (Nat.succ i))) l
noncomputable def readyL (l:List RI) (m:Nat):Nat->List Nat:=List.rec (motive:=fun _=>Nat->List Nat) (fun _=>[]) (fun r _ ih i=>cond (not (A4C m i)&&A83 r.D m) (i::ih (Nat.succ i)) (ih (Nat.succ i))) l
noncomputable def mkM (l:List RI) (full fuel:Nat):Nat->Sched:=Nat.rec (motive:=fun _=>Nat->Sched) (fun _=>.fin) (fun _ ih m=>match B7Q l m 0 with
 | some i=>.q i (ih (Nat.lor m (bit i)))
 | none=>match readyL l m 0 with
  | []=>.fin
  | [i]=>match l[i]? with
   | some x=>cond (Nat.beq (Nat.lor x.D (bit i)) full&&Nat.beq (Nat.lor m (bit i)) full) (.z i) (.n i (ih (Nat.lor m (bit i))) .stop)
   | none=>.fin
  | is=>List.rec (motive:=fun _=>Sched) .stop (fun i _ s=>.n i (ih (Nat.lor m (bit i))) s) is) fuel
end Go.Vx
end
namespace Go.Vx
open Go Go.Vc Go.RowKit
noncomputable def fE (x:EB) (K:EB->Bool):Bool:=match x with
 | .l (.int k n)=>fI n fun n=>K (.l (.int k n))
 | .l (.string s)=>fL s.data.toList fun l=>K (.l (.string (bytes l)))
 | .l (.bool b)=>Bool.rec (K (.l (.bool false))) (K (.l (.bool true))) b
 | .rg k lo hi=>fI lo fun lo=>fI hi fun hi=>K (.rg k lo hi)
 | .p N o=>fN o fun o=>K (.p N o)
 | .s N o n (.k c)=>fN o fun o=>fN n fun n=>fN c fun c=>K (.s N o n (.k c))
 | .s N o n (.j c b)=>fN o fun o=>fN n fun n=>fN c fun c=>fN b fun b=>K (.s N o n (.j c b))
 | .s N o n (.z c)=>fN o fun o=>fN c fun c=>K (.s N o n (.z c))
 | x=>K x
noncomputable def fV (v:EV) (K:EV->Bool):Bool:=match v with
 | .o x=>fE x fun x=>K (.o x)
 | .a xs=>fL xs fun xs=>K (.a xs)
 | .t ys=>fL ys fun ys=>K (.t ys)
theorem B8Q (x:EB) (K:EB->Bool):fE x K=K x:=by
 unfold fE;split
 ·rw [B5r]
 ·rw [X9];rfl
 ·rename_i b;cases b<;>rfl
 ·rw [B5r,B5r]
 ·rw [V8]
 ·rw [V8,V8,V8]
 ·rw [V8,V8,V8,V8]
 ·rw [V8,V8]
 ·rfl
theorem A1J (v:EV) (K:EV->Bool):fV v K=K v:=by
 unfold fV;split
 ·rw [B8Q]
 ·rw [X9]
 ·rw [X9]
structure Mach where
 P:Program
 L:Lay
 Q:Eqs P
 late:Nat->Nat->Nat->Bool
 prim:Nat->List EV->Hp->Option EV
abbrev Kt:=EV->Hp->Bool
noncomputable def xLd (d:TD) (xs:List EB) (o:Nat):Option EV:=match d with
 | .none=>none
 | d=>cond d.isAgg (cond (Nat.ble (Nat.add o d.size) xs.length) (some (.a ((xs.drop o).take d.size))) none) (match xs[o]? with
  | some x=>some (.o x)
  | none=>none)
noncomputable def rowOf (H:Hp) (N:Nat):Option (Nat × Nat × List EB):=match H.t.get N with
 | some (.c T sz xs)=>some (T,sz,xs)
 | _=>none
noncomputable def rowR (H:Hp) (N:Nat):Option (List EB):=match H.t.get N with
 | some (.c _ _ xs)=>some xs
 | some (.r xs)=>some xs
 | _=>none
noncomputable def A6f (M:Mach) (t:Nat) (v:EV) (H:Hp):Option EV:=match v with
 | .o (.p N o)=>match rowR H N with
  | some xs=>xLd (M.L.ty t) xs o
  | none=>none
 | _=>none
noncomputable def A7q (M:Mach) (t:Nat) (v u:EV) (H:Hp) (K:Kt):Bool:=match v with
 | .o (.p N o)=>match rowOf H N,A3I u,M.L.ty t with
  | some (T,sz,xs),some ys,d=>cond (B4c ys&&Nat.beq ys.length d.size&&Nat.ble (Nat.add o ys.length) xs.length&&not (Nat.beq d.size 0)) (fL (A7l xs o ys) fun xs=>H.t.setK N (.c T sz xs) fun t=>K (lit undef) ⟨t,H.n⟩) false
  | _,_,_=>false
 | _=>false
noncomputable def B7x (N n:Nat) (E:Ent) (H:Hp) (K:Nat->Hp->Bool):Bool:=match H.t.get N with
 | none=>H.t.setK N E fun t=>K N ⟨t,n⟩
 | some _=>false
noncomputable def B4d (nm:Option Nat) (E:Ent) (H:Hp) (K:Nat->Hp->Bool):Bool:=match nm with
 | some N=>B7x N H.n E H K
 | none=>fN (Nat.succ H.n) fun n=>B7x H.n n E H K
noncomputable def A4E (nm:Option Nat) (T sz:Nat) (xs:List EB) (H:Hp) (K:Nat->Hp->Bool):Bool:=fL xs fun xs=>B4d nm (.c T sz xs) H K
def A85 (P:Program) (T:Nat):Bool:=match P.underlying T with
 | some .string=>true
 | _=>false
def B8R (P:Program) (t e esz:Nat):Bool:=(match P.underlying t with
  | some (.slice e')=>Nat.beq e e'
  | _=>false)&&(match P.info? e with
  | some i=>Nat.beq i.size esz&&Nat.ble i.bytes 4096&&(match i.zero with
   | some z=>Nat.beq z.cells.size esz
   | none=>false)
  | none=>false)
noncomputable def B1g (P:Program) (tx:Nat) (x:EV) (esz:Nat) (H:Hp):Option (Nat × List EB):=match x with
 | .o (.l (.slice none n _))=>cond (Nat.beq n 0&&B4a P tx) (some (0,[])) none
 | .o (.l (.string s))=>cond (Nat.beq esz 1&&A85 P tx) (some (s.data.toList.length,s.data.toList.map fun c=>.l (.int .u8 (Int.ofNat c.toNat)))) none
 | .o (.s N o m c)=>cond (B4a P tx) (cond (Nat.beq m 0) (some (0,[])) (match c,rowR H N with
  | .z _,_=>none
  | _,some xs=>cond (Nat.ble (Nat.add o (Nat.mul m esz)) xs.length) (some (m,(xs.drop o).take (Nat.mul m esz))) none
  | _,none=>none)) none
 | _=>none
noncomputable def B56 (T sz e esz N o n m:Nat) (c:EC) (xs news:List EB) (H:Hp) (K:Kt):Bool:=match c with
 | .k c=>cond (Nat.ble (Nat.add n m) c)
   (cond (Nat.ble (Nat.add o (Nat.mul (Nat.add n m) esz)) xs.length) (fL (A7l xs (Nat.add o (Nat.mul n esz)) news) fun xs=>H.t.setK N (.c T sz xs) fun t=>K (.o (.s N o (Nat.add n m) (.k c))) ⟨t,H.n⟩) false)
   (cond (Nat.ble (Nat.add o (Nat.mul n esz)) xs.length) (A4E none e esz (((xs.drop o).take (Nat.mul n esz))++news) H fun N H=>K (.o (.s N 0 (Nat.add n m) (.j 0 (Nat.add n m)))) H) false)
 | .j d b=>cond (Nat.beq o (Nat.mul d esz)&&Nat.beq sz esz&&Nat.beq T e)
   (cond (Nat.ble (Nat.add o (Nat.mul (Nat.add n m) esz)) xs.length) (fL (A7l xs (Nat.add o (Nat.mul n esz)) news) fun xs=>H.t.setK N (.c T sz xs) fun t=>K (.o (.s N o (Nat.add n m) (.j d (cond (Nat.ble (Nat.add n m) b) b (Nat.add n m))))) ⟨t,H.n⟩)
    (cond (Nat.beq (Nat.add o (Nat.mul n esz)) xs.length) (H.t.setK N .d fun t=>A4E none e esz (xs.drop o++news) ⟨t,H.n⟩ fun N H=>K (.o (.s N 0 (Nat.add n m) (.j 0 (Nat.add n m)))) H) false)) false
 | .z d=>cond (Nat.beq o (Nat.mul d esz)&&Nat.beq sz esz&&Nat.beq T e&&Nat.beq o xs.length&&Nat.beq n 0) (H.t.setK N .d fun t=>A4E none e esz news ⟨t,H.n⟩ fun N H=>K (.o (.s N 0 m (.j 0 m))) H) false
noncomputable def A2b (e esz:Nat) (s:EV) (m:Nat) (news:List EB) (H:Hp) (K:Kt):Bool:=match s with
 | .o (.l (.slice none n c))=>cond (Nat.beq n 0&&Nat.beq c 0) (cond (Nat.beq m 0) (K s H) (cond (B4c news&&Nat.ble m 10000&&not (Nat.beq esz 0)) (A4E none e esz news H fun N H=>K (.o (.s N 0 m (.j 0 m))) H) false)) false
 | .o (.s N o n c)=>cond (Nat.beq m 0) (K s H) (cond (B4c news&&Nat.ble m 10000&&not (Nat.beq esz 0)&&Nat.ble n 10000) (match rowOf H N with
  | some (T,sz,xs)=>B56 T sz e esz N o n m c xs news H K
  | none=>false) false)
 | _=>false
def elemOf (d:TD):Option (Nat × Nat):=match d with
 | .slice e esz=>some (e,esz)
 | _=>none
noncomputable def B6X {α:Type} (R:α->Bool) (l:List α):Bool:=List.rec (motive:=fun _=>Bool) true (fun x _ ih=>and (R x) ih) l
def B7y (P:Program) (t:Nat):Option (Nat × TypeDesc × Nat):=match P.underlying t with
 | some (.map k e)=>match P.underlying k with
  | some d=>some (k,d,e)
  | none=>none
 | _=>none
def B57 (d:TypeDesc) (k:Value):Bool:=match d,k with
 | .string,.string _=>true
 | .int q,.int q' _=>G7 q' q
 | _,_=>false
noncomputable def B7z (d:TypeDesc) (a b:Value):Option Bool:=match d,a,b with
 | .string,.string a,.string b=>some (eqL a.data.toList b.data.toList)
 | .int _,.int q a,.int q' b=>cond (G7 q q') (some (eqI a b)) none
 | _,_,_=>none
noncomputable def posK (d:TypeDesc) (k:Value) (es:List (Value × EV × Nat)):Nat->Option (Option Nat):=
 List.rec (motive:=fun _=>Nat->Option (Option Nat)) (fun _=>some none) (fun x _ ih i=>match B7z d k x.1 with
  | some true=>some (some i)
  | some false=>ih (Nat.succ i)
  | none=>none) es
noncomputable def mapOf (M:Mach) (t:Nat) (m k:EV) (H:Hp):Option (Nat × Nat × Value × List (Value × EV × Nat) × Nat × Option Nat):=match B7y M.P t,m,k with
 | some (_,d,e),.o (.m N),.o (.l k)=>cond (B57 d k) (match H.t.get N with
  | some (.m es clock)=>match posK d k es 0 with
   | some j=>some (N,e,k,es,clock,j)
   | none=>none
  | _=>none) none
 | _,_,_=>none
def B7R (d:TD):Option EV:=match d with
 | .none=>none
 | .array _ _ _ z=>some (.a (z.map .l))
 | .struct _ z=>some (.a (z.map .l))
 | d=>match d.zero with
  | [z]=>some (lit z)
  | _=>none
def B3c (v:EV):Option (Bool × List EB):=match v with
 | .o x=>some (false,[x])
 | .a xs=>some (true,xs)
 | .t _=>none
noncomputable def A4F (M:Mach) (t:Nat) (m k:EV) (ok:Bool) (H:Hp) (K:Kt):Bool:=match mapOf M t m k H with
 | some (N,e,k,es,clock,j)=>match (match j with
   | some i=>match es[i]? with
    | some x=>some x.2.1
    | none=>none
   | none=>B7R (M.L.ty e)) with
  | some v=>cond ok (match B3c v with
   | some p=>fV (.t [p,(false,[.l (.bool j.isSome)])]) fun v=>K v H
   | none=>false) (fV v fun v=>K v H)
  | none=>false
 | none=>false
noncomputable def A0r (N:Nat) (es:List (Value × EV × Nat)) (clock:Nat) (H:Hp) (K:Kt):Bool:=fL es fun es=>fN clock fun clock=>H.t.setK N (.m es clock) fun t=>K (lit undef) ⟨t,H.n⟩
noncomputable def A4G (M:Mach) (t:Nat) (m k v:EV) (H:Hp) (K:Kt):Bool:=match mapOf M t m k H with
 | some (N,e,k,es,clock,j)=>match j with
  | some i=>match es[i]? with
   | some x=>A0r N (es.set i (k,v,x.2.2)) clock H K
   | none=>false
  | none=>A0r N (es++[(k,v,clock)]) (Nat.succ clock) H K
 | none=>false
noncomputable def A6g (M:Mach) (t:Nat) (m k:EV) (H:Hp) (K:Kt):Bool:=match mapOf M t m k H with
 | some (N,e,k,es,clock,j)=>match j with
  | some i=>A0r N (es.eraseIdx i) clock H K
  | none=>A0r N es clock H K
 | none=>false
noncomputable def A7r (M:Mach) (nm:Option Nat) (t:Nat) (m:EV) (H:Hp) (K:Kt):Bool:=match B7y M.P t,m with
 | some _,.o (.m N)=>match H.t.get N with
  | some (.m es clock)=>B4d nm (.i N clock [] clock) H fun N H=>K (.o (.p N 0)) H
  | _=>false
 | _,_=>false
noncomputable def B7S (n:Nat) (l:List Nat):Bool:=List.rec (motive:=fun _=>Bool) false (fun x _ ih=>or (Nat.beq n x) ih) l
noncomputable def B3d (it:EV) (s:Bool) (H:Hp) (K:Kt):Bool:=match it,s with
 | .o (.p N 0),false=>match H.t.get N with
  | some (.i M since seen c0)=>match H.t.get M with
   | some (.m es clock)=>cond (B6X (fun x=>Nat.blt x.2.2 since) es&&Nat.ble since c0) (match es.filter fun x=>not (B7S x.2.2 seen) with
    | []=>K (.t [(false,[.l (.bool false)])]) H
    | [x]=>match B3c x.2.1 with
     | some p=>fL (seen++[x.2.2]) fun seen=>H.t.setK N (.i M since seen clock) fun t=>K (.t [(false,[.l (.bool true)]),(false,[.l x.1]),p]) ⟨t,H.n⟩
     | none=>false
    | _=>false) false
   | _=>false
  | _=>false
 | _,_=>false
noncomputable def A7s (it:EV) (H:Hp) (K:Kt):Bool:=match it with
 | .o (.p N 0)=>match H.t.get N with
  | some (.i M since seen c0)=>match H.t.get M,seen.getLast? with
   | some (.m es clock),some b=>cond (Nat.beq clock c0) (match es.filter fun x=>Nat.beq x.2.2 b with
    | [x]=>match B3c x.2.1 with
     | some p=>fV (.t [(false,[.l x.1]),p]) fun v=>K v H
     | none=>false
    | _=>false) false
   | _,_=>false
  | _=>false
 | _=>false
def A4H (P:Program) (t:Nat):Option Nat:=match P.underlying t with
 | some (.slice e)=>match P.underlying e with
  | some (.int .u8)=>some e
  | _=>none
 | _=>none
def B3e (x:EB):Option UInt8:=match x with
 | .l (.int .u8 (.ofNat n))=>cond (Nat.blt n 256) (some (UInt8.ofNat n)) none
 | _=>none
noncomputable def A5n (xs:List EB):Option (List UInt8):=List.rec (motive:=fun _=>Option (List UInt8)) (some []) (fun x _ ih=>match B3e x,ih with
 | some b,some r=>some (b::r)
 | _,_=>none) xs
noncomputable def sliceB (v:EV) (H:Hp):Option (List UInt8):=match v with
 | .o (.l (.slice none n _))=>cond (Nat.beq n 0) (some []) none
 | .o (.s N o n c)=>cond (Nat.beq n 0) (some []) (match c,rowR H N with
  | .z _,_=>none
  | _,some xs=>cond (Nat.ble (Nat.add o n) xs.length) (A5n ((xs.drop o).take n)) none
  | _,none=>none)
 | _=>none
def B1h (P:Program) (t:Nat):Option Nat:=match P.underlying t with
 | some (.pointer e)=>some e
 | _=>none
def B3f (P:Program) (t:Nat):Bool:=match P.underlying t with
 | some .unsafePointer=>true
 | _=>false
def B4e (P:Program) (t:Nat):Bool:=match P.info? t with
 | some j=>not (Nat.beq j.size 0)
 | none=>false
def B4f (c:EC):Bool:=match c with
 | .k c=>not (Nat.beq c 0)
 | .j _ b=>not (Nat.beq b 0)
 | .z _=>false
noncomputable def B3g (M:Mach) (nm:Option Nat) (s d:Nat) (v:EV) (H:Hp) (K:Kt):Bool:=match v with
 | .o (.l (.string b))=>match A4H M.P d with
  | some e=>cond (A85 M.P s&&Nat.ble b.data.toList.length 1000000) (fL (b.data.toList.map fun c=>.l (.int .u8 (.ofNat c.toNat))) fun xs=>B4d nm (.r xs) H fun N H=>fN xs.length fun n=>K (.o (.s N 0 n (.j 0 n))) H) false
  | none=>false
 | .o (.p N o)=>match H.t.get N with
  | some (.c T 0 xs)=>cond (Nat.blt o xs.length) (match B1h M.P s,B1h M.P d with
   | some t,none=>cond (B3f M.P d&&B4e M.P t) (K v H) false
   | none,some u=>cond (B3f M.P s&&(M.P.info? u).isSome&&liesAt M.P M.P.depth T (xs.length / M.P.cellsOf T) o u 1) (K v H) false
   | _,_=>false) false
  | _=>false
 | v=>cond (A85 M.P d) (match A4H M.P s,sliceB v H with
  | some _,some l=>fL l fun l=>K (.o (.l (.string (bytes l)))) H
  | _,_=>false) false
def B1i (L:Lay) (s d:Nat):Bool:=match L.ty s,L.ty d with
 | .int _,.int _=>true
 | .str,.str=>true
 | _,_=>false
noncomputable def B58 (v:EV) (H:Hp) (K:Kt):Bool:=match v with
 | .o (.l (.slice none _ _))=>K (lit (.pointer none)) H
 | .o (.s N o n c)=>cond (B4f c) (K (.o (.p N o)) H) false
 | _=>false
noncomputable def B59 (M:Mach) (pt:Nat) (p:EV) (n:Int) (H:Hp) (K:Kt):Bool:=match n with
 | .ofNat n=>cond (Nat.beq n 0) (match p with
   | .o (.l (.pointer none))=>K (lit (.string (bytes []))) H
   | .o (.p _ _)=>K (lit (.string (bytes []))) H
   | _=>false) (match p with
  | .o (.p N o)=>match rowOf H N,B1h M.P pt with
   | some (T,sz,xs),some e=>cond (Nat.beq T e&&Nat.beq (M.P.cellsOf e) 1&&not (Nat.beq sz 0)&&Nat.ble (Nat.add o n) xs.length&&Nat.ble n 1000000) (match A5n ((xs.drop o).take n) with
    | some l=>fL l fun l=>H.t.setK N (.r xs) fun t=>K (lit (.string (bytes l))) ⟨t,H.n⟩
    | none=>false) false
   | _,_=>false
  | _=>false)
 | _=>false
noncomputable def B3h (M:Mach) (nm:Option Nat) (t:Nat) (l c:EV) (H:Hp) (K:Kt):Bool:=match l,c,M.L.ty t with
 | .o (.l (.int _ (.ofNat n))),.o (.l (.int _ (.ofNat c))),.slice e esz=>match M.P.info? e,(M.L.ty e).isAgg,(M.L.ty e).zero with
  | some i,false,[z]=>cond (Nat.ble n c&&Nat.ble c 10000&&Nat.beq esz 1&&Nat.ble i.bytes 4096) (A4E nm e 0 (List.replicate c (.l z)) H fun N H=>K (.o (.s N 0 n (.k c))) H) false
  | _,_,_=>false
 | _,_,_=>false
noncomputable def xBu (M:Mach) (b:Builtin) (ats:List Nat) (xs:List EV) (H:Hp) (K:Kt):Bool:=match b,ats,xs with
 | .append,[t,tx],[s,x]=>match elemOf (M.L.ty t) with
  | some (e,esz)=>cond (B8R M.P t e esz) (match B1g M.P tx x esz H with
   | some (m,news)=>fN m fun m=>fL news fun news=>A2b e esz s m news H fun v H=>fV v fun v=>K v H
   | none=>false) false
  | none=>false
 | .delete,[t,_],[m,k]=>A6g M t m k H K
 | .unsafeSliceData,[_],[v]=>B58 v H K
 | .unsafeString,[pt,_],[p,.o (.l (.int .i64 n))]=>B59 M pt p n H K
 | .clear,[t],[.o (.s N o n c)]=>match elemOf (M.L.ty t),rowOf H N with
  | some (e,esz),some (T,sz,xs)=>match (M.L.ty e).zero with
   | [z]=>cond (Nat.beq esz 1&&not (M.L.ty e).isAgg&&not (Nat.beq n 0)&&z.oneCell'&&Nat.ble (Nat.add o n) xs.length&&(match c with | .z _=>false | _=>true)) (fL (A7l xs o (List.replicate n (.l z))) fun xs=>H.t.setK N (.c T sz xs) fun t=>K (lit undef) ⟨t,H.n⟩) false
   | _=>false
  | _,_=>false
 | _,_,_=>false
noncomputable def B6A (M:Mach) (call:Nat->List EV->Hp->Kt->Bool) (nm:Option Nat) (T:Nat) (F:Tr EV) (H:Hp) (K:Kt) (t:Nat) (x:Operand):Bool:=match xEv F x with
  | some v=>match A6f M t v H with
   | some u=>fV u fun u=>K u H
   | none=>false
  | none=>false
noncomputable def B3i (M:Mach) (call:Nat->List EV->Hp->Kt->Bool) (nm:Option Nat) (T:Nat) (F:Tr EV) (H:Hp) (K:Kt) (t:Nat) (x:Operand) (y:Operand):Bool:=match xEv F x,xEv F y with
  | some v,some u=>A7q M t v u H K
  | _,_=>false
noncomputable def B3j (M:Mach) (call:Nat->List EV->Hp->Kt->Bool) (nm:Option Nat) (T:Nat) (F:Tr EV) (H:Hp) (K:Kt) (t:Nat):Bool:=match M.L.ty t with
  | .none=>false
  | d=>A4E nm t 0 (d.zero.map .l) H fun N H=>K (.o (.p N 0)) H
noncomputable def B7T (M:Mach) (call:Nat->List EV->Hp->Kt->Bool) (nm:Option Nat) (T:Nat) (F:Tr EV) (H:Hp) (K:Kt) (t:Nat) (x:Operand):Bool:=match xEv F x with
  | some v=>match A3I v with
   | some ys=>A4E nm t 0 ys H fun N H=>K (.o (.p N 0)) H
   | none=>false
  | none=>false
noncomputable def A4I (M:Mach) (call:Nat->List EV->Hp->Kt->Bool) (nm:Option Nat) (T:Nat) (F:Tr EV) (H:Hp) (K:Kt) (t:Nat) (n:Nat) (ps:Array (Nat × Operand)):Bool:=match elemOf (M.L.ty t) with
  | some (e,esz)=>cond (Nat.beq n 0&&A1X ps.toList) (A4E nm e 0 [] H fun N H=>K (.o (.s N 0 0 (.k 0))) H)
   (cond (Nat.ble (Nat.mul n esz) 16777216&&!Nat.beq esz 0&&!Nat.beq n 0&&Nat.beq (M.L.ty e).size esz) (match xPs F ps.toList,M.L.ty e with
    | some l,.none=>false
    | some l,d=>match A3J esz l (P2 d.zero n |>.map .l) with
     | some cs=>A4E nm e 0 cs H fun N H=>K (.o (.s N 0 n (.k n))) H
     | none=>false
    | none,_=>false) false)
  | none=>false
noncomputable def B6B (M:Mach) (call:Nat->List EV->Hp->Kt->Bool) (nm:Option Nat) (T:Nat) (F:Tr EV) (H:Hp) (K:Kt) (c:Go.Call):Bool:=match B6V F c.args.toList with
  | some xs=>match c.callee with
   | .builtin b=>cond (L6 b) (match A2Y M.L b c.argTypes.toList xs with
    | some v=>fV v fun v=>K v H
    | none=>false) (xBu M b c.argTypes.toList xs H K)
   | .value fo=>match xEv F fo with
    | some (.o (.f g cs))=>call g (xs++cs.map fun c=>.o (.p c.1 c.2)) H fun v H=>K v H
    | _=>false
   | .invoke ..=>false
  | none=>false
noncomputable def A86 (M:Mach) (call:Nat->List EV->Hp->Kt->Bool) (nm:Option Nat) (T:Nat) (F:Tr EV) (H:Hp) (K:Kt) (s:Nat) (d:Nat) (x:Operand):Bool:=cond (B1i M.L s d) (match xP M.P M.L M.Q T (.convert s d x) F with
  | some v=>fV v fun v=>K v H
  | none=>false) (match xEv F x with
  | some v=>B3g M nm s d v H K
  | none=>false)
noncomputable def A5o (M:Mach) (call:Nat->List EV->Hp->Kt->Bool) (nm:Option Nat) (T:Nat) (F:Tr EV) (H:Hp) (K:Kt) (t:Nat) (l:Operand) (c:Operand):Bool:=match xEv F l,xEv F c with
  | some l,some c=>B3h M nm t l c H K
  | _,_=>false
noncomputable def B1j (M:Mach) (call:Nat->List EV->Hp->Kt->Bool) (nm:Option Nat) (T:Nat) (F:Tr EV) (H:Hp) (K:Kt) (t:Nat) (x:Operand) (y:Operand) (ok:Bool):Bool:=match xEv F x,xEv F y with
  | some m,some k=>A4F M t m k ok H K
  | _,_=>false
noncomputable def A5p (M:Mach) (call:Nat->List EV->Hp->Kt->Bool) (nm:Option Nat) (T:Nat) (F:Tr EV) (H:Hp) (K:Kt) (t:Nat) (x:Operand) (y:Operand) (z:Operand):Bool:=match xEv F x,xEv F y,xEv F z with
  | some m,some k,some v=>A4G M t m k v H K
  | _,_,_=>false
noncomputable def B3k (M:Mach) (call:Nat->List EV->Hp->Kt->Bool) (nm:Option Nat) (T:Nat) (F:Tr EV) (H:Hp) (K:Kt) (t:Nat) (x:Operand):Bool:=match xEv F x with
  | some m=>A7r M nm t m H K
  | none=>false
noncomputable def B6C (M:Mach) (call:Nat->List EV->Hp->Kt->Bool) (nm:Option Nat) (T:Nat) (F:Tr EV) (H:Hp) (K:Kt) (x:Operand) (s:Bool):Bool:=match xEv F x with
  | some it=>B3d it s H K
  | none=>false
noncomputable def B3l (M:Mach) (call:Nat->List EV->Hp->Kt->Bool) (nm:Option Nat) (T:Nat) (F:Tr EV) (H:Hp) (K:Kt) (x:Operand):Bool:=match xEv F x with
  | some it=>A7s it H K
  | none=>false
noncomputable def xO (M:Mach) (call:Nat->List EV->Hp->Kt->Bool) (nm:Option Nat) (T:Nat) (op:Op) (F:Tr EV) (H:Hp) (K:Kt):Bool:=match op with
 | .load t x=>B6A M call nm T F H K t x
 | .store t x y=>B3i M call nm T F H K t x y
 | .alloc t=>B3j M call nm T F H K t
 | .box t x=>B7T M call nm T F H K t x
 | .buildSlice t n ps=>A4I M call nm T F H K t n ps
 | .call c=>B6B M call nm T F H K c
 | .convert s d x=>A86 M call nm T F H K s d x
 | .makeSlice t l c=>A5o M call nm T F H K t l c
 | .makeMap t none=>B4d nm (.m [] 0) H fun N H=>K (.o (.m N)) H
 | .lookup t x y ok=>B1j M call nm T F H K t x y ok
 | .mapUpdate t x y z=>A5p M call nm T F H K t x y z
 | .range t x=>B3k M call nm T F H K t x
 | .next x s=>B6C M call nm T F H K x s
 | .entry x=>B3l M call nm T F H K x
 | op=>match xP M.P M.L M.Q T op F with
  | some v=>fV v fun v=>K v H
  | none=>false
noncomputable def B6D (F:Tr EV) (d:Option Nat) (v:EV) (K:Tr EV->Bool):Bool:=match d with
 | some t=>F.setK t v K
 | none=>K F
noncomputable def A3K (ops:List Oper) (F:Tr EV) (g:Option (Nat × Bool)):Option Bool:=match g with
 | none=>some true
 | some (j,want)=>match ops[j]? with
  | some o=>match o.dst with
   | some t=>match F.get t with
    | some (.o (.l (.bool b)))=>some (b==want)
    | some (.o (.l (.tuple _)))=>some false
    | _=>none
   | none=>some false
  | none=>some false
noncomputable def A5q (M:Mach) (call:Nat->List EV->Hp->Kt->Bool) (nm:Option Nat) (ops:List Oper) (o:Oper) (F:Tr EV) (H:Hp) (K:Tr EV->Hp->Bool):Bool:=match A3K ops F o.guard with
 | some true=>xO M call nm o.type o.op F H fun v H=>B6D F o.dst v fun F=>K F H
 | some false=>B6D F o.dst (lit undef) fun F=>K F H
 | none=>false
noncomputable def B8S (M:Mach) (call:Nat->List EV->Hp->Kt->Bool) (ops:List Oper) (l:List Oper):Tr EV->Hp->(Tr EV->Hp->Bool)->Bool:=
 List.rec (motive:=fun _=>Tr EV->Hp->(Tr EV->Hp->Bool)->Bool) (fun F H K=>K F H) (fun o _ ih F H K=>A5q M call none ops o F H fun F H=>ih F H K) l
def B1k (L:Lay) (op:Op):Bool:=match op with
 | .move _ | .assign _ | .pick .. | .binOp .. | .unOp .. | .fieldAddr .. | .field .. | .build .. | .index .. | .indexAddr .. | .slice .. | .extract .. | .makeFunc .. | .nilCheck _=>true
 | .call c=>match c.callee with
  | .builtin b=>L6 b
  | _=>false
 | .convert s d _=>B1i L s d
 | _=>false
def B7U (op:Op):Bool:=match op with
 | .load ..=>true
 | _=>false
noncomputable def B8T (L:Lay) (late:Nat->Bool) (l:List Oper):Nat->Nat->List Bool:=List.rec (motive:=fun _=>Nat->Nat->List Bool) (fun _ _=>[]) (fun o _ ih i m=>
 Bool.rec (motive:=fun _=>List Bool)
  (cond (B1k L o.op||(B7U o.op&&not (late i))) (false::ih (Nat.succ i) m) (true::ih (Nat.succ i) (Nat.lor m (bit i))))
  (cond (B1k L o.op) false true::ih (Nat.succ i) (Nat.lor m (bit i)))
  (not (Nat.beq (Nat.land (A84 o.after.toList) m) 0))) l
noncomputable def B3m (L:Lay) (late:Nat->Bool) (ops:List Oper):Sched:=mkM (Y0 ops.toArray ops (B8T L late ops 0 0) ops 0) (bit ops.length-1) (Nat.succ ops.length) 0
noncomputable def B70 (a b:Value):Bool:=match a,b with
 | .int k x,.int k' y=>G7 k k'&&eqI x y
 | .string s,.string t=>eqL s.data.toList t.data.toList
 | .bool x,.bool y=>x==y
 | .pointer none,.pointer none=>true
 | .slice none n c,.slice none n' c'=>Nat.beq n n'&&Nat.beq c c'
 | .nilIface,.nilIface=>true
 | .nilFunc,.nilFunc=>true
 | .map none,.map none=>true
 | .complex .f64 x y,.complex .f64 x' y'=>Nat.beq x x'&&Nat.beq y y'
 | .float .f64 x,.float .f64 x'=>Nat.beq x x'
 | .tuple a,.tuple b=>A1X a.toList&&A1X b.toList
 | _,_=>false
noncomputable def eqC (a b:EC):Bool:=match a,b with
 | .k c,.k d=>Nat.beq c d
 | .j c b,.j d b'=>Nat.beq c d&&Nat.beq b b'
 | .z c,.z d=>Nat.beq c d
 | _,_=>false
noncomputable def B1l {α:Type} (R:α->α->Bool) (a:List α):List α->Bool:=List.rec (motive:=fun _=>List α->Bool) (fun b=>A1X b) (fun x _ ih b=>match b with
 | []=>false
 | y::r=>and (R x y) (ih r)) a
noncomputable def eqE (a b:EB):Bool:=match a,b with
 | .l x,.l y=>B70 x y
 | .p N o,.p M o'=>Nat.beq N M&&Nat.beq o o'
 | .s N o n c,.s M o' n' c'=>Nat.beq N M&&Nat.beq o o'&&Nat.beq n n'&&eqC c c'
 | .m N,.m M=>Nat.beq N M
 | .f g cs,.f h ds=>Nat.beq g h&&B1l (fun c d=>Nat.beq c.1 d.1&&Nat.beq c.2 d.2) cs ds
 | .rg k lo hi,.rg k' lo' hi'=>G7 k k'&&eqI lo lo'&&eqI hi hi'
 | .bo,.bo=>true
 | _,_=>false
noncomputable def eqX (a b:EV):Bool:=match a,b with
 | .o x,.o y=>eqE x y
 | .a x,.a y=>B1l eqE x y
 | .t x,.t y=>B1l (fun c d=>(c.1==d.1)&&B1l eqE c.2 d.2) x y
 | _,_=>false
noncomputable def eqO {α:Type} (R:α->α->Bool) (a b:Option α):Bool:=match a,b with
 | none,none=>true
 | some x,some y=>R x y
 | _,_=>false
noncomputable def eqT {α:Type} (R:α->α->Bool) (a:Tr α):Tr α->Bool:=Tr.rec (motive:=fun _=>Tr α->Bool) (fun b=>match b with
  | .e=>true
  | _=>false)
 (fun v _ _ il ir b=>match b with
  | .e=>false
  | .n v' l' r'=>eqO R v v'&&il l'&&ir r') a
noncomputable def B1m (a b:Ent):Bool:=match a,b with
 | .d,.d=>true
 | .c T sz xs,.c T' sz' xs'=>Nat.beq T T'&&Nat.beq sz sz'&&B1l eqE xs xs'
 | .m es c,.m es' c'=>B1l (fun c d=>B70 c.1 d.1&&eqX c.2.1 d.2.1&&Nat.beq c.2.2 d.2.2) es es'&&Nat.beq c c'
 | .i M s l c,.i M' s' l' c'=>Nat.beq M M'&&Nat.beq s s'&&B1l Nat.beq l l'&&Nat.beq c c'
 | .r xs,.r xs'=>B1l eqE xs xs'
 | _,_=>false
noncomputable def B6E (a:EB):Bool:=match a with
 | .s _ _ _ (.z _)=>false
 | .rg _ _ _=>false
 | .bo=>false
 | _=>true
noncomputable def A87 (xs:List EB):Bool:=List.rec (motive:=fun _=>Bool) true (fun x _ ih=>and (B6E x) ih) xs
structure Acc where
 lks:List (Nat × Nat × List EB)
 hs:List Hp
noncomputable def A5r (H:Hp) (lk:Nat × Nat × List EB):Bool:=match rowR H lk.1 with
 | some xs=>B1l eqE ((xs.drop lk.2.1).take lk.2.2.length) lk.2.2&&A87 lk.2.2
 | none=>false
noncomputable def B3n (M:Mach) (t:Nat) (v:EV) (H0:Hp) (A:Acc) (K:EV->Acc->Bool):Bool:=match v with
 | .o (.p N o)=>match rowR H0 N,M.L.ty t with
  | some xs,d=>match xLd d xs o with
   | some u=>fL ((xs.drop o).take d.size) fun ys=>cond (A87 ys&&B6X (fun H=>A5r H (N,o,ys)) A.hs) (fV u fun u=>K u ⟨(N,o,ys)::A.lks,A.hs⟩) false
   | none=>false
  | none,_=>false
 | _=>false
noncomputable def xQ (M:Mach) (H0:Hp) (T:Nat) (op:Op) (F:Tr EV) (A:Acc) (K:EV->Acc->Bool):Bool:=match op with
 | .load t x=>match xEv F x with
  | some v=>B3n M t v H0 A K
  | none=>false
 | op=>match xP M.P M.L M.Q T op F with
  | some v=>fV v fun v=>K v A
  | none=>false
abbrev Kd:=Tr EV->Hp->Acc->Bool
noncomputable def xD (M:Mach) (call:Nat->List EV->Hp->Kt->Bool) (ops:List Oper) (H0:Hp) (nb:Nat) (s:Sched):Tr EV->Hp->Acc->Kd->Bool:=
 Sched.rec (motive:=fun _=>Tr EV->Hp->Acc->Kd->Bool)
  (fun F H A K=>K F H A)
  (fun i F H A K=>match ops[i]? with
   | some o=>A5q M call (some (Nat.add nb i)) ops o F H fun F H=>K F H A
   | none=>false)
  (fun i _ ih F H A K=>match ops[i]? with
   | some o=>match A3K ops F o.guard with
    | some true=>xQ M H0 o.type o.op F A fun v A=>B6D F o.dst v fun F=>ih F H A K
    | some false=>B6D F o.dst (lit undef) fun F=>ih F H A K
    | none=>false
   | none=>false)
  (fun i _ t ihs iht F H A K=>match ops[i]? with
   | some o=>A5q M call (some (Nat.add nb i)) ops o F H fun F1 H1=>cond (B6X (A5r H1) A.lks) (ihs F1 H1 ⟨A.lks,H1::A.hs⟩ fun F2 H2 A2=>cond t.isStop (K F2 H2 A2) (iht F H A2 fun F3 H3 A3=>cond (eqT eqX F2 F3&&eqT B1m H2.t H3.t&&Nat.beq H2.n H3.n) (K F2 H2 A3) false)) false
   | none=>false)
  (fun F H A K=>K F H A) s
@[irreducible] def A7t:Nat:=100000
abbrev Kc:=Exit->Tr EV->Hp->Bool
noncomputable def A7u (X:Tr EV->Hp->Kc->Bool) (K:Kc) (n:Nat):Tr EV->Hp->Bool:=Nat.rec (motive:=fun _=>Tr EV->Hp->Bool) (fun _ _=>false) (fun _ go F H=>X F H fun e F H=>match e with
 | .normal=>go F H
 | e=>K e F H) n
noncomputable def A1K (M:Mach) (call:Nat->List EV->Hp->Kt->Bool) (g:Nat) (c:Code):Tr EV->Hp->Kc->Bool:=
 Code.rec (motive:=fun _=>Tr EV->Hp->Kc->Bool)
  (fun F H K=>K .normal F H)
  (fun id ops d F H K=>cond d
   (cond (A5m ops.toList (B8T M.L (M.late g id) ops.toList 0 0) (B3m M.L (M.late g id) ops.toList)) (fN (Nat.add H.n ops.toList.length) fun n=>xD M call ops.toList H H.n (B3m M.L (M.late g id) ops.toList) F ⟨H.t,n⟩ ⟨[],[]⟩ fun F H _=>K .normal F H) false)
   (B8S M call ops.toList ops.toList F H fun F H=>K .normal F H))
  (fun _ _ iha ihb F H K=>iha F H fun e F H=>match e with
   | .normal=>ihb F H K
   | e=>K e F H)
  (fun c _ _ iha ihb F H K=>match xEv F c with
   | some (.o (.l (.bool b)))=>Bool.rec (ihb F H K) (iha F H K) b
   | _=>false)
  (fun id _ ih F H K=>ih F H fun e F H=>match e with
   | .exit i=>cond (Nat.beq i id) (K .normal F H) (K (.exit i) F H)
   | e=>K e F H)
  (fun _ ih F H K=>A7u ih K A7t F H)
  (fun _ _ _ _ _ _ _ _ _=>false)
  (fun id F H K=>K (.exit id) F H)
  (fun _ _ _ _ _=>false)
  (fun _ F H K=>K .normal F H)
  (fun _ _ _ _=>false)
  (fun F H K=>K .ret F H)
  (fun _ _ _ _=>false) c
noncomputable def B4g (M:Mach) (F:Tr EV) (H:Hp) (rs:List ResultVar):List EV->(List EV->Bool)->Bool:=
 List.rec (motive:=fun _=>List EV->(List EV->Bool)->Bool) (fun vs K=>K vs.reverse) (fun r _ ih vs K=>match r with
  | .tmp t=>match F.get t with
   | some v=>ih (v::vs) K
   | none=>false
  | .cell a t=>match F.get a with
   | some p=>match A6f M t p H with
    | some v=>fV v fun v=>ih (v::vs) K
    | none=>false
   | none=>false) rs
noncomputable def B8U (vs:List EV):Option (List (Bool × List EB)):=List.rec (motive:=fun _=>Option (List (Bool × List EB))) (some []) (fun v _ ih=>match ih with
 | some r=>match v with
  | .o x=>some ((false,[x])::r)
  | .a xs=>some ((true,xs)::r)
  | .t _=>none
 | none=>none) vs
noncomputable def B6F (vs:List EV):Option EV:=match vs with
 | [v]=>some v
 | vs=>match B8U vs with
  | some ys=>some (.t ys)
  | none=>none
noncomputable def B3o (args:List EV):Nat->Tr EV->(Tr EV->Bool)->Bool:=
 List.rec (motive:=fun _=>Nat->Tr EV->(Tr EV->Bool)->Bool) (fun _ F K=>K F) (fun v _ ih i F K=>F.setK i v fun F=>ih (Nat.succ i) F K) args
noncomputable def A88 (M:Mach) (fuel:Nat):Nat->List EV->Hp->Kt->Bool:=
 Nat.rec (motive:=fun _=>Nat->List EV->Hp->Kt->Bool) (fun _ _ _ _=>false) (fun _ ih n args H K=>match M.prim n args H with
  | some v=>fV v fun v=>K v H
  | none=>cond (M.L.fns n) (match M.P.funcs[n]? with
   | some fn=>match fn.body with
    | some c=>cond (Nat.ble args.length fn.ntmps&&K7 fn.ntmps c) (B3o args 0 .e fun F=>A1K M ih n c F H fun e F H=>match e with
      | .normal=>B4g M F H fn.results.toList [] fun vs=>match B6F vs with
       | some v=>fV v fun v=>K v H
       | none=>false
      | .ret=>B4g M F H fn.results.toList [] fun vs=>match B6F vs with
       | some v=>fV v fun v=>K v H
       | none=>false
      | _=>false) false
    | none=>false
   | none=>false) false) fuel
end Go.Vx
section
namespace Go.Vx
open Go Go.Vc Go.RowKit
structure MachOk (M:Mach) (E:World->Prop):Prop where
 lay:M.L.Ok M.P
 mixed:M.P.follows .mixedOrders=true
 prim:∀ n args H v,M.prim n args H=some v->∀ w0 σ w us,E w0->Rep w0 σ H w->All2 (VR σ) args us->∀ R:Value->World->Prop,(∀ u w',VR σ v u->Below w.heap.size w w'->R u w')->X3 M.P M.L n us w R
def A89 (E:World->Prop) (F:Tr EV) (H:Hp) (v:EV) (H':Hp) (X:Fr->World->(Value->World->Prop)->Prop):Prop:=
 ∀ w0 σ f w,E w0->FR σ F f->Rep w0 σ H w->∀ R,(∀ τ u w',Ex σ τ->VR τ v u->Rep w0 τ H' w'->R u w')->X f w R
def A09 (M:Mach) (E:World->Prop) (call:Nat->List EV->Hp->Kt->Bool):Prop:=∀ n args H K,call n args H K=true->∃ v H',K v H'=true/\∀ w0 σ w us,E w0->Rep w0 σ H w->All2 (VR σ) args us->∀ R:Value->World->Prop,(∀ τ u w',Ex σ τ->VR τ v u->Rep w0 τ H' w'->R u w')->X3 M.P M.L n us w R
section
variable {M:Mach} {E:World->Prop} {F:Tr EV} {H:Hp} {K:Kt} {σ:Sg} {w0 w:World} {f:Fr}
theorem A1T {N T sz:Nat} {xs:List EB} (h:rowOf H N=some (T,sz,xs)):H.t.get N=some (.c T sz xs):=by
 unfold rowOf at h;split at h
 ·rename_i e;cases h;exact e
 ·cases h
theorem A6h {N:Nat} {xs:List EB} (h:rowR H N=some xs):(∃ T sz,H.t.get N=some (.c T sz xs))\/H.t.get N=some (.r xs):=by
 unfold rowR at h;split at h
 ·rename_i e;cases h;exact .inl ⟨_,_,e⟩
 ·rename_i e;cases h;exact .inr e
 ·cases h
theorem cells_of {a:Addr}:∀ (us:List Value) (k:Nat),(∀ j u,us[j]?=some u->w.cell? (a.add (k+j))=some u)->cellsAt w a us k
 | [],_,_=>trivial
 | u::us,k,h=>⟨h 0 u rfl,cells_of us (k+1) fun j v hj=>by rw [show k+1+j=k+(j+1) by omega];exact h (j+1) v (by simpa using hj)⟩
theorem _root_.Go.Vx.Rep.rowR (h:Rep w0 σ H w) {N:Nat} {xs:List EB} (e:Go.Vx.rowR H N=some xs) (i n:Nat) (hi:i+n<=xs.length):
  ∃ q cs,σ N=some q/\All2 (BR σ) ((xs.drop i).take n) cs/\cs.length=n/\cellsAt w ⟨q.b,q.o+i,none⟩ cs 0:=by
 rcases A6h e with ⟨T,sz,e⟩ | e
 ·exact h.row e i n hi
 ·obtain⟨q,cs,h1,h2,h3,h4,h5⟩:=h.ent N _ e;have hl:=h4.len;refine⟨q,_,h1,(h4.drop i).take n,by rw [zf,zg];omega,cells_of _ 0 fun j v hj=>?_⟩;rw [List.getElem?_take] at hj;split at hj
  ·rw [List.getElem?_drop] at hj;rw [Addr.add_lit,zm,Nat.add_assoc];exact h5 _ _ hj
  ·cases hj
theorem _root_.Go.Vx.Rep.cellR (h:Rep w0 σ H w) {N:Nat} {xs:List EB} (e:Go.Vx.rowR H N=some xs) {i:Nat} {x:EB} (hx:xs[i]?=some x):∃ q v,σ N=some q/\BR σ x v/\w.cell? ⟨q.b,q.o+i,none⟩=some v:=by
 rcases A6h e with ⟨T,sz,e⟩ | e
 ·exact h.cell e hx
 ·obtain⟨q,cs,h1,h2,h3,h4,h5⟩:=h.ent N _ e;obtain⟨v,hv,hr⟩:=h4.get hx;exact⟨q,v,h1,hr,h5 _ _ hv⟩
theorem _root_.Go.Vx.Rep.placeR (h:Rep w0 σ H w) {N:Nat} {xs:List EB} (e:Go.Vx.rowR H N=some xs):∃ q,σ N=some q:=by
 rcases A6h e with ⟨T,sz,e⟩ | e
 ·obtain⟨q,h,_⟩:=(h.ent N _ e).place rfl;exact⟨q,h⟩
 ·obtain⟨q,h,_⟩:=(h.ent N _ e).place rfl;exact⟨q,h⟩
def ldK (d:TD) (w:World) (a:Addr) (R:Value->World->Prop):Prop:=match d with
 | .none=>False
 | .array _ _ _ z=>∃ cs:List Value,cs.length=z.length/\cellsAt w a cs 0/\R (.agg cs.toArray) w
 | .struct _ z=>∃ cs:List Value,cs.length=z.length/\cellsAt w a cs 0/\R (.agg cs.toArray) w
 | _=>∃ v,w.cell? a=some v/\R v w
theorem B7V {P:Program} {L:Lay} {T t:Nat} {x:Operand} {a:Addr} {R:Value->World->Prop} (e:ev f x=.pointer (some a)) (h:ldK (L.ty t) w a R):vOp P L T (.load t x) f w R:=by
 show (match L.ty t,ev f x with
  | .none,_=>False
  | .array _ _ _ z,.pointer (some a)=>∃ cs:List Value,cs.length=z.length/\cellsAt w a cs 0/\R (.agg cs.toArray) w
  | .struct _ z,.pointer (some a)=>∃ cs:List Value,cs.length=z.length/\cellsAt w a cs 0/\R (.agg cs.toArray) w
  | _,.pointer (some a)=>∃ v,w.cell? a=some v/\R v w
  | _,_=>False)
 rw [e];cases hd:L.ty t<;>rw [hd] at h<;>exact h
theorem B4h {d:TD} {N o:Nat} {xs:List EB} {v:EV} (h:xLd d xs o=some v) (hR:Rep w0 σ H w) (e:rowR H N=some xs):∃ q,σ N=some q/\∀ R:Value->World->Prop,(∀ u,VR σ v u->R u w)->ldK d w ⟨q.b,q.o+o,none⟩ R:=by
 have one:(match xs[o]? with
   | some x=>some (EV.o x)
   | none=>none)=some v->∃ q,σ N=some q/\∀ R:Value->World->Prop,(∀ u,VR σ v u->R u w)->∃ u,w.cell? ⟨q.b,q.o+o,none⟩=some u/\R u w:=fun h=>by
  split at h
  ·rename_i x hx;cases h;obtain⟨q,u,h1,h2,h3⟩:=hR.cellR e hx;exact⟨q,h1,fun R hu=>⟨u,h3,hu _ h2⟩⟩
  ·cases h
 have agg:∀ {z:List Value},cond (Nat.ble (Nat.add o z.length) xs.length) (some (EV.a ((xs.drop o).take z.length))) none=some v->∃ q,σ N=some q/\∀ R:Value->World->Prop,(∀ u,VR σ v u->R u w)->∃ cs:List Value,cs.length=z.length/\cellsAt w ⟨q.b,q.o+o,none⟩ cs 0/\R (.agg cs.toArray) w:=fun h=>by obtain⟨h1,h2⟩:=B9W h;cases h2;obtain⟨q,cs,k1,k2,k3,k4⟩:=hR.rowR e o _ (ze h1);exact⟨q,k1,fun R hu=>⟨cs,k3,k4,hu _ ⟨cs,k2,rfl⟩⟩⟩
 cases d with
 | none=>cases h
 | array n e' esz z=>exact agg h
 | struct fs z=>exact agg h
 | int k=>exact one h
 | str=>exact one h
 | bool=>exact one h
 | slice e' esz=>exact one h
 | one z=>exact one h
theorem B3p {t T:Nat} {p v:EV} {x:Operand} (h:A6f M t p H=some v) (hF:FR σ F f) (hx:xEv F x=some p) (hR:Rep w0 σ H w) {R:Value->World->Prop} (hK:∀ u,VR σ v u->R u w):vOp M.P M.L T (.load t x) f w R:=by
 unfold A6f at h;split at h
 ·split at h
  ·rename_i hr;obtain⟨q,hq,hl⟩:=B4h h hR hr;obtain⟨r,hr',e⟩:=B9 hF hx;rw [show σ _=some r from hr'] at hq;cases hq;exact B7V e (hl R hK)
  ·cases h
 ·cases h
theorem B1n {t T:Nat} {p u:EV} {x y:Operand} (h:A7q M t p u H K=true) (hx:xEv F x=some p) (hy:xEv F y=some u):∃ v H',K v H'=true/\A89 E F H v H' (fun f w R=>vOp M.P M.L T (.store t x y) f w R):=by
 unfold A7q at h;split at h
 ·rename_i N o;split at h
  ·rename_i d T' sz xs ys hr hc;cases hb:(B4c ys&&Nat.beq ys.length (M.L.ty t).size&&Nat.ble (Nat.add o ys.length) xs.length&&not (Nat.beq (M.L.ty t).size 0)) with
   | false=>rw [hb] at h;cases h
   | true=>
    rw [hb,cond_true,X9] at h;obtain⟨t',h1,h2⟩:=Tr.setK_ok _ _ _ _ h;rw [z7,z7,z7,Bool.not_eq_true'] at hb;obtain⟨⟨⟨b1,b2⟩,b3⟩,b4⟩:=hb;refine⟨_,_,h1,fun w0 σ f w hE hF hR R hK=>?_⟩;obtain⟨q,hq,e⟩:=B9 hF hx;have hu:=A2W hc (B9 hF hy);obtain⟨q',k1,k2,k3⟩:=hR.store (H':=⟨t',H.n⟩) (A1T hr) hu (A6c b1 hu) (ze b3) h2;rw [show σ N=some q from hq] at k1;cases k1;have key:∀ d:TD,d=M.L.ty t->A2u (ev f y) fun cs=>cond (Nat.beq cs.length d.size) (C7 w ⟨q.b,q.o+o,none⟩ cs 0/\∀ w',D0 w ⟨q.b,q.o+o,none⟩ cs w'->R undef w') False:=fun d hd=>by subst hd;rw [A1Z,show (ev f y).cells.toList.length=ys.length from hu.len,b2];exact⟨k2,fun w' hS=>hK _ _ _ (Ex.refl _) rfl (k3 w' hS)⟩
    show (match M.L.ty t,ev f x with
     | .none,_=>False
     | d,.pointer (some a)=>A2u (ev f y) fun cs=>cond (Nat.beq cs.length d.size) (C7 w a cs 0/\∀ w',D0 w a cs w'->R undef w') False
     | _,_=>False)
    rw [e];cases hd:M.L.ty t with
    | none=>rw [hd] at b4;cases b4
    | _=>exact key _ hd.symm
  ·cases h
 ·cases h
theorem B1o {N n:Nat} {Z:Ent} {K:Nat->Hp->Bool} (h:B7x N n Z H K=true):∃ H',K N H'=true/\H.t.get N=none/\∀ j,H'.t.get j=if j=N then some Z else H.t.get j:=by
 unfold B7x at h;split at h
 ·rename_i e;obtain⟨t',h1,h2⟩:=Tr.setK_ok _ _ _ _ h;exact⟨_,h1,e,h2⟩
 ·cases h
theorem A4J {nm:Option Nat} {Z:Ent} {K:Nat->Hp->Bool} (h:B4d nm Z H K=true):∃ N H',K N H'=true/\H.t.get N=none/\∀ j,H'.t.get j=if j=N then some Z else H.t.get j:=by
 unfold B4d at h;split at h
 ·exact⟨_,B1o h⟩
 ·rw [V8] at h;exact⟨_,B1o h⟩
theorem A0s {nm:Option Nat} {T sz:Nat} {xs:List EB} {K:Nat->Hp->Bool} (h:A4E nm T sz xs H K=true):∃ N H',K N H'=true/\H.t.get N=none/\∀ j,H'.t.get j=if j=N then some (.c T sz xs) else H.t.get j:=by unfold A4E at h;rw [X9] at h;exact A4J h
theorem A1U {nm:Option Nat} {t:Nat} {xs:List EB} {K:Kt} {mk:Nat->EV} {mkV:Nat->Value} (h:A4E nm t 0 xs H (fun N H=>K (mk N) H)=true) (hm:∀ (τ:Sg) N g,τ N=some ⟨g,0,0⟩->VR τ (mk N) (mkV g)):
  ∃ v H',K v H'=true/\∀ w0 σ w (cs:List Value),Rep w0 σ H w->All2 (BR σ) xs cs->∀ R:Value->World->Prop,(∀ τ u w',Ex σ τ->VR τ v u->Rep w0 τ H' w'->R u w')->∀ g w',New w cs t g w'->R (mkV g) w':=by
 obtain⟨N,H',h1,h2,h3⟩:=A0s h;refine⟨_,_,h1,fun w0 σ w cs hR hx R hK g w' hG=>?_⟩;obtain⟨k1,k2,k3⟩:=hR.alloc hx hG h2 h3;exact hK _ _ _ k1 (hm _ _ _ k2) k3
theorem B4i (τ:Sg) (N g:Nat) (h:τ N=some ⟨g,0,0⟩):VR τ (.o (.p N 0)) (.pointer (some ⟨g,0,none⟩)):=⟨_,h,rfl⟩
theorem B7W (n:Nat) (τ:Sg) (N g:Nat) (h:τ N=some ⟨g,0,0⟩):VR τ (.o (.s N 0 n (.k n))) (.slice (some ⟨g,0,none⟩) n n):=⟨_,_,n,h,⟨rfl,rfl,zc _⟩,rfl⟩
theorem A5s {d:TD} {e esz:Nat} (h:elemOf d=some (e,esz)):d=.slice e esz:=by
 unfold elemOf at h;split at h
 ·cases h;rfl
 ·cases h
end
end Go.Vx
end
section
namespace Go.Vx
open Go Go.Vc Go.RowKit
section
variable {P:Program} {w0 w w':World} {σ:Sg} {H H':Hp} {E:World->Prop} {K:Kt} {N T sz esz e m n:Nat} {xs news:List EB} {us:List Value}
theorem Z4 (g i k:Nat):∀ (us:List Value) (w:World),w.setCells g (i+k) us=Vc.stored w ⟨g,i,none⟩ us k:=by
 intro us;induction us generalizing k with
 | nil=>intro w;rfl
 | cons u us ih=>
  intro w;show (w.setCell ⟨g,i+k,none⟩ u).setCells g (i+(k+1)) us=Vc.stored (w.setCell ((⟨g,i,none⟩:Addr).add k) u) ⟨g,i,none⟩ us (k+1);rw [Addr.add_lit,ih]
theorem A4K {g:Nat} {cs:List Value} (h:Blk w g T cs) {i:Nat} (hi:i<cs.length):(w.cell? ⟨g,i,none⟩).isSome=true/\w.frozen? ⟨g,i,none⟩=false:=
 ⟨by rw [h.cell,List.getElem?_eq_getElem hi];rfl,h.frozen i⟩
structure AppT (P:Program) (t e esz:Nat) (i:TypeInfo) (z:Value):Prop where
 ht:P.underlying t=some (.slice e)
 hi:P.info? e=some i
 size:i.size=esz
 bytes:i.bytes<=4096
 hz:i.zero=some z
 zs:z.cells.size=esz
theorem B6G {t:Nat} (h:B8R P t e esz=true):∃ i z,AppT P t e esz i z:=by
 unfold B8R at h;rw [z7] at h;obtain⟨h1,h2⟩:=h;split at h1
 ·rename_i e' hu;have he:=z8 h1;subst he;split at h2
  ·rename_i i hi;rw [z7,z7] at h2;obtain⟨⟨h3,h4⟩,h5⟩:=h2;split at h5
   ·rename_i z hz;exact⟨i,z,hu,hi,z8 h3,ze h4,hz,z8 h5⟩
   ·cases h5
  ·cases h2
 ·cases h1
theorem A7v {tx:Nat} {x:EV} {u:Value} (h:B1g P tx x esz H=some (m,news)) (ho:B4c news=true) (hR:Rep w0 σ H w) (hx:VR σ x u):∃ us,Src P esz tx u m us w/\All2 (BR σ) news us:=by
 have slT:B4a P tx=true->∃ e',P.underlying tx=some (.slice e'):=fun h=>by
  unfold B4a at h;split at h
  ·rename_i e' he;exact⟨e',he⟩
  ·cases h
 unfold B1g at h;split at h
 ·obtain⟨h1,h2⟩:=B9W h;rw [z7] at h1;obtain⟨e',he⟩:=slT h1.2;cases h2;cases hx;have:=z8 h1.1;subst this;exact⟨[],Src.ofNil w he _,trivial⟩
 ·rename_i s;obtain⟨h1,h2⟩:=B9W h;rw [z7] at h1;cases h2;cases hx;have:=z8 h1.1;subst this;have hk:P.underlying tx=some .string:=by
   have h3:=h1.2;unfold A85 at h3;split at h3
   ·rename_i e;exact e
   ·cases h3
  exact⟨byteCells s,Src.ofString w hk s,All2.map (R:=BR σ) (fun c:UInt8=>EB.l (.int .u8 (Int.ofNat c.toNat))) (fun c=>Value.int .u8 c.toNat) (fun c=>rfl) s.data.toList⟩
 ·rename_i N o m' c;obtain⟨h1,h2⟩:=B9W h;obtain⟨e',he⟩:=slT h1;obtain⟨q,a,cp,hq,hc,rfl⟩:=hx;cases hb:Nat.beq m' 0 with
  | true=>
   rw [hb] at h2;cases h2;have:=z8 hb;subst this;exact⟨[],Src.ofSlice w he a 0 cp [] (by simp) (fun j u hj=>by cases hj) (fun u hu=>by cases hu),trivial⟩
  | false=>
   rw [hb,cond_false] at h2;have key:∀ {xs:List EB},rowR H N=some xs->a=⟨q.b,q.o+o,none⟩->cond (Nat.ble (Nat.add o (Nat.mul m' esz)) xs.length) (some (m',(xs.drop o).take (Nat.mul m' esz))) none=some (m,news)->∃ us,Src P esz tx (.slice (some a) m' cp) m us w/\All2 (BR σ) news us:=fun hr ha h3=>by obtain⟨h4,h5⟩:=B9W h3;cases h5;obtain⟨q',cs,k1,k2,k3,k4⟩:=hR.rowR hr o _ (ze h4);rw [hq] at k1;cases k1;subst ha;refine⟨cs,Src.ofSlice w he _ _ cp cs k3 (fun j u hj=>?_) (A6c ho k2),k2⟩;have:=G9 cs 0 k4 j u hj;rwa [zm] at this
   cases hr:rowR H N with
   | none=>rw [hr] at h2;cases c<;>cases h2
   | some xs=>
    rw [hr] at h2;cases c with
    | k c=>exact key hr hc.1 h2
    | j d b=>exact key hr hc.1 h2
    | z d=>cases h2
 ·cases h
theorem B1p {tx:Nat} {x:EV} (h:B1g P tx x esz H=some (m,news)):news.length=m*esz:=by
 unfold B1g at h;split at h
 ·obtain⟨_,h2⟩:=B9W h;cases h2;rw [Nat.zero_mul];rfl
 ·obtain⟨h1,h2⟩:=B9W h;rw [z7] at h1;cases h2;rw [zj,z8 h1.1,Nat.mul_one]
 ·rename_i N o m' c;obtain⟨_,h2⟩:=B9W h;cases hb:Nat.beq m' 0 with
  | true=>rw [hb] at h2;cases h2;rw [Nat.zero_mul];rfl
  | false=>
   rw [hb,cond_false] at h2;have key:∀ {xs:List EB},cond (Nat.ble (Nat.add o (Nat.mul m' esz)) xs.length) (some (m',(xs.drop o).take (Nat.mul m' esz))) none=some (m,news)->news.length=m*esz:=fun h3=>by obtain⟨h4,h5⟩:=B9W h3;cases h5;have:=ze h4;rw [zf,zg];exact Nat.min_eq_left (Nat.le_sub_of_add_le (by rw [Nat.add_comm];exact this))
   cases hr:rowR H N with
   | none=>rw [hr] at h2;cases c<;>cases h2
   | some xs=>
    rw [hr] at h2;cases c with
    | k c=>exact key h2
    | j d b=>exact key h2
    | z d=>cases h2
 ·cases h
theorem A5t:∀ (us cur:List Value) (k:Nat),k+us.length<=cur.length->∀ j:Nat,(C0 cur k us)[j]?=if k<=j/\j<k+us.length then us[j-k]? else cur[j]?
 | [],cur,k,_,j=>by rw [y7 (by simp)];rfl
 | u::us,cur,k,h,j=>by
  rw [zi] at h;show (C0 (cur.set k u) (k+1) us)[j]?=_;rw [A5t us _ _ (by rw [List.length_set];omega),zi];by_cases e:k=j
  ·subst e;rw [y7 (by omega),y6 (by omega),List.getElem?_set_self (by omega),Nat.sub_self];rfl
  ·by_cases c:k+1<=j/\j<k+1+us.length
   ·rw [y6 c,y6 (by omega),show j-k=(j-(k+1))+1 by omega,List.getElem?_cons_succ]
   ·rw [y7 c,y7 (by omega),List.getElem?_set_ne e]
theorem B3q {i:TypeInfo} {z:Value} {t:Nat} (hA:AppT P t e esz i z) (hz:esz≠0) (hR:Rep w0 σ H w) {cs:List Value} {cap:Nat} (hx:All2 (BR σ) xs cs) (hl:cs.length=n*esz) (h1:n<=cap) (h2:cap<=maxLen) (hN:H.t.get N=none) (ht:∀ j,H'.t.get j=if j=N then some (.c e esz xs) else H.t.get j):
  Ex σ (A3H σ N ⟨w.heap.size,0,cap⟩)/\A3H σ N ⟨w.heap.size,0,cap⟩ N=some ⟨w.heap.size,0,cap⟩/\Rep w0 (A3H σ N ⟨w.heap.size,0,cap⟩) H' (w.drew.alloc (.cells (cs.toArray++Builtin.zeroCells z.cells (cap-n)) e)):=by
 refine⟨O9 hR hN _,y6 rfl,hR.new ⟨w.heap.size,0,cap⟩ ((Below.refl _ w).drew.alloc (zc _) _) (zc _) hN ht ⟨⟨w.heap.size,0,cap⟩,cs++(Builtin.zeroCells z.cells (cap-n)).toList,cs,y6 rfl,hR.below.size,?_,fun h=>absurd h hz,fun _=>⟨?_,h2⟩,hx.mono (BR.ex (O9 hR hN _)),fun j v hj=>?_⟩⟩
 ·show (w.drew.alloc _).heap[w.heap.size]?=_;have:=heap_alloc_new w.drew (.cells (cs.toArray++Builtin.zeroCells z.cells (cap-n)) e);have e1:(cs++(Builtin.zeroCells z.cells (cap-n)).toList).toArray=cs.toArray++Builtin.zeroCells z.cells (cap-n):=by apply Array.ext';simp
  rw [e1];exact this
 ·have e9:(Builtin.zeroCells z.cells (cap-n)).toList.length=(cap-n)*esz:=by rw [Array.length_toList,size_zeroCells,hA.zs]
  rw [z6,e9,hl,<-Nat.add_mul];show (n+(cap-n))*esz=0+cap*esz;rw [show n+(cap-n)=cap by omega,zm]
 ·rw [zm];rw [List.getElem?_append_left]
  ·exact hj
  ·rcases zl j cs.length with h | h
   ·exact h
   ·rw [List.getElem?_eq_none h] at hj;cases hj
theorem A7w (hR:Rep w0 σ H w) (he:H.t.get N=some (.c T sz xs)) {q:Pl} (hq:σ N=some q) {k:Nat} {us:List Value} (hu:All2 (BR σ) news us) (hk:k+news.length<=xs.length) (ht:∀ j,H'.t.get j=if j=N then some (.c T sz (A7l xs k news)) else H.t.get j):
  (∀ j,j<us.length->(w.cell? ⟨q.b,q.o+k+j,none⟩).isSome=true)/\(∀ j,j<us.length->w.frozen? ⟨q.b,q.o+k+j,none⟩=false)/\Rep w0 σ H' (w.setCells q.b (q.o+k) us):=by
 obtain⟨q',cur,cs,k1,k2,k3,k4,k5,k6,k7⟩:=hR.ent N _ he;rw [hq] at k1;cases k1;have hlu:=hu.len;have hlc:=k6.len;have hcl:∀ j,j<cs.length->q.o+j<cur.length:=fun j hj=>by
  have:=k7 j _ (List.getElem?_eq_getElem hj);rcases zl (q.o+j) cur.length with hh | hh
  ·exact hh
  ·rw [List.getElem?_eq_none hh] at this;cases this
 have hm:∀ j,j<us.length->q.o+k+j<cur.length:=fun j hj=>by have:=hcl (k+j) (by omega);omega
 refine⟨fun j hj=>(A4K k3 (hm j hj)).1,fun j hj=>(A4K k3 (hm j hj)).2,?_⟩;have e1:=Z4 q.b (q.o+k) 0 us w;rw [Nat.add_zero] at e1;obtain⟨s1,s2,s3,s4,s5,s6⟩:=H8 (q.o+k) us w 0 cur k3;rw [<-e1] at s1 s2 s3 s4 s5 s6;rw [Nat.add_zero] at s1;refine hR.turn he rfl hq (by omega) ⟨s4,s5,s6⟩ (fun b hb _=>s2 b hb) ht ⟨q,_,_,hq,k2,s1,fun hs=>⟨(k4 hs).1,?_⟩,fun hs=>⟨?_,(k5 hs).2⟩,A2T k k6 hu,A6Z q.o us cs cur k (by omega) k7⟩
 ·rw [putAt_len,A4A];exact (k4 hs).2
 ·rw [putAt_len];exact (k5 hs).1
theorem A7x (hR:Rep w0 σ H w) {M:Nat} {H1:Hp} (hz:esz≠0) (he:H.t.get M=some (.c e esz xs)) {q:Pl} (hq:σ M=some q) {k d cp:Nat} {us:List Value} (hu:All2 (BR σ) news us) (hk:k<=xs.length) (hd:k=d*esz) (hcp:cp+d=q.c) (hfit:xs.length+news.length<=q.c*esz)
  (h1:∀ j,H1.t.get j=if j=M then some .d else H.t.get j) (hN:H1.t.get N=none) (ht:∀ j,H'.t.get j=if j=N then some (.c e esz (xs.drop k++news)) else H1.t.get j):
  (∀ j,j<us.length->(w.cell? ⟨q.b,q.o+xs.length+j,none⟩).isSome=true)/\(∀ j,j<us.length->w.frozen? ⟨q.b,q.o+xs.length+j,none⟩=false)/\Ex σ (A3H σ N ⟨q.b,q.o+k,cp⟩)/\Rep w0 (A3H σ N ⟨q.b,q.o+k,cp⟩) H' (w.setCells q.b (q.o+xs.length) us):=by
 obtain⟨q',cur,cs,k1,k2,k3,k4,k5,k6,k7⟩:=hR.ent M _ he;rw [hq] at k1;cases k1;have hlu:=hu.len;have hlc:=k6.len;have hcur:=(k5 hz).1;have hm:∀ j,j<us.length->q.o+xs.length+j<cur.length:=fun j hj=>by omega
 have hR1:Rep w0 σ H1 w:=hR.lose h1;refine⟨fun j hj=>(A4K k3 (hm j hj)).1,fun j hj=>(A4K k3 (hm j hj)).2,O9 hR1 hN _,?_⟩;have e1:=Z4 q.b (q.o+xs.length) 0 us w;rw [Nat.add_zero] at e1;obtain⟨s1,s2,s3,s4,s5,s6⟩:=H8 (q.o+xs.length) us w 0 cur k3;rw [<-e1] at s1 s2 s3 s4 s5 s6;rw [Nat.add_zero] at s1;have hx:=O9 hR1 hN ⟨q.b,q.o+k,cp⟩;have hcl:∀ j,j<cs.length->q.o+j<cur.length:=fun j hj=>by
  have:=k7 j _ (List.getElem?_eq_getElem hj);rcases zl (q.o+j) cur.length with hh | hh
  ·exact hh
  ·rw [List.getElem?_eq_none hh] at this;cases this
 have hlow:=hR.below.size;refine hR1.newG ⟨q.b,q.o+k,cp⟩ ⟨s4.trans hR.below.os,s5.trans hR.below.tape,s6.trans hR.below.output,by omega,fun b hb=>(s2 b (by omega)).trans (hR.below.block b hb)⟩ (fun b hb _=>s2 b hb) (fun M' F r hF hl hr=>?_) hN ht ⟨⟨q.b,q.o+k,cp⟩,_,cs.drop k++us,y6 rfl,k2,s1,fun h=>absurd h hz,fun _=>⟨?_,?_⟩,(All2.append (k6.drop k) hu).mono (BR.ex hx),fun j v hj=>?_⟩
 ·rw [h1] at hF;by_cases e:M'=M
  ·rw [y6 e] at hF;cases hF;cases hl
  ·rw [y7 e] at hF;exact hR.sep M' M F _ r q e hF he hl rfl hr hq
 ·rw [putAt_len,hcur];show q.o+q.c*esz=q.o+k+cp*esz;rw [hd,<-hcp,Nat.add_mul];omega
 ·exact zo (by show cp<=q.c;omega) (k5 hz).2
 ·show (C0 cur (q.o+xs.length) us)[q.o+k+j]?=some v;rw [A5t _ _ _ (by omega)];rw [List.getElem?_append] at hj;split at hj
  ·rename_i hlt;rw [zg] at hlt;rw [y7 (by omega)];rw [List.getElem?_drop] at hj;rw [Nat.add_assoc];exact k7 _ _ hj
  ·rename_i hge;rw [zg] at hge hj;have hlt:j-(cs.length-k)<us.length:=by
    rcases zl (j-(cs.length-k)) us.length with h | h
    ·exact h
    ·rw [List.getElem?_eq_none h] at hj;cases hj
   rw [y6 (by omega),show q.o+k+j-(q.o+xs.length)=j-(cs.length-k) by omega];exact hj
theorem B6 {b x:Bool} (h:cond b x false=true):b=true/\x=true:=by
 cases b
 ·cases h
 ·exact⟨rfl,h⟩
def A2c (P:Program) (t tx esz m:Nat) (w0:World) (σ:Sg) (w:World) (u u':Value) (us:List Value) (v:EV) (H':Hp):Prop:=Src P esz tx u' m us w->∀ ty,∃ v' w',(Builtin.append_ #[t,tx] ty #[u,u']).run P w=.ok v' w'/\∃ τ,Ex σ τ/\VR τ v v'/\Rep w0 τ H' w'
section
variable {t tx:Nat} {i:TypeInfo} {z:Value} {o:Nat} {q:Pl} {u':Value}
theorem A1V (hA:AppT P t e esz i z) (hz:esz≠0) (hnm:n+m<=20000) (hN:H.t.get N=none) (ht:∀ j,H'.t.get j=if j=N then some (.c e esz xs) else H.t.get j) {ao:Option Addr} {cap:Nat} {olds:List Value} (hR:Rep w0 σ H w)
  (hf:(Builtin.firstCells esz n (.slice ao n cap)).run P w.drew=.ok olds.toArray w.drew) (hol:olds.length=n*esz) (hn:All2 (BR σ) xs (olds++us)) (hc:cap<n+m):A2c P t tx esz m w0 σ w (.slice ao n cap) u' us (.o (.s N 0 (n+m) (.j 0 (n+m)))) H':=fun hS ty=>by
 have hs:=hA.size;subst hs;have hm:maxLen=9223372036854775807:=rfl;have hb:(n+m)*i.bytes<=140737488355328:=zo (Nat.mul_le_mul hnm hA.bytes) (by decide);have hrun:=run_append_grow_src (P:=P) w t tx ty e i z hA.ht hA.hi hA.hz ao n cap olds hf u' m us hS hc (by omega) (growslice_fits hc hb);have hge:=grownCap_ge w (n+m) cap e;have hle:=grownCap_le_maxLen w (n+m) cap e (by omega);obtain⟨g1,g2,g3⟩:=B3q (N:=N) hA hz hR hn (by rw [z6,hol,hS.newsLen,<-Nat.add_mul]) hge hle hN ht;exact⟨_,_,hrun,_,g1,⟨_,_,_,g2,⟨rfl,rfl,zc _,hge⟩,rfl⟩,g3⟩
theorem A2d (hA:AppT P t e esz i z) {ao:Option Addr} {cap:Nat} {v:EV} (hR:Rep w0 σ H w) (hle:n<=cap) (hv:VR σ v (.slice ao n cap)):A2c P t tx esz 0 w0 σ w (.slice ao n cap) u' us v H:=fun hS ty=>by have hs:=hA.size;subst hs;have:us=[]:=zn (by rw [hS.newsLen,Nat.zero_mul]);subst this;exact⟨_,_,run_append_nothing w t tx ty e i hA.ht hA.hi _ _ _ hle _ hS,σ,Ex.refl _,hv,hR⟩
theorem A1W (hA:AppT P t e esz i z) {b off cap:Nat} {v:EV} {τ:Sg} (hl:n+m<=cap) (h1:∀ j,j<us.length->(w.cell? ⟨b,off+n*esz+j,none⟩).isSome=true) (h2:∀ j,j<us.length->w.frozen? ⟨b,off+n*esz+j,none⟩=false)
  (hx:Ex σ τ) (hv:VR τ v (.slice (some ⟨b,off,none⟩) (n+m) cap)) (hR:Rep w0 τ H' (w.setCells b (off+n*esz) us)):A2c P t tx esz m w0 σ w (.slice (some ⟨b,off,none⟩) n cap) u' us v H':=fun hS ty=>by
 have hs:=hA.size;subst hs;exact⟨_,_,run_append_room_src (P:=P) w t tx ty e i hA.ht hA.hi b off n cap u' m us hS hl h1 h2,τ,hx,hv,hR⟩
theorem Rep.len_le (hR:Rep w0 σ H w) (he:H.t.get N=some (.c T sz xs)) (hq:σ N=some q) (hz:sz≠0):xs.length<=q.c*sz:=by
 obtain⟨q',cur,cs,k1,k2,k3,k4,k5,k6,k7⟩:=hR.ent N _ he;rw [hq] at k1;cases k1;have h1:=(k5 hz).1;have hlc:=k6.len;rcases Nat.eq_zero_or_pos xs.length with h | h
 ·omega
 ·have:=k7 (xs.length-1) _ (List.getElem?_eq_getElem (by omega));rcases zl (q.o+(xs.length-1)) cur.length with hh | hh
  ·omega
  ·rw [List.getElem?_eq_none hh] at this;cases this
theorem Rep.first (hR:Rep w0 σ H w) (he:H.t.get N=some (.c T sz xs)) (hq:σ N=some q) (hl:o+n*esz<=xs.length) (len cap:Nat):∃ olds,(Builtin.firstCells esz n (.slice (some ⟨q.b,q.o+o,Option.none⟩) len cap)).run P w.drew=.ok olds.toArray w.drew/\olds.length=n*esz/\All2 (BR σ) ((xs.drop o).take (n*esz)) olds:=by obtain⟨q',cs,k1,k2,k3,k4⟩:=hR.row he o (n*esz) hl;rw [hq] at k1;cases k1;refine⟨cs,run_firstCells_some w.drew esz n _ len cap cs k3 (fun j v hj=>?_),k3,k2⟩;have:=G9 cs 0 k4 j v hj;rwa [zm] at this
theorem B3r (hA:AppT P t e esz i z) (hz:esz≠0) (hnm:n+m<=20000) (hm0:0<m) {c:EC} (he:H.t.get N=some (.c T sz xs)) (h:B56 T sz e esz N o n m c xs news H K=true):∃ v H',K v H'=true/\∀ (w0:World) σ w u u' us,Rep w0 σ H w->VR σ (.o (.s N o n c)) u->All2 (BR σ) news us->A2c P t tx esz m w0 σ w u u' us v H':=by
 have hpos:0<esz:=Nat.pos_of_ne_zero hz;unfold B56 at h;split at h
 ·rename_i c;cases hb:Nat.ble (Nat.add n m) c with
  | true=>
   rw [hb,cond_true] at h;obtain⟨h1,h2⟩:=B6 h;rw [X9] at h2;obtain⟨t',h3,h4⟩:=Tr.setK_ok _ _ _ _ h2;refine⟨_,_,h3,fun w0 σ w u u' us hR hs hn hS ty=>?_⟩;obtain⟨q,a,cp,hq,⟨ha,hc1,hc2⟩,rfl⟩:=hs;subst ha;subst hc1;have hln:news.length=m*esz:=by rw [<-hn.len];exact hS.newsLen
   have hl:o+(n+m)*esz<=xs.length:=ze h1;rw [Nat.add_mul] at hl;obtain⟨r1,r2,r3⟩:=A7w (H':=⟨t',H.n⟩) hR he hq (k:=o+n*esz) hn (by rw [hln];omega) h4;rw [<-Nat.add_assoc] at r1 r2 r3;exact A1W (v:=.o (.s N o (n+m) (.k cp))) hA (ze hb) r1 r2 (Ex.refl _) ⟨q,_,_,hq,⟨rfl,rfl,ze hb⟩,rfl⟩ r3 hS ty
  | false=>
   rw [hb,cond_false] at h;obtain⟨h1,h2⟩:=B6 h;obtain⟨N2,H',k1,k2,k3⟩:=A0s h2;refine⟨_,_,k1,fun w0 σ w u u' us hR hs hn=>?_⟩;obtain⟨q,a,cp,hq,⟨ha,hc1,hc2⟩,rfl⟩:=hs;subst ha;subst hc1;obtain⟨olds,o1,o2,o3⟩:=hR.first (P:=P) he hq (ze h1) n cp;exact A1V hA hz hnm k2 k3 hR o1 o2 (All2.append o3 hn) (by
    rcases zl cp (n+m) with h | h
    ·exact h
    ·rw [show Nat.ble (Nat.add n m) cp=true from Nat.ble_eq_true_of_le h] at hb;cases hb)
 ·rename_i d b;obtain⟨h1,h2⟩:=B6 h;rw [z7,z7] at h1;have e1:o=d*esz:=z8 h1.1.1;have e2:=z8 h1.1.2;have e3:=z8 h1.2;subst e2;subst e3;cases hb:Nat.ble (Nat.add o (Nat.mul (Nat.add n m) sz)) xs.length with
  | true=>
   rw [hb,cond_true,X9] at h2;obtain⟨t',h3,h4⟩:=Tr.setK_ok _ _ _ _ h2;refine⟨_,_,h3,fun w0 σ w u u' us hR hs hn hS ty=>?_⟩;obtain⟨q,a,cp,hq,⟨ha,hc1,hc2,hc3⟩,rfl⟩:=hs;subst ha;have hln:news.length=m*sz:=by rw [<-hn.len];exact hS.newsLen
   have hl:o+(n+m)*sz<=xs.length:=ze hb;have hle:=hR.len_le he hq hz;have hcp:n+m<=cp:=by
    have h5:(d+(n+m))*sz<=q.c*sz:=by rw [Nat.add_mul];omega
    have:=Nat.le_of_mul_le_mul_right h5 hpos;omega
   rw [Nat.add_mul] at hl;obtain⟨r1,r2,r3⟩:=A7w (H':=⟨t',H.n⟩) hR he hq (k:=o+n*sz) hn (by rw [hln];omega) h4;rw [<-Nat.add_assoc] at r1 r2 r3;refine A1W (v:=.o (.s N o (n+m) (.j d (cond (Nat.ble (Nat.add n m) b) b (Nat.add n m))))) hA hcp r1 r2 (Ex.refl _) ⟨q,_,_,hq,⟨rfl,hc1,?_,?_⟩,rfl⟩ r3 hS ty
   ·cases hx:Nat.ble (Nat.add n m) b with
    | true=>exact ze hx
    | false=>exact zc _
   ·cases hx:Nat.ble (Nat.add n m) b with
    | true=>exact hc3
    | false=>exact hcp
  | false=>
   rw [hb,cond_false] at h2;obtain⟨h3,h4⟩:=B6 h2;have e4:o+n*sz=xs.length:=z8 h3;obtain⟨t1,h5,h6⟩:=Tr.setK_ok _ _ _ _ h4;obtain⟨N2,H',k1,k2,k3⟩:=A0s h5;refine⟨_,_,k1,fun w0 σ w u u' us hR hs hn hS ty=>?_⟩;obtain⟨q,a,cp,hq,⟨ha,hc1,hc2,hc3⟩,rfl⟩:=hs;subst ha;have hln:news.length=m*sz:=by rw [<-hn.len];exact hS.newsLen
   by_cases hroom:n+m<=cp
   ·obtain⟨r1,r2,r3,r4⟩:=A7x (H1:=⟨t1,H.n⟩) hR hz he hq (k:=o) hn (by omega) e1 hc1 (by rw [hln,<-e4,e1,<-Nat.add_mul,<-Nat.add_mul];exact Nat.mul_le_mul_right _ (by omega)) h6 k2 k3;rw [<-e4,<-Nat.add_assoc] at r1 r2 r4;exact A1W (v:=.o (.s N2 0 (n+m) (.j 0 (n+m)))) hA hroom r1 r2 r3 ⟨_,_,cp,y6 rfl,⟨rfl,rfl,zc _,hroom⟩,rfl⟩ r4 hS ty
   ·obtain⟨olds,o1,o2,o3⟩:=hR.first (P:=P) he hq (Nat.le_of_eq e4) n cp;rw [List.take_of_length_le (by rw [zg];omega)] at o3;exact A1V hA hz hnm k2 k3 (hR.lose h6) o1 o2 (All2.append o3 hn) (by omega) hS ty
 ·rename_i d;obtain⟨h1,h2⟩:=B6 h;simp only [z7] at h1;obtain⟨⟨⟨⟨b1,b2⟩,b3⟩,b4⟩,b5⟩:=h1;have e1:o=d*esz:=z8 b1;have e2:=z8 b2;have e3:=z8 b3;have e4:=z8 b4;have e5:=z8 b5;subst e2;subst e3;subst e5;obtain⟨t1,h5,h6⟩:=Tr.setK_ok _ _ _ _ h2;have h5':A4E none T sz news ⟨t1,H.n⟩ (fun N H=>K (.o (.s N 0 (0+m) (.j 0 (0+m)))) H)=true:=by rw [zm];exact h5
  obtain⟨N2,H',k1,k2,k3⟩:=A0s h5';refine⟨_,_,k1,fun w0 σ w u u' us hR hs hn hS ty=>?_⟩;obtain⟨q,a,cp,hq,⟨_,ha,hc1⟩,rfl⟩:=hs;have hln:news.length=m*sz:=by rw [<-hn.len];exact hS.newsLen
  by_cases hroom:0+m<=cp
  ·rcases hc1 with hc1 | ⟨ha2,hc1⟩
   ·omega
   ·subst ha2;obtain⟨r1,r2,r3,r4⟩:=A7x (H1:=⟨t1,H.n⟩) (H':=H') (N:=N2) hR hz he hq (k:=o) hn (by omega) e1 hc1 (by rw [hln,<-e4,e1,<-Nat.add_mul];exact Nat.mul_le_mul_right _ (by omega)) h6 k2 (fun j=>by rw [k3 j,e4,List.drop_length,List.nil_append]);rw [<-e4] at r1 r2 r4;have e9:q.o+o+0*sz=q.o+o:=by rw [Nat.zero_mul,Nat.add_zero]
    exact A1W (off:=q.o+o) (v:=.o (.s N2 0 (0+m) (.j 0 (0+m)))) hA hroom (by rw [e9];exact r1) (by rw [e9];exact r2) r3 ⟨_,_,cp,y6 rfl,⟨rfl,rfl,zc _,hroom⟩,rfl⟩ (by rw [e9];exact r4) hS ty
  ·obtain⟨ab,ao,asp⟩:=a;exact A1V hA hz hnm k2 k3 (hR.lose h6) (olds:=[]) (run_firstCells_some w.drew sz 0 _ 0 cp [] (by simp) (fun j v hj=>by cases hj)) (by simp) hn (by omega) hS ty
theorem A9A (hA:AppT P t e esz i z) {s:EV} (h:A2b e esz s m news H K=true):∃ v H',K v H'=true/\∀ (w0:World) σ w u u' us,Rep w0 σ H w->VR σ s u->All2 (BR σ) news us->A2c P t tx esz m w0 σ w u u' us v H':=by
 unfold A2b at h;split at h
 ·rename_i n c;obtain⟨h1,h2⟩:=B6 h;rw [z7] at h1;have e1:=z8 h1.1;have e2:=z8 h1.2;subst e1;subst e2;cases hb:Nat.beq m 0 with
  | true=>
   rw [hb] at h2;have:=z8 hb;subst this;refine⟨_,_,h2,fun w0 σ w u u' us hR hs hn=>?_⟩;cases hs;exact A2d hA hR (zc _) rfl
  | false=>
   rw [hb,cond_false] at h2;obtain⟨h3,h4⟩:=B6 h2;rw [z7,z7,Bool.not_eq_true'] at h3;have hz:esz≠0:=fun e=>by rw [e] at h3;cases h3.2
   have h4':A4E none e esz news H (fun N H=>K (.o (.s N 0 (0+m) (.j 0 (0+m)))) H)=true:=by rw [zm];exact h4
   obtain⟨N2,H',k1,k2,k3⟩:=A0s h4';have hm:=ze h3.1.2;have hm0:m≠0:=fun e=>by rw [e] at hb;cases hb
   refine⟨_,_,k1,fun w0 σ w u u' us hR hs hn=>?_⟩;cases hs;exact A1V hA hz (by omega) k2 k3 hR (olds:=[]) (run_firstCells_none w.drew esz 0 0 0) (by simp) hn (by omega)
 ·rename_i N o n c;cases hb:Nat.beq m 0 with
  | true=>
   rw [hb] at h;have:=z8 hb;subst this;refine⟨_,_,h,fun w0 σ w u u' us hR hs hn=>?_⟩;have hs0:=hs;obtain⟨q,a,cp,_,hc,rfl⟩:=hs;refine A2d hA hR ?_ hs0;cases c with
   | k c=>rw [hc.2.1];exact hc.2.2
   | j d b=>exact zo hc.2.2.1 hc.2.2.2
   | z d=>rw [hc.1];exact zb _
  | false=>
   rw [hb,cond_false] at h;obtain⟨h1,h2⟩:=B6 h;rw [z7,z7,z7,Bool.not_eq_true'] at h1;obtain⟨⟨⟨b1,b2⟩,b3⟩,b4⟩:=h1;have b2:=ze b2;have b4:=ze b4;have hz:esz≠0:=fun e=>by rw [e] at b3;cases b3
   have hm0:m≠0:=fun e=>by rw [e] at hb;cases hb
   split at h2
   ·rename_i T sz xs hr;exact B3r hA hz (by omega) (by omega) (A1T hr) h2
   ·cases h2
 ·cases h
end
end
end Go.Vx
end
section
namespace Go.Vx
open Go Go.Vc Go.RowKit
section
variable {M:Mach} {P:Program} {E:World->Prop} {F:Tr EV} {H H':Hp} {K:Kt} {σ:Sg} {w0 w:World} {f:Fr} {N:Nat}
theorem A4L {α:Type} {R:α->Bool}:∀ {l:List α},B6X R l=true->∀ x∈l,R x=true
 | [],_,x,hx=>by cases hx
 | y::l,h,x,hx=>by
  obtain⟨h1,h2⟩:=Bool.and_eq_true_iff.1 (show (R y&&B6X R l)=true from h);cases hx with
  | head=>exact h1
  | tail _ hx=>exact A4L h2 x hx
theorem intSame_eq {k k':IntKind} (h:G7 k k'=true):k=k':=by cases k<;>cases k'<;>first | rfl | cases h
theorem B1q {a b:ByteArray}:eqL a.data.toList b.data.toList=true↔a=b:=by rw [A2V,beq_iff_eq];exact⟨fun h=>by rw [<-A1S a,<-A1S b,h],fun h=>by rw [h]⟩
theorem B3s {d:TypeDesc} {k:Value} (h:B57 d k=true):MapKept.IsKey d k:=by
 unfold B57 at h;split at h
 ·trivial
 ·exact intSame_eq h
 ·cases h
theorem B1r {d:TypeDesc} {a b:Value} {r:Bool} (h:B7z d a b=some r):Instr.sameNow d a b=some r/\(r=true->a=b):=by
 unfold B7z at h;split at h
 ·rename_i a b;cases h;refine⟨?_,fun h=>by rw [B1q.1 h]⟩;show some (a==b)=_;congr 1;rw [Bool.eq_iff_iff,B1q,MapKept.bytes_beq]
 ·rename_i q a q' b;obtain⟨h1,h2⟩:=B9W h;cases h2;have:=intSame_eq h1;subst this;refine⟨?_,fun h=>by rw [eqI_iff h]⟩;show (if q=q then some (a==b) else none)=_;rw [y6 rfl,A2S]
 ·cases h
theorem A0t {d:TypeDesc} {k:Value}:∀ {es:List (Value × EV × Nat)} {ents:List MapEntry} {i:Nat} {j:Option Nat},All2 (MR σ) es ents->posK d k es i=some j->(match j with
  | none=>Instr.findNow d k ents i=some none
  | some j=>∃ n x e,j=i+n/\es[n]?=some x/\ents[n]?=some e/\MR σ x e/\e.key=k/\Instr.findNow d k ents i=some (some (j,e.val)))
 | [],[],i,j,_,h=>by cases h;rfl
 | x::es,e::ents,i,j,hr,h=>by
  replace h:(match B7z d k x.1 with
   | some true=>some (some i)
   | some false=>posK d k es (i+1)
   | none=>none)=some j:=h
  have hk:=hr.1.1;split at h
  ·rename_i hn;cases h;obtain⟨h1,h2⟩:=B1r hn;refine⟨0,x,e,rfl,rfl,rfl,hr.1,by rw [hk];exact (h2 rfl).symm,?_⟩;show (match Instr.sameNow d k e.key with
    | some true=>some (some (i,e.val))
    | some false=>Instr.findNow d k ents (i+1)
    | none=>none)=_
   rw [hk,h1]
  ·rename_i hn;obtain⟨h1,_⟩:=B1r hn;have hf:Instr.findNow d k (e::ents) i=Instr.findNow d k ents (i+1):=by
    show (match Instr.sameNow d k e.key with
     | some true=>some (some (i,e.val))
     | some false=>Instr.findNow d k ents (i+1)
     | none=>none)=_
    rw [hk,h1]
   have ih:=A0t hr.2 h;cases j with
   | none=>exact hf.trans ih
   | some j=>
    obtain⟨n,x',e',k1,k2,k3,k4,k5,k6⟩:=ih;exact⟨n+1,x',e',by omega,by simpa using k2,by simpa using k3,k4,k5,hf.trans k6⟩
  ·cases h
theorem A4M {t e N clock:Nat} {m k:EV} {kv:Value} {es:List (Value × EV × Nat)} {j:Option Nat} (h:mapOf M t m k H=some (N,e,kv,es,clock,j)):
  ∃ kt d,M.P.underlying t=some (.map kt e)/\M.P.underlying kt=some d/\m=.o (.m N)/\k=.o (.l kv)/\MapKept.IsKey d kv/\H.t.get N=some (.m es clock)/\posK d kv es 0=some j:=by
 unfold mapOf at h;split at h
 ·rename_i kt d e' N' k' hk;obtain⟨h1,h2⟩:=B9W h;split at h2
  ·rename_i es' clock' he;split at h2
   ·rename_i j' hj;cases h2;unfold B7y at hk;split at hk
    ·rename_i k2 e2 hu;split at hk
     ·rename_i d2 hd;cases hk;exact⟨_,_,hu,hd,rfl,rfl,B3s h1,he,hj⟩
     ·cases hk
    ·cases hk
   ·cases h2
  ·cases h2
 ·cases h
theorem A4N {v:EV} {p:Bool × List EB} {u:Value} (h:B3c v=some p) (k:VR σ v u):TR σ p u:=by
 cases v with
 | o x=>cases h;exact⟨[u],⟨k,trivial⟩,.inr ⟨rfl,rfl⟩⟩
 | a xs=>cases h;obtain⟨cs,h1,h2⟩:=k;exact⟨cs,h1,.inl ⟨rfl,h2⟩⟩
 | t ys=>cases h
theorem M4 (v:Value):TR σ (false,[.l v]) v:=⟨[v],⟨rfl,trivial⟩,.inr ⟨rfl,rfl⟩⟩
theorem B3t {e:Nat} {d:TD} {v:EV} (ht:B4m P e d) (h:B7R d=some v):∃ z,(∀ w,(zeroValue e).run P w=.ok z w)/\∀ σ,VR σ v z:=by
 cases d with
 | none=>cases h
 | int k=>cases h;exact⟨_,D9 ht.2,fun _=>rfl⟩
 | str=>cases h;exact⟨_,D9 ht.2,fun _=>rfl⟩
 | bool=>cases h;exact⟨_,D9 ht.2,fun _=>rfl⟩
 | slice a s=>cases h;exact⟨_,D9 ht.2.1,fun _=>rfl⟩
 | one z=>cases h;exact⟨_,D9 ht.2.1,fun _=>rfl⟩
 | array n a s z=>cases h;exact⟨_,D9 ht.2.1,fun σ=>⟨_,V9 σ z,rfl⟩⟩
 | struct fs z=>cases h;exact⟨_,D9 ht.2,fun σ=>⟨_,V9 σ z,rfl⟩⟩
def A0X (P:Program) (s:Sem Value) (w0:World) (σ:Sg) (w:World) (v:EV) (H':Hp):Prop:=∃ v' w',s.run P w=.ok v' w'/\∃ τ,Ex σ τ/\VR τ v v'/\Rep w0 τ H' w'
theorem A9B (hM:MachOk M E) {t:Nat} {m k:EV} {ok:Bool} (h:A4F M t m k ok H K=true):∃ v H',K v H'=true/\∀ (w0:World) σ w um uk,Rep w0 σ H w->VR σ m um->VR σ k uk->A0X M.P (Instr.lookup t um uk ok) w0 σ w v H':=by
 unfold A4F at h;split at h
 ·rename_i N e kv es clock j hm;obtain⟨kt,d,hu,hd,rfl,rfl,hk,he,hp⟩:=A4M hm;split at h
  ·rename_i v hv;have main:∀ (w0:World) σ w um uk,Rep w0 σ H w->VR σ (.o (.m N)) um->VR σ (.o (.l kv)) uk->∃ u,VR σ v u/\(Instr.lookup t um uk ok).run M.P w=.ok (if ok then .tuple #[u,.bool j.isSome] else u) w:=fun w0 σ w um uk hR hum huk=>by
    obtain⟨q,hq,rfl⟩:=hum;cases huk;obtain⟨q',ents,h1,h2,h3,h4⟩:=hR.ent N _ he;rw [hq] at h1;cases h1;have hf:=A0t h4 hp;cases j with
    | none=>
     obtain⟨z,hz1,hz2⟩:=B3t (hM.lay.ty e) hv;refine⟨z,hz2 σ,?_⟩;simp [Instr.lookup,run_underlying hu,MapKept.run_getObj_map h3,MapKept.run_checkKey hd hk,MapKept.run_findKey hd hf,hz1,Result.andThen]
    | some i=>
     obtain⟨n,x,en,k1,k2,k3,k4,k5,k6⟩:=hf;rw [zm] at k1;subst k1;replace hv:(match es[i]? with
      | some x=>some x.2.1
      | none=>none)=some v:=hv
     rw [k2] at hv;cases hv;refine⟨en.val,k4.2.1,?_⟩;simp [Instr.lookup,run_underlying hu,MapKept.run_getObj_map h3,MapKept.run_checkKey hd hk,MapKept.run_findKey hd k6,Result.andThen]
   cases ok with
   | false=>
    rw [cond_false,A1J] at h;refine⟨v,H,h,fun w0 σ w um uk hR hum huk=>?_⟩;obtain⟨u,hu1,hu2⟩:=main w0 σ w um uk hR hum huk;exact⟨_,_,hu2,σ,Ex.refl _,hu1,hR⟩
   | true=>
    rw [cond_true] at h;split at h
    ·rename_i p hp';rw [A1J] at h;refine⟨_,H,h,fun w0 σ w um uk hR hum huk=>?_⟩;obtain⟨u,hu1,hu2⟩:=main w0 σ w um uk hR hum huk;exact⟨_,_,hu2,σ,Ex.refl _,⟨[u,.bool j.isSome],⟨A4N hp' hu1,M4 _,trivial⟩,rfl⟩,hR⟩
    ·cases h
  ·cases h
 ·cases h
theorem Rep.setObj (hR:Rep w0 σ H w) {Z Z':Ent} (he:H.t.get N=some Z) (hl:Z.live=true) {q:Pl} (hq:σ N=some q) {o o':Obj} (ho:w.heap[q.b]?=some o) (ht:∀ j,H'.t.get j=if j=N then some Z' else H.t.get j)
  (hE:EntR w0 σ { w with heap:=w.heap.setIfInBounds q.b o' } N Z'):Rep w0 σ H' { w with heap:=w.heap.setIfInBounds q.b o' }:=
 hR.turn he hl hq (by simp) ⟨rfl,rfl,rfl⟩ (fun b hb hlt=>(MapKept.heap_set ho).2 b hb) ht hE
theorem A9C {α:Type} (a:Array α) (i:Nat) (f:α->α) {e:α} (h:a[i]?=some e):(a.modify i f).toList=a.toList.set i (f e):=by
 apply List.ext_getElem?;intro j;rw [Array.getElem?_toList,Array.getElem?_modify,List.getElem?_set];by_cases hij:i=j
 ·subst hij;have hlt:i<a.size:=(Array.getElem?_eq_some_iff.1 h).1;rw [y6 rfl,y6 rfl,y6 (by simpa using hlt),h];rfl
 ·rw [y7 hij,y7 hij,Array.getElem?_toList]
theorem X1 {es es':List (Value × EV × Nat)} {clock clock':Nat} (he:H.t.get N=some (.m es clock)) (h:A0r N es' clock' H K=true):∃ H',K (lit undef) H'=true/\∀ (w0:World) σ w q ents ents',Rep w0 σ H w->σ N=some q->w.heap[q.b]?=some (.map ents clock)->All2 (MR σ) es' ents'.toList->Rep w0 σ H' { w with heap:=w.heap.setIfInBounds q.b (.map ents' clock') }:=by unfold A0r at h;rw [X9,V8] at h;obtain⟨t',h1,h2⟩:=Tr.setK_ok _ _ _ _ h;refine⟨_,h1,fun w0 σ w q ents ents' hR hq hb ha=>?_⟩;obtain⟨q',_,k1,k2,_,_⟩:=hR.ent N _ he;rw [hq] at k1;cases k1;exact hR.setObj (H':=⟨t',H.n⟩) he rfl hq hb h2 ⟨q,ents',hq,k2,(MapKept.heap_set hb).1,ha⟩
theorem A9D {t:Nat} {m k v:EV} (h:A4G M t m k v H K=true):∃ H',K (lit undef) H'=true/\∀ (w0:World) σ w um uk u,Rep w0 σ H w->VR σ m um->VR σ k uk->VR σ v u->∃ w',(Instr.mapUpdate t um uk u).run M.P w=.ok () w'/\Rep w0 σ H' w':=by
 unfold A4G at h;split at h
 ·rename_i N e kv es clock j hm;obtain⟨kt,d,hu,hd,rfl,rfl,hk,he,hp⟩:=A4M hm;split at h
  ·rename_i i;split at h
   ·rename_i x hx;obtain⟨H',h1,h2⟩:=X1 he h;refine⟨H',h1,fun w0 σ w um uk u hR hum huk hv=>?_⟩;obtain⟨q,hq,rfl⟩:=hum;cases huk;obtain⟨q',ents,k1,k2,k3,k4⟩:=hR.ent N _ he;rw [hq] at k1;cases k1;obtain⟨n,x',en,m1,m2,m3,m4,m5,m6⟩:=A0t k4 hp;rw [zm] at m1;subst m1;rw [hx] at m2;cases m2;have hj:ents[i]?=some en:=by simpa using m3
    have hst:=MapKept.run_keyThatStays (P:=M.P) (w:=w) (d:=d) hk;refine⟨_,?_,h2 w0 σ w q ents (ents.modify i fun e=>{ e with key:=kv,val:=u }) hR hq k3 ?_⟩
    ·simp [Instr.mapUpdate,run_underlying hu,MapKept.run_getObj_map k3,MapKept.run_checkKey hd hk,MapKept.run_findKey hd m6,hj,m5,hst,MapKept.run_setObj_map _ k3,Result.andThen]
    ·rw [A9C _ _ _ hj];exact k4.set (a:=(kv,v,x.2.2)) (b:={ en with key:=kv,val:=u }) ⟨rfl,hv,m4.2.2⟩ i
   ·cases h
  ·obtain⟨H',h1,h2⟩:=X1 he h;refine⟨H',h1,fun w0 σ w um uk u hR hum huk hv=>?_⟩;obtain⟨q,hq,rfl⟩:=hum;cases huk;obtain⟨q',ents,k1,k2,k3,k4⟩:=hR.ent N _ he;rw [hq] at k1;cases k1;have hf:=A0t k4 hp;refine⟨_,?_,h2 w0 σ w q ents (ents.push { key:=kv,val:=u,born:=clock }) hR hq k3 ?_⟩
   ·simp [Instr.mapUpdate,run_underlying hu,MapKept.run_getObj_map k3,MapKept.run_checkKey hd hk,MapKept.run_findKey hd hf,MapKept.run_setObj_map _ k3,Result.andThen]
   ·rw [Array.toList_push];exact All2.append k4 ⟨⟨rfl,hv,rfl⟩,trivial⟩
 ·cases h
theorem All2.erase {α β:Type} {R:α->β->Prop}:∀ {al:List α} {bs:List β},All2 R al bs->∀ i,All2 R (al.eraseIdx i) (bs.eraseIdx i)
 | [],[],_,_=>trivial
 | a::al,b::bs,h,0=>h.2
 | a::al,b::bs,h,i+1=>⟨h.1,All2.erase h.2 i⟩
theorem A9E {t kt':Nat} {m k:EV} (h:A6g M t m k H K=true):∃ H',K (lit undef) H'=true/\∀ (w0:World) σ w um uk T,Rep w0 σ H w->VR σ m um->VR σ k uk->∃ w',(Builtin.delete_ #[t,kt'] T #[um,uk]).run M.P w=.ok (.tuple #[]) w'/\Rep w0 σ H' w':=by
 unfold A6g at h;split at h
 ·rename_i N e kv es clock j hm;obtain⟨kt,d,hu,hd,rfl,rfl,hk,he,hp⟩:=A4M hm;split at h
  ·rename_i i;obtain⟨H',h1,h2⟩:=X1 he h;refine⟨H',h1,fun w0 σ w um uk T hR hum huk=>?_⟩;obtain⟨q,hq,rfl⟩:=hum;cases huk;obtain⟨q',ents,k1,k2,k3,k4⟩:=hR.ent N _ he;rw [hq] at k1;cases k1;obtain⟨n,x',en,m1,m2,m3,m4,m5,m6⟩:=A0t k4 hp;rw [zm] at m1;subst m1;refine⟨_,?_,h2 w0 σ w q ents (ents.eraseIdxIfInBounds i) hR hq k3 ?_⟩
   ·simp [Builtin.delete_,run_underlying hu,MapKept.run_getObj_map k3,MapKept.run_checkKey hd hk,MapKept.run_findKey hd m6,MapKept.run_setObj_map _ k3,Result.andThen]
   ·have hlt:i<ents.size:=by have:=(List.getElem?_eq_some_iff.1 m3).1;simpa using this
    unfold Array.eraseIdxIfInBounds;rw [dif_pos hlt,Array.toList_eraseIdx];exact k4.erase i
  ·obtain⟨H',h1,h2⟩:=X1 he h;refine⟨H',h1,fun w0 σ w um uk T hR hum huk=>?_⟩;obtain⟨q,hq,rfl⟩:=hum;cases huk;obtain⟨q',ents,k1,k2,k3,k4⟩:=hR.ent N _ he;rw [hq] at k1;cases k1;have hf:=A0t k4 hp;refine⟨_,?_,h2 w0 σ w q ents ents hR hq k3 k4⟩;simp [Builtin.delete_,run_underlying hu,MapKept.run_getObj_map k3,MapKept.run_checkKey hd hk,MapKept.run_findKey hd hf,MapKept.run_setObj_map _ k3,Result.andThen]
 ·cases h
theorem Rep.newObj (hR:Rep w0 σ H w) {Z:Ent} {o:Obj} (hN:H.t.get N=Option.none) (ht:∀ j,H'.t.get j=if j=N then some Z else H.t.get j) (hE:EntR w0 (A3H σ N ⟨w.heap.size,0,0⟩) (w.alloc o) N Z):Rep w0 (A3H σ N ⟨w.heap.size,0,0⟩) H' (w.alloc o):=
 hR.new ⟨w.heap.size,0,0⟩ ((Below.refl _ w).alloc (zc _) _) (zc _) hN ht hE
theorem A6i {nm:Option Nat} {t:Nat} (h:B4d nm (.m [] 0) H (fun N H=>K (.o (.m N)) H)=true):∃ v H',K v H'=true/\∀ (w0:World) σ w,Rep w0 σ H w->A0X P (Instr.makeMap t none) w0 σ w v H':=by obtain⟨N,H',h1,h2,h3⟩:=A4J h;refine⟨_,H',h1,fun w0 σ w hR=>⟨_,_,run_makeMap t w,A3H σ N ⟨w.heap.size,0,0⟩,O9 hR h2 _,⟨⟨w.heap.size,0,0⟩,y6 rfl,rfl⟩,hR.newObj h2 h3 ⟨⟨w.heap.size,0,0⟩,#[],y6 rfl,hR.below.size,heap_alloc_new w _,trivial⟩⟩⟩
theorem B1s {nm:Option Nat} {t:Nat} {m:EV} (h:A7r M nm t m H K=true):∃ v H',K v H'=true/\∀ (w0:World) σ w um,Rep w0 σ H w->VR σ m um->A0X M.P (Instr.range t um) w0 σ w v H':=by
 unfold A7r at h;split at h
 ·rename_i N hk;split at h
  ·rename_i es clock he;obtain⟨N',H',h1,h2,h3⟩:=A4J h;refine⟨_,H',h1,fun w0 σ w um hR hum=>?_⟩;obtain⟨q,hq,rfl⟩:=hum;obtain⟨q',ents,k1,k2,k3,k4⟩:=hR.ent N _ he;rw [hq] at k1;cases k1;have hu:∃ k e,M.P.underlying t=some (.map k e):=by
    unfold B7y at hk;split at hk
    ·rename_i hu;exact⟨_,_,hu⟩
    ·cases hk
   obtain⟨kt,e,hu⟩:=hu;have hx:=O9 hR h2 ⟨w.heap.size,0,0⟩;exact⟨_,_,run_range_map w t kt e q.b ents clock hu k3,_,hx,⟨_,y6 rfl,rfl⟩,hR.newObj h2 h3 ⟨_,q,y6 rfl,hx _ _ hq,hR.below.size,rfl,heap_alloc_new w _⟩⟩
  ·cases h
 ·cases h
theorem B84 (a b:Nat):Nat.beq a b=(a==b):=by rw [Bool.eq_iff_iff,beq_iff_eq];exact⟨z8,fun h=>by rw [h];exact Nat.beq_refl b⟩
theorem A6j (n:Nat):∀ l:List Nat,B7S n l=l.contains n
 | []=>rfl
 | x::l=>by show (Nat.beq n x||B7S n l)=_;rw [A6j n l,List.contains_cons,B84]
theorem All2.filter {α β:Type} {R:α->β->Prop} {p:α->Bool} {r:β->Bool} (hp:∀ a b,R a b->p a=r b):∀ {al:List α} {bs:List β},All2 R al bs->All2 R (al.filter p) (bs.filter r)
 | [],[],_=>trivial
 | a::al,b::bs,h=>by
  rw [List.filter_cons,List.filter_cons,hp a b h.1];cases r b with
  | true=>exact⟨h.1,All2.filter hp h.2⟩
  | false=>exact All2.filter hp h.2
theorem All2.none {α β:Type} {R:α->β->Prop} {us:List β} (h:All2 R [] us):us=[]:=by
 cases us with
 | nil=>rfl
 | cons u us=>exact h.elim
theorem All2.mem {α β:Type} {R:α->β->Prop}:∀ {al:List α} {bs:List β},All2 R al bs->∀ b∈bs,∃ a∈al,R a b
 | [],[],_,b,hb=>by cases hb
 | a::al,c::bs,h,b,hb=>by
  cases hb with
  | head=>exact⟨a,zu ..,h.1⟩
  | tail _ hb=>
   obtain⟨a',h1,h2⟩:=All2.mem h.2 b hb;exact⟨a',zt _ h1,h2⟩
theorem B3u {it:EV} {s:Bool} {T:Nat} (h:B3d it s H K=true):∃ v H',K v H'=true/\∀ (w0:World) σ w u,Rep w0 σ H w->VR σ it u->A0X P (Instr.next u s T) w0 σ w v H':=by
 unfold B3d at h;split at h
 ·rename_i N;split at h
  ·rename_i Mp since seen c0 he;split at h
   ·rename_i es clock hm;obtain⟨h1,h2⟩:=B6 h;rw [z7] at h1;have hsc:=ze h1.2;have common:∀ (w0:World) σ w u,Rep w0 σ H w->VR σ (.o (.p N 0)) u->∃ q r ents,σ N=some q/\σ Mp=some r/\u=.pointer (some ⟨q.b,0,none⟩)/\w.heap[q.b]?=some (.mapIter (some r.b) since seen.toArray c0)/\w.heap[r.b]?=some (.map ents clock)/\All2 (MR σ) es ents.toList/\(∀ x∈ents.toList,x.born<since)/\
      All2 (MR σ) (es.filter fun x=>not (B7S x.2.2 seen)) (leftOf ents seen.toArray).toList/\w0.heap.size<=q.b/\q.o=0:=fun w0 σ w u hR hu=>by
     obtain⟨q,hq,rfl⟩:=hu;obtain⟨q',r,k1,k2,k3,k4,k5⟩:=hR.ent N _ he;rw [hq] at k1;cases k1;obtain⟨r',ents,m1,m2,m3,m4⟩:=hR.ent Mp _ hm;rw [k2] at m1;cases m1;refine⟨q,r,ents,hq,k2,by rw [k4];rfl,k5,m3,m4,fun x hx=>?_,?_,k3,k4⟩
     ·obtain⟨y,hy1,hy2⟩:=m4.mem x hx;rw [hy2.2.2];have:=A4L h1.1 y hy1;exact ze this
     ·unfold leftOf;rw [Array.toList_filter];exact m4.filter fun a b hab=>by rw [A6j,hab.2.2];simp
    split at h2
    ·rename_i hf;refine⟨_,H,h2,fun w0 σ w u hR hu=>?_⟩;obtain⟨q,r,ents,k1,k2,rfl,k4,k5,k6,k7,k8,k9,k10⟩:=common w0 σ w u hR hu;rw [hf] at k8;have hnil:=k8.none;rcases run_next_at (P:=P) w T q.b r.b since c0 seen.toArray ents clock k4 k5 k7 hsc with ⟨_,hr⟩ | ⟨e,hmem,_⟩
     ·exact⟨_,_,hr,σ,Ex.refl _,⟨[.bool false],⟨M4 _,trivial⟩,rfl⟩,hR⟩
     ·rw [hnil] at hmem;cases hmem
    ·rename_i x hf;split at h2
     ·rename_i p hp;rw [X9] at h2;obtain⟨t',m1,m2⟩:=Tr.setK_ok _ _ _ _ h2;refine⟨_,_,m1,fun w0 σ w u hR hu=>?_⟩;obtain⟨q,r,ents,k1,k2,rfl,k4,k5,k6,k7,k8,k9,k10⟩:=common w0 σ w u hR hu;rw [hf] at k8;obtain⟨e,hone,hxe⟩:=k8.one;rcases run_next_at (P:=P) w T q.b r.b since c0 seen.toArray ents clock k4 k5 k7 hsc with ⟨h0,_⟩ | ⟨e',hmem,w1,hw1,hr⟩
      ·exfalso;have:(leftOf ents seen.toArray).toList.length=0:=by simpa using h0
       rw [hone] at this;cases this
      ·rw [hone] at hmem;have:e'=e:=by simpa using hmem
       subst this;refine⟨_,_,hr,σ,Ex.refl _,⟨[.bool true,e'.key,e'.val],⟨M4 _,?_,A4N hp hxe.2.1,trivial⟩,rfl⟩,?_⟩
       ·rw [hxe.1];exact M4 _
       ·have key:∀ w1,Rep w0 σ H w1->w1.heap[q.b]?=some (.mapIter (some r.b) since seen.toArray c0)->Rep w0 σ ⟨t',H.n⟩ (ChangeMaps.setBlock w1 q.b (.mapIter (some r.b) since (seen.toArray.push e'.born) clock)):=fun w1 hR1 hb=>
         hR1.setObj (H':=⟨t',H.n⟩) he rfl k1 hb m2 ⟨q,r,k1,k2,k9,k10,by rw [(MapKept.heap_set hb).1,hxe.2.2];simp⟩
        rcases hw1 with rfl | rfl
        ·exact key _ hR k4
        ·exact key _ hR.drew k4
     ·cases h2
    ·cases h2
   ·cases h
  ·cases h
 ·cases h
theorem B1t {it:EV} (h:A7s it H K=true):∃ v H',K v H'=true/\∀ (w0:World) σ w u,Rep w0 σ H w->VR σ it u->A0X P (Instr.entry u) w0 σ w v H':=by
 unfold A7s at h;split at h
 ·rename_i N;split at h
  ·rename_i Mp since seen c0 he;split at h
   ·rename_i es clock b hm hb;obtain⟨h1,h2⟩:=B6 h;have hcl:=z8 h1;split at h2
    ·rename_i x hf;split at h2
     ·rename_i p hp;rw [A1J] at h2;refine⟨_,H,h2,fun w0 σ w u hR hu=>?_⟩;obtain⟨q,hq,rfl⟩:=hu;obtain⟨q',r,k1,k2,k3,k4,k5⟩:=hR.ent N _ he;rw [hq] at k1;cases k1;obtain⟨r',ents,m1,m2,m3,m4⟩:=hR.ent Mp _ hm;rw [k2] at m1;cases m1;have hfl:All2 (MR σ) [x] (ents.toList.filter fun e=>e.born==b):=by rw [<-hf];exact m4.filter fun a e hae=>by rw [hae.2.2,B84]
      obtain⟨e,hone,hxe⟩:=hfl.one;have hfind:ents.find? (fun e=>e.born==b)=some e:=by rw [<-Array.find?_toList,<-List.head?_filter,hone];rfl
      have hbk:seen.toArray.back?=some b:=by rw [List.back?_toArray];exact hb
      subst hcl;refine⟨.tuple #[e.key,e.val],w,?_,σ,Ex.refl _,⟨[e.key,e.val],⟨?_,A4N hp hxe.2.1,trivial⟩,rfl⟩,hR⟩
      ·rw [show q.o+0=0 from k4];simp [Instr.entry,getObj,Sem.run,k5,m3,hbk,hfind,Result.andThen]
      ·rw [hxe.1];exact M4 _
     ·cases h2
    ·cases h2
   ·cases h
  ·cases h
 ·cases h
end
end Go.Vx
end
