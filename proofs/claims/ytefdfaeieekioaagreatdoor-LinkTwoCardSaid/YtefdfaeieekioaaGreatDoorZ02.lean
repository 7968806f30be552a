import Derived.Test.YtefdfaeieekioaaGreatDoorZ01
import Derived.Still
import Derived.Test.YtefdfaeieekioaaGreatDoorProg
import Ieee.Arith
import GoSem.Core.Float
import Derived.OwnWalk
import Derived.WalkSpells
import Derived.Laws.IdiomStrings
import Derived.Lib.AtoiErrMem
import Derived.Laws.BitsLemmas
set_option maxRecDepth 100000
set_option maxHeartbeats 40000000
set_option linter.unusedVariables false
set_option linter.unusedSimpArgs false
section
namespace Go.Vc
open Go Go.RowKit
section
variable {P:Program} {ops:Array Oper} {C:World->Prop}
def YieldsC (P:Program) (ops:Array Oper) (C:World->Prop) (o:Oper) (v:Value) (a:Act):Prop:=
 (Region.wanted o (yielded ops a.tmps)=true/\∀ w,C w->(execOp a.eval o).run P w=.ok (.value v) w)\/
 (Region.wanted o (yielded ops a.tmps)=false/\v=undef)
theorem YieldsC.of_same {o:Oper} {v:Value} {a a':Act} (hy:YieldsC P ops C o v a) (he:execOp a'.eval o=execOp a.eval o)
  (hw:Region.wanted o (yielded ops a'.tmps)=Region.wanted o (yielded ops a.tmps)):YieldsC P ops C o v a':=by
 unfold YieldsC at*;rw [he,hw];exact hy
theorem YieldsC.wpOp {i:Nat} {o:Oper} {v:Value} {a:Act} {Q:Exit->Act->World->Prop} (hi:ops[i]?=some o) (hy:YieldsC P ops C o v a)
  {K:Act->World->Prop} {w:World} (hC:C w) (h:K (a.put o.dst v) w):wpOp P ops Q i K a w:=by
 unfold Go.wpOp;simp only [hi];rcases hy with ⟨hw,hv⟩ | ⟨hw,rfl⟩
 ·simp only [hw,if_true,Oper.wp,hv w hC,Oper.upon];exact .inl h
 ·simp only [hw,Bool.false_eq_true,if_false];exact h
theorem A9W {Q:Exit->Act->World->Prop} {j:Nat} {oi oj:Oper} {v:Value} (hj:ops[j]?=some oj) (hap:oi.apart ops oj=true)
  (hsi:∀ cs b,oi.op≠.select cs b) (hsj:∀ cs b,oj.op≠.select cs b)
  (hQ:∀ c a w,Q (.panic c) (a.put oi.dst v) w->Q (.panic c) a w) {K:Act->World->Prop} {a:Act} {w:World}
  (hy:YieldsC P ops C oi v a) (h:wpOp P ops Q j K (a.put oi.dst v) w):
  wpOp P ops Q j (fun a' w'=>YieldsC P ops C oi v a'/\K (a'.put oi.dst v) w') a w:=by
 obtain⟨h1,h2,h3⟩:=Oper.apart_spec hap;have keep:∀ (a:Act),YieldsC P ops C oi v a->∀ u,YieldsC P ops C oi v (a.put oj.dst u):=fun a hy u=>
  hy.of_same (execOp_put oi hsi a oj.dst u h3) (wanted_put oi a oj.dst u h3)
 have keepD:∀ d,YieldsC P ops C oi v { a with defers:=d::a.defers }:=fun d=>hy.of_same rfl rfl;unfold Go.wpOp at*;simp only [hj] at*;rw [wanted_put oj a oi.dst v h1] at h;split
 ·rename_i hw;simp only [hw,if_true] at h;rcases h with h | ⟨hasks,hlets⟩
  case inr=>exact .inr ⟨by unfold Oper.asks at *;rw [execOp_put oj hsj a oi.dst v h1] at hasks;exact hasks,hlets⟩
  refine .inl ?_;unfold Oper.wp at*;rw [execOp_put oj hsj a oi.dst v h1] at h;generalize (execOp a.eval oj).run P w=r at*;cases r with
  | ok n w'=>
   cases n<;>simp only [Oper.upon] at h ⊢
   case value u=>exact⟨keep a hy u,by rw [<-Act.put_comm a v u h2];exact h⟩
   case skip=>exact⟨keep a hy _,by rw [<-Act.put_comm a v undef h2];exact h⟩
   case defer d=>
    refine⟨keep _ (keepD d) _,?_⟩;rw [<-Act.put_comm _ v undef h2,<-Act.put_defers];exact h
   case enter f args=>
    refine Calls.mono h fun e w'' he=>?_;cases e with
    | returned u=>exact⟨keep a hy u,by rw [<-Act.put_comm a v u h2];exact he⟩
    | panicked c=>exact hQ _ _ _ he
    | outgrown=>exact he
   case row row args=>exact Rows.mono h fun u w'' he=>⟨keep a hy u,by rw [<-Act.put_comm a v u h2];exact he⟩
  | halt x w'=>
   cases x<;>simp only [Oper.upon] at h ⊢
   case panic u=>exact hQ _ _ _ h
 ·rename_i hw;simp only [hw] at h;exact⟨keep a hy _,by rw [<-Act.put_comm a v undef h2];exact h⟩
def Z9 (ops:Array Oper) (i:Nat):Bool:=
 match ops[i]? with
 | some o=>(List.range ops.size).all fun j=>Nat.beq j i||o.after.toList.any fun e=>Region.binds .any e&&Nat.beq e.on j
 | none=>false
theorem A56 {ops:Array Oper} {j:Nat} {oj:Oper} (h:Z9 ops j=true) (hj:ops[j]?=some oj) {i:Nat} (hi:i<ops.size) (hne:i≠j):∃ e∈oj.after,Region.binds .any e=true/\e.on=i:=by
 unfold Z9 at h;rw [hj] at h;have h1:=List.all_eq_true.1 h i (List.mem_range.2 hi);simp only [Bool.or_eq_true] at h1;rcases h1 with h1 | h1
 ·exact absurd (z8 h1) hne
 ·obtain⟨e,he,h2⟩:=List.any_eq_true.1 h1;simp only [z7] at h2;exact⟨e,by simpa using he,h2.1,z8 h2.2⟩
def A0A (P:Program) (ops:Array Oper) (C:World->Prop) (Q:Exit->Act->World->Prop):Nat->Array Bool->Act->World->Prop
 | 0,listed,a,w=>Region.ready .any ops listed=[]/\Q .normal a w
 | fuel+1,listed,a,w=>
  (Region.ready .any ops listed=[]->Q .normal a w)/\
  ∀ i∈Region.ready .any ops listed,wpOp P ops Q i (fun a' w'=>(Z9 ops i=true\/C w')/\A0A P ops C Q fuel (listed.setIfInBounds i true) a' w') a w
theorem A2w {Q:Exit->Act->World->Prop}:∀ (fuel:Nat) (listed:Array Bool) (a:Act) (w:World),A0A P ops C Q fuel listed a w->wpAny P .any ops Q fuel listed a w
 | 0,_,_,_,h=>h
 | fuel+1,listed,a,w,h=>⟨h.1,fun i hi=>wpOp_mono (fun a' w' hh=>A2w fuel _ a' w' hh.2) (h.2 i hi)⟩
theorem A9X {Q:Exit->Act->World->Prop} {i:Nat} {oi:Oper} {v:Value} (hi:ops[i]?=some oi) (hsel:∀ (j:Nat) (o:Oper) cs b,ops[j]?=some o->o.op≠.select cs b)
  (hQ:∀ c a w,Q (.panic c) (a.put oi.dst v) w->Q (.panic c) a w):
  ∀ (fuel:Nat) (listed:Array Bool) (a:Act) (w:World),C w->
   (∀ j oj,ops[j]?=some oj->j≠i->listed.getD j true=false->(∀ e∈oj.after,Region.binds .any e=true->e.on≠i)->oi.apart ops oj=true)->
   i∈Region.ready .any ops listed->YieldsC P ops C oi v a->
   A0A P ops C Q fuel (listed.setIfInBounds i true) (a.put oi.dst v) w->A0A P ops C Q (fuel+1) listed a w:=by
 intro fuel;induction fuel with
 | zero=>
  intro listed a w hC _ hr hy H;refine⟨fun h=>(by rw [h] at hr;cases hr),fun j hj=>?_⟩;by_cases hji:j=i
  ·subst hji;exact hy.wpOp hi hC ⟨.inr hC,H⟩
  ·have:=ready_mono hj hji;rw [H.1] at this;cases this
 | succ fuel ih=>
  intro listed a w hC hfree hr hy H;refine⟨fun h=>(by rw [h] at hr;cases hr),fun j hj=>?_⟩;by_cases hji:j=i
  ·subst hji;exact hy.wpOp hi hC ⟨.inr hC,H⟩
  ·have h1:=H.2 j (ready_mono hj hji);obtain⟨hjun,oj,hoj,hall⟩:=mem_ready.1 hj;have hnot:∀ e∈oj.after,Region.binds .any e=true->e.on≠i:=fun e he hb heq=>by
    have h1:=hall e he hb;have h0:=(mem_ready.1 hr).1;rw [heq] at h1;rcases zl i listed.size with h' | h'
    ·simp [h'] at h0 h1;rw [h0] at h1;cases h1
    ·simp [Array.getElem?_eq_none h'] at h1
   have h2:=A9W hoj (hfree j oj hoj hji hjun hnot) (fun cs b=>hsel i oi cs b hi) (fun cs b=>hsel j oj cs b hoj) hQ hy h1;have hfree':∀ k ok,ops[k]?=some ok->k≠i->(listed.setIfInBounds j true).getD k true=false->
     (∀ e∈ok.after,Region.binds .any e=true->e.on≠i)->oi.apart ops ok=true:=fun k ok hk hki hun hno=>by
    refine hfree k ok hk hki ?_ hno;by_cases hjk:j=k
    ·subst hjk;exact hjun
    ·rw [getD_set_ne true hjk] at hun;exact hun
   have hlt:i<ops.size:=by
    rcases zl i ops.size with h | h
    ·exact h
    ·rw [Array.getElem?_eq_none h] at hi;cases hi
   have hnc:¬ Z9 ops j=true:=fun hc=>by obtain⟨e,he,hb,heq⟩:=A56 hc hoj hlt (Ne.symm hji);exact hnot e he hb heq
   refine wpOp_mono (fun a' w' h3=>⟨h3.2.1,ih (listed.setIfInBounds j true) a' w' (h3.2.1.resolve_left hnc) hfree' (ready_mono hr (Ne.symm hji)) h3.1 ?_⟩) h2;rw [Array.setIfInBounds_comm _ _ hji];exact h3.2.2
end
inductive Sched where
 | fin
 | z (i:Nat)
 | q (i:Nat) (s:Sched)
 | n (i:Nat) (s t:Sched)
 | stop
noncomputable def Sched.Q (l:List Nat) (s:Sched):Sched:=List.rec (motive:=fun _=>Sched) s (fun i _ ih=>.q i ih) l
def Sched.isAlt:Sched->Bool
 | .n ..=>true
 | .stop=>true
 | _=>false
def Sched.isStop:Sched->Bool
 | .stop=>true
 | _=>false
def I1 (ops:Array Oper):Sched->Nat->Array Bool->List Nat->Bool
 | .fin,_,_,rem=>rem.isEmpty
 | .z i,fuel+1,listed,rem=>(rem.all fun j=>Nat.beq j i)&&rem.contains i&&Z9 ops i&&(Region.ready .any ops (listed.setIfInBounds i true)).isEmpty
 | .q i s,fuel+1,listed,rem=>rem.contains i&&Region.free .any ops listed i&&!s.isStop&&I1 ops s fuel (listed.setIfInBounds i true) (Region.ready .any ops (listed.setIfInBounds i true))
 | .n i s t,fuel+1,listed,rem=>rem.contains i&&!s.isStop&&t.isAlt&&I1 ops s fuel (listed.setIfInBounds i true) (Region.ready .any ops (listed.setIfInBounds i true))&&I1 ops t (fuel+1) listed (rem.filter (fun j=>!Nat.beq j i))
 | .stop,_,_,rem=>rem.isEmpty
 | _,_,_,_=>false
def A1b (ops:Array Oper) (s:Sched):Bool:=
 Region.noSelect ops&&!s.isStop&&I1 ops s ops.size (Array.replicate ops.size false) (Region.ready .any ops (Array.replicate ops.size false))
noncomputable def qOp (P:Program) (L:Lay) (C:World->Prop) (T:Nat) (op:Op) (f:Fr) (K:Value->Prop):Prop:=
 match op with
 | .load t x=>match L.ty t,ev f x with
  | .none,_=>False
  | .array _ _ _ z,.pointer (some a)=>∃ cs:List Value,cs.length=z.length/\(∀ w,C w->cellsAt w a cs 0)/\K (.agg cs.toArray)
  | .struct _ z,.pointer (some a)=>∃ cs:List Value,cs.length=z.length/\(∀ w,C w->cellsAt w a cs 0)/\K (.agg cs.toArray)
  | _,.pointer (some a)=>∃ v,(∀ w,C w->w.cell? a=some v)/\K v
  | _,_=>False
 | op=>pOp P L T op f K
noncomputable def gOp (ops0:List Oper) (o:Oper) (f:Fr) (yes:Nat->Op->Fr->Option Nat->Prop) (no:Fr->Prop):Prop:=
 match o with
 | ⟨dst,op,T,_,_,none⟩=>yes T op f dst
 | ⟨dst,op,T,_,_,some (j,want)⟩=>match G3 ops0 f j with
  | some (t,b)=>Bool.rec (motive:=fun _=>Prop)
    (cond want (N6 (upd f t (.bool false)) dst undef no) (yes T op (upd f t (.bool false)) dst))
    (cond want (yes T op (upd f t (.bool true)) dst) (N6 (upd f t (.bool true)) dst undef no)) b
  | none=>N6 f dst undef no
noncomputable def dV (P:Program) (L:Lay) (ops0:List Oper) (C:World->Prop) (s:Sched):Fr->World->(Fr->World->Prop)->Prop:=
 Sched.rec (motive:=fun _=>Fr->World->(Fr->World->Prop)->Prop)
  (fun f w K=>K f w)
  (fun i f w K=>match ops0[i]? with
   | some o=>gOp ops0 o f (fun T op f dst=>vOp P L T op f w fun v w'=>N6 f dst v fun f'=>K f' w') (fun f'=>K f' w)
   | none=>False)
  (fun i _ ih f w K=>match ops0[i]? with
   | some o=>gOp ops0 o f (fun T op f dst=>qOp P L C T op f fun v=>N6 f dst v fun f'=>ih f' w K) (fun f'=>ih f' w K)
   | none=>False)
  (fun i _ _ ihs iht f w K=>(match ops0[i]? with
   | some o=>gOp ops0 o f (fun T op f dst=>vOp P L T op f w fun v w'=>C w'/\N6 f dst v fun f'=>ihs f' w' K) (fun f'=>ihs f' w K)
   | none=>False)/\iht f w K)
  (fun _ _ _=>True) s
section
variable {P:Program} {L:Lay} {C:World->Prop}
theorem A9Y (hL:L.Ok P) (T:Nat) (op:Op) (f:Fr) (K:Value->Prop) (h:qOp P L C T op f K)
  (dst:Option Nat) (pos:String) (after:Array Edge) (g:Option (Nat × Bool)):∃ v,(∀ w,C w->(execOp (ev f) ⟨dst,op,T,pos,after,g⟩).run P w=.ok (.value v) w)/\K v:=by
 have pure_:pOp P L T op f K->∃ v,(∀ w,C w->(execOp (ev f) ⟨dst,op,T,pos,after,g⟩).run P w=.ok (.value v) w)/\K v:=by intro hp;obtain⟨v,h1,h2⟩:=A4f hL T op f _ hp dst pos after g;exact⟨v,fun w _=>h1 w,h2⟩
 cases op
 case load t x=>
  have ht:=hL.ty t;simp only [qOp] at h;simp only [execOp];generalize hd:L.ty t=d at h ht;have key:∀ (a:Addr) (v:Value),ev f x=.pointer (some a)->(∀ w,C w->(loadVar t a).run P w=.ok v w)->K v->
    ∃ v,(∀ w,C w->((do pure (.value (<-Instr.loadAt t (ev f x))):Sem Next)).run P w=.ok (.value v) w)/\K v:=by
   intro a v e hr hk;exact⟨v,fun w hw=>by simp [Instr.loadAt,e,Instr.sureAddr,hr w hw],hk⟩
  generalize hx:ev f x=vx at h key;cases vx with
  | pointer p=>
   cases p with
   | none=>cases d<;>exact h.elim
   | some a=>
    cases d with
    | none=>exact h.elim
    | array n e esz z=>
     obtain⟨cs,h1,h2,h3⟩:=h;exact key a _ rfl (fun w hw=>J3 ht.1 rfl (A1Y ht.2.1) h1 (h2 w hw)) h3
    | struct fs z=>
     obtain⟨cs,h1,h2,h3⟩:=h;obtain⟨⟨F,hu,_⟩,hz⟩:=ht;exact key a _ rfl (fun w hw=>J3 hu rfl (A1Y hz) h1 (h2 w hw)) h3
    | int k=>obtain⟨v,h1,h2⟩:=h;exact key a _ rfl (fun w hw=>C1 ht.1 rfl (h1 w hw)) h2
    | str=>obtain⟨v,h1,h2⟩:=h;exact key a _ rfl (fun w hw=>C1 ht.1 rfl (h1 w hw)) h2
    | bool=>obtain⟨v,h1,h2⟩:=h;exact key a _ rfl (fun w hw=>C1 ht.1 rfl (h1 w hw)) h2
    | slice e s=>obtain⟨v,h1,h2⟩:=h;exact key a _ rfl (fun w hw=>C1 ht.1 rfl (h1 w hw)) h2
    | one z=>obtain⟨v,h1,h2⟩:=h;obtain⟨⟨u,hu,hg⟩,_⟩:=ht;exact key a _ rfl (fun w hw=>C1 hu hg (h1 w hw)) h2
  | _=>cases d<;>exact h.elim
 all_goals exact pure_ h
theorem A1c {n:Nat} {a:Act} {f:Fr} (hA:Agree n a f) {ops0:List Oper} {o:Oper} {yes:Nat->Op->Fr->Option Nat->Prop} {no:Fr->Prop} (h:gOp ops0 o f yes no):
  (Region.wanted o (yielded ops0.toArray a.tmps)=true/\yes o.type o.op f o.dst)\/(Region.wanted o (yielded ops0.toArray a.tmps)=false/\no (B6P f o.dst undef)):=by
 obtain⟨dst,op,T,pos,after,guard⟩:=o;cases guard with
 | none=>exact .inl ⟨rfl,h⟩
 | some g=>
  obtain⟨j,want⟩:=g;have h':(match G3 ops0 f j with
    | some (t,b)=>Bool.rec (motive:=fun _=>Prop)
      (cond want (N6 (upd f t (.bool false)) dst undef no) (yes T op (upd f t (.bool false)) dst))
      (cond want (yes T op (upd f t (.bool true)) dst) (N6 (upd f t (.bool true)) dst undef no)) b
    | none=>N6 f dst undef no):=h
  cases hg:G3 ops0 f j with
  | none=>rw [hg] at h';simp only [H4] at h';exact .inr ⟨A2v hA hg,h'⟩
  | some tb=>
   obtain⟨t,b⟩:=tb;rw [hg] at h';simp only at h';obtain⟨hu,hw⟩:=A78 hA hg (dst:=dst) (op:=op) (T:=T) (pos:=pos) (after:=after) (want:=want);cases b<;>cases want<;>simp only [cond_true,cond_false,hu,H4] at h'
   ·exact .inl ⟨hw,h'⟩
   ·exact .inr ⟨hw,h'⟩
   ·exact .inr ⟨hw,h'⟩
   ·exact .inl ⟨hw,h'⟩
theorem A9Z {n:Nat} (l:List Oper):Y1 n l=true->∀ (i:Nat) (o:Oper),l[i]?=some o->(match o.dst with | some t=>Nat.blt t n | none=>true)=true:=by
 induction l with
 | nil=>intro _ i o h;simp at h
 | cons x r ih=>
  intro h i o hi;simp only [Y1,z7] at h;cases i with
  | zero=>
   simp only [List.getElem?_cons_zero,Option.some.injEq] at hi;rw [<-hi];exact h.1
  | succ i=>exact ih h.2 i o (by simpa using hi)
def A2j (n:Nat) (K:Fr->World->Prop) (e:Exit) (a:Act) (w:World):Prop:=e=.normal/\∃ f',Agree n a f'/\K f' w
theorem B2G (hL:L.Ok P) (n:Nat) (ops0:List Oper) (hd:Y1 n ops0=true) (hs:Region.noSelect ops0.toArray=true) (K:Fr->World->Prop):
  ∀ (s:Sched) (fuel:Nat) (listed:Array Bool) (rem:List Nat) (a:Act) (f:Fr) (w:World),C w->Agree n a f->I1 ops0.toArray s fuel listed rem=true->dV P L ops0 C s f w K->
   (s.isStop=false->rem=Region.ready .any ops0.toArray listed->A0A P ops0.toArray C (A2j n K) fuel listed a w)/\
   (s.isAlt=true->∀ i∈rem,∃ fuel',fuel=fuel'+1/\wpOp P ops0.toArray (A2j n K) i (fun a' w'=>(Z9 ops0.toArray i=true\/C w')/\A0A P ops0.toArray C (A2j n K) fuel' (listed.setIfInBounds i true) a' w') a w):=by
 have hQ:∀ (d:Option Nat) (v:Value) (c:List PanicEntry) (a:Act) (w:World),A2j n K (.panic c) (a.put d v) w->A2j n K (.panic c) a w:=fun d v c a w h=>by cases h.1
 intro s;induction s with
 | fin=>
  intro fuel listed rem a f w hC hA hk h;refine⟨fun _ hr=>?_,fun h=>by cases h⟩;have hrem:rem=[]:=by simpa [I1] using hk
  rw [hrem] at hr;cases fuel with
  | zero=>exact⟨hr.symm,rfl,f,hA,h⟩
  | succ fuel=>exact⟨fun _=>⟨rfl,f,hA,h⟩,fun i hi=>by rw [<-hr] at hi;cases hi⟩
 | z i=>
  intro fuel listed rem a f w hC hA hk h;refine⟨fun _ hr=>?_,fun h=>by cases h⟩;cases fuel with
  | zero=>cases hk
  | succ fuel=>
   simp only [I1,z7] at hk;obtain⟨⟨⟨k1,k2⟩,k3⟩,k4⟩:=hk;have k4':Region.ready .any ops0.toArray (listed.setIfInBounds i true)=[]:=by simpa using k4
   have h':(match ops0[i]? with
    | some o=>gOp ops0 o f (fun T op f dst=>vOp P L T op f w fun v w'=>N6 f dst v fun f'=>K f' w') (fun f'=>K f' w)
    | none=>False):=h
   have fin_:∀ a' w' f',Agree n a' f'->K f' w'->A0A P ops0.toArray C (A2j n K) fuel (listed.setIfInBounds i true) a' w':=by
    intro a' w' f' hA' hK;cases fuel with
    | zero=>exact⟨k4',rfl,f',hA',hK⟩
    | succ fuel=>exact⟨fun _=>⟨rfl,f',hA',hK⟩,fun j hj=>by rw [k4'] at hj;cases hj⟩
   refine⟨fun h0=>(by rw [hr,h0] at k2;cases k2),fun j hj=>?_⟩;rw [<-hr] at hj;obtain rfl:j=i:=z8 (List.all_eq_true.1 k1 j hj);cases ho:ops0[j]? with
   | none=>rw [ho] at h';exact h'.elim
   | some o=>
    rw [ho] at h';simp only at h';have hoa:ops0.toArray[j]?=some o:=by simpa using ho
    have hdo:=A9Z ops0 hd j o ho;unfold Go.wpOp;simp only [hoa];rcases A1c hA h' with ⟨hw,hy⟩ | ⟨hw,hy⟩
    ·rw [y6 hw];left;unfold Oper.wp;rw [hA.eval];have hg:=Z7 hL o.type o.op f w _ hy o.dst o.pos o.after o.guard;refine hg.upon _ _ _ _ fun v w' hk=>⟨.inl k3,?_⟩;rw [H4] at hk;exact fin_ _ _ _ (hA.putO hdo v) hk
    ·rw [y7 (by rw [hw];simp)];exact⟨.inl k3,fin_ _ _ _ (hA.putO hdo undef) hy⟩
 | stop=>
  intro fuel listed rem a f w hC hA hk h;have hrem:rem=[]:=by simpa [I1] using hk
  exact⟨fun h=>(by cases h),fun _ i hi=>(by rw [hrem] at hi;cases hi)⟩
 | q i s ih=>
  intro fuel listed rem a f w hC hA hk h;refine⟨fun _ hr=>?_,fun h=>by cases h⟩;cases fuel with
  | zero=>cases hk
  | succ fuel=>
   simp only [I1,z7,Bool.not_eq_true'] at hk;obtain⟨⟨⟨k1,k2⟩,k3⟩,k4⟩:=hk;have h':(match ops0[i]? with
    | some o=>gOp ops0 o f (fun T op f dst=>qOp P L C T op f fun v=>N6 f dst v fun f'=>dV P L ops0 C s f' w K) (fun f'=>dV P L ops0 C s f' w K)
    | none=>False):=h
   cases ho:ops0[i]? with
   | none=>rw [ho] at h';exact h'.elim
   | some o=>
    rw [ho] at h';simp only at h';have hoa:ops0.toArray[i]?=some o:=by simpa using ho
    have hin:i∈Region.ready .any ops0.toArray listed:=by rw [<-hr];simpa using k1
    have hdo:=A9Z ops0 hd i o ho;rcases A1c hA h' with ⟨hw,hy⟩ | ⟨hw,hy⟩
    ·obtain⟨v,h1,h2⟩:=A9Y hL o.type o.op f _ hy o.dst o.pos o.after o.guard;rw [H4] at h2;have hy':YieldsC P ops0.toArray C o v a:=.inl ⟨hw,fun w hw=>by rw [hA.eval];exact h1 w hw⟩;exact A9X hoa (Region.noSelect_spec hs) (hQ _ _) fuel listed a w hC (fun j oj h3 h4 h5 h6=>Region.free_spec hoa k2 j oj h3 h4 h5 h6) hin hy'
      ((ih fuel _ _ _ _ w hC (hA.putO hdo v) k4 h2).1 k3 rfl)
    ·have hy':YieldsC P ops0.toArray C o undef a:=.inr ⟨hw,rfl⟩;exact A9X hoa (Region.noSelect_spec hs) (hQ _ _) fuel listed a w hC (fun j oj h3 h4 h5 h6=>Region.free_spec hoa k2 j oj h3 h4 h5 h6) hin hy'
      ((ih fuel _ _ _ _ w hC (hA.putO hdo undef) k4 hy).1 k3 rfl)
 | n i s t ihs iht=>
  intro fuel listed rem a f w hC hA hk h;cases fuel with
  | zero=>cases hk
  | succ fuel=>
   simp only [I1,z7,Bool.not_eq_true'] at hk;obtain⟨⟨⟨⟨k1,k2⟩,k3⟩,k4⟩,k5⟩:=hk;have h':(match ops0[i]? with
    | some o=>gOp ops0 o f (fun T op f dst=>vOp P L T op f w fun v w'=>C w'/\N6 f dst v fun f'=>dV P L ops0 C s f' w' K) (fun f'=>dV P L ops0 C s f' w K)
    | none=>False)/\dV P L ops0 C t f w K:=h
   obtain⟨h1,h2⟩:=h';have hone:wpOp P ops0.toArray (A2j n K) i (fun a' w'=>(Z9 ops0.toArray i=true\/C w')/\A0A P ops0.toArray C (A2j n K) fuel (listed.setIfInBounds i true) a' w') a w:=by
    cases ho:ops0[i]? with
    | none=>rw [ho] at h1;exact h1.elim
    | some o=>
     rw [ho] at h1;simp only at h1;have hoa:ops0.toArray[i]?=some o:=by simpa using ho
     have hdo:=A9Z ops0 hd i o ho;unfold Go.wpOp;simp only [hoa];rcases A1c hA h1 with ⟨hw,hy⟩ | ⟨hw,hy⟩
     ·rw [y6 hw];left;unfold Oper.wp;rw [hA.eval];have hg:=Z7 hL o.type o.op f w _ hy o.dst o.pos o.after o.guard;refine hg.upon _ _ _ _ fun v w' hk=>⟨.inr hk.1,?_⟩;have hk2:=hk.2;rw [H4] at hk2;exact (ihs fuel _ _ _ _ w' hk.1 (hA.putO hdo v) k4 hk2).1 k2 rfl
     ·rw [y7 (by rw [hw];simp)];exact⟨.inr hC,(ihs fuel _ _ _ _ w hC (hA.putO hdo undef) k4 hy).1 k2 rfl⟩
   have hall:∀ j∈rem,wpOp P ops0.toArray (A2j n K) j (fun a' w'=>(Z9 ops0.toArray j=true\/C w')/\A0A P ops0.toArray C (A2j n K) fuel (listed.setIfInBounds j true) a' w') a w:=by
    intro j hj;by_cases e:j=i
    ·subst e;exact hone
    ·obtain⟨fuel',e1,h3⟩:=(iht (fuel+1) listed _ a f w hC hA k5 h2).2 k3 j (by
      rw [List.mem_filter];refine⟨hj,?_⟩;cases hb:Nat.beq j i with
      | false=>rfl
      | true=>exact absurd (z8 hb) e)
     obtain rfl:fuel=fuel':=by omega
     exact h3
   refine⟨fun _ hr=>⟨fun h0=>?_,fun j hj=>hall j (by rw [hr];exact hj)⟩,fun _ j hj=>⟨fuel,rfl,hall j hj⟩⟩;rw [hr,h0] at k1;cases k1
theorem B6b (hL:L.Ok P) (hm:P.follows .mixedOrders=true) {id:Nat} {ops:List Oper} {f:Fr} {w:World} {K:Fr->World->Prop} (s:Sched) (C:World->Prop)
  (hs:A1b ops.toArray s=true) (hC:C w.drew) (h:dV P L ops C s f w.drew K):Drawn P id ops.toArray f w K:=by
 constructor;intro n0 a hd hA;have hd:Y1 n0 ops=true:=by simpa using hd
 simp only [A1b,z7,Bool.not_eq_true'] at hs;obtain⟨⟨h1,h2⟩,h3⟩:=hs;refine wp_region_any hm (A2w (C:=C) _ _ _ _ ?_);exact (B2G hL n0 ops hd h1 K s _ _ _ a f _ hC hA h3 h).1 h2 rfl
end
end Go.Vc
end
namespace Go.Proofs.YtefdfaeieekioaaGreatDoor
open Go.Vc
def tys:List (Nat × TD):=[
 (2,.int .i64),
 (3,.int .i64),
 (4,.bool),
 (5,.int .u8),
 (9,.str),
 (20,.one (.nilIface)),
 (21,.int .i32),
 (22,.slice 45 8),
 (23,.slice 4 1),
 (25,.one (.pointer Option.none)),
 (26,.one (.pointer Option.none)),
 (29,.slice 3 1),
 (31,.struct [(0,1,false),(1,1,false),(2,1,false)] [.int .i64 0,.slice Option.none 0 0,.int .i64 0]),
 (32,.slice 43 21),
 (34,.int .i64),
 (36,.struct [(0,1,false),(1,1,false)] [.int .i64 0,.int .i64 0]),
 (37,.slice 99 2),
 (38,.slice 101 3),
 (39,.array 5 2 1 [.int .i64 0,.int .i64 0,.int .i64 0,.int .i64 0,.int .i64 0]),
 (41,.struct [(0,1,false),(1,1,false),(2,1,false),(3,5,true)] [.int .i64 0,.slice Option.none 0 0,.slice Option.none 0 0,.int .i64 0,.int .i64 0,.int .i64 0,.int .i64 0,.int .i64 0]),
 (43,.struct [(0,1,false),(1,1,false),(2,1,false),(3,1,false),(4,1,false),(5,1,false),(6,1,false),(7,2,true),(9,3,true),(12,1,false),(13,8,true)] [.int .i64 0,.int .i64 0,.int .i64 0,.int .i64 0,.int .i64 0,.int .i64 0,.int .i64 0,.int .i64 0,.int .i64 0,.int .i64 0,.slice Option.none 0 0,.int .i64 0,.slice Option.none 0 0,.int .i64 0,.slice Option.none 0 0,.slice Option.none 0 0,.int .i64 0,.int .i64 0,.int .i64 0,.int .i64 0,.int .i64 0]),
 (45,.struct [(0,1,false),(1,1,false),(2,1,false),(3,1,false),(4,1,false),(5,1,false),(6,1,false),(7,1,false)] [.int .i64 0,.string ByteArray.empty,.string ByteArray.empty,.int .i64 0,.int .i64 0,.string ByteArray.empty,.int .i64 0,.int .i64 0]),
 (49,.one (.pointer Option.none)),
 (50,.one (.pointer Option.none)),
 (60,.one (.nilFunc)),
 (72,.one (.nilFunc)),
 (77,.slice 2 1),
 (85,.struct [(0,1,false),(1,1,false),(2,3,true),(5,1,false),(6,1,false)] [.int .i64 0,.pointer Option.none,.int .i64 0,.slice Option.none 0 0,.int .i64 0,.int .i64 0,.slice Option.none 0 0]),
 (88,.one (.pointer Option.none)),
 (90,.struct [(0,8,true),(8,1,false),(9,1,false),(10,1,false)] [.int .i64 0,.slice Option.none 0 0,.slice Option.none 0 0,.int .i64 0,.int .i64 0,.int .i64 0,.int .i64 0,.int .i64 0,.slice Option.none 0 0,.int .i64 0,.int .i64 0]),
 (92,.struct [(0,1,false),(1,11,true),(12,1,false)] [.pointer Option.none,.int .i64 0,.slice Option.none 0 0,.slice Option.none 0 0,.int .i64 0,.int .i64 0,.int .i64 0,.int .i64 0,.int .i64 0,.slice Option.none 0 0,.int .i64 0,.int .i64 0,.bool false]),
 (96,.one (.nilFunc)),
 (97,.slice 147 3),
 (99,.struct [(0,1,false),(1,1,false)] [.string ByteArray.empty,.slice Option.none 0 0]),
 (101,.struct [(0,1,false),(1,2,true)] [.int .i64 0,.int .i64 0,.int .i64 0]),
 (105,.slice 107 4),
 (107,.struct [(0,1,false),(1,1,false),(2,1,false),(3,1,false)] [.int .i64 0,.int .i64 0,.string ByteArray.empty,.slice Option.none 0 0]),
 (114,.slice 9 1),
 (117,.one (.map Option.none)),
 (119,.struct [(0,1,false),(1,1,false)] [.int .i64 0,.map Option.none]),
 (121,.struct [(0,1,false),(1,1,false),(2,1,false)] [.string ByteArray.empty,.int .i64 0,.bool false]),
 (128,.struct [(0,1,false),(1,1,false)] [.int .i64 0,.int .i64 0]),
 (132,.one (.nilFunc)),
 (136,.slice 36 2),
 (139,.one (.complex .f64 0 0)),
 (147,.struct [(0,1,false),(1,1,false),(2,1,false)] [.int .i64 0,.bool false,.string ByteArray.empty]),
 (150,.one (.pointer Option.none)),
 (155,.one (.nilFunc)),
 (159,.struct [(0,1,false),(1,1,false),(2,1,false),(3,1,false)] [.pointer Option.none,.string ByteArray.empty,.slice Option.none 0 0,.bool false]),
 (174,.one (.nilFunc)),
 (175,.array 2 2 1 [.int .i64 0,.int .i64 0]),
 (176,.one (.pointer Option.none)),
 (182,.one (.pointer Option.none)),
 (190,.array 6 4 1 [.bool false,.bool false,.bool false,.bool false,.bool false,.bool false]),
 (195,.one (.nilFunc)),
 (196,.array 2 3 1 [.int .i64 0,.int .i64 0]),
 (197,.one (.float .f64 0)),
 (207,.slice 5 1),
 (211,.one (.nilFunc)),
 (213,.one (.nilFunc)),
 (216,.one (.nilFunc)),
 (218,.one (.nilFunc)),
 (222,.one (.map Option.none)),
 (224,.struct [(0,1,false),(1,3,true),(4,3,true),(7,1,false),(8,1,false),(9,1,false),(10,1,false),(11,1,false)] [.pointer Option.none,.int .i64 0,.slice Option.none 0 0,.int .i64 0,.int .i64 0,.slice Option.none 0 0,.int .i64 0,.int .i64 0,.map Option.none,.int .i64 0,.bool false,.bool false]),
 (232,.struct [(0,1,false)] [.slice Option.none 0 0]),
 (234,.one (.nilFunc)),
 (237,.one (.nilFunc)),
 (241,.one (.pointer Option.none)),
 (243,.struct [(0,1,false),(1,1,false)] [.pointer Option.none,.slice Option.none 0 0]),
 (245,.one (.nilIface)),
 (251,.array 2 197 1 [.float .f64 0,.float .f64 0]),
 (256,.one (.nilFunc)),
 (258,.one (.nilFunc)),
 (259,.one (.nilFunc)),
 (278,.one (.pointer Option.none)),
 (286,.one (.nilFunc)),
 (294,.array 24 5 1 [.int .u8 0,.int .u8 0,.int .u8 0,.int .u8 0,.int .u8 0,.int .u8 0,.int .u8 0,.int .u8 0,.int .u8 0,.int .u8 0,.int .u8 0,.int .u8 0,.int .u8 0,.int .u8 0,.int .u8 0,.int .u8 0,.int .u8 0,.int .u8 0,.int .u8 0,.int .u8 0,.int .u8 0,.int .u8 0,.int .u8 0,.int .u8 0]),
 (295,.int .u64),
 (300,.one (.pointer Option.none)),
 (305,.int .u64),
 (308,.one (.nilFunc)),
 (330,.array 20 295 1 [.int .u64 0,.int .u64 0,.int .u64 0,.int .u64 0,.int .u64 0,.int .u64 0,.int .u64 0,.int .u64 0,.int .u64 0,.int .u64 0,.int .u64 0,.int .u64 0,.int .u64 0,.int .u64 0,.int .u64 0,.int .u64 0,.int .u64 0,.int .u64 0,.int .u64 0,.int .u64 0]),
 (331,.int .u32),
 (332,.array 65 5 1 [.int .u8 0,.int .u8 0,.int .u8 0,.int .u8 0,.int .u8 0,.int .u8 0,.int .u8 0,.int .u8 0,.int .u8 0,.int .u8 0,.int .u8 0,.int .u8 0,.int .u8 0,.int .u8 0,.int .u8 0,.int .u8 0,.int .u8 0,.int .u8 0,.int .u8 0,.int .u8 0,.int .u8 0,.int .u8 0,.int .u8 0,.int .u8 0,.int .u8 0,.int .u8 0,.int .u8 0,.int .u8 0,.int .u8 0,.int .u8 0,.int .u8 0,.int .u8 0,.int .u8 0,.int .u8 0,.int .u8 0,.int .u8 0,.int .u8 0,.int .u8 0,.int .u8 0,.int .u8 0,.int .u8 0,.int .u8 0,.int .u8 0,.int .u8 0,.int .u8 0,.int .u8 0,.int .u8 0,.int .u8 0,.int .u8 0,.int .u8 0,.int .u8 0,.int .u8 0,.int .u8 0,.int .u8 0,.int .u8 0,.int .u8 0,.int .u8 0,.int .u8 0,.int .u8 0,.int .u8 0,.int .u8 0,.int .u8 0,.int .u8 0,.int .u8 0,.int .u8 0]),
 (343,.int .i64),
 (346,.one (.pointer Option.none)),
 (352,.array 32 5 1 [.int .u8 0,.int .u8 0,.int .u8 0,.int .u8 0,.int .u8 0,.int .u8 0,.int .u8 0,.int .u8 0,.int .u8 0,.int .u8 0,.int .u8 0,.int .u8 0,.int .u8 0,.int .u8 0,.int .u8 0,.int .u8 0,.int .u8 0,.int .u8 0,.int .u8 0,.int .u8 0,.int .u8 0,.int .u8 0,.int .u8 0,.int .u8 0,.int .u8 0,.int .u8 0,.int .u8 0,.int .u8 0,.int .u8 0,.int .u8 0,.int .u8 0,.int .u8 0]),
 (353,.array 64 5 1 [.int .u8 0,.int .u8 0,.int .u8 0,.int .u8 0,.int .u8 0,.int .u8 0,.int .u8 0,.int .u8 0,.int .u8 0,.int .u8 0,.int .u8 0,.int .u8 0,.int .u8 0,.int .u8 0,.int .u8 0,.int .u8 0,.int .u8 0,.int .u8 0,.int .u8 0,.int .u8 0,.int .u8 0,.int .u8 0,.int .u8 0,.int .u8 0,.int .u8 0,.int .u8 0,.int .u8 0,.int .u8 0,.int .u8 0,.int .u8 0,.int .u8 0,.int .u8 0,.int .u8 0,.int .u8 0,.int .u8 0,.int .u8 0,.int .u8 0,.int .u8 0,.int .u8 0,.int .u8 0,.int .u8 0,.int .u8 0,.int .u8 0,.int .u8 0,.int .u8 0,.int .u8 0,.int .u8 0,.int .u8 0,.int .u8 0,.int .u8 0,.int .u8 0,.int .u8 0,.int .u8 0,.int .u8 0,.int .u8 0,.int .u8 0,.int .u8 0,.int .u8 0,.int .u8 0,.int .u8 0,.int .u8 0,.int .u8 0,.int .u8 0,.int .u8 0]),
 (356,.struct [(0,1,false),(1,1,false),(2,1,false)] [.string ByteArray.empty,.string ByteArray.empty,.nilIface]),
 (358,.one (.pointer Option.none)),
 (360,.struct [(0,1,false)] [.string ByteArray.empty])]
def fnl:List Nat:=[3,4,5,6,7,8,9,10,11,12,13,14,15,16,17,18,19,20,21,22,23,24,25,26,27,28,29,30,31,32,33,34,35,36,37,38,39,40,41,42,43,44,45,46,47,48,49,50,51,52,53,54,55,56,57,58,59,60,61,62,63,64,65,66,67,68,69,70,71,72,73,74,75,76,77,78,79,80,81,82,83,84,85,86,87,88,89,90,91,92,93,94,95,96,97,98,99,100,101,102,103,104,105,106,107,108,109,110,111,112,113,114,115,116,117,118,119,120,121,122,123,124,125,126,127,128,129,130,131,132,133,134,135,136,137,138,139,140,141,142,143,144,145,146,147,148,149,150,151,152,153,154,155,156,157,158,159,160,161,162,163,164,165,166,167,168,169,170,171,172,173,174,175,176,177,178,179,180,181,182,183,184,185,186,187,188,189,190,191,192,193,194,195,196,197,198,199,200,201,202,203,204,205,206,207,208,209,210,211,212,213,214,215,216,217,218,219,220,221,222,223,224,225,226,227,228,229,230,231,232,233,234,235,236,237,238,239,240,241,242,243,244,245,246,247,248,249,250,251,252,253,254,255,256,257,259,260,261,262,263,264,265,266,267,268,269,270,271,272,274,275,276,277,279,280,281,282,283,285,286,287,288,289,290,291,292,293,294,296,297,298,299,300,301,302,303,304,305,306,307,308,311,312,313,314,315,316,317,318,319,320,321,322,323,324,325,326,327,328,329,330,331,332,333,334,335,336,337,338,339,340,341,342,343,344,345]
def lay:Lay:=⟨A9N tys,A9O fnl⟩
theorem B6c:B4n Tryz.prog tys:=⟨
 ⟨Tryz.underlying2,D8 (by kernel_rfl)⟩,
 ⟨Tryz.underlying3,D8 (by kernel_rfl)⟩,
 ⟨Tryz.underlying4,D8 (by kernel_rfl)⟩,
 ⟨Tryz.underlying5,D8 (by kernel_rfl)⟩,
 ⟨Tryz.underlying9,D8 (by kernel_rfl)⟩,
 ⟨⟨_,Tryz.underlying20,rfl⟩,D8 (by kernel_rfl),rfl⟩,
 ⟨Tryz.underlying21,D8 (by kernel_rfl)⟩,
 ⟨Tryz.underlying22,D8 (by kernel_rfl),A2i (by kernel_rfl)⟩,
 ⟨Tryz.underlying23,D8 (by kernel_rfl),A2i (by kernel_rfl)⟩,
 ⟨⟨_,Tryz.underlying25,rfl⟩,D8 (by kernel_rfl),rfl⟩,
 ⟨⟨_,Tryz.underlying26,rfl⟩,D8 (by kernel_rfl),rfl⟩,
 ⟨Tryz.underlying29,D8 (by kernel_rfl),A2i (by kernel_rfl)⟩,
 ⟨⟨_,Tryz.underlying31,fs_ (by kernel_rfl)⟩,D8 (by kernel_rfl)⟩,
 ⟨Tryz.underlying32,D8 (by kernel_rfl),A2i (by kernel_rfl)⟩,
 ⟨Tryz.underlying34,D8 (by kernel_rfl)⟩,
 ⟨⟨_,Tryz.underlying36,fs_ (by kernel_rfl)⟩,D8 (by kernel_rfl)⟩,
 ⟨Tryz.underlying37,D8 (by kernel_rfl),A2i (by kernel_rfl)⟩,
 ⟨Tryz.underlying38,D8 (by kernel_rfl),A2i (by kernel_rfl)⟩,
 ⟨Tryz.underlying39,D8 (by kernel_rfl),A2i (by kernel_rfl)⟩,
 ⟨⟨_,Tryz.underlying41,fs_ (by kernel_rfl)⟩,D8 (by kernel_rfl)⟩,
 ⟨⟨_,Tryz.underlying43,fs_ (by kernel_rfl)⟩,D8 (by kernel_rfl)⟩,
 ⟨⟨_,Tryz.underlying45,fs_ (by kernel_rfl)⟩,D8 (by kernel_rfl)⟩,
 ⟨⟨_,Tryz.underlying49,rfl⟩,D8 (by kernel_rfl),rfl⟩,
 ⟨⟨_,Tryz.underlying50,rfl⟩,D8 (by kernel_rfl),rfl⟩,
 ⟨⟨_,Tryz.underlying60,rfl⟩,D8 (by kernel_rfl),rfl⟩,
 ⟨⟨_,Tryz.underlying72,rfl⟩,D8 (by kernel_rfl),rfl⟩,
 ⟨Tryz.underlying77,D8 (by kernel_rfl),A2i (by kernel_rfl)⟩,
 ⟨⟨_,Tryz.underlying85,fs_ (by kernel_rfl)⟩,D8 (by kernel_rfl)⟩,
 ⟨⟨_,Tryz.underlying88,rfl⟩,D8 (by kernel_rfl),rfl⟩,
 ⟨⟨_,Tryz.underlying90,fs_ (by kernel_rfl)⟩,D8 (by kernel_rfl)⟩,
 ⟨⟨_,Tryz.underlying92,fs_ (by kernel_rfl)⟩,D8 (by kernel_rfl)⟩,
 ⟨⟨_,Tryz.underlying96,rfl⟩,D8 (by kernel_rfl),rfl⟩,
 ⟨Tryz.underlying97,D8 (by kernel_rfl),A2i (by kernel_rfl)⟩,
 ⟨⟨_,Tryz.underlying99,fs_ (by kernel_rfl)⟩,D8 (by kernel_rfl)⟩,
 ⟨⟨_,Tryz.underlying101,fs_ (by kernel_rfl)⟩,D8 (by kernel_rfl)⟩,
 ⟨Tryz.underlying105,D8 (by kernel_rfl),A2i (by kernel_rfl)⟩,
 ⟨⟨_,Tryz.underlying107,fs_ (by kernel_rfl)⟩,D8 (by kernel_rfl)⟩,
 ⟨Tryz.underlying114,D8 (by kernel_rfl),A2i (by kernel_rfl)⟩,
 ⟨⟨_,Tryz.underlying117,rfl⟩,D8 (by kernel_rfl),rfl⟩,
 ⟨⟨_,Tryz.underlying119,fs_ (by kernel_rfl)⟩,D8 (by kernel_rfl)⟩,
 ⟨⟨_,Tryz.underlying121,fs_ (by kernel_rfl)⟩,D8 (by kernel_rfl)⟩,
 ⟨⟨_,Tryz.underlying128,fs_ (by kernel_rfl)⟩,D8 (by kernel_rfl)⟩,
 ⟨⟨_,Tryz.underlying132,rfl⟩,D8 (by kernel_rfl),rfl⟩,
 ⟨Tryz.underlying136,D8 (by kernel_rfl),A2i (by kernel_rfl)⟩,
 ⟨⟨_,Tryz.underlying139,rfl⟩,D8 (by kernel_rfl),rfl⟩,
 ⟨⟨_,Tryz.underlying147,fs_ (by kernel_rfl)⟩,D8 (by kernel_rfl)⟩,
 ⟨⟨_,Tryz.underlying150,rfl⟩,D8 (by kernel_rfl),rfl⟩,
 ⟨⟨_,Tryz.underlying155,rfl⟩,D8 (by kernel_rfl),rfl⟩,
 ⟨⟨_,Tryz.underlying159,fs_ (by kernel_rfl)⟩,D8 (by kernel_rfl)⟩,
 ⟨⟨_,Tryz.underlying174,rfl⟩,D8 (by kernel_rfl),rfl⟩,
 ⟨Tryz.underlying175,D8 (by kernel_rfl),A2i (by kernel_rfl)⟩,
 ⟨⟨_,Tryz.underlying176,rfl⟩,D8 (by kernel_rfl),rfl⟩,
 ⟨⟨_,Tryz.underlying182,rfl⟩,D8 (by kernel_rfl),rfl⟩,
 ⟨Tryz.underlying190,D8 (by kernel_rfl),A2i (by kernel_rfl)⟩,
 ⟨⟨_,Tryz.underlying195,rfl⟩,D8 (by kernel_rfl),rfl⟩,
 ⟨Tryz.underlying196,D8 (by kernel_rfl),A2i (by kernel_rfl)⟩,
 ⟨⟨_,Tryz.underlying197,rfl⟩,D8 (by kernel_rfl),rfl⟩,
 ⟨Tryz.underlying207,D8 (by kernel_rfl),A2i (by kernel_rfl)⟩,
 ⟨⟨_,Tryz.underlying211,rfl⟩,D8 (by kernel_rfl),rfl⟩,
 ⟨⟨_,Tryz.underlying213,rfl⟩,D8 (by kernel_rfl),rfl⟩,
 ⟨⟨_,Tryz.underlying216,rfl⟩,D8 (by kernel_rfl),rfl⟩,
 ⟨⟨_,Tryz.underlying218,rfl⟩,D8 (by kernel_rfl),rfl⟩,
 ⟨⟨_,Tryz.underlying222,rfl⟩,D8 (by kernel_rfl),rfl⟩,
 ⟨⟨_,Tryz.underlying224,fs_ (by kernel_rfl)⟩,D8 (by kernel_rfl)⟩,
 ⟨⟨_,Tryz.underlying232,fs_ (by kernel_rfl)⟩,D8 (by kernel_rfl)⟩,
 ⟨⟨_,Tryz.underlying234,rfl⟩,D8 (by kernel_rfl),rfl⟩,
 ⟨⟨_,Tryz.underlying237,rfl⟩,D8 (by kernel_rfl),rfl⟩,
 ⟨⟨_,Tryz.underlying241,rfl⟩,D8 (by kernel_rfl),rfl⟩,
 ⟨⟨_,Tryz.underlying243,fs_ (by kernel_rfl)⟩,D8 (by kernel_rfl)⟩,
 ⟨⟨_,Tryz.underlying245,rfl⟩,D8 (by kernel_rfl),rfl⟩,
 ⟨Tryz.underlying251,D8 (by kernel_rfl),A2i (by kernel_rfl)⟩,
 ⟨⟨_,Tryz.underlying256,rfl⟩,D8 (by kernel_rfl),rfl⟩,
 ⟨⟨_,Tryz.underlying258,rfl⟩,D8 (by kernel_rfl),rfl⟩,
 ⟨⟨_,Tryz.underlying259,rfl⟩,D8 (by kernel_rfl),rfl⟩,
 ⟨⟨_,Tryz.underlying278,rfl⟩,D8 (by kernel_rfl),rfl⟩,
 ⟨⟨_,Tryz.underlying286,rfl⟩,D8 (by kernel_rfl),rfl⟩,
 ⟨Tryz.underlying294,D8 (by kernel_rfl),A2i (by kernel_rfl)⟩,
 ⟨Tryz.underlying295,D8 (by kernel_rfl)⟩,
 ⟨⟨_,Tryz.underlying300,rfl⟩,D8 (by kernel_rfl),rfl⟩,
 ⟨Tryz.underlying305,D8 (by kernel_rfl)⟩,
 ⟨⟨_,Tryz.underlying308,rfl⟩,D8 (by kernel_rfl),rfl⟩,
 ⟨Tryz.underlying330,D8 (by kernel_rfl),A2i (by kernel_rfl)⟩,
 ⟨Tryz.underlying331,D8 (by kernel_rfl)⟩,
 ⟨Tryz.underlying332,D8 (by kernel_rfl),A2i (by kernel_rfl)⟩,
 ⟨Tryz.underlying343,D8 (by kernel_rfl)⟩,
 ⟨⟨_,Tryz.underlying346,rfl⟩,D8 (by kernel_rfl),rfl⟩,
 ⟨Tryz.underlying352,D8 (by kernel_rfl),A2i (by kernel_rfl)⟩,
 ⟨Tryz.underlying353,D8 (by kernel_rfl),A2i (by kernel_rfl)⟩,
 ⟨⟨_,Tryz.underlying356,fs_ (by kernel_rfl)⟩,D8 (by kernel_rfl)⟩,
 ⟨⟨_,Tryz.underlying358,rfl⟩,D8 (by kernel_rfl),rfl⟩,
 ⟨⟨_,Tryz.underlying360,fs_ (by kernel_rfl)⟩,D8 (by kernel_rfl)⟩,trivial⟩
theorem B6d:B4o Tryz.prog fnl:=⟨Tryz.call3,Tryz.call4,Tryz.call5,Tryz.call6,Tryz.call7,Tryz.call8,Tryz.call9,Tryz.call10,Tryz.call11,Tryz.call12,Tryz.call13,Tryz.call14,Tryz.call15,Tryz.call16,Tryz.call17,Tryz.call18,Tryz.call19,Tryz.call20,Tryz.call21,Tryz.call22,Tryz.call23,Tryz.call24,Tryz.call25,Tryz.call26,Tryz.call27,Tryz.call28,Tryz.call29,Tryz.call30,Tryz.call31,Tryz.call32,Tryz.call33,Tryz.call34,Tryz.call35,Tryz.call36,Tryz.call37,Tryz.call38,Tryz.call39,Tryz.call40,Tryz.call41,Tryz.call42,Tryz.call43,Tryz.call44,Tryz.call45,Tryz.call46,Tryz.call47,Tryz.call48,Tryz.call49,Tryz.call50,Tryz.call51,Tryz.call52,Tryz.call53,Tryz.call54,Tryz.call55,Tryz.call56,Tryz.call57,Tryz.call58,Tryz.call59,Tryz.call60,Tryz.call61,Tryz.call62,Tryz.call63,Tryz.call64,Tryz.call65,Tryz.call66,Tryz.call67,Tryz.call68,Tryz.call69,Tryz.call70,Tryz.call71,Tryz.call72,Tryz.call73,Tryz.call74,Tryz.call75,Tryz.call76,Tryz.call77,Tryz.call78,Tryz.call79,Tryz.call80,Tryz.call81,Tryz.call82,Tryz.call83,Tryz.call84,Tryz.call85,Tryz.call86,Tryz.call87,Tryz.call88,Tryz.call89,Tryz.call90,Tryz.call91,Tryz.call92,Tryz.call93,Tryz.call94,Tryz.call95,Tryz.call96,Tryz.call97,Tryz.call98,Tryz.call99,Tryz.call100,Tryz.call101,Tryz.call102,Tryz.call103,Tryz.call104,Tryz.call105,Tryz.call106,Tryz.call107,Tryz.call108,Tryz.call109,Tryz.call110,Tryz.call111,Tryz.call112,Tryz.call113,Tryz.call114,Tryz.call115,Tryz.call116,Tryz.call117,Tryz.call118,Tryz.call119,Tryz.call120,Tryz.call121,Tryz.call122,Tryz.call123,Tryz.call124,Tryz.call125,Tryz.call126,Tryz.call127,Tryz.call128,Tryz.call129,Tryz.call130,Tryz.call131,Tryz.call132,Tryz.call133,Tryz.call134,Tryz.call135,Tryz.call136,Tryz.call137,Tryz.call138,Tryz.call139,Tryz.call140,Tryz.call141,Tryz.call142,Tryz.call143,Tryz.call144,Tryz.call145,Tryz.call146,Tryz.call147,Tryz.call148,Tryz.call149,Tryz.call150,Tryz.call151,Tryz.call152,Tryz.call153,Tryz.call154,Tryz.call155,Tryz.call156,Tryz.call157,Tryz.call158,Tryz.call159,Tryz.call160,Tryz.call161,Tryz.call162,Tryz.call163,Tryz.call164,Tryz.call165,Tryz.call166,Tryz.call167,Tryz.call168,Tryz.call169,Tryz.call170,Tryz.call171,Tryz.call172,Tryz.call173,Tryz.call174,Tryz.call175,Tryz.call176,Tryz.call177,Tryz.call178,Tryz.call179,Tryz.call180,Tryz.call181,Tryz.call182,Tryz.call183,Tryz.call184,Tryz.call185,Tryz.call186,Tryz.call187,Tryz.call188,Tryz.call189,Tryz.call190,Tryz.call191,Tryz.call192,Tryz.call193,Tryz.call194,Tryz.call195,Tryz.call196,Tryz.call197,Tryz.call198,Tryz.call199,Tryz.call200,Tryz.call201,Tryz.call202,Tryz.call203,Tryz.call204,Tryz.call205,Tryz.call206,Tryz.call207,Tryz.call208,Tryz.call209,Tryz.call210,Tryz.call211,Tryz.call212,Tryz.call213,Tryz.call214,Tryz.call215,Tryz.call216,Tryz.call217,Tryz.call218,Tryz.call219,Tryz.call220,Tryz.call221,Tryz.call222,Tryz.call223,Tryz.call224,Tryz.call225,Tryz.call226,Tryz.call227,Tryz.call228,Tryz.call229,Tryz.call230,Tryz.call231,Tryz.call232,Tryz.call233,Tryz.call234,Tryz.call235,Tryz.call236,Tryz.call237,Tryz.call238,Tryz.call239,Tryz.call240,Tryz.call241,Tryz.call242,Tryz.call243,Tryz.call244,Tryz.call245,Tryz.call246,Tryz.call247,Tryz.call248,Tryz.call249,Tryz.call250,Tryz.call251,Tryz.call252,Tryz.call253,Tryz.call254,Tryz.call255,Tryz.call256,Tryz.call257,Tryz.call259,Tryz.call260,Tryz.call261,Tryz.call262,Tryz.call263,Tryz.call264,Tryz.call265,Tryz.call266,Tryz.call267,Tryz.call268,Tryz.call269,Tryz.call270,Tryz.call271,Tryz.call272,Tryz.call274,Tryz.call275,Tryz.call276,Tryz.call277,Tryz.call279,Tryz.call280,Tryz.call281,Tryz.call282,Tryz.call283,Tryz.call285,Tryz.call286,Tryz.call287,Tryz.call288,Tryz.call289,Tryz.call290,Tryz.call291,Tryz.call292,Tryz.call293,Tryz.call294,Tryz.call296,Tryz.call297,Tryz.call298,Tryz.call299,Tryz.call300,Tryz.call301,Tryz.call302,Tryz.call303,Tryz.call304,Tryz.call305,Tryz.call306,Tryz.call307,Tryz.call308,Tryz.call311,Tryz.call312,Tryz.call313,Tryz.call314,Tryz.call315,Tryz.call316,Tryz.call317,Tryz.call318,Tryz.call319,Tryz.call320,Tryz.call321,Tryz.call322,Tryz.call323,Tryz.call324,Tryz.call325,Tryz.call326,Tryz.call327,Tryz.call328,Tryz.call329,Tryz.call330,Tryz.call331,Tryz.call332,Tryz.call333,Tryz.call334,Tryz.call335,Tryz.call336,Tryz.call337,Tryz.call338,Tryz.call339,Tryz.call340,Tryz.call341,Tryz.call342,Tryz.call343,Tryz.call344,Tryz.call345,trivial⟩
theorem lay_ok:Lay.Ok Tryz.prog lay:=Go.Vc.lay_ok B6c B6d
theorem vE {k:Nat} {fn:Go.Func} {c:Go.Code} {args:List Go.Value} {w:Go.World} {R:Go.Ending->Go.World->Prop} (hf:Tryz.prog.funcs[k]?=some fn) (h:M9 Tryz.prog lay c (A52 args) w (fnK lay fn.results R)) (hb:fn.body=some c:=by rfl) (ha:Nat.ble args.length fn.ntmps=true:=by kernel_rfl) (hc:K7 fn.ntmps c=true:=by kernel_rfl):Go.Calls Tryz.prog k args.toArray w R:=A3R lay_ok hf hb ha hc h
theorem vD {id:Nat} {ops:List Go.Oper} {f:Fr} {w:Go.World} {K:Fr->Go.World->Prop} (s:Sched) (C:Go.World->Prop) (hC:C w.drew) (h:dV Tryz.prog lay ops C s f w.drew K) (hm:Tryz.prog.follows .mixedOrders=true:=by kernel_rfl) (hs:A1b ops.toArray s=true:=by kernel_rfl):Drawn Tryz.prog id ops.toArray f w K:=B6b lay_ok hm s C hs hC h
end Go.Proofs.YtefdfaeieekioaaGreatDoor
namespace Go.Proofs.YtefdfaeieekioaaGreatDoor
open Go.Vc Go.RowKit
def A9a (n:Int):Bool:=(decide (97<=n)&&decide (n<=122))||(decide (48<=n)&&decide (n<=57))||n==46||n==45||n==95||n==47
theorem A79 (n:Int) (w:World):Calls Tryz.prog 165 #[.int .u8 n] w (C8 (.bool (A9a n)) w):=by
 refine vE Tryz.func165 ?_
 repeat' (first | refine B0 (by assumption) ?_ | refine C3X (by assumption) ?_ | refine X4 (by decide) ?_ | refine A0x (fun _=>?_) (fun _=>?_))
 all_goals refine⟨B7 ?_,Below.refl _ _⟩
 all_goals simp only [A9a, *]
 all_goals rfl
def B6e (c:UInt8):Bool:=A9a (c.toNat:Int)
def B7p (l:List UInt8):Bool:=l.all B6e&&decide (1<=l.length)&&decide (l.length<=40)
def A8A (s:ByteArray):Bool:=B7p s.data.toList
theorem T3 (s:ByteArray):s.data.toList.length=s.size:=by rw [Array.length_toList];rfl
theorem B2H {α:Type} (p:α->Bool) (l:List α) (k:Nat) (d:α) (hk:k<l.length) (h:(l.take k).all p=true):(l.take (k+1)).all p=p (l.getD k d):=by rw [List.take_succ_eq_append_getElem hk,List.all_append,h];simp [List.getD_eq_getElem?_getD,List.getElem?_eq_getElem hk]
theorem A4g {α:Type} (p:α->Bool) (l:List α) (k:Nat) (d:α) (hk:k<l.length) (h:p (l.getD k d)=false):l.all p=false:=by rw [List.all_eq_false];refine⟨l[k],List.getElem_mem hk,?_⟩;rw [List.getD_eq_getElem?_getD,List.getElem?_eq_getElem hk] at h;simpa using h
theorem E0 (a b:Int) (h0 : -9223372036854775808<=a+b) (h1:a+b<=9223372036854775807):IntKind.i64.wrap (a+b)=a+b:=IntWalk.i64_in _ ⟨h0,h1⟩
theorem A9b (s:ByteArray) (hs:s.size<=9223372036854775807) (w:World):Calls Tryz.prog 103 #[.string s] w (C8 (.bool (A8A s)) w):=by
 refine vE Tryz.func103 ?_;refine⟨Nat,fun k=>[(0,.string s),(2,.bool false),(5,.int .i64 s.size),(6,.int .i64 k)],fun k w'=>k<=s.size/\(s.data.toList.take k).all B6e=true/\Below w.heap.size w w',fun k _=>s.size-k,0,
  ⟨rfl,rfl,rfl,rfl,trivial⟩,⟨zb _,by simp,Below.refl _ _⟩,?_⟩
 rintro k w' u ⟨hk,ha,hb⟩;have hln:=T3 s;by_cases hlt:k<s.size
 ·refine B0 (by simpa using hlt) ?_;refine⟨⟨by omega,by omega⟩,?_⟩;refine B4 (A79 _ _) ?_;intro w1 hb1;have hb2:=hb.trans (hb1.mono hb.size);have ha2:=B2H B6e s.data.toList k 0 (by omega) ha;cases hl:B6e (s.data.toList.getD k 0)
  ·refine B0 (by rw [<-Bool.not_false];exact y5 _ hl) ?_;refine⟨B7 ?_,hb2⟩;unfold A8A B7p;rw [A4g B6e _ k 0 (by omega) hl];rfl
  ·refine C3X (by rw [<-Bool.not_true];exact y5 _ hl) ?_;refine⟨k+1,⟨rfl,rfl,rfl,?_,trivial⟩,⟨hlt,by rw [ha2,hl],hb2⟩,by show s.size-(k+1)<s.size-k;omega⟩;show Value.int .i64 (IntKind.i64.wrap ((k:Int)+1))=_;rw [E0 _ _ (by omega) (by omega)];rfl
 ·refine C3X (by simp;omega) ?_;have hks:k=s.size:=by omega
  rw [List.take_of_length_le (by omega)] at ha
  repeat' (first | refine B0 (by assumption) ?_ | refine C3X (by assumption) ?_ | refine X4 (by decide) ?_ | refine A0x (fun _=>?_) (fun _=>?_))
  all_goals refine⟨B7 ?_,hb⟩
  all_goals unfold A8A B7p
  all_goals rw [ha,hln,Bool.eq_iff_iff]
  all_goals (rename_i h;simp at h ⊢;omega)
def S6 (n:Int):Int:=if n<4294967296\/25769803776<=n\/n % 4294967296=0 then 0 else n / 4294967296
theorem K0 (n:Int) (w:World):Calls Tryz.prog 104 #[.int .i64 n] w (C8 (.int .i64 (S6 n)) w):=by
 refine vE Tryz.func104 ?_
 repeat' (first | refine B0 (by assumption) ?_ | refine C3X (by assumption) ?_ | refine X4 (by decide) ?_ | refine A0x (fun _=>?_) (fun _=>?_))
 all_goals refine⟨Y6 ?_,Below.refl _ _⟩
 all_goals unfold S6
 all_goals simp only [y0,decide_eq_false_iff_not,beq_iff_eq,y4] at*
 ·rw [y6 (.inl (by assumption))]
 ·rw [y6 (.inr (.inl (by assumption)))]
 ·rename_i h1 h2 h3;rw [Int.tmod_eq_emod_of_nonneg (by omega)] at h3;rw [y6 (.inr (.inr h3))]
 ·rename_i h1 h2 h3;rw [Int.tmod_eq_emod_of_nonneg (by omega)] at h3;rw [y7 (by omega),Int.tdiv_eq_ediv_of_nonneg (by omega)];exact IntWalk.i64_in _ ⟨by omega,by omega⟩
theorem C1K (s:ByteArray) (n:Int) (w:World) (h0:0<=n) (hs:s.size<=9223372036854775807):Calls Tryz.prog 49 #[.string s,.int .i64 n] w (C8 (.string (s.extract 0 (min s.size n.toNat))) w):=by
 refine vE Tryz.func49 ?_;have e:(0:Int).toNat=0:=rfl;by_cases h:n<s.size
 ·refine⟨⟨?_,?_,?_⟩,?_⟩
  ·omega
  ·show (0:Int)<=if n<(s.size:Int) then n else (s.size:Int)
   rw [y6 h];exact h0
  ·show (if n<(s.size:Int) then n else (s.size:Int))<=_;rw [y6 h];omega
  ·refine⟨y5 (fun x=>Ending.returned (.string (s.extract 0 x))) ?_,Below.refl _ _⟩;show (if n<(s.size:Int) then n else (s.size:Int)).toNat=_;rw [y6 h];omega
 ·refine⟨⟨?_,?_,?_⟩,?_⟩
  ·omega
  ·show (0:Int)<=if n<(s.size:Int) then n else (s.size:Int)
   rw [y7 h];omega
  ·show (if n<(s.size:Int) then n else (s.size:Int))<=_;rw [y7 h];omega
  ·refine⟨y5 (fun x=>Ending.returned (.string (s.extract 0 x))) ?_,Below.refl _ _⟩;show (if n<(s.size:Int) then n else (s.size:Int)).toNat=_;rw [y7 h];omega
end Go.Proofs.YtefdfaeieekioaaGreatDoor
namespace Go.Fl
open Ieee
theorem A3S (N k:Nat) (h:N≠0):(N*2 ^ k).log2=N.log2+k:=by
 have hp:0<2 ^ k:=Nat.two_pow_pos k;have hne:N*2 ^ k≠0:=Nat.mul_ne_zero h (by omega);rw [Nat.log2_eq_iff hne];have h1:=Nat.log2_self_le h;have h2:=Nat.lt_log2_self (n:=N);constructor
 ·rw [Nat.pow_add];exact Nat.mul_le_mul_right _ h1
 ·rw [show N.log2+k+1=(N.log2+1)+k from by omega,Nat.pow_add];exact Nat.mul_lt_mul_of_pos_right h2 hp
def A1A (N:Nat):Nat:=if N=0 then 0 else (N.log2+1022)*2 ^ 52+N*2 ^ (52-N.log2)
def dbl (n:Int):Nat:=if n<0 then 2 ^ 63+A1A n.natAbs else A1A n.natAbs
theorem A9c {N:Nat} (h:N≠0) (hN:N<2 ^ 53):N.log2<=52:=by have:=(Nat.log2_lt h).2 hN;omega
theorem B8o {N:Nat} (h:N≠0) (hN:N<2 ^ 53):2 ^ 52<=N*2 ^ (52-N.log2)/\N*2 ^ (52-N.log2)<2 ^ 53:=by
 have hl:=A9c h hN;have h1:=Nat.log2_self_le h;have h2:=Nat.lt_log2_self (n:=N);constructor
 ·calc 2 ^ 52=2 ^ N.log2*2 ^ (52-N.log2):=by rw [<-Nat.pow_add];congr 1;omega
   _<=_:=Nat.mul_le_mul_right _ h1
 ·calc N*2 ^ (52-N.log2)<2 ^ (N.log2+1)*2 ^ (52-N.log2):=Nat.mul_lt_mul_of_pos_right h2 (Nat.two_pow_pos _)
   _=2 ^ 53:=by rw [<-Nat.pow_add];congr 1;omega
def Is (b:Nat) (n:Int):Prop:=∃ k:Nat,double.read b=.number (decide (n<0)) (n.natAbs*2 ^ k) (-(k:Int))
theorem sw:double.signWeight=2 ^ 63:=rfl
theorem bn:double.binade=2 ^ 52:=rfl
theorem ir:double.infRung=2047*2 ^ 52:=rfl
theorem lp:double.leastPlace = -1074:=rfl
theorem A4h (neg:Bool) (N:Nat) (h:N≠0) (hN:N<2 ^ 53):double.read (double.word neg (A1A N))=.number neg (N*2 ^ (52-N.log2)) (-((52-N.log2:Nat):Int)):=by
 obtain⟨f1,f2⟩:=B8o h hN;have hl:=A9c h hN;have hb:A1A N=(N.log2+1022)*2 ^ 52+N*2 ^ (52-N.log2):=y7 h;generalize hm:N*2 ^ (52-N.log2)=m at*;have e1:(double.word neg (A1A N)) / double.signWeight % 2=neg.toNat/\(double.word neg (A1A N)) % double.signWeight=A1A N:=by
  rw [sw];unfold Format.word;rw [sw];cases neg
  ·simp only [Bool.false_eq_true,if_false,Bool.toNat_false];omega
  ·simp only [if_true,Bool.toNat_true];omega
 unfold Format.read;simp only [e1.1,e1.2];rw [bn,ir,lp,y7 (by omega),y6 (by omega)];have e2:A1A N % 2 ^ 52=m-2 ^ 52:=by omega
 have e3:A1A N / 2 ^ 52=N.log2+1023:=by omega
 rw [e2,e3];have e4:(neg.toNat==1)=neg:=by cases neg<;>rfl
 rw [e4];exact congr (y5 (Datum.number neg) (by omega)) (by omega)
theorem A9d:double.read 0=.number false 0 (-1074):=by decide +kernel
theorem F5 (n:Int) (h:n.natAbs<2 ^ 53):Is (dbl n) n:=by
 unfold Is dbl;by_cases h0:n=0
 ·obtain⟨K,hK⟩:∃ K:Nat,K=1074:=⟨1074,rfl⟩;refine⟨K,?_⟩;rw [y7 (show ¬ n<0 by omega),show n.natAbs=0 from by omega,Nat.zero_mul,show A1A 0=0 from rfl,A9d,zz (show ¬ n<0 by omega),hK];rfl
 ·have hne:n.natAbs≠0:=by omega
  refine⟨52-n.natAbs.log2,?_⟩;by_cases hn:n<0
  ·rw [y6 hn,zy hn];exact A4h true _ hne h
  ·rw [y7 hn,zz hn];exact A4h false _ hne h
theorem A0B (n:Int) (k:Nat) (h:n.natAbs<2 ^ 53):double.write (.number (decide (n<0)) (n.natAbs*2 ^ k) (-(k:Int)))=dbl n:=by
 show double.nearest _ _ _=_;unfold Format.nearest dbl;by_cases h0:n=0
 ·subst h0;simp [Format.word,A1A]
 ·have hne:n.natAbs≠0:=by omega
  generalize hN:n.natAbs=N at*;have hl:=A9c hne h;obtain⟨f1,f2⟩:=B8o hne h;have hp:0<2 ^ k:=Nat.two_pow_pos k;rw [y7 (Nat.mul_ne_zero hne (by omega)),A3S N k hne,lp,bn,ir];have hlast:max (-(k:Int)+((N.log2+k:Nat):Int)-(double.fractionBits:Int)) (-1074)=(N.log2:Int)-52:=by have:(double.fractionBits:Int)=52:=rfl;rw [this];omega
  simp only [hlast];have hcut:Toward.even.cut (decide (n<0)) ((N*2 ^ k) <<< (-(k:Int)-((N.log2:Int)-52)).toNat) ((N.log2:Int)-52 - -(k:Int)).toNat=N*2 ^ (52-N.log2):=by
   rcases zl k (52-N.log2) with hk | hk
   ·rw [show ((N.log2:Int)-52 - -(k:Int)).toNat=0 from by omega,show (-(k:Int)-((N.log2:Int)-52)).toNat=52-N.log2-k from by omega,Nat.shiftLeft_eq,Nat.mul_assoc,<-Nat.pow_add,
     show k+(52-N.log2-k)=52-N.log2 from by omega]
    simp only [Toward.cut,Nat.zero_min,Nat.shiftLeft_zero,Nat.div_one,Nat.mod_one,Nat.mul_zero];simp
   ·rw [show (-(k:Int)-((N.log2:Int)-52)).toNat=0 from by omega,show ((N.log2:Int)-52 - -(k:Int)).toNat=k-(52-N.log2) from by omega,Nat.shiftLeft_zero];have hd:min (k-(52-N.log2)) ((N*2 ^ k).log2+2)=k-(52-N.log2):=by rw [A3S N k hne];omega
    have hs:N*2 ^ k=(N*2 ^ (52-N.log2))*2 ^ (k-(52-N.log2)):=by rw [Nat.mul_assoc,<-Nat.pow_add];congr 2;omega
    have hq:0<2 ^ (k-(52-N.log2)):=Nat.two_pow_pos _;unfold Toward.cut;simp only [hd,Nat.one_shiftLeft];rw [hs,Nat.mul_div_cancel _ hq,Nat.mul_mod_left];simp
  rw [hcut,show ((N.log2:Int)-52 - -1074).toNat=N.log2+1022 from by omega,Nat.min_eq_left (by omega)];unfold Format.word A1A;rw [sw,y7 hne];by_cases hn:n<0
  ·simp [hn]
  ·simp [hn]
theorem N1 (n:Int) (k u K:Nat) (h:k+u=K):signed (decide (n<0)) (n.natAbs*2 ^ k) u=n*2 ^ K:=by
 unfold signed;have e:((n.natAbs*2 ^ k) <<< u:Nat)=n.natAbs*2 ^ K:=by rw [Nat.shiftLeft_eq,Nat.mul_assoc,<-Nat.pow_add,h]
 rw [e];have hc:((n.natAbs*2 ^ K:Nat):Int)=(n.natAbs:Int)*2 ^ K:=by rw [Int.natCast_mul,Int.natCast_pow];rfl
 rw [hc];by_cases hn:n<0
 ·rw [zy hn,y6 rfl,<-Int.neg_mul];congr 1;omega
 ·rw [zz hn,y7 (by simp)];congr 1;omega
theorem A57 (K:Nat):(0:Int)<2 ^ K:=Int.pow_pos (by decide)
theorem B6f (n:Int) (K:Nat):(n*2 ^ K<0)=(n<0):=by
 have hp:=A57 K;apply propext;constructor
 ·intro h;by_cases h1:n<0
  ·exact h1
  ·exact absurd (Int.mul_nonneg (show 0<=n by omega) (Int.le_of_lt hp)) (by omega)
 ·intro h;exact Int.mul_neg_of_neg_of_pos h hp
theorem A9e (n:Int) (K:Nat):(n*2 ^ K).natAbs=n.natAbs*2 ^ K:=by rw [Int.natAbs_mul,Int.natAbs_pow];rfl
theorem A9f (n:Int) (K:Nat):decide (n*2 ^ K<0)=decide (n<0):=by rw [Bool.eq_iff_iff,decide_eq_true_iff,decide_eq_true_iff,B6f]
theorem A9g (n:Int) (K:Nat):(n*2 ^ K=0)=(n=0):=by
 have hp:=A57 K;apply propext;constructor
 ·intro h;rcases Int.mul_eq_zero.1 h with h | h
  ·exact h
  ·omega
 ·intro h;rw [h];simp
theorem A6u {α:Type} (n:Int) (K:Nat) (a b:α):(if n*2 ^ K=0 then a else b)=if n=0 then a else b:=by
 by_cases h:n=0
 ·rw [y6 h,y6 (by rw [A9g];exact h)]
 ·rw [y7 h,y7 (by rw [A9g];exact h)]
theorem B4J {x y:Nat} {a b:Int} (hx:Is x a) (hy:Is y b) (h:(a+b).natAbs<2 ^ 53):double.add x y=some (dbl (a+b)):=by
 obtain⟨k,e1⟩:=hx;obtain⟨l,e2⟩:=hy;unfold Format.add;rw [e1,e2];simp only [Datum.sum,Option.map_some];have hb:min (-(k:Int)) (-(l:Int)) = -((max k l:Nat):Int):=by omega
 rw [hb,N1 a k _ (max k l) (by omega),N1 b l _ (max k l) (by omega),<-Int.add_mul];rw [A9e,A9f,A6u,<-A0B (a+b) (max k l) h];congr 3;by_cases h0:a+b=0
 ·rw [y6 h0];have:¬ (a<0/\b<0):=by omega
  rw [zz (show ¬ a+b<0 by omega)];by_cases ha:a<0
  ·rw [zz (show ¬ b<0 by omega)];simp
  ·rw [zz ha];rfl
 ·rw [y7 h0]
theorem A8B (s:Bool) (m u:Nat):signed (!s) m u = -signed s m u:=by cases s<;>simp [signed]
theorem B6g {x y:Nat} {a b:Int} (hx:Is x a) (hy:Is y b) (h:(a-b).natAbs<2 ^ 53):double.sub x y=some (dbl (a-b)):=by
 obtain⟨k,e1⟩:=hx;obtain⟨l,e2⟩:=hy;unfold Format.sub;rw [e1,e2];simp only [Datum.opposite,Datum.sum,Option.map_some];have hb:min (-(k:Int)) (-(l:Int)) = -((max k l:Nat):Int):=by omega
 rw [hb,A8B,N1 a k _ (max k l) (by omega),N1 b l _ (max k l) (by omega),<-Int.sub_eq_add_neg,<-Int.sub_mul];rw [A9e,A9f,A6u,<-A0B (a-b) (max k l) h];congr 3;by_cases h0:a-b=0
 ·rw [y6 h0,zz (show ¬ a-b<0 by omega)];by_cases ha:a<0
  ·rw [zy (show b<0 by omega)];simp
  ·rw [zz ha];rfl
 ·rw [y7 h0]
theorem B6h {x y:Nat} {a b:Int} (hx:Is x a) (hy:Is y b) (ha:0<=a) (hb:0<=b) (h:(a*b).natAbs<2 ^ 53):double.mul x y=some (dbl (a*b)):=by
 obtain⟨k,e1⟩:=hx;obtain⟨l,e2⟩:=hy;unfold Format.mul;rw [e1,e2];simp only [Datum.product,Option.map_some];have hn:=Int.mul_nonneg ha hb;rw [<-A0B (a*b) (k+l) h,zz (show ¬ a<0 by omega),zz (show ¬ b<0 by omega),zz (show ¬ a*b<0 by omega)];congr 3
 ·rw [Int.natAbs_mul,Nat.pow_add];rw [Nat.mul_assoc,Nat.mul_left_comm (2 ^ k),<-Nat.mul_assoc]
 ·omega
theorem B4p (a b:Int) (K:Nat):compare (a*2 ^ K) (b*2 ^ K)=compare a b:=by
 have hp:=A57 K;rcases Int.lt_trichotomy a b with h | h | h
 ·have h2:a*2 ^ K<b*2 ^ K:=Int.mul_lt_mul_of_pos_right h hp;simp [compare,compareOfLessAndEq,h,h2]
 ·subst h;simp [compare,compareOfLessAndEq]
 ·have h2:b*2 ^ K<a*2 ^ K:=Int.mul_lt_mul_of_pos_right h hp;have h3:¬ a*2 ^ K<b*2 ^ K:=by omega
  have h4:¬ a<b:=by omega
  have h5:¬ a*2 ^ K=b*2 ^ K:=by omega
  have h6:¬ a=b:=by omega
  simp [compare,compareOfLessAndEq,h3,h4,h5,h6]
theorem A3T {x y:Nat} {a b:Int} (hx:Is x a) (hy:Is y b):double.order x y=some (compare a b):=by
 obtain⟨k,e1⟩:=hx;obtain⟨l,e2⟩:=hy;unfold Format.order;rw [e1,e2];simp only [Datum.order];have hb:min (-(k:Int)) (-(l:Int)) = -((max k l:Nat):Int):=by omega
 rw [hb,N1 a k _ (max k l) (by omega),N1 b l _ (max k l) (by omega),B4p]
theorem A1d (a:Int) (k:Nat):(Datum.number (decide (a<0)) (a.natAbs*2 ^ k) (-(k:Int))).integral .zero=.number (decide (a<0)) a.natAbs 0:=by
 simp only [Datum.integral];have hc:Toward.zero.cut (decide (a<0)) ((a.natAbs*2 ^ k) <<< (-(k:Int)).toNat) (- -(k:Int)).toNat=a.natAbs:=by
  rw [show (-(k:Int)).toNat=0 from by omega,show (- -(k:Int)).toNat=k from by omega,Nat.shiftLeft_zero];unfold Toward.cut;by_cases h0:a.natAbs=0
  ·rw [h0];simp
  ·have hd:min k ((a.natAbs*2 ^ k).log2+2)=k:=by rw [A3S _ k h0];omega
   simp only [hd,Nat.one_shiftLeft];rw [Nat.mul_div_cancel _ (Nat.two_pow_pos _)];simp
 rw [hc]
theorem A6v {x:Nat} {a:Int} (hx:Is x a):(double.read x).toInt .zero=some a:=by obtain⟨k,e⟩:=hx;rw [e];unfold Datum.toInt;rw [A1d];have h2:=N1 a 0 0 0 rfl;rw [Nat.pow_zero,Nat.mul_one,Int.pow_zero,Int.mul_one] at h2;exact y5 some h2
theorem A0b (n:Int) (h:n.natAbs<2 ^ 53):FloatKind.f64.nearest n=dbl n:=by have h2:=A0B n 0 h;rw [Nat.pow_zero,Nat.mul_one] at h2;exact h2
end Go.Fl
section
namespace Go.Fl
open Go Ieee Go.Vc
theorem B6i (a b:Int):(some (compare a b)==some Ordering.lt)=decide (a<b):=by
 rcases Int.lt_trichotomy a b with h | h | h
 ·simp [compare,compareOfLessAndEq,h]
 ·subst h;simp [compare,compareOfLessAndEq]
 ·have h4:¬ a<b:=by omega
  have h6:¬ a=b:=by omega
  simp [compare,compareOfLessAndEq,h4,h6]
theorem B6j (a b:Int):(some (compare a b)==some Ordering.gt)=decide (b<a):=by
 rcases Int.lt_trichotomy a b with h | h | h
 ·have h4:¬ b<a:=by omega
  simp [compare,compareOfLessAndEq,h,h4]
 ·subst h;simp [compare,compareOfLessAndEq]
 ·have h4:¬ a<b:=by omega
  have h6:¬ a=b:=by omega
  simp [compare,compareOfLessAndEq,h4,h6,h]
theorem A9h (a b:Int):(some (compare a b)==some Ordering.eq)=decide (a=b):=by
 rcases Int.lt_trichotomy a b with h | h | h
 ·have h6:¬ a=b:=by omega
  simp [compare,compareOfLessAndEq,h,h6]
 ·subst h;simp [compare,compareOfLessAndEq]
 ·have h4:¬ a<b:=by omega
  have h6:¬ a=b:=by omega
  simp [compare,compareOfLessAndEq,h4,h6]
theorem B75 (a b:Int):(decide (a<b)||decide (a=b))=decide (a<=b):=by rw [Bool.eq_iff_iff];simp;omega
theorem B76 (a b:Int):(decide (b<a)||decide (a=b))=decide (b<=a):=by rw [Bool.eq_iff_iff];simp;omega
section
variable {P:Program} {T:TypeId} {ox oy:Operand} {x y:Nat} {a b:Int} {K:Value->Prop}
theorem B6k (hx:Is x a) (hy:Is y b) (k:K (.bool (decide (b<=a)))):∃ v,(∀ w,(do eqGuard .geq T ox oy (.float .f64 x) (.float .f64 y);binOp .geq T (.float .f64 x) (.float .f64 y):Sem Value).run P w=.ok v w)/\K v:=by refine⟨_,fun w=>?_,k⟩;show Result.ok (Value.bool (double.order x y==some .gt||double.order x y==some .eq)) w=_;rw [A3T hx hy,B6j,A9h,B76]
theorem B6l (hx:Is x a) (hy:Is y b) (k:K (.bool (decide (a<=b)))):∃ v,(∀ w,(do eqGuard .leq T ox oy (.float .f64 x) (.float .f64 y);binOp .leq T (.float .f64 x) (.float .f64 y):Sem Value).run P w=.ok v w)/\K v:=by refine⟨_,fun w=>?_,k⟩;show Result.ok (Value.bool (double.order x y==some .lt||double.order x y==some .eq)) w=_;rw [A3T hx hy,B6i,A9h,B75]
theorem B6m (hx:Is x a) (hy:Is y b) (k:K (.bool (decide (a=b)))):∃ v,(∀ w,(do eqGuard .eql T ox oy (.float .f64 x) (.float .f64 y);binOp .eql T (.float .f64 x) (.float .f64 y):Sem Value).run P w=.ok v w)/\K v:=by refine⟨_,fun w=>?_,k⟩;show Result.ok (Value.bool (double.order x y==some .eq)) w=_;rw [A3T hx hy,A9h]
theorem B6n (hx:Is x a) (hy:Is y b) (h:(a+b).natAbs<2 ^ 53) (k:K (.float .f64 (dbl (a+b)))):∃ v,(∀ w,(do eqGuard .add T ox oy (.float .f64 x) (.float .f64 y);binOp .add T (.float .f64 x) (.float .f64 y):Sem Value).run P w=.ok v w)/\K v:=by refine⟨_,fun w=>?_,k⟩;show (match double.add x y with | some r=>Pure.pure (Value.float .f64 r) | none=>(do pure (Value.float .f64 (<-choose (.nanBits .f64 x y)))):Sem Value).run P w=_;rw [B4J hx hy h];rfl
end
theorem A1e {P:Program} {x y:Nat} {a b:Int} (hx:Is x a) (hy:Is y b) (h:(a+b).natAbs<2 ^ 53) (w:World):(Op.Complex.arith .add .f64 x y).run P w=.ok (dbl (a+b)) w:=by unfold Op.Complex.arith Op.floatArith;rw [show FloatKind.f64.format.add x y=double.add x y from rfl,B4J hx hy h];rfl
theorem A9i {P:Program} {x y:Nat} {a b:Int} (hx:Is x a) (hy:Is y b) (h:(a-b).natAbs<2 ^ 53) (w:World):(Op.Complex.arith .sub .f64 x y).run P w=.ok (dbl (a-b)) w:=by unfold Op.Complex.arith Op.floatArith;rw [show FloatKind.f64.format.sub x y=double.sub x y from rfl,B6g hx hy h];rfl
theorem A0C {P:Program} {x y:Nat} {a b:Int} (hx:Is x a) (hy:Is y b) (ha:0<=a) (hb:0<=b) (h:(a*b).natAbs<2 ^ 53) (w:World):(Op.Complex.arith .mul .f64 x y).run P w=.ok (dbl (a*b)) w:=by unfold Op.Complex.arith Op.floatArith;rw [show FloatKind.f64.format.mul x y=double.mul x y from rfl,B6h hx hy ha hb h];rfl
section
variable {P:Program} {T:TypeId} {ox oy:Operand} {x y x' y':Nat} {a b c d:Int} {K:Value->Prop}
theorem B4q (hx:Is x a) (hy:Is y b) (hx':Is x' c) (hy':Is y' d) (h:(a+c).natAbs<2 ^ 53) (h':(b+d).natAbs<2 ^ 53) (k:K (.complex .f64 (dbl (a+c)) (dbl (b+d)))):
  ∃ v,(∀ w,(do eqGuard .add T ox oy (.complex .f64 x y) (.complex .f64 x' y');binOp .add T (.complex .f64 x y) (.complex .f64 x' y'):Sem Value).run P w=.ok v w)/\K v:=by
 refine⟨_,fun w=>?_,k⟩;show (do pure (Value.complex .f64 (<-Op.Complex.arith .add .f64 x x') (<-Op.Complex.arith .add .f64 y y')):Sem Value).run P w=_;simp only [Sem.run_bind,A1e hx hx' h,A1e hy hy' h',Result.andThen_ok,Sem.run_pure]
theorem B4r (hx:Is x a) (hy:Is y b) (hx':Is x' c) (hy':Is y' d) (ha:0<=a/\a<2 ^ 20) (hb:0<=b/\b<2 ^ 20) (hc:0<=c/\c<2 ^ 20) (hd:0<=d/\d<2 ^ 20)
  (k:K (.complex .f64 (dbl (a*c-b*d)) (dbl (a*d+b*c)))):
  ∃ v,(∀ w,(do eqGuard .mul T ox oy (.complex .f64 x y) (.complex .f64 x' y');binOp .mul T (.complex .f64 x y) (.complex .f64 x' y'):Sem Value).run P w=.ok v w)/\K v:=by
 have lim:∀ {u v:Int},0<=u/\u<2 ^ 20->0<=v/\v<2 ^ 20->0<=u*v/\u*v<2 ^ 40:=by intro u v hu hv;refine⟨Int.mul_nonneg hu.1 hv.1,?_⟩;have h1:u*v<=u*2 ^ 20:=Int.mul_le_mul_of_nonneg_left (by omega) hu.1;omega
 have l1:=lim ha hc;have l2:=lim hb hd;have l3:=lim ha hd;have l4:=lim hb hc;refine⟨_,fun w=>?_,k⟩;show (do
  let r <-(do
   let p <-(do pure (<-Op.Complex.arith .sub .f64 (<-Op.Complex.arith .mul .f64 x x') (<-Op.Complex.arith .mul .f64 y y'),<-Op.Complex.arith .add .f64 (<-Op.Complex.arith .mul .f64 x y') (<-Op.Complex.arith .mul .f64 y x')):Sem (Nat × Nat))
   pure p:Sem (Nat × Nat))
  pure (Value.complex .f64 r.1 r.2):Sem Value).run P w=_
 simp only [Sem.run_bind,A0C hx hx' ha.1 hc.1 (by omega),A0C hy hy' hb.1 hd.1 (by omega),A0C hx hy' ha.1 hd.1 (by omega),A0C hy hx' hb.1 hc.1 (by omega),Result.andThen_ok,Sem.run_pure,
  A9i (F5 (a*c) (by omega)) (F5 (b*d) (by omega)) (by omega),A1e (F5 (a*d) (by omega)) (F5 (b*c) (by omega)) (by omega)]
end
end Go.Fl
end
section
namespace Go.Vc
open Go Go.RowKit
def bv (l:List UInt8):List Value:=l.map fun c=>.int .u8 (c.toNat:Int)
theorem A4i (l:List UInt8):(bv l).length=l.length:=zj _
theorem A2x (l:List UInt8) (k:Nat) (h:k<l.length):(bv l)[k]?=some (.int .u8 ((l.getD k 0).toNat:Int)):=by unfold bv;rw [List.getElem?_map,List.getElem?_eq_getElem h,List.getD_eq_getElem?_getD,List.getElem?_eq_getElem h];rfl
theorem A4j (a b:List UInt8):bv (a++b)=bv a++bv b:=List.map_append
theorem Row.below {S:Nat->Prop} {w w':World} {A:Option Addr} {n cap:Nat} {xs:List Value} (h:Row S w A n cap xs) (hb:Below w.heap.size w w'):Row S w' A n cap xs:=
 ⟨h.1,h.2.1,fun hx=>by obtain⟨ad,e,hs,hc⟩:=h.2.2 hx;exact⟨ad,e,hs,fun j u hu=>cell_later hb (hc j u hu)⟩⟩
theorem Row.at {S:Nat->Prop} {w:World} {A:Option Addr} {n cap:Nat} {xs:List Value} (h:Row S w A n cap xs) {i:Nat} {v:Value} (hv:xs[i]?=some v):∃ ad,A=some ad/\w.cell? (ad.add i)=some v:=by
 obtain⟨ad,e,hc⟩:=h.get (i:=i) (by
  rcases zl i xs.length with h | h
  ·exact h
  ·rw [List.getElem?_eq_none h] at hv;cases hv)
 exact⟨ad,e,hc i v hv⟩
theorem Row.sub {S S':Nat->Prop} {w:World} {A:Option Addr} {n cap:Nat} {xs:List Value} (h:Row S w A n cap xs) (hs:∀ b,S b->S' b):Row S' w A n cap xs:=
 ⟨h.1,h.2.1,fun hx=>by obtain⟨ad,e,h1,hc⟩:=h.2.2 hx;exact⟨ad,e,hs _ h1,hc⟩⟩
section
variable {P:Program} {w:World} {K:Value->World->Prop}
theorem A1f {s d e:TypeId} {u:TypeDesc} (S:Nat->Prop) (hs:P.underlying s=some u) (hd:P.underlying d=some (.slice e)) (he:P.underlying e=some (.int .u8)) {t:ByteArray} (hl:t.size<=maxLen)
  (k:∀ g cap w',Below w.heap.size w w'->Row (ext S w w') w' (some ⟨g,0,none⟩) t.size cap (bv t.data.toList)->K (.slice (some ⟨g,0,none⟩) t.size cap) w'):
  ∃ v w',(Go.convert s d (.string t)).run P w=.ok v w'/\K v w':=by
 refine⟨_,_,Lib.run_convert_string_bytes w s d e t hs hd he,k _ _ _ (Lib.bytesWorld_below w e t) ⟨?_,?_,fun _=>⟨_,rfl,?_,?_⟩⟩⟩
 ·exact grownCap_ge w t.size 0 e
 ·exact grownCap_le_maxLen w t.size 0 e hl
 ·exact .inr ⟨zc _,by rw [Lib.bytesWorld_size];exact Nat.lt_succ_self _⟩
 ·intro j u hu;have hj:j<t.data.toList.length:=by
   rcases zl j t.data.toList.length with h | h
   ·exact h
   ·rw [List.getElem?_eq_none (by rw [A4i];exact h)] at hu;cases hu
  rw [A2x _ _ hj] at hu;have e1:(⟨w.heap.size,0,none⟩:Addr).add j=⟨w.heap.size,j,none⟩:=by rw [Addr.add_lit,zm]
  rw [e1,Lib.bytesWorld_cell w e t j (by rw [Array.length_toList] at hj;exact hj)];exact hu
theorem A9j {s d e:TypeId} {S:Nat->Prop} {A:Option Addr} {n cap:Nat} {l:List UInt8} (hs:P.underlying s=some (.slice e)) (he:P.underlying e=some (.int .u8)) (hd:P.underlying d=some .string)
  (hR:Row S w A n cap (bv l)) (hn:n=l.length) (k:K (.string ⟨l.toArray⟩) w):∃ v w',(Go.convert s d (.slice A n cap)).run P w=.ok v w'/\K v w':=by
 subst hn;cases A with
 | none=>
  cases l with
  | nil=>
   refine⟨_,_,run_convert_bytes_string w s d e none 0 cap hs he hd,?_⟩;exact k
  | cons c r=>
   obtain⟨ad,h,_⟩:=hR.at (A2x (c::r) 0 (Nat.succ_pos _));cases h
 | some a=>
  refine⟨_,_,run_convert_bytes_back w s d e a cap l hs he hd (fun j hj=>?_),k⟩;obtain⟨ad,h,hc⟩:=hR.at (A2x l j hj);cases h;rw [hc,List.getD_eq_getElem?_getD,List.getElem?_eq_getElem hj];rfl
end
theorem A1g:∀ {l:List Value},(∀ v∈l,v.oneCell'=true)->D7 l=true
 | [],_=>rfl
 | v::r,h=>by simp only [D7,z7];exact⟨h v (zu ..),A1g fun u hu=>h u (zt _ hu)⟩
structure Own (S:Nat->Prop) (n0:Nat) (w:World) (l:List LB) (e sz:Nat) (A:Option Addr) (n cap:Nat) (xs:List Value):Prop where
 row:w.ownsRow n0 e sz (.slice A n cap) n xs
 out:∀ a,A=some a->¬ S a.block/\∀ x∈l,x.1≠a.block
section
variable {S0 S:Nat->Prop} {w0 w w':World} {l:List LB} {e sz:Nat} {A:Option Addr} {n cap:Nat} {xs:List Value} {n0:Nat}
theorem Own.nil:Own S n0 w l e sz none 0 0 []:=⟨World.ownsRow_nil ..,fun a h=>by cases h⟩
theorem Own.lt (h:Own S n0 w l e sz A n cap xs) {a:Addr} (e1:A=some a):n0<=a.block/\a.block<w.heap.size:=by subst e1;exact h.row.lt a.block rfl
theorem Own.kept (h:Own S n0 w l e sz A n cap xs) (hb:∀ a,A=some a->w'.heap[a.block]?=w.heap[a.block]?):w'.ownsRow n0 e sz (.slice A n cap) n xs:=by
 obtain⟨h1,h2⟩:=h.row;refine⟨h1,?_⟩;rcases h2 with h2 | ⟨g,cp,cur,e1,h3,h4,h5⟩
 ·exact .inl h2
 ·refine .inr ⟨g,cp,cur,e1,h3,?_,h5⟩;cases e1;rw [hb _ rfl];exact h4
theorem Own.below (h:Own S n0 w l e sz A n cap xs) (hb:Below w.heap.size w w'):Own (ext S w w') n0 w' l e sz A n cap xs:=
 ⟨h.kept fun a ha=>hb.block _ (h.lt ha).2,fun a ha=>⟨fun hs=>by
  rcases hs with hs | hs
  ·exact (h.out a ha).1 hs
  ·have:=(h.lt ha).2;omega,(h.out a ha).2⟩⟩
theorem Own.quiet (h:Own S n0 w l e sz A n cap xs) (hb:Below w.heap.size w w'):Own S n0 w' l e sz A n cap xs:=
 ⟨h.kept fun a ha=>hb.block _ (h.lt ha).2,h.out⟩
theorem Own.loc (h:Own S n0 w l e sz A n cap xs) {cs:List Value} {T g:Nat} (hN:New w cs T g w'):Own S n0 w' ((g,T,cs)::l) e sz A n cap xs:=
 ⟨h.kept fun a ha=>hN.below.block _ (h.lt ha).2,fun a ha=>⟨(h.out a ha).1,fun x hx=>by
  cases hx with
  | head=>have:=(h.lt ha).2;have:=hN.1;show g≠a.block;omega
  | tail _ hx=>exact (h.out a ha).2 x hx⟩⟩
theorem Own.set (h:Own S n0 w l e sz A n cap xs) (hc:Ctx S0 w0 S w l) (k:Nat) {g T:Nat} {cs:List Value} (hk:l[k]?=some (g,T,cs)) {o:Nat} {ys:List Value} (hS:D0 w ⟨g,o,none⟩ ys w'):
  Own S n0 w' (F4 l k (C0 cs o ys)) e sz A n cap xs:=by
 obtain⟨h1,h2,h3,h4,h5,h6⟩:=H8 o ys w 0 cs (hc.blk k hk);rw [<-(show w'=_ from hS)] at h1 h2 h3;refine⟨h.kept fun a ha=>h2 _ fun e1=>(h.out a ha).2 _ (List.mem_of_getElem? hk) e1.symm,fun a ha=>⟨(h.out a ha).1,fun x hx=>?_⟩⟩;obtain⟨y,hy,e2⟩:=J4 hx;rw [<-e2];exact (h.out a ha).2 y hy
theorem Own.told (h:Own S w0.heap.size w l e sz A n cap xs) (hc:Ctx S0 w0 S w l):
  Ctx S0 w0 (fun b=>S b\/∃ a,A=some a/\a.block=b) w l/\Fut S w (fun b=>S b\/∃ a,A=some a/\a.block=b) w/\(n<=cap->cap<=maxLen->Row (fun b=>S b\/∃ a,A=some a/\a.block=b) w A n cap xs):=by
 refine⟨⟨hc.below,fun b hb=>.inl (hc.sub b hb),fun b hb=>?_,fun b hb=>?_,hc.locs.mono (fun _ _=>rfl) (fun x hx hs=>?_)⟩,⟨fun b hb=>.inl hb,fun _ _=>rfl⟩,fun h1 h2=>⟨h1,h2,fun hx=>?_⟩⟩
 ·rcases hb with hb | ⟨a,ha,rfl⟩
  ·exact hc.new b hb
  ·exact .inr (h.lt ha).1
 ·rcases hb with hb | ⟨a,ha,rfl⟩
  ·exact hc.lt b hb
  ·exact (h.lt ha).2
 ·rcases hs with hs | ⟨a,ha,e1⟩
  ·exact hs
  ·exact absurd e1.symm ((h.out a ha).2 x hx)
 ·obtain⟨e0,h3⟩:=h.row;rcases h3 with ⟨h3,rfl⟩ | ⟨g,cp,cur,e1,_,_,_,_,_,_⟩
  ·rw [Nat.zero_mul] at e0;exact absurd (zn e0) hx
  ·cases e1;exact⟨_,rfl,.inr ⟨_,rfl,rfl⟩,h.row.cells rfl⟩
theorem Own.fit (h:Own S n0 w l e sz A n cap xs):n<=cap/\cap<=maxLen:=by
 obtain⟨e0,h3⟩:=h.row;rcases h3 with ⟨h3,rfl⟩ | ⟨g,cp,cur,e1,_,_,h4,h5,_,_⟩
 ·cases h3;exact⟨zc _,zb _⟩
 ·cases e1;exact⟨h4,h5⟩
end
theorem Ctx.drop {S0 S:Nat->Prop} {w0 w:World} {x:LB} {l:List LB} (h:Ctx S0 w0 S w (x::l)):Ctx S0 w0 S w l:=
 ⟨h.below,h.sub,h.new,h.lt,by obtain⟨g,T,cs⟩:=x;exact h.locs.2.2.2.2⟩
theorem Own.drop {S:Nat->Prop} {w:World} {x:LB} {l:List LB} {e sz:Nat} {A:Option Addr} {n cap:Nat} {xs:List Value} {n0:Nat} (h:Own S n0 w (x::l) e sz A n cap xs):Own S n0 w l e sz A n cap xs:=
 ⟨h.row,fun a ha=>⟨(h.out a ha).1,fun y hy=>(h.out a ha).2 y (zt _ hy)⟩⟩
theorem New.row {w w':World} {cs:List Value} {T g:Nat} (h:New w cs T g w') (n:Nat) (hn:n<=1000):Row (fun b=>b=g) w' (some ⟨g,0,none⟩) n n cs:=
 ⟨zc _,zo hn (by decide),fun _=>⟨_,rfl,rfl,fun j u hu=>by
  have e1:(⟨g,0,none⟩:Addr).add j=⟨g,j,none⟩:=by rw [Addr.add_lit,zm]
  rw [e1,h.blk.cell j];exact hu⟩⟩
structure Keeps (bs:Nat->Prop) (w x:World):Prop where
 block:∀ b,bs b->x.heap[b]?=w.heap[b]?
 size:w.heap.size<=x.heap.size
theorem Keeps.start (bs:Nat->Prop) (w:World):Keeps bs w w.drew:=⟨fun _ _=>rfl,zc _⟩
theorem Keeps.below {bs:Nat->Prop} {w x x':World} (h:Keeps bs w x) (hlt:∀ b,bs b->b<w.heap.size) (hb:Below x.heap.size x x'):Keeps bs w x':=
 ⟨fun b hs=>(hb.block b (Nat.lt_of_lt_of_le (hlt b hs) h.size)).trans (h.block b hs),zo h.size hb.size⟩
theorem Keeps.stored {bs:Nat->Prop} {w x x':World} (h:Keeps bs w x) {g T o:Nat} {cs xs:List Value} (hB:Blk x g T cs) (hg:¬ bs g) (hS:D0 x ⟨g,o,none⟩ xs x'):Keeps bs w x':=by obtain⟨_,h2,h3,_⟩:=H8 o xs x 0 cs hB;rw [<-(show x'=_ from hS)] at h2 h3;exact⟨fun b hs=>(h2 b fun e=>hg (e▸hs)).trans (h.block b hs),by rw [h3];exact h.size⟩
theorem Keeps.cell {bs:Nat->Prop} {w x:World} (h:Keeps bs w x) {g T:Nat} {cs:List Value} (hB:Blk w g T cs) (hg:bs g) {i:Nat} {v:Value} (hv:cs[i]?=some v):x.cell? ⟨g,i,none⟩=some v:=
 ((hB.of_eq (h.block g hg)).cell i).trans hv
theorem Keeps.cells {bs:Nat->Prop} {w x:World} (h:Keeps bs w x) {g T:Nat} {cs:List Value} (hB:Blk w g T cs) (hg:bs g):Go.Vc.cellsAt x ⟨g,0,none⟩ cs 0:=
 B5 (hB.of_eq (h.block g hg)) 0 cs 0 (fun j v hj=>by simpa using hj)
theorem Keeps.at {bs:Nat->Prop} {w x:World} (h:Keeps bs w x) {a:Addr} {v:Value} (hc:w.cell? a=some v) (hg:bs a.block):x.cell? a=some v:=
 (World.cell?_of_block (h.block _ hg)).trans hc
theorem Ctx.drew {S0 S:Nat->Prop} {w0 w:World} {l:List LB} (h:Ctx S0 w0 S w l):Ctx S0 w0 S w.drew l:=⟨h.below.drew,h.sub,h.new,h.lt,h.locs.mono (fun _ _=>rfl) (fun _ _ h=>h)⟩
theorem A1h (A:Option Addr) (n cap k:Nat):(Value.slice A n cap).ownBlock=some k->∃ a,A=some a/\a.block=k:=by
 intro h;cases A with
 | none=>cases h
 | some a=>exact⟨a,rfl,Option.some.inj h⟩
section
variable {P:Program} {S0 S:Nat->Prop} {w0 w:World} {l:List LB} {e sz bytes:Nat} {A B:Option Addr} {n cap m c:Nat} {xs ys:List Value} {K:Value->World->Prop} {z:Value}
theorem R0 {t T:Nat} {cs:Array Bool} (ht:P.underlying t=some (.slice e)) (hi:(P.info? e).map (fun i=>(i.zero,i.size,i.bytes))=some (some z,sz,bytes)) (hzs:z.cells.size=sz) (hsz:0<sz)
  (hc:Ctx S0 w0 S w l) (ho:Own S w0.heap.size w l e sz A n cap xs) {ad:Addr} (hl:ys.length=m*sz) (hy:Go.Vc.cellsAt w ad ys 0) (h1:D7 ys=true) (h63:n+m<=34359738368) (hby:bytes<=4096)
  (k:∀ A' cap' w',Ctx S0 w0 S w' l->Fut S w S w'->Own S w0.heap.size w' l e sz A' (n+m) cap' (xs++ys)->w.grownBy w' (Value.slice A n cap).ownBlock->K (.slice A' (n+m) cap') w'):
  ∃ v w',(builtin .append #[t,t] T cs #[.slice A n cap,.slice (some ad) m c]).run P w=.ok (.value v) w'/\K v w':=by
 obtain⟨i,h2,h3,h4,h5⟩:=info_parts hi;have hbase:w0.heap.size<=w.heap.size:=hc.below.size;have hbytes:(n+m)*bytes<=140737488355328:=zo (Nat.mul_le_mul h63 hby) (by decide);have cellsOf:∀ (ys:List Value) (i:Nat),Go.Vc.cellsAt w ad ys i->∀ j u,ys[j]?=some u->w.cell? (ad.add (i+j))=some u:=by
  intro ys;induction ys with
  | nil=>intro i _ j u h;cases h
  | cons v r ih=>
   intro i h j u hu;cases j with
   | zero=>cases hu;exact h.1
   | succ j=>rw [show i+(j+1)=i+1+j from by omega];exact ih (i+1) h.2 j u hu
 obtain⟨v',w',hrun,hown,hg,_⟩:=run_append_own (P:=P) w w0.heap.size t T e i z sz bytes ht h2 h3 h4 h5 hzs hsz _ n xs ho.row ad m c ys hl (fun j u hu=>by have:=cellsOf ys 0 hy j u hu;rwa [zm] at this)
  (H7 h1) (by simp only [maxLen];omega) hbytes hbase
 have hrow:∀ k,(Value.slice A n cap).ownBlock=some k->w0.heap.size<=k/\¬ S k/\∀ x∈l,x.1≠k:=by intro k hk;obtain⟨a,ha,rfl⟩:=A1h _ _ _ _ hk;exact⟨(ho.lt ha).1,ho.out a ha⟩
 have hne:∀ b,b<w.heap.size->(∀ k,(Value.slice A n cap).ownBlock=some k->b≠k)->w'.heap[b]?=w.heap[b]?:=fun b hb hk=>hg.block b hb fun h=>hk b h.symm rfl;have shape:∃ A' cap',v'=.slice A' (n+m) cap':=by
  obtain⟨_,h6⟩:=hown;rcases h6 with ⟨h6,h7⟩ | ⟨g,cp,cur,h6,_⟩
  ·exact⟨none,0,by rw [h7];exact h6⟩
  ·exact⟨_,_,h6⟩
 obtain⟨A',cap',rfl⟩:=shape;refine⟨_,w',?_,k A' cap' w' ?_ ?_ ?_ hg⟩
 ·show (do pure (Next.value (<-Builtin.append_ #[t,t] T #[.slice A n cap,.slice (some ad) m c])):Sem Next).run P w=_;simp only [Sem.run_bind,hrun,Result.andThen_ok,Sem.run_pure]
 ·exact⟨hc.below.grown hg hbase (fun k hk=>(hrow k hk).1),hc.sub,hc.new,fun b hb=>Nat.lt_of_lt_of_le (hc.lt b hb) hg.size,
   hc.locs.mono (fun x hx=>hne _ (hc.locs.lt x hx) fun k hk=>(hrow k hk).2.2 x hx) (fun _ _ h=>h)⟩
 ·exact⟨fun _ h=>h,fun b hb=>hne b (hc.lt b hb) fun k hk e1=>(hrow k hk).2.1 (e1▸hb)⟩
 ·refine⟨hown,fun a ha=>?_⟩;subst ha
  -- where the new row lies: where the old one lay, or it is new
  have new_:a.block=w.heap.size->¬ S a.block/\∀ x∈l,x.1≠a.block:=fun hw=>
   ⟨fun hs=>by have:=hc.lt _ hs;omega,fun x hx e1=>by have:=hc.locs.lt x hx;omega⟩
  have hy':∀ j u,ys[j]?=some u->w.cell? (ad.add j)=some u:=fun j u hu=>by have:=cellsOf ys 0 hy j u hu;rwa [zm] at this
  subst h4;subst h5;have hsmall:n+m<=9223372036854775807:=by omega
  rcases ho.row.2 with ⟨h6,h7⟩ | ⟨g,cp,cur,h6,h7,h8,h9,h10,h11,h12⟩
  ·cases h6;rw [zm] at*;by_cases hm:m=0
   ·subst hm;have hr:(Builtin.append_ #[t,t] T #[.slice none 0 0,.slice (some ad) 0 c]).run P w=.ok (.slice none 0 0) w:=by have hys:ys=[]:=zn (by simpa using hl);have hf:=run_firstCells_some (P:=P) w i.size 0 ad 0 c ys hl hy';simp [Builtin.append_,run_underlying ht,sizeOf,typeInfo,h2,Builtin.lenOf,hf]
    rw [hr] at hrun;cases hrun
   ·have hr:=run_append_nil (P:=P) w t T e i z ht h2 h3 ad m c ys hl hy' (by omega) (by omega) (by omega);rw [hr] at hrun;cases hrun;exact new_ rfl
  ·cases h6;by_cases hroom:n+m<=cap
   ·have hr:=run_append_room (P:=P) w t T e i ht h2 g n cap cur h8 ad m c ys hl hy' (H7 h1) hroom (by rw [hl,h11,<-Nat.add_mul];exact Nat.mul_le_mul_right _ hroom);rw [hr] at hrun;cases hrun;exact ho.out _ rfl
   ·have hr:=run_append_grow (P:=P) w t T e i z ht h2 h3 ⟨g,0,none⟩ n cap xs ho.row.1 (ho.row.cells rfl) ad m c ys hl hy' (by omega) (by omega) (growslice_fits (by omega) hbytes);rw [hr] at hrun;cases hrun;exact new_ rfl
end
end Go.Vc
end
namespace Go.Proofs.YtefdfaeieekioaaGreatDoor
open Go.Vc Go.RowKit Go.Fl
theorem B6o {x:Nat} {a:Int} (hx:Is x a) (h0 : -9223372036854775808<=a) (h1:a<=9223372036854775807) (w:World):(Go.convert 197 2 (.float .f64 x)).run Tryz.prog w=.ok (.int .i64 a) w:=by unfold Go.convert;simp only [Sem.run_bind,run_underlying Tryz.underlying197,run_underlying Tryz.underlying2,Result.andThen_ok];unfold Conv.floatToInt;rw [show FloatKind.f64.decode x=Ieee.double.read x from rfl,A6v hx];have hc:IntKind.i64.min<=a/\a<=IntKind.i64.max:=⟨h0,h1⟩;simp only [y6 hc,Sem.run_pure]
theorem B4s {x:Nat} {a:Int} (hx:Is x a) (h0 : -9223372036854775808<=a) (h1:a<=9223372036854775807) (w:World):(Go.convert 197 3 (.float .f64 x)).run Tryz.prog w=.ok (.int .i64 a) w:=by unfold Go.convert;simp only [Sem.run_bind,run_underlying Tryz.underlying197,run_underlying Tryz.underlying3,Result.andThen_ok];unfold Conv.floatToInt;rw [show FloatKind.f64.decode x=Ieee.double.read x from rfl,A6v hx];have hc:IntKind.i64.min<=a/\a<=IntKind.i64.max:=⟨h0,h1⟩;simp only [y6 hc,Sem.run_pure]
theorem B6p {a:Int} (h:a.natAbs<2 ^ 53) (w:World):(Go.convert 2 197 (.int .i64 a)).run Tryz.prog w=.ok (.float .f64 (dbl a)) w:=by unfold Go.convert;simp only [Sem.run_bind,run_underlying Tryz.underlying197,run_underlying Tryz.underlying2,Result.andThen_ok];unfold Conv.intToFloat;rw [A0b a h];rfl
theorem B4K {a:Int} (h:a.natAbs<2 ^ 53) (w:World):(Go.convert 3 197 (.int .i64 a)).run Tryz.prog w=.ok (.float .f64 (dbl a)) w:=by unfold Go.convert;simp only [Sem.run_bind,run_underlying Tryz.underlying197,run_underlying Tryz.underlying3,Result.andThen_ok];unfold Conv.intToFloat;rw [A0b a h];rfl
theorem B6q {a:Int} (h:a.natAbs<2 ^ 53) (w:World):(Go.convert 5 197 (.int .u8 a)).run Tryz.prog w=.ok (.float .f64 (dbl a)) w:=by unfold Go.convert;simp only [Sem.run_bind,run_underlying Tryz.underlying197,run_underlying Tryz.underlying5,Result.andThen_ok];unfold Conv.intToFloat;rw [A0b a h];rfl
theorem A3U {x:Nat} {a:Int} (hx:Is x a) (h:a.natAbs<2 ^ 53) (w:World):(callFunc 278 #[.float .f64 x]).run Tryz.prog w=.ok (.value (.float .f64 (dbl a))) w:=by
 rw [run_callFunc_extern Tryz.func278 (by kernel_rfl) (by kernel_rfl) (by kernel_rfl) (show Extern.find _=some (Extern.MathFloor.toIntegral "math.archTrunc" .zero) by kernel_rfl)]
 obtain⟨k,e⟩:=hx;have e':FloatKind.f64.decode x=_:=e;show ((match FloatKind.f64.decode x with
  | .nan s t=>if FloatKind.f64.format.quiet t=t then pure (.float .f64 x) else do
   let kept <-choose (.extern "math.Floor,Ceil,Trunc,RoundToEven.signallingNaN kept" 2)
   pure (.float .f64 (if kept==1 then x else FloatKind.f64.encode (.nan s (FloatKind.f64.format.quiet t))))
  | d=>pure (.float .f64 (FloatKind.f64.encode (d.integral .zero))):Sem Value).run Tryz.prog w).andThen (fun v w1=>.ok (Next.value v) w1)=_
 rw [e'];simp only [A1d,Sem.run_pure,Result.andThen_ok];rw [show FloatKind.f64.encode _=Ieee.double.write (.number (decide (a<0)) (a.natAbs*2 ^ 0) (-((0:Nat):Int))) by rw [Nat.pow_zero,Nat.mul_one];rfl,A0B a 0 h]
theorem A9k {x:Nat} {a:Int} (hx:Is x a) (h:a.natAbs<2 ^ 53) (w:World):Calls Tryz.prog 254 #[.float .f64 x] w (C8 (.float .f64 (dbl a)) w):=by refine vE Tryz.func254 ?_;exact⟨_,_,A3U hx h w,rfl,Below.refl _ _⟩
theorem A0D {x y z:Nat} {a b c:Int} (hx:Is x a) (hy:Is y b) (hz:Is z c) (h:a.natAbs<2 ^ 53) (w:World):Calls Tryz.prog 211 #[.float .f64 x,.float .f64 y,.float .f64 z] w (C8 (.bool (decide (b<=a)&&decide (a<=c))) w):=by
 refine vE Tryz.func211 ?_;refine B6k hx hy ?_;by_cases h1:b<=a
 ·refine dt h1 ?_;refine B6l hx hz ?_;by_cases h2:a<=c
  ·refine dt h2 ?_;refine B4 (A9k hx h _) ?_;intro w' hb;refine B6m hx (F5 a h) ?_;refine⟨B7 ?_,hb⟩;simp [h1,h2]
  ·refine df h2 ?_;refine⟨B7 ?_,Below.refl _ _⟩;simp [h2]
 ·refine df h1 ?_;refine⟨B7 ?_,Below.refl _ _⟩;simp [h1]
theorem A1i (n:Int) (b:Nat) (h:n.natAbs<2 ^ 53) (e:dbl n=b):Is b n:=e▸F5 n h
theorem is0:Is 0 0:=A1i 0 0 (by decide) (by kernel_rfl)
theorem is1:Is 4607182418800017408 1:=A1i 1 _ (by decide) (by kernel_rfl)
theorem is3:Is 4613937818241073152 3:=A1i 3 _ (by decide) (by kernel_rfl)
theorem is5:Is 4617315517961601024 5:=A1i 5 _ (by decide) (by kernel_rfl)
theorem isP:Is 4679237813814689792 65520:=A1i 65520 _ (by decide) (by kernel_rfl)
theorem isM:Is 4832362400168542208 1125899906842624:=A1i 1125899906842624 _ (by decide) (by kernel_rfl)
theorem isN:Is 14055734437023318016 (-1125899906842624):=A1i (-1125899906842624) _ (by decide) (by kernel_rfl)
def inP (a:Int):Bool:=decide (0<=a)&&decide (a<=65520)
theorem R1 {x y:Nat} {a b:Int} (hx:Is x a) (hy:Is y b) (ha:a.natAbs<2 ^ 53) (hb:b.natAbs<2 ^ 53) (w:World):Calls Tryz.prog 166 #[.complex .f64 x y] w (C8 (.bool (inP a&&inP b)) w):=by
 refine vE Tryz.func166 ?_;refine B4 (A0D hx is0 isP ha _) ?_;intro w1 h1;cases e:inP a
 ·refine C3X e ?_;exact⟨B7 rfl,h1⟩
 ·refine B0 e ?_;refine B4 (A0D hy is0 isP hb _) ?_;intro w2 h2;exact⟨B7 rfl,h1.trans (h2.mono h1.size)⟩
theorem B77 (a:Int):(if a.tmod 65521<0 then a.tmod 65521+65521 else a.tmod 65521)=a % 65521:=by
 by_cases h:0<=a
 ·rw [Int.tmod_eq_emod_of_nonneg h,y7 (by omega)]
 ·have e:a.tmod 65521 = -((-a) % 65521):=by have h2:(-a).tmod 65521=(-a) % 65521:=Int.tmod_eq_emod_of_nonneg (by omega);rw [Int.neg_tmod] at h2;omega
  rw [e];by_cases h3 : -((-a) % 65521)<0
  ·rw [y6 h3];omega
  ·rw [y7 h3];omega
theorem A4k {x:Nat} {a:Int} (hx:Is x a) (ha:a.natAbs<2 ^ 53) (w:World):Calls Tryz.prog 316 #[.float .f64 x] w (C8 (.float .f64 (dbl (a % 65521))) w):=by
 refine vE Tryz.func316 ?_;refine⟨_,_,B6o hx (by omega) (by omega) _,?_⟩;refine X4 (by decide) ?_;have hm:=B77 a;by_cases h:a.tmod 65521<0
 ·refine dt h ?_;have e3:IntKind.i64.wrap (a.tmod 65521+65521)=a.tmod 65521+65521:=E0 _ _ (by omega) (by omega);rw [y6 h] at hm;refine⟨_,_,B6p (a:=IntKind.i64.wrap (a.tmod 65521+65521)) (by rw [e3];omega) _,?_⟩;exact⟨by rw [e3,hm];rfl,Below.refl _ _⟩
 ·refine df h ?_;rw [y7 h] at hm;refine⟨_,_,B6p (a:=a.tmod 65521) (by omega) _,?_⟩;exact⟨by rw [hm];rfl,Below.refl _ _⟩
theorem A6w {x y:Nat} {a b:Int} (hx:Is x a) (hy:Is y b) (ha:a.natAbs<=1125899906842624) (hb:b.natAbs<=1125899906842624) (w:World):
  Calls Tryz.prog 285 #[.complex .f64 x y] w (C8 (.complex .f64 (dbl (a % 65521)) (dbl (b % 65521))) w):=by
 refine vE Tryz.func285 ?_;have in_:∀ c:Int,c.natAbs<=1125899906842624->(decide (-1125899906842624<=c)&&decide (c<=1125899906842624))=true:=by intro c hc;simp;omega
 refine B4 (A0D hx isN isM (by omega) _) ?_;intro w1 h1;refine C3X (by rw [in_ a ha];rfl) ?_;refine B4 (A0D hy isN isM (by omega) _) ?_;intro w2 h2;refine C3X (by rw [in_ b hb];rfl) ?_;refine B4 (A4k hx (by omega) _) ?_;intro w3 h3;refine B4 (A4k hy (by omega) _) ?_;intro w4 h4;have h12:=h1.trans (h2.mono h1.size);have h13:=h12.trans (h3.mono h12.size);exact⟨rfl,h13.trans (h4.mono h13.size)⟩
theorem A0E {a:Int} (h:0<=a/\a<65521):inP a=true:=by unfold inP;simp;omega
theorem B2I {x y x' y':Nat} {a b c d:Int} (hx:Is x a) (hy:Is y b) (hx':Is x' c) (hy':Is y' d) (ha:0<=a/\a<65521) (hb:0<=b/\b<65521) (hc:0<=c/\c<65521) (hd:0<=d/\d<65521) (w:World):
  Calls Tryz.prog 260 #[.complex .f64 x y,.complex .f64 x' y'] w (C8 (.complex .f64 (dbl ((a+c) % 65521)) (dbl ((b+d) % 65521))) w):=by
 refine vE Tryz.func260 ?_;refine B4 (R1 hx hy (by omega) (by omega) _) ?_;intro w1 h1;refine C3X (by rw [A0E ha,A0E hb];rfl) ?_;refine B4 (R1 hx' hy' (by omega) (by omega) _) ?_;intro w2 h2;refine C3X (by rw [A0E hc,A0E hd];rfl) ?_;refine B4q hx hy hx' hy' (by omega) (by omega) ?_;refine B4 (A6w (F5 _ (by omega)) (F5 _ (by omega)) (by omega) (by omega) _) ?_;intro w3 h3;have h12:=h1.trans (h2.mono h1.size);exact⟨rfl,h12.trans (h3.mono h12.size)⟩
theorem A3V {u v:Int} (hu:0<=u/\u<65521) (hv:0<=v/\v<65521):0<=u*v/\u*v<4294967296:=by refine⟨Int.mul_nonneg hu.1 hv.1,?_⟩;have h1:u*v<=u*65521:=Int.mul_le_mul_of_nonneg_left (by omega) hu.1;omega
theorem A6x {x y x' y':Nat} {a b c d:Int} (hx:Is x a) (hy:Is y b) (hx':Is x' c) (hy':Is y' d) (ha:0<=a/\a<65521) (hb:0<=b/\b<65521) (hc:0<=c/\c<65521) (hd:0<=d/\d<65521) (w:World):
  Calls Tryz.prog 261 #[.complex .f64 x y,.complex .f64 x' y'] w (C8 (.complex .f64 (dbl ((a*c-b*d) % 65521)) (dbl ((a*d+b*c) % 65521))) w):=by
 refine vE Tryz.func261 ?_;refine B4 (R1 hx hy (by omega) (by omega) _) ?_;intro w1 h1;refine C3X (by rw [A0E ha,A0E hb];rfl) ?_;refine B4 (R1 hx' hy' (by omega) (by omega) _) ?_;intro w2 h2;refine C3X (by rw [A0E hc,A0E hd];rfl) ?_;have l1:=A3V ha hc;have l2:=A3V hb hd;have l3:=A3V ha hd;have l4:=A3V hb hc;refine B4r hx hy hx' hy' (by omega) (by omega) (by omega) (by omega) ?_;refine B4 (A6w (F5 _ (by omega)) (F5 _ (by omega)) (by omega) (by omega) _) ?_;intro w3 h3;have h12:=h1.trans (h2.mono h1.size);exact⟨rfl,h12.trans (h3.mono h12.size)⟩
def B2J (z:Int × Int) (c:UInt8):Int × Int:=
 ((((z.1*3-z.2*5) % 65521)+((c.toNat:Int)+1)) % 65521,(((z.1*5+z.2*3) % 65521)+0) % 65521)
def zOn (z:Int × Int) (l:List UInt8):Int × Int:=l.foldl B2J z
def zOk (z:Int × Int):Prop:=(0<=z.1/\z.1<65521)/\(0<=z.2/\z.2<65521)
theorem B2K (z:Int × Int) (c:UInt8):zOk (B2J z c):=by unfold zOk B2J;omega
theorem A6y (l:List UInt8):∀ z:Int × Int,zOk z->zOk (zOn z l):=by
 induction l with
 | nil=>intro z h;exact h
 | cons c r ih=>intro z h;exact ih _ (B2K z c)
theorem B2L (z:Int × Int) (l:List UInt8) (k:Nat) (h:k<l.length):zOn z (l.take (k+1))=B2J (zOn z (l.take k)) (l.getD k 0):=by unfold zOn;rw [List.take_succ_eq_append_getElem h,List.foldl_append,List.getD_eq_getElem?_getD,List.getElem?_eq_getElem h];rfl
theorem C3 {n:Nat} (h:n<9223372036854775807):IntKind.i64.wrap ((n:Int)+1)=((n+1:Nat):Int):=by rw [E0 _ _ (by omega) (by omega)];rfl
theorem B4t {z:Int × Int} (hz:zOk z) {S:Nat->Prop} {A:Option Addr} {n cap:Nat} {l:List UInt8} (hn:n=l.length) (hM:n<=9223372036854775807) (w:World) (hR:Row S w A n cap (bv l)):
  Calls Tryz.prog 220 #[.complex .f64 (dbl z.1) (dbl z.2),.slice A n cap] w (C8 (.complex .f64 (dbl (zOn z l).1) (dbl (zOn z l).2)) w):=by
 refine vE Tryz.func220 ?_;refine B4 (R1 (F5 z.1 (by have:=hz.1;omega)) (F5 z.2 (by have:=hz.2;omega)) (by have:=hz.1;omega) (by have:=hz.2;omega) _) ?_;intro w0 h0;refine C3X (by rw [A0E hz.1,A0E hz.2];rfl) ?_;refine⟨Nat,fun k=>[(0,.complex .f64 (dbl (zOn z (l.take k)).1) (dbl (zOn z (l.take k)).2)),(10,.slice A n cap),(11,.int .i64 n),(12,.int .i64 k)],fun k w'=>k<=n/\Below w.heap.size w w',fun k _=>n-k,0,
  ⟨rfl,rfl,rfl,rfl,trivial⟩,⟨zb _,h0⟩,?_⟩
 rintro k w' u ⟨hk,hb⟩;by_cases hlt:k<n
 ·refine dt (by omega) ?_;have hv:=A2x l k (by omega);obtain⟨ad,rfl,hc⟩:=(Row.below hR hb).at hv;refine⟨⟨by omega,by omega⟩,?_⟩;refine⟨_,by rw [zh,Nat.mul_one];exact hc,?_⟩;have zk:=A6y (l.take k) z hz;have hs:=B2L z l k (by omega);have hc8:(l.getD k 0).toNat<256:=(l.getD k 0).toNat_lt;refine B4 (A6x (F5 (zOn z (l.take k)).1 (by have:=zk.1;omega)) (F5 (zOn z (l.take k)).2 (by have:=zk.2;omega)) is3 is5 zk.1 zk.2 (by decide) (by decide) _) ?_;intro w1 h1;refine⟨_,_,B6q (by omega) _,?_⟩;refine B6n (F5 _ (by omega)) is1 (by omega) ?_;refine B4 (B2I (F5 _ (by omega)) (F5 _ (by omega)) (F5 _ (by omega)) is0 (by omega) (by omega) (by omega) (by omega) _) ?_;intro w2 h2;have h12:=h1.trans (h2.mono h1.size);refine⟨k+1,⟨?_,rfl,rfl,y5 _ (C3 (by omega)),trivial⟩,⟨hlt,hb.trans (h12.mono hb.size)⟩,by show n-(k+1)<n-k;omega⟩;rw [hs];rfl
 ·refine df (by omega) ?_;have e:l.take k=l:=List.take_of_length_le (by omega);refine⟨?_,hb⟩;show Ending.returned (.complex .f64 (dbl (zOn z (l.take k)).1) (dbl (zOn z (l.take k)).2))=_;rw [e]
theorem A1j {S:Nat->Prop} {A:Option Addr} {n cap:Nat} {l:List UInt8} (hn:n=l.length) (hM:n<=9223372036854775807) (w:World) (hR:Row S w A n cap (bv l)):
  Calls Tryz.prog 177 #[.slice A n cap] w (C8 (.complex .f64 (dbl (zOn (0,1) l).1) (dbl (zOn (0,1) l).2)) w):=by
 refine vE Tryz.func177 ?_;refine B4 (B4t (z:=(0,1)) ⟨by decide,by decide⟩ hn hM _ hR) ?_;intro w1 h1;exact⟨rfl,h1⟩
theorem A4l (n:Int):bits .and .i64 n 15=n % 16:=by
 have h15:(BitVec.ofInt 64 15).toNat=2 ^ 4-1:=by decide
 have key:(BitVec.ofInt 64 n &&& BitVec.ofInt 64 15).toNat=(n % ((2 ^ 64:Nat):Int)).toNat % 2 ^ 4:=by rw [BitVec.toNat_and,BitVec.toNat_ofInt,h15,Nat.and_two_pow_sub_one_eq_mod]
 show IntKind.i64.wrap ((BitVec.ofInt 64 n &&& BitVec.ofInt 64 15).toNat:Nat)=n % 16;rw [key,IntKind.wrap_i64];omega
def B6r (d:Nat):UInt8:=if d<10 then UInt8.ofNat (48+d) else UInt8.ofNat (87+d)
def dig (a:Int) (q:Nat):UInt8:=B6r (a / 2 ^ (12-4*q) % 16).toNat
def A6z (a:Int):List UInt8:=[dig a 0,dig a 1,dig a 2,dig a 3]
def X5 (z:Int × Int):List UInt8:=A6z z.1++A6z z.2
theorem A0c (d:Nat) (h:d<16):(B6r d).toNat=if d<10 then 48+d else 87+d:=by
 unfold B6r;split
 ·rw [UInt8.toNat_ofNat'];omega
 ·rw [UInt8.toNat_ofNat'];omega
theorem A9l (a:Int) (q:Nat) (h:q<4):(A6z a).take (q+1)=(A6z a).take q++[dig a q]:=by
 match q,h with
 | 0,_=>rfl
 | 1,_=>rfl
 | 2,_=>rfl
 | 3,_=>rfl
theorem A4m (a:Int) (q:Nat):0<=a / 2 ^ (12-4*q) % 16/\a / 2 ^ (12-4*q) % 16<16:=by omega
def K9 (z:Int × Int) (i:Nat):Int:=if i=0 then z.1 else z.2
theorem A58 (q:Nat) (h:q<4):IntKind.i64.wrap (4*(3-(q:Int)))=((12-4*q:Nat):Int):=by rw [IntKind.wrap_i64];omega
theorem A59:(Tryz.prog.info? 5).map (fun i=>(i.zero,i.size,i.bytes))=some (some (.int .u8 0),1,1):=by kernel_rfl
theorem A4n {a b:Nat} (i:Nat) (hi:i<2) (w:World):(Instr.index 251 (.agg #[.float .f64 a,.float .f64 b]) (.int .i64 i)).run Tryz.prog w=.ok (.float .f64 (if i=0 then a else b)) w:=by
 obtain⟨ti,hsz,_,hs1,_⟩:=info_parts (show (Tryz.prog.info? 197).map (fun i=>(i.zero,i.size,i.bytes))=some (some (.float .f64 0),1,8) by kernel_rfl);unfold Instr.index;simp only [Sem.run_bind,asIntOf,Sem.run_pure,Result.andThen_ok,run_underlying Tryz.underlying251];rw [y6 ⟨by omega,by omega⟩]
 match i,hi with
 | 0,_=>simp [part,isAgg,sizeOf,typeInfo,run_underlying Tryz.underlying197,hsz,hs1]
 | 1,_=>simp [part,isAgg,sizeOf,typeInfo,run_underlying Tryz.underlying197,hsz,hs1]
theorem A1k {z:Int × Int} (hz:zOk z) (w:World):Calls Tryz.prog 176 #[.complex .f64 (dbl z.1) (dbl z.2)] w (C8 (.string ⟨(X5 z).toArray⟩) w):=by
 refine vE Tryz.func176 ?_;have d1:=F5 z.1 (by have:=hz.1;omega);have d2:=F5 z.2 (by have:=hz.2;omega);refine B4 (R1 d1 d2 (by have:=hz.1;omega) (by have:=hz.2;omega) _) ?_;intro w0 h0;refine C3X (by rw [A0E hz.1,A0E hz.2];rfl) ?_;have c0:=(Ctx.start w (fun _=>False) (fun _ h=>h.elim));have c1:=(c0.quiet h0).1;have step:∀ i:Nat,(X5 z).take (4*i)++A6z (K9 z i)=(X5 z).take (4*(i+1))\/2<=i:=by
  intro i
  match i with
  | 0=>exact .inl rfl
  | 1=>exact .inl rfl
  | n+2=>exact .inr (by omega)
 refine⟨Nat × Option Addr × Nat,fun x=>[(3,.slice x.2.1 (4*x.1) x.2.2),(16,.agg #[.float .f64 (dbl z.1),.float .f64 (dbl z.2)]),(17,.int .i64 x.1)],
  fun x w'=>x.1<=2/\Ctx (fun _=>False) w (fun _=>False) w' []/\Own (fun _=>False) w.heap.size w' [] 5 1 x.2.1 (4*x.1) x.2.2 (bv ((X5 z).take (4*x.1))),fun x _=>2-x.1,(0,none,0),
  ⟨rfl,rfl,rfl,trivial⟩,⟨zb _,c1,Own.nil⟩,?_⟩
 rintro⟨i,A,cap⟩ w' u ⟨hi,hc,ho⟩;by_cases hlt:i<2
 ·refine dt (by show (i:Int)<2;omega) ?_;have hp:0<=K9 z i/\K9 z i<65521:=by unfold K9;have:=hz.1;have:=hz.2;split<;>omega
  have e1:∀ w,(Instr.index 251 (.agg #[.float .f64 (dbl z.1),.float .f64 (dbl z.2)]) (.int .i64 i)).run Tryz.prog w=.ok (.float .f64 (dbl (K9 z i))) w:=by
   intro w
   match i,hlt with
   | 0,_=>exact A4n 0 (by decide) w
   | 1,_=>exact A4n 1 (by decide) w
  refine⟨_,e1,?_⟩;refine⟨_,_,B4s (F5 (K9 z i) (by omega)) (by omega) (by omega) _,?_⟩;refine⟨Nat × Option Addr × Nat,fun x=>[(3,.slice x.2.1 (4*i+x.1) x.2.2),(6,.int .i64 (K9 z i)),(7,.int .i64 (3-(x.1:Int))),(16,.agg #[.float .f64 (dbl z.1),.float .f64 (dbl z.2)]),(17,.int .i64 i)],
   fun x w'=>x.1<=4/\Ctx (fun _=>False) w (fun _=>False) w' []/\Own (fun _=>False) w.heap.size w' [] 5 1 x.2.1 (4*i+x.1) x.2.2 (bv ((X5 z).take (4*i)++(A6z (K9 z i)).take x.1)),fun x _=>4-x.1,(0,A,cap),
   ⟨rfl,rfl,rfl,rfl,rfl,trivial⟩,⟨zb _,hc,?_⟩,?_⟩
  ·simpa using ho
  rintro⟨q,A,cap⟩ w' u ⟨hq,hc,ho⟩;by_cases hq4:q<4
  ·refine dt (by show (0:Int)<=3-q;omega) ?_;have es:=A58 q hq4;refine⟨?_,?_⟩
   ·show 0<=IntKind.i64.wrap (4*(3-(q:Int)))/\IntKind.i64.wrap (4*(3-(q:Int)))<=64;rw [es];omega
   have hD:IntKind.u8.wrap (bits .and .i64 (K9 z i / 2 ^ (IntKind.i64.wrap (4*(3-(q:Int)))).toNat) 15)=K9 z i / 2 ^ (12-4*q) % 16:=by rw [es,zh,A4l];have:=A4m (K9 z i) q;exact IntWalk.u8_in _ ⟨by omega,by omega⟩
   have hr:=A4m (K9 z i) q;have hdv:((dig (K9 z i) q).toNat:Int)=if K9 z i / 2 ^ (12-4*q) % 16<10 then 48+K9 z i / 2 ^ (12-4*q) % 16 else 87+K9 z i / 2 ^ (12-4*q) % 16:=by unfold dig;rw [A0c _ (by omega)];split<;>split<;>omega
   have hn3:IntKind.i64.wrap (3-(q:Int)-1)=3-((q+1:Nat):Int):=by rw [IntWalk.i64_in _ ⟨by omega,by omega⟩];omega
   have fin:∀ (v:Value) (g:Nat) (w1:World),v=.int .u8 ((dig (K9 z i) q).toNat:Int)->New w' [v] 5 g w1->
     Ctx (fun _=>False) w (fun _=>False) w1 [(g,5,[v])]/\Own (fun _=>False) w.heap.size w1 [(g,5,[v])] 5 1 A (4*i+q) cap (bv ((X5 z).take (4*i)++(A6z (K9 z i)).take q))/\D7 [v]=true:=
    fun v g w1 hv hN=>⟨(hc.loc hN).1,ho.loc hN,by rw [hv];rfl⟩
   have next:∀ (v:Value),v=.int .u8 ((dig (K9 z i) q).toNat:Int)->bv ((X5 z).take (4*i)++(A6z (K9 z i)).take q)++[v]=bv ((X5 z).take (4*i)++(A6z (K9 z i)).take (q+1)):=by intro v hv;rw [A9l _ _ hq4,hv,<-zv,A4j _ [_]];rfl
   by_cases h10:K9 z i / 2 ^ (12-4*q) % 16<10
   ·refine dt (by rw [hD];exact h10) ?_;intro g w1 hN;have hv:Value.int .u8 (IntKind.u8.wrap (48+IntKind.u8.wrap (bits .and .i64 (K9 z i / 2 ^ (IntKind.i64.wrap (4*(3-(q:Int)))).toNat) 15)))=.int .u8 ((dig (K9 z i) q).toNat:Int):=by rw [hD,IntWalk.u8_in _ ⟨by omega,by omega⟩,hdv,y6 h10]
    obtain⟨k1,k2,k3⟩:=fin _ g w1 hv hN;refine R0 Tryz.underlying207 A59 rfl (by decide) k1 k2 rfl (k1.cells 0 rfl) k3 (by omega) (by decide) ?_;intro A' cap' w2 k4 _ k5 _;refine⟨(q+1,A',cap'),⟨rfl,rfl,y5 _ hn3,rfl,rfl,trivial⟩,⟨hq4,k4.drop,?_⟩,by show 4-(q+1)<4-q;omega⟩;rw [next _ hv] at k5;exact k5.drop
   ·refine df (by rw [hD];exact h10) ?_;intro g w1 hN;have hv:Value.int .u8 (IntKind.u8.wrap (IntKind.u8.wrap (97+IntKind.u8.wrap (bits .and .i64 (K9 z i / 2 ^ (IntKind.i64.wrap (4*(3-(q:Int)))).toNat) 15))-10))=.int .u8 ((dig (K9 z i) q).toNat:Int):=by rw [hD,IntWalk.u8_in (97+_) ⟨by omega,by omega⟩,IntWalk.u8_in _ ⟨by omega,by omega⟩,hdv,y7 h10];congr 1;omega
    obtain⟨k1,k2,k3⟩:=fin _ g w1 hv hN;refine R0 Tryz.underlying207 A59 rfl (by decide) k1 k2 rfl (k1.cells 0 rfl) k3 (by omega) (by decide) ?_;intro A' cap' w2 k4 _ k5 _;refine⟨(q+1,A',cap'),⟨rfl,rfl,y5 _ hn3,rfl,rfl,trivial⟩,⟨hq4,k4.drop,?_⟩,by show 4-(q+1)<4-q;omega⟩;rw [next _ hv] at k5;exact k5.drop
  ·refine df (by show ¬ (0:Int)<=3-q;omega) ?_;obtain rfl:q=4:=by omega
   have hst:=(step i).resolve_right (by omega);refine⟨(i+1,A,cap),⟨rfl,rfl,y5 _ (C3 (by omega)),trivial⟩,⟨hlt,hc,?_⟩,by show 2-(i+1)<2-i;omega⟩;rw [<-hst];exact ho
 ·refine df (by show ¬ (i:Int)<2;omega) ?_;obtain rfl:i=2:=by omega
  have hR:=(ho.told hc).2.2 ho.fit.1 ho.fit.2;refine A9j Tryz.underlying207 Tryz.underlying5 Tryz.underlying9 hR rfl ?_;exact⟨rfl,hc.below⟩
def no (_:Nat):Prop:=False
theorem U6 (a b:List UInt8):(⟨a.toArray⟩++⟨b.toArray⟩:ByteArray)=⟨(a++b).toArray⟩:=by apply ByteArray.ext;rw [ByteArray.data_append];simp
theorem G4 (a:List UInt8):(⟨a.toArray⟩:ByteArray).size=a.length:=by show a.toArray.size=_;simp
theorem B4u (t:ByteArray) (hM:t.size<=maxLen) (w:World):Calls Tryz.prog 294 #[.string t] w (C8 (.string ⟨(X5 (zOn (0,1) t.data.toList)).toArray⟩) w):=by
 refine vE Tryz.func294 ?_;have hM':t.size<=9223372036854775807:=by simp only [maxLen] at hM;omega
 refine A1f no Tryz.underlying9 Tryz.underlying207 Tryz.underlying5 hM ?_;intro g cap w1 h1 hR;refine B4 (A1j (T3 t).symm hM' _ hR) ?_;intro w2 h2;refine B4 (A1k (A6y _ _ ⟨by decide,by decide⟩) _) ?_;intro w3 h3;have h12:=h1.trans (h2.mono h1.size);exact⟨rfl,h12.trans (h3.mono h12.size)⟩
def T9 (c:UInt8):Bool:=(decide (48<=c.toNat)&&decide (c.toNat<=57))||(decide (97<=c.toNat)&&decide (c.toNat<=102))
def hv (c:UInt8):Int:=if c.toNat<=57 then (c.toNat:Int)-48 else (c.toNat:Int)-87
def A2k (l:List UInt8):Int:=l.foldl (fun a c=>a*16+hv c) 0
def pp (l:List UInt8) (k:Nat):Int × Int:=(A2k ((l.take k).take 4),A2k ((l.take k).drop 4))
def Y7 (l:List UInt8):(Int × Int) × Bool:=
 if l.length=8/\l.all T9=true/\(pp l 8).1<65521/\(pp l 8).2<65521 then (pp l 8,true) else ((0,0),false)
theorem A4o (l:List UInt8) (c:UInt8):A2k (l++[c])=A2k l*16+hv c:=by unfold A2k;rw [List.foldl_append];rfl
theorem N4 {α:Type} (l:List α) (k:Nat) (d:α) (h:k<l.length):l.take (k+1)=l.take k++[l.getD k d]:=by rw [List.take_succ_eq_append_getElem h,List.getD_eq_getElem?_getD,List.getElem?_eq_getElem h];rfl
theorem B4v (l:List UInt8) (k:Nat) (h:k<l.length) (h4:k<4):pp l (k+1)=((pp l k).1*16+hv (l.getD k 0),(pp l k).2):=by
 unfold pp;rw [N4 l k 0 h];have e1:(l.take k).length=k:=by rw [zf];omega
 rw [List.take_of_length_le (by rw [z6,e1];exact h4),A4o,List.take_of_length_le (i:=4) (by omega),zq (by rw [z6,e1];exact h4),zq (by omega)]
theorem B4w (l:List UInt8) (k:Nat) (h:k<l.length) (h4:4<=k):pp l (k+1)=((pp l k).1,(pp l k).2*16+hv (l.getD k 0)):=by
 unfold pp;rw [N4 l k 0 h];have e1:(l.take k).length=k:=by rw [zf];omega
 rw [List.take_append_of_le_length (by omega),List.drop_append_of_le_length (by omega),A4o]
theorem A3W (c:UInt8) (h:T9 c=true):0<=hv c/\hv c<16:=by unfold T9 at h;unfold hv;simp only [Bool.or_eq_true,z7,y0] at h;split<;>omega
theorem A60 (l:List UInt8):∀ k:Nat,k<=8->k<=l.length->(l.take k).all T9=true->(0<=(pp l k).1/\(pp l k).1<16 ^ (min k 4))/\(0<=(pp l k).2/\(pp l k).2<16 ^ (k-4))
 | 0,_,_,_=>⟨by simp [pp,A2k],by simp [pp,A2k]⟩
 | k+1,h8,hl,ha=>by
  rw [N4 l k 0 (by omega),List.all_append,z7] at ha;obtain⟨i1,i2⟩:=A60 l k (by omega) (by omega) ha.1;have hr:=A3W (l.getD k 0) (by simpa using ha.2);by_cases h4:k<4
  ·rw [B4v l k (by omega) h4];have e0:k-4=k+1-4:=by omega
   have e1:min k 4=k:=by omega
   have e2:min (k+1) 4=k+1:=by omega
   rw [e1] at i1;rw [e2,<-e0,Int.pow_succ];refine⟨?_,i2⟩;generalize (16:Int) ^ k=p at*;show 0<=(pp l k).1*16+hv (l.getD k 0)/\(pp l k).1*16+hv (l.getD k 0)<p*16;omega
  ·rw [B4w l k (by omega) (by omega)];have e1:min k 4=4:=by omega
   have e2:min (k+1) 4=4:=by omega
   have e3:k+1-4=(k-4)+1:=by omega
   rw [e1] at i1;rw [e2,e3,show (16:Int) ^ (k-4+1)=16 ^ (k-4)*16 from Int.pow_succ _ _];refine⟨i1,?_⟩;generalize (16:Int) ^ (k-4)=p at*;show 0<=(pp l k).2*16+hv (l.getD k 0)/\(pp l k).2*16+hv (l.getD k 0)<p*16;omega
theorem B4L (l:List UInt8) (k:Nat) (h8:k<=8) (hl:k<=l.length) (ha:(l.take k).all T9=true):(0<=(pp l k).1/\(pp l k).1<65536)/\(0<=(pp l k).2/\(pp l k).2<65536):=by
 obtain⟨i1,i2⟩:=A60 l k h8 hl ha;have p1:(16:Int) ^ (min k 4)<=65536:=by have:(16:Nat) ^ (min k 4)<=16 ^ 4:=Nat.pow_le_pow_right (by decide) (Nat.min_le_right _ _);have h2:((16 ^ (min k 4):Nat):Int)<=((16 ^ 4:Nat):Int):=Int.ofNat_le.2 this;rw [Int.natCast_pow] at h2;exact h2
 have p2:(16:Int) ^ (k-4)<=65536:=by have:(16:Nat) ^ (k-4)<=16 ^ 4:=Nat.pow_le_pow_right (by decide) (by omega);have h2:((16 ^ (k-4):Nat):Int)<=((16 ^ 4:Nat):Int):=Int.ofNat_le.2 this;rw [Int.natCast_pow] at h2;exact h2
 omega
theorem A1l (l:List UInt8) (h:l.length≠8\/l.all T9=false):Y7 l=((0,0),false):=by
 unfold Y7;rw [y7];rintro⟨h1,h2,_⟩;rcases h with h | h
 ·exact h h1
 ·rw [h] at h2;cases h2
theorem B78:dbl 0=0:=by kernel_rfl
theorem A1m (t:ByteArray) (w:World):Calls Tryz.prog 105 #[.string t] w
  (C8 (.tuple #[.complex .f64 (dbl (Y7 t.data.toList).1.1) (dbl (Y7 t.data.toList).1.2),.bool (Y7 t.data.toList).2]) w):=by
 refine vE Tryz.func105 ?_;obtain⟨l,ht⟩:∃ l,t.data.toList=l:=⟨_,rfl⟩;have hln:=T3 t;rw [ht] at hln ⊢;by_cases h8:l.length=8
 ·refine C3X (by simp;omega) ?_;intro g w1 h1;have c1:=((Ctx.start w no (fun _ h=>h.elim)).loc h1).1;refine⟨Nat,fun k=>[(0,.string t),(4,.pointer (some ⟨g,0,none⟩)),(12,.int .i64 t.size),(13,.int .i64 k)],
   fun k w'=>k<=8/\(l.take k).all T9=true/\Ctx no w no w' [(g,196,[.int .i64 (pp l k).1,.int .i64 (pp l k).2])],fun k _=>8-k,0,
   ⟨rfl,rfl,rfl,rfl,trivial⟩,⟨zb _,rfl,c1⟩,?_⟩
  rintro k w' u ⟨hk,ha,hc⟩;by_cases hlt:k<8
  ·refine dt (by omega) ?_;have hc8:(l.getD k 0).toNat<256:=(l.getD k 0).toNat_lt;have lim:=B4L l k (by omega) (by omega) ha;have bad:=A4g T9 l k 0 (by omega);refine⟨⟨by omega,by omega⟩,?_⟩;have hn':((t.data.toList.getD (k:Int).toNat 0).toNat:Int)=((l.getD k 0).toNat:Int):=by rw [ht];rfl
   generalize ((t.data.toList.getD (k:Int).toNat 0).toNat:Int)=n at*;have hw:IntKind.i64.wrap n=n:=IntWalk.i64_in _ ⟨by omega,by omega⟩;by_cases hd:48<=n/\n<=57
   ·refine dt (by omega) ?_;refine dt (by omega) ?_;have hx:T9 (l.getD k 0)=true:=by unfold T9;simp only [Bool.or_eq_true,z7,y0];omega
    have hr:=A3W _ hx;have h6:IntKind.i64.wrap (IntKind.i64.wrap n-48)=hv (l.getD k 0):=by rw [hw];unfold hv;rw [y6 (by omega),IntWalk.i64_in _ ⟨by omega,by omega⟩];omega
    by_cases h4:k<4
    ·have hq:IntKind.i64.wrap ((k:Int).tdiv 4)=0:=by rw [Int.tdiv_eq_ediv_of_nonneg (by omega),IntWalk.i64_in _ ⟨by omega,by omega⟩];omega
     have ad:(⟨g,0,Option.none⟩:Addr).add ((IntKind.i64.wrap ((k:Int).tdiv 4)).toNat*1)=⟨g,0,Option.none⟩:=by rw [hq];rfl
     have e7:IntKind.i64.wrap (IntKind.i64.wrap ((pp l k).1*16)+IntKind.i64.wrap (IntKind.i64.wrap n-48))=(pp l k).1*16+hv (l.getD k 0):=by rw [h6,IntWalk.i64_in ((pp l k).1*16) ⟨by omega,by omega⟩];exact IntWalk.i64_in _ ⟨by omega,by omega⟩
     refine X4 (by decide) ?_;refine X4 (by decide) ?_;refine⟨by rw [hq];decide,?_⟩;refine⟨.int .i64 (pp l k).1,by rw [ad];exact hc.cell 0 rfl 0 rfl,?_⟩;refine⟨by rw [hq];decide,?_⟩;refine⟨by rw [ad];exact hc.may 0 rfl 0 _ (by show 0+1<=2;decide) rfl,?_⟩;intro w7 h7;rw [ad] at h7;have c7:=(hc.set 0 rfl h7).1;rw [e7] at c7;refine⟨k+1,⟨rfl,rfl,rfl,y5 _ (C3 (by omega)),trivial⟩,⟨by omega,by rw [N4 l k 0 (by omega),List.all_append,ha];simp only [List.all_cons,List.all_nil,hx];rfl,?_⟩,by show 8-(k+1)<8-k;omega⟩;rw [B4v l k (by omega) h4];exact c7
    ·have hq:IntKind.i64.wrap ((k:Int).tdiv 4)=1:=by rw [Int.tdiv_eq_ediv_of_nonneg (by omega),IntWalk.i64_in _ ⟨by omega,by omega⟩];omega
     have ad:(⟨g,0,Option.none⟩:Addr).add ((IntKind.i64.wrap ((k:Int).tdiv 4)).toNat*1)=⟨g,1,Option.none⟩:=by rw [hq];rfl
     have e7:IntKind.i64.wrap (IntKind.i64.wrap ((pp l k).2*16)+IntKind.i64.wrap (IntKind.i64.wrap n-48))=(pp l k).2*16+hv (l.getD k 0):=by rw [h6,IntWalk.i64_in ((pp l k).2*16) ⟨by omega,by omega⟩];exact IntWalk.i64_in _ ⟨by omega,by omega⟩
     refine X4 (by decide) ?_;refine X4 (by decide) ?_;refine⟨by rw [hq];decide,?_⟩;refine⟨.int .i64 (pp l k).2,by rw [ad];exact hc.cell 0 rfl 1 rfl,?_⟩;refine⟨by rw [hq];decide,?_⟩;refine⟨by rw [ad];exact hc.may 0 rfl 1 _ (by show 1+1<=2;decide) rfl,?_⟩;intro w7 h7;rw [ad] at h7;have c7:=(hc.set 0 rfl h7).1;rw [e7] at c7;refine⟨k+1,⟨rfl,rfl,rfl,y5 _ (C3 (by omega)),trivial⟩,⟨by omega,by rw [N4 l k 0 (by omega),List.all_append,ha];simp only [List.all_cons,List.all_nil,hx];rfl,?_⟩,by show 8-(k+1)<8-k;omega⟩;rw [B4w l k (by omega) (by omega)];exact c7
   ·by_cases hd2:97<=n/\n<=102
    ·have hx:T9 (l.getD k 0)=true:=by unfold T9;simp only [Bool.or_eq_true,z7,y0];omega
     have hr:=A3W _ hx;have h6:IntKind.i64.wrap (IntKind.i64.wrap n-87)=hv (l.getD k 0):=by rw [hw];unfold hv;rw [y7 (by omega),IntWalk.i64_in _ ⟨by omega,by omega⟩];omega
     refine dt (by omega) ?_;refine df (by omega) ?_;refine dt (by omega) ?_;refine dt (by omega) ?_;by_cases h4:k<4
     ·have hq:IntKind.i64.wrap ((k:Int).tdiv 4)=0:=by rw [Int.tdiv_eq_ediv_of_nonneg (by omega),IntWalk.i64_in _ ⟨by omega,by omega⟩];omega
      have ad:(⟨g,0,Option.none⟩:Addr).add ((IntKind.i64.wrap ((k:Int).tdiv 4)).toNat*1)=⟨g,0,Option.none⟩:=by rw [hq];rfl
      have e7:IntKind.i64.wrap (IntKind.i64.wrap ((pp l k).1*16)+IntKind.i64.wrap (IntKind.i64.wrap n-87))=(pp l k).1*16+hv (l.getD k 0):=by rw [h6,IntWalk.i64_in ((pp l k).1*16) ⟨by omega,by omega⟩];exact IntWalk.i64_in _ ⟨by omega,by omega⟩
      refine X4 (by decide) ?_;refine X4 (by decide) ?_;refine⟨by rw [hq];decide,?_⟩;refine⟨.int .i64 (pp l k).1,by rw [ad];exact hc.cell 0 rfl 0 rfl,?_⟩;refine⟨by rw [hq];decide,?_⟩;refine⟨by rw [ad];exact hc.may 0 rfl 0 _ (by show 0+1<=2;decide) rfl,?_⟩;intro w7 h7;rw [ad] at h7;have c7:=(hc.set 0 rfl h7).1;rw [e7] at c7;refine⟨k+1,⟨rfl,rfl,rfl,y5 _ (C3 (by omega)),trivial⟩,⟨by omega,by rw [N4 l k 0 (by omega),List.all_append,ha];simp only [List.all_cons,List.all_nil,hx];rfl,?_⟩,by show 8-(k+1)<8-k;omega⟩;rw [B4v l k (by omega) h4];exact c7
     ·have hq:IntKind.i64.wrap ((k:Int).tdiv 4)=1:=by rw [Int.tdiv_eq_ediv_of_nonneg (by omega),IntWalk.i64_in _ ⟨by omega,by omega⟩];omega
      have ad:(⟨g,0,Option.none⟩:Addr).add ((IntKind.i64.wrap ((k:Int).tdiv 4)).toNat*1)=⟨g,1,Option.none⟩:=by rw [hq];rfl
      have e7:IntKind.i64.wrap (IntKind.i64.wrap ((pp l k).2*16)+IntKind.i64.wrap (IntKind.i64.wrap n-87))=(pp l k).2*16+hv (l.getD k 0):=by rw [h6,IntWalk.i64_in ((pp l k).2*16) ⟨by omega,by omega⟩];exact IntWalk.i64_in _ ⟨by omega,by omega⟩
      refine X4 (by decide) ?_;refine X4 (by decide) ?_;refine⟨by rw [hq];decide,?_⟩;refine⟨.int .i64 (pp l k).2,by rw [ad];exact hc.cell 0 rfl 1 rfl,?_⟩;refine⟨by rw [hq];decide,?_⟩;refine⟨by rw [ad];exact hc.may 0 rfl 1 _ (by show 1+1<=2;decide) rfl,?_⟩;intro w7 h7;rw [ad] at h7;have c7:=(hc.set 0 rfl h7).1;rw [e7] at c7;refine⟨k+1,⟨rfl,rfl,rfl,y5 _ (C3 (by omega)),trivial⟩,⟨by omega,by rw [N4 l k 0 (by omega),List.all_append,ha];simp only [List.all_cons,List.all_nil,hx];rfl,?_⟩,by show 8-(k+1)<8-k;omega⟩;rw [B4w l k (by omega) (by omega)];exact c7
    ·have hx:T9 (l.getD k 0)=false:=by unfold T9;simp only [Bool.or_eq_false_iff,Bool.and_eq_false_iff,decide_eq_false_iff_not];omega
     have e0:=A1l l (.inr (bad hx));rw [e0]
     repeat' (first | refine B0 (by assumption) ?_ | refine C3X (by assumption) ?_ | refine X4 (by decide) ?_ | refine A0x (fun _=>?_) (fun _=>?_))
     all_goals simp only [y0,decide_eq_false_iff_not] at*
     all_goals first | (exfalso;omega) | skip
     all_goals (refine⟨?_,hc.below⟩;show _=Ending.returned (.tuple #[.complex .f64 (dbl 0) (dbl 0),.bool false]);rw [B78];rfl)
  ·refine df (by omega) ?_;obtain rfl:k=8:=by omega
   have lim:=B4L l 8 (by omega) (by omega) ha;refine⟨⟨by decide,by decide⟩,?_⟩;refine⟨_,hc.cell 0 rfl 0 rfl,?_⟩;refine⟨_,_,B4K (by omega) _,?_⟩;refine⟨⟨by decide,by decide⟩,?_⟩;refine⟨_,hc.cell 0 rfl 1 rfl,?_⟩;refine⟨_,_,B4K (by omega) _,?_⟩;refine B4 (R1 (F5 _ (by omega)) (F5 _ (by omega)) (by omega) (by omega) _) ?_;intro w5 h5;have c5:=(hc.quiet h5).1;rw [List.take_of_length_le (by omega)] at ha;by_cases hin:(pp l 8).1<65521/\(pp l 8).2<65521
   ·refine C3X (by rw [A0E ⟨lim.1.1,hin.1⟩,A0E ⟨lim.2.1,hin.2⟩];rfl) ?_;refine⟨?_,c5.below⟩;unfold Y7;rw [y6 ⟨h8,ha,hin⟩];rfl
   ·refine B0 (by unfold inP;simp;omega) ?_;refine⟨?_,c5.below⟩;unfold Y7;rw [y7 (fun h=>hin h.2.2)];show _=Ending.returned (.tuple #[.complex .f64 (dbl 0) (dbl 0),.bool false]);rw [B78];rfl
 ·refine B0 (by simp;omega) ?_;rw [A1l l (.inl h8)];refine⟨?_,Below.refl _ _⟩;show _=Ending.returned (.tuple #[.complex .f64 (dbl 0) (dbl 0),.bool false]);rw [B78];rfl
end Go.Proofs.YtefdfaeieekioaaGreatDoor
