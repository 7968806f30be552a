import Derived.Test.YtefdfaeieekioaaGreatDoorQ01
import Derived.Still
import Derived.Test.YtefdfaeieekioaaGreatDoorProg
import Ieee.Arith
import GoSem.Core.Float
import Derived.OwnWalk
import Derived.WalkSpells
import Derived.Laws.IdiomStrings
import Derived.Lib.AtoiErrMem
import Derived.Laws.BitsLemmas
set_option maxRecDepth 100000
set_option maxHeartbeats 40000000
set_option linter.unusedVariables false
set_option linter.unusedSimpArgs false
noncomputable section
section
namespace Go.Vc
open Go Go.RowKit
section
variable {P:Program} {ops:Array Oper} {C:World->Prop}
def YieldsC (P:Program) (ops:Array Oper) (C:World->Prop) (o:Oper) (v:Value) (a:Act):Prop:=
 (Region.wanted o (yielded ops a.tmps)=true/\∀ w,C w->(execOp a.eval o).run P w=.ok (.value v) w)\/
 (Region.wanted o (yielded ops a.tmps)=false/\v=undef)
theorem YieldsC.of_same {o:Oper} {v:Value} {a a':Act} (y:YieldsC P ops C o v a) (h:execOp a'.eval o=execOp a.eval o)
  (w:Region.wanted o (yielded ops a'.tmps)=Region.wanted o (yielded ops a.tmps)):YieldsC P ops C o v a':=by
 unfold YieldsC at*;rw [h,w];exact y
theorem YieldsC.wpOp {i:Nat} {o:Oper} {v:Value} {a:Act} {Q:Exit->Act->World->Prop} (d:ops[i]?=some o) (y:YieldsC P ops C o v a)
  {K:Act->World->Prop} {w:World} (c:C w) (b:K (a.put o.dst v) w):wpOp P ops Q i K a w:=by
 unfold Go.wpOp;simp only [d];obtain⟨h,hv⟩|⟨h,rfl⟩:=y
 ·simp only [h,if_true,Oper.wp,hv w c,Oper.upon];exact .inl b
 ·simp only [h,Bool.false_eq_true,if_false];exact b
theorem B1Y {Q:Exit->Act->World->Prop} {l:Nat} {o j:Oper} {v:Value} (E:ops[l]?=some j) (B:o.apart ops j=true)
  (G:∀ s b,o.op≠.select s b) (q:∀ s b,j.op≠.select s b)
  (p:∀ c a w,Q (.panic c) (a.put o.dst v) w->Q (.panic c) a w) {K:Act->World->Prop} {a:Act} {w:World}
  (y:YieldsC P ops C o v a) (h:wpOp P ops Q l K (a.put o.dst v) w):
  wpOp P ops Q l (fun a' w'=>YieldsC P ops C o v a'/\K (a'.put o.dst v) w') a w:=by
 obtain⟨k,g,t⟩:=Oper.apart_spec B;have keep:∀ (a:Act),YieldsC P ops C o v a->∀ u,YieldsC P ops C o v (a.put j.dst u):=fun a y u=>
  y.of_same (execOp_put o G a j.dst u t) (wanted_put o a j.dst u t)
 have F:∀ d,YieldsC P ops C o v { a with defers:=d::a.defers }:=fun d=>y.of_same rfl rfl;unfold Go.wpOp at*;simp only [E] at*;rw [wanted_put j a o.dst v k] at h;split
 ·rename_i m;simp only [m,if_true] at h;obtain h|⟨z,D⟩:=h
  case inr=>exact .inr ⟨by unfold Oper.asks at *;rw [execOp_put j q a o.dst v k] at z;exact z,D⟩
  refine .inl ?_;unfold Oper.wp at*;rw [execOp_put j q a o.dst v k] at h;generalize (execOp a.eval j).run P w=r at*;cases r with
  | ok n w'=>
   cases n<;>simp only [Oper.upon] at h ⊢
   case value u=>exact⟨keep a y u,by rw [<-Act.put_comm a v u g];exact h⟩
   case skip=>exact⟨keep a y _,by rw [<-Act.put_comm a v undef g];exact h⟩
   case defer d=>
    refine⟨keep _ (F d) _,?_⟩;rw [<-Act.put_comm _ v undef g,<-Act.put_defers];exact h
   case enter f args=>
    refine Calls.mono h fun e A i=>?_;cases e with
    | returned u=>exact⟨keep a y u,by rw [<-Act.put_comm a v u g];exact i⟩
    | panicked c=>exact p _ _ _ i
    | outgrown=>exact i
   case row row args=>exact Rows.mono h fun u A i=>⟨keep a y u,by rw [<-Act.put_comm a v u g];exact i⟩
  | halt x w'=>
   cases x<;>simp only [Oper.upon] at h ⊢
   case panic u=>exact p _ _ _ h
 ·rename_i m;simp only [m] at h;exact⟨keep a y _,by rw [<-Act.put_comm a v undef g];exact h⟩
def A1B (ops:Array Oper) (i:Nat):Bool:=
 match ops[i]? with
 | some o=>(List.range ops.size).all fun j=>Nat.beq j i||o.after.toList.any fun e=>Region.binds .any e&&Nat.beq e.on j
 | none=>false
theorem A7n {o:Array Oper} {j:Nat} {c:Oper} (a:A1B o j=true) (d:o[j]?=some c) {i:Nat} (g:i<o.size) (n:i≠j):∃ e∈c.after,Region.binds .any e=true/\e.on=i:=by
 unfold A1B at a;rw [d] at a;have h:=List.all_eq_true.1 a i (List.mem_range.2 g);simp only [Bool.or_eq_true] at h;obtain h|h:=h
 ·exact absurd (z8 h) n
 ·obtain⟨e,f,b⟩:=List.any_eq_true.1 h;simp only [z7] at b;exact⟨e,by simpa using f,b.1,z8 b.2⟩
def A1C (P:Program) (ops:Array Oper) (C:World->Prop) (Q:Exit->Act->World->Prop):Nat->Array Bool->Act->World->Prop
 | 0,listed,a,w=>Region.ready .any ops listed=[]/\Q .normal a w
 | fuel+1,listed,a,w=>
  (Region.ready .any ops listed=[]->Q .normal a w)/\
  ∀ i∈Region.ready .any ops listed,wpOp P ops Q i (fun a' w'=>(A1B ops i=true\/C w')/\A1C P ops C Q fuel (listed.setIfInBounds i true) a' w') a w
theorem A4P {Q:Exit->Act->World->Prop}:∀ (f:Nat) (l:Array Bool) (a:Act) (w:World),A1C P ops C Q f l a w->wpAny P .any ops Q f l a w
 | 0,_,_,_,h=>h
 | f+1,l,a,w,h=>⟨h.1,fun c i=>wpOp_mono (fun a' w' b=>A4P f _ a' w' b.2) (h.2 c i)⟩
theorem B1Z {Q:Exit->Act->World->Prop} {i:Nat} {g:Oper} {A:Value} (m:ops[i]?=some g) (D:∀ (j:Nat) (G:Oper) s b,ops[j]?=some G->G.op≠.select s b)
  (O:∀ c a w,Q (.panic c) (a.put g.dst A) w->Q (.panic c) a w):
  ∀ (u:Nat) (l:Array Bool) (a:Act) (w:World),C w->
   (∀ j o,ops[j]?=some o->j≠i->l.getD j true=false->(∀ e∈o.after,Region.binds .any e=true->e.on≠i)->g.apart ops o=true)->
   i∈Region.ready .any ops l->YieldsC P ops C g A a->
   A1C P ops C Q u (l.setIfInBounds i true) (a.put g.dst A) w->A1C P ops C Q (u+1) l a w:=by
 intro u;induction u with
 | zero=>
  intro l a w n _ r y H;refine⟨fun f=>(by rw [f] at r;cases r),fun j q=>?_⟩;by_cases h:j=i
  ·subst h;exact y.wpOp m n ⟨.inr n,H⟩
  ·have:=ready_mono q h;rw [H.1] at this;cases this
 | succ u R=>
  intro l a w n E r y H;refine⟨fun f=>(by rw [f] at r;cases r),fun j q=>?_⟩;by_cases h:j=i
  ·subst h;exact y.wpOp m n ⟨.inr n,H⟩
  ·have d:=H.2 j (ready_mono q h);obtain⟨J,o,p,W⟩:=mem_ready.1 q;have F:∀ e∈o.after,Region.binds .any e=true->e.on≠i:=fun e x z v=>by
    have d:=W e x z;have h0:=(mem_ready.1 r).1;rw [v] at d;obtain B|B:=zm i l.size
    ·simp [B] at h0 d;rw [h0] at d;cases d
    ·simp [Array.getElem?_eq_none B] at d
   have X:=B1Y p (E j o p h J F) (fun s b=>D i g s b m) (fun s b=>D j o s b p) O y d;have L:∀ k ok,ops[k]?=some ok->k≠i->(l.setIfInBounds j true).getD k true=false->
     (∀ e∈ok.after,Region.binds .any e=true->e.on≠i)->g.apart ops ok=true:=fun k ok M T I N=>by
    refine E k ok M T ?_ N;by_cases K:j=k
    ·subst K;exact J
    ·rw [getD_set_ne true K] at I;exact I
   have S:i<ops.size:=by
    obtain f|f:=zm i ops.size
    ·exact f
    ·rw [Array.getElem?_eq_none f] at m;cases m
   have U:¬ A1B ops j=true:=fun V=>by obtain⟨e,x,z,v⟩:=A7n V p S (Ne.symm h);exact F e x z v
   refine wpOp_mono (fun a' w' t=>⟨t.2.1,R (l.setIfInBounds j true) a' w' (t.2.1.resolve_left U) L (ready_mono r (Ne.symm h)) t.1 ?_⟩) X;rw [Array.setIfInBounds_comm _ _ h];exact t.2.2
end
inductive Sched where
 | fin
 | z (i:Nat)
 | q (i:Nat) (s:Sched)
 | n (i:Nat) (s t:Sched)
 | stop
def Sched.Q (l:List Nat) (s:Sched):Sched:=List.rec (motive:=fun _=>Sched) s (fun i _ ih=>.q i ih) l
def Sched.isAlt:Sched->Bool
 | .n ..=>true
 | .stop=>true
 | _=>false
def Sched.isStop:Sched->Bool
 | .stop=>true
 | _=>false
def M4 (ops:Array Oper):Sched->Nat->Array Bool->List Nat->Bool
 | .fin,_,_,rem=>rem.isEmpty
 | .z i,fuel+1,listed,rem=>(rem.all fun j=>Nat.beq j i)&&rem.contains i&&A1B ops i&&(Region.ready .any ops (listed.setIfInBounds i true)).isEmpty
 | .q i s,fuel+1,listed,rem=>rem.contains i&&Region.free .any ops listed i&&!s.isStop&&M4 ops s fuel (listed.setIfInBounds i true) (Region.ready .any ops (listed.setIfInBounds i true))
 | .n i s t,fuel+1,listed,rem=>rem.contains i&&!s.isStop&&t.isAlt&&M4 ops s fuel (listed.setIfInBounds i true) (Region.ready .any ops (listed.setIfInBounds i true))&&M4 ops t (fuel+1) listed (rem.filter (fun j=>!Nat.beq j i))
 | .stop,_,_,rem=>rem.isEmpty
 | _,_,_,_=>false
def A2w (ops:Array Oper) (s:Sched):Bool:=
 Region.noSelect ops&&!s.isStop&&M4 ops s ops.size (Array.replicate ops.size false) (Region.ready .any ops (Array.replicate ops.size false))
def qOp (P:Program) (L:Lay) (C:World->Prop) (T:Nat) (op:Op) (f:Fr) (K:Value->Prop):Prop:=
 match op with
 | .load t x=>match L.ty t,ev f x with
  | .none,_=>False
  | .array _ _ _ z,.pointer (some a)=>∃ cs:List Value,cs.length=z.length/\(∀ w,C w->cellsAt w a cs 0)/\K (.agg cs.toArray)
  | .struct _ z,.pointer (some a)=>∃ cs:List Value,cs.length=z.length/\(∀ w,C w->cellsAt w a cs 0)/\K (.agg cs.toArray)
  | _,.pointer (some a)=>∃ v,(∀ w,C w->w.cell? a=some v)/\K v
  | _,_=>False
 | op=>pOp P L T op f K
def gOp (ops0:List Oper) (o:Oper) (f:Fr) (yes:Nat->Op->Fr->Option Nat->Prop) (no:Fr->Prop):Prop:=
 match o with
 | ⟨dst,op,T,_,_,none⟩=>yes T op f dst
 | ⟨dst,op,T,_,_,some (j,want)⟩=>match J6 ops0 f j with
  | some (t,b)=>Bool.rec (motive:=fun _=>Prop)
    (cond want (T8 (upd f t (.bool false)) dst undef no) (yes T op (upd f t (.bool false)) dst))
    (cond want (yes T op (upd f t (.bool true)) dst) (T8 (upd f t (.bool true)) dst undef no)) b
  | none=>T8 f dst undef no
def dV (P:Program) (L:Lay) (ops0:List Oper) (C:World->Prop) (s:Sched):Fr->World->(Fr->World->Prop)->Prop:=
 Sched.rec (motive:=fun _=>Fr->World->(Fr->World->Prop)->Prop)
  (fun f w K=>K f w)
  (fun i f w K=>match ops0[i]? with
   | some o=>gOp ops0 o f (fun T op f dst=>vOp P L T op f w fun v w'=>T8 f dst v fun f'=>K f' w') (fun f'=>K f' w)
   | none=>False)
  (fun i _ ih f w K=>match ops0[i]? with
   | some o=>gOp ops0 o f (fun T op f dst=>qOp P L C T op f fun v=>T8 f dst v fun f'=>ih f' w K) (fun f'=>ih f' w K)
   | none=>False)
  (fun i _ _ ihs iht f w K=>(match ops0[i]? with
   | some o=>gOp ops0 o f (fun T op f dst=>vOp P L T op f w fun v w'=>C w'/\T8 f dst v fun f'=>ihs f' w' K) (fun f'=>ihs f' w K)
   | none=>False)/\iht f w K)
  (fun _ _ _=>True) s
section
variable {P:Program} {L:Lay} {C:World->Prop}
theorem B1a (q:L.Ok P) (T:Nat) (o:Op) (i:Fr) (K:Value->Prop) (f:qOp P L C T o i K)
  (m:Option Nat) (p:String) (r:Array Edge) (j:Option (Nat × Bool)):∃ v,(∀ w,C w->(execOp (ev i) ⟨m,o,T,p,r,j⟩).run P w=.ok (.value v) w)/\K v:=by
 have F:pOp P L T o i K->∃ v,(∀ w,C w->(execOp (ev i) ⟨m,o,T,p,r,j⟩).run P w=.ok (.value v) w)/\K v:=by intro I;obtain⟨v,h,c⟩:=A6M q T o i _ I m p r j;exact⟨v,fun w _=>h w,c⟩
 cases o
 case load t x=>
  have g:=q.ty t;simp only [qOp] at f;simp only [execOp];generalize N:L.ty t=d at f g;have y:∀ (a:Addr) (v:Value),ev i x=.pointer (some a)->(∀ w,C w->(loadVar t a).run P w=.ok v w)->K v->
    ∃ v,(∀ w,C w->((do pure (.value (<-Instr.loadAt t (ev i x))):Sem Next)).run P w=.ok (.value v) w)/\K v:=by
   intro a v e E B;exact⟨v,fun w b=>by simp [Instr.loadAt,e,Instr.sureAddr,E w b],B⟩
  generalize R:ev i x=vx at f y;cases vx with
  | pointer A=>
   cases A with
   | none=>cases d<;>exact f.elim
   | some a=>
    cases d with
    | none=>exact f.elim
    | array n e J z=>
     obtain⟨H,h,c,l⟩:=f;exact y a _ rfl (fun w b=>O0 g.1 rfl (A2t g.2.1) h (c w b)) l
    | struct O z=>
     obtain⟨H,h,c,l⟩:=f;obtain⟨⟨Q,u,_⟩,D⟩:=g;exact y a _ rfl (fun w b=>O0 u rfl (A2t D) h (c w b)) l
    | int k=>obtain⟨v,h,c⟩:=f;exact y a _ rfl (fun w b=>D6 g.1 rfl (h w b)) c
    | str=>obtain⟨v,h,c⟩:=f;exact y a _ rfl (fun w b=>D6 g.1 rfl (h w b)) c
    | bool=>obtain⟨v,h,c⟩:=f;exact y a _ rfl (fun w b=>D6 g.1 rfl (h w b)) c
    | slice e s=>obtain⟨v,h,c⟩:=f;exact y a _ rfl (fun w b=>D6 g.1 rfl (h w b)) c
    | one z=>obtain⟨v,h,c⟩:=f;obtain⟨⟨M,u,G⟩,_⟩:=g;exact y a _ rfl (fun w b=>D6 u G (h w b)) c
  | _=>cases d<;>exact f.elim
 all_goals exact F f
theorem A2x {i:Nat} {a:Act} {f:Fr} (A:Agree i a f) {p:List Oper} {o:Oper} {y:Nat->Op->Fr->Option Nat->Prop} {n:Fr->Prop} (c:gOp p o f y n):
  (Region.wanted o (yielded p.toArray a.tmps)=true/\y o.type o.op f o.dst)\/(Region.wanted o (yielded p.toArray a.tmps)=false/\n (B9J f o.dst undef)):=by
 obtain⟨dst,op,T,pos,after,r⟩:=o;cases r with
 | none=>exact .inl ⟨rfl,c⟩
 | some d=>
  obtain⟨j,want⟩:=d;have h:(match J6 p f j with
    | some (t,b)=>Bool.rec (motive:=fun _=>Prop)
      (cond want (T8 (upd f t (.bool false)) dst undef n) (y T op (upd f t (.bool false)) dst))
      (cond want (y T op (upd f t (.bool true)) dst) (T8 (upd f t (.bool true)) dst undef n)) b
    | none=>T8 f dst undef n):=c
  cases g:J6 p f j with
  | none=>rw [g] at h;simp only [L3] at h;exact .inr ⟨A4O A g,h⟩
  | some e=>
   obtain⟨t,b⟩:=e;rw [g] at h;simp only at h;obtain⟨u,w⟩:=B0C A g (dst:=dst) (op:=op) (T:=T) (pos:=pos) (after:=after) (want:=want);cases b<;>cases want<;>simp only [cond_true,cond_false,u,L3] at h
   ·exact .inl ⟨w,h⟩
   ·exact .inr ⟨w,h⟩
   ·exact .inr ⟨w,h⟩
   ·exact .inl ⟨w,h⟩
theorem B1b {n:Nat} (l:List Oper):A0s n l=true->∀ (i:Nat) (o:Oper),l[i]?=some o->(match o.dst with | some t=>Nat.blt t n | none=>true)=true:=by
 induction l with
 | nil=>intro _ i o h;simp at h
 | cons x r b=>
  intro h i o a;simp only [A0s,z7] at h;cases i with
  | zero=>
   simp only [List.getElem?_cons_zero,Option.some.injEq] at a;rw [<-a];exact h.1
  | succ i=>exact b h.2 i o (by simpa using a)
def A4A (n:Nat) (K:Fr->World->Prop) (e:Exit) (a:Act) (w:World):Prop:=e=.normal/\∃ f',Agree n a f'/\K f' w
theorem B4r (X:L.Ok P) (n:Nat) (p:List Oper) (Z:A0s n p=true) (hs:Region.noSelect p.toArray=true) (K:Fr->World->Prop):
  ∀ (s:Sched) (f:Nat) (listed:Array Bool) (t:List Nat) (a:Act) (b:Fr) (w:World),C w->Agree n a b->M4 p.toArray s f listed t=true->dV P L p C s b w K->
   (s.isStop=false->t=Region.ready .any p.toArray listed->A1C P p.toArray C (A4A n K) f listed a w)/\
   (s.isAlt=true->∀ i∈t,∃ fuel',f=fuel'+1/\wpOp P p.toArray (A4A n K) i (fun a' w'=>(A1B p.toArray i=true\/C w')/\A1C P p.toArray C (A4A n K) fuel' (listed.setIfInBounds i true) a' w') a w):=by
 have hQ:∀ (d:Option Nat) (v:Value) (c:List PanicEntry) (a:Act) (w:World),A4A n K (.panic c) (a.put d v) w->A4A n K (.panic c) a w:=fun d v c a w g=>by cases g.1
 intro s;induction s with
 | fin=>
  intro f listed t a b w B A h g;refine⟨fun _ u=>?_,fun g=>by cases g⟩;have U:t=[]:=by simpa [M4] using h
  rw [U] at u;cases f with
  | zero=>exact⟨u.symm,rfl,b,A,g⟩
  | succ f=>exact⟨fun _=>⟨rfl,b,A,g⟩,fun i O=>by rw [<-u] at O;cases O⟩
 | z i=>
  intro f listed t a b w B A h g;refine⟨fun _ u=>?_,fun g=>by cases g⟩;cases f with
  | zero=>cases h
  | succ f=>
   simp only [M4,z7] at h;obtain⟨⟨⟨J,E⟩,I⟩,H⟩:=h;have a1:Region.ready .any p.toArray (listed.setIfInBounds i true)=[]:=by simpa using H
   have m:(match p[i]? with
    | some o=>gOp p o b (fun T Q b N=>vOp P L T Q b w fun v w'=>T8 b N v fun k=>K k w') (fun k=>K k w)
    | none=>False):=g
   have a2:∀ a' w' k,Agree n a' k->K k w'->A1C P p.toArray C (A4A n K) f (listed.setIfInBounds i true) a' w':=by
    intro a' w' k a0 hK;cases f with
    | zero=>exact⟨a1,rfl,k,a0,hK⟩
    | succ f=>exact⟨fun _=>⟨rfl,k,a0,hK⟩,fun j x=>by rw [a1] at x;cases x⟩
   refine⟨fun h0=>(by rw [u,h0] at E;cases E),fun j x=>?_⟩;rw [<-u] at x;obtain rfl:j=i:=z8 (List.all_eq_true.1 J j x);cases l:p[j]? with
   | none=>rw [l] at m;exact m.elim
   | some o=>
    rw [l] at m;simp only at m;have D:p.toArray[j]?=some o:=by simpa using l
    have F:=B1b p Z j o l;unfold Go.wpOp;simp only [D];obtain⟨r,y⟩|⟨r,y⟩:=A2x A m
    ·rw [yn r];left;unfold Oper.wp;rw [A.eval];have hg:=A08 X o.type o.op b w _ y o.dst o.pos o.after o.guard;refine hg.upon _ _ _ _ fun v w' h=>⟨.inl I,?_⟩;rw [L3] at h;exact a2 _ _ _ (A.putO F v) h
    ·rw [yo (by rw [r];simp)];exact⟨.inl I,a2 _ _ _ (A.putO F undef) y⟩
 | stop=>
  intro f listed t a b w B A h g;have U:t=[]:=by simpa [M4] using h
  exact⟨fun g=>(by cases g),fun _ i O=>(by rw [U] at O;cases O)⟩
 | q i s ih=>
  intro f listed t a b w B A h g;refine⟨fun _ u=>?_,fun g=>by cases g⟩;cases f with
  | zero=>cases h
  | succ f=>
   simp only [M4,z7,Bool.not_eq_true'] at h;obtain⟨⟨⟨J,E⟩,I⟩,H⟩:=h;have m:(match p[i]? with
    | some o=>gOp p o b (fun T Q b N=>qOp P L C T Q b fun v=>T8 b N v fun k=>dV P L p C s k w K) (fun k=>dV P L p C s k w K)
    | none=>False):=g
   cases l:p[i]? with
   | none=>rw [l] at m;exact m.elim
   | some o=>
    rw [l] at m;simp only at m;have D:p.toArray[i]?=some o:=by simpa using l
    have a5:i∈Region.ready .any p.toArray listed:=by rw [<-u];simpa using J
    have F:=B1b p Z i o l;obtain⟨r,y⟩|⟨r,y⟩:=A2x A m
    ·obtain⟨v,G,R⟩:=B1a X o.type o.op b _ y o.dst o.pos o.after o.guard;rw [L3] at R;have W:YieldsC P p.toArray C o v a:=.inl ⟨r,fun w r=>by rw [A.eval];exact G w r⟩;exact B1Z D (Region.noSelect_spec hs) (hQ _ _) f listed a w B (fun j V M Y S h6=>Region.free_spec D E j V M Y S h6) a5 W
      ((ih f _ _ _ _ w B (A.putO F v) H R).1 I rfl)
    ·have W:YieldsC P p.toArray C o undef a:=.inr ⟨r,rfl⟩;exact B1Z D (Region.noSelect_spec hs) (hQ _ _) f listed a w B (fun j V M Y S h6=>Region.free_spec D E j V M Y S h6) a5 W
      ((ih f _ _ _ _ w B (A.putO F undef) H y).1 I rfl)
 | n i s a9 a6 a8=>
  intro f listed t a b w B A h g;cases f with
  | zero=>cases h
  | succ f=>
   simp only [M4,z7,Bool.not_eq_true'] at h;obtain⟨⟨⟨⟨J,E⟩,I⟩,H⟩,k5⟩:=h;have m:(match p[i]? with
    | some o=>gOp p o b (fun T Q b N=>vOp P L T Q b w fun v w'=>C w'/\T8 b N v fun k=>dV P L p C s k w' K) (fun k=>dV P L p C s k w K)
    | none=>False)/\dV P L p C a9 b w K:=g
   obtain⟨G,R⟩:=m;have a7:wpOp P p.toArray (A4A n K) i (fun a' w'=>(A1B p.toArray i=true\/C w')/\A1C P p.toArray C (A4A n K) f (listed.setIfInBounds i true) a' w') a w:=by
    cases l:p[i]? with
    | none=>rw [l] at G;exact G.elim
    | some o=>
     rw [l] at G;simp only at G;have D:p.toArray[i]?=some o:=by simpa using l
     have F:=B1b p Z i o l;unfold Go.wpOp;simp only [D];obtain⟨r,y⟩|⟨r,y⟩:=A2x A G
     ·rw [yn r];left;unfold Oper.wp;rw [A.eval];have hg:=A08 X o.type o.op b w _ y o.dst o.pos o.after o.guard;refine hg.upon _ _ _ _ fun v w' h=>⟨.inr h.1,?_⟩;have a3:=h.2;rw [L3] at a3;exact (a6 f _ _ _ _ w' h.1 (A.putO F v) H a3).1 E rfl
     ·rw [yo (by rw [r];simp)];exact⟨.inr B,(a6 f _ _ _ _ w B (A.putO F undef) H y).1 E rfl⟩
   have a4:∀ j∈t,wpOp P p.toArray (A4A n K) j (fun a' w'=>(A1B p.toArray j=true\/C w')/\A1C P p.toArray C (A4A n K) f (listed.setIfInBounds j true) a' w') a w:=by
    intro j x;by_cases e:j=i
    ·subst e;exact a7
    ·obtain⟨fuel',e1,M⟩:=(a8 (f+1) listed _ a b w B A k5 R).2 I j (by
      rw [List.mem_filter];refine⟨x,?_⟩;cases hb:Nat.beq j i with
      | false=>rfl
      | true=>exact absurd (z8 hb) e)
     obtain rfl:f=fuel':=by omega
     exact M
   refine⟨fun _ u=>⟨fun h0=>?_,fun j x=>a4 j (by rw [u];exact x)⟩,fun _ j x=>⟨f,rfl,a4 j x⟩⟩;rw [u,h0] at J;cases J
theorem B9V (j:L.Ok P) (m:P.follows .mixedOrders=true) {i:Nat} {ops:List Oper} {f:Fr} {w:World} {K:Fr->World->Prop} (s:Sched) (C:World->Prop)
  (b:A2w ops.toArray s=true) (g:C w.drew) (d:dV P L ops C s f w.drew K):Drawn P i ops.toArray f w K:=by
 constructor;intro n0 a h A;have h:A0s n0 ops=true:=by simpa using h
 simp only [A2w,z7,Bool.not_eq_true'] at b;obtain⟨⟨e,k⟩,c⟩:=b;refine wp_region_any m (A4P (C:=C) _ _ _ _ ?_);exact (B4r j n0 ops h e K s _ _ _ a f _ g A c d).1 k rfl
end
end Go.Vc
end
namespace Go.Proofs.YtefdfaeieekioaaGreatDoor
open Go.Vc
def tys:List (Nat × TD):=[
 (2,.int .i64),
 (3,.int .i64),
 (4,.bool),
 (5,.int .u8),
 (9,.str),
 (20,.one (.nilIface)),
 (21,.int .i32),
 (22,.slice 45 8),
 (23,.slice 4 1),
 (25,.one (.pointer Option.none)),
 (26,.one (.pointer Option.none)),
 (29,.slice 3 1),
 (31,.struct [(0,1,false),(1,1,false),(2,1,false)] [.int .i64 0,.slice Option.none 0 0,.int .i64 0]),
 (32,.slice 43 21),
 (34,.int .i64),
 (36,.struct [(0,1,false),(1,1,false)] [.int .i64 0,.int .i64 0]),
 (37,.slice 99 2),
 (38,.slice 101 3),
 (39,.array 5 2 1 [.int .i64 0,.int .i64 0,.int .i64 0,.int .i64 0,.int .i64 0]),
 (41,.struct [(0,1,false),(1,1,false),(2,1,false),(3,5,true)] [.int .i64 0,.slice Option.none 0 0,.slice Option.none 0 0,.int .i64 0,.int .i64 0,.int .i64 0,.int .i64 0,.int .i64 0]),
 (43,.struct [(0,1,false),(1,1,false),(2,1,false),(3,1,false),(4,1,false),(5,1,false),(6,1,false),(7,2,true),(9,3,true),(12,1,false),(13,8,true)] [.int .i64 0,.int .i64 0,.int .i64 0,.int .i64 0,.int .i64 0,.int .i64 0,.int .i64 0,.int .i64 0,.int .i64 0,.int .i64 0,.slice Option.none 0 0,.int .i64 0,.slice Option.none 0 0,.int .i64 0,.slice Option.none 0 0,.slice Option.none 0 0,.int .i64 0,.int .i64 0,.int .i64 0,.int .i64 0,.int .i64 0]),
 (45,.struct [(0,1,false),(1,1,false),(2,1,false),(3,1,false),(4,1,false),(5,1,false),(6,1,false),(7,1,false)] [.int .i64 0,.string ByteArray.empty,.string ByteArray.empty,.int .i64 0,.int .i64 0,.string ByteArray.empty,.int .i64 0,.int .i64 0]),
 (49,.one (.pointer Option.none)),
 (50,.one (.pointer Option.none)),
 (60,.one (.nilFunc)),
 (72,.one (.nilFunc)),
 (77,.slice 2 1),
 (85,.struct [(0,1,false),(1,1,false),(2,3,true),(5,1,false),(6,1,false)] [.int .i64 0,.pointer Option.none,.int .i64 0,.slice Option.none 0 0,.int .i64 0,.int .i64 0,.slice Option.none 0 0]),
 (88,.one (.pointer Option.none)),
 (90,.struct [(0,8,true),(8,1,false),(9,1,false),(10,1,false)] [.int .i64 0,.slice Option.none 0 0,.slice Option.none 0 0,.int .i64 0,.int .i64 0,.int .i64 0,.int .i64 0,.int .i64 0,.slice Option.none 0 0,.int .i64 0,.int .i64 0]),
 (92,.struct [(0,1,false),(1,11,true),(12,1,false)] [.pointer Option.none,.int .i64 0,.slice Option.none 0 0,.slice Option.none 0 0,.int .i64 0,.int .i64 0,.int .i64 0,.int .i64 0,.int .i64 0,.slice Option.none 0 0,.int .i64 0,.int .i64 0,.bool false]),
 (96,.one (.nilFunc)),
 (97,.slice 147 3),
 (99,.struct [(0,1,false),(1,1,false)] [.string ByteArray.empty,.slice Option.none 0 0]),
 (101,.struct [(0,1,false),(1,2,true)] [.int .i64 0,.int .i64 0,.int .i64 0]),
 (105,.slice 107 4),
 (107,.struct [(0,1,false),(1,1,false),(2,1,false),(3,1,false)] [.int .i64 0,.int .i64 0,.string ByteArray.empty,.slice Option.none 0 0]),
 (114,.slice 9 1),
 (117,.one (.map Option.none)),
 (119,.struct [(0,1,false),(1,1,false)] [.int .i64 0,.map Option.none]),
 (121,.struct [(0,1,false),(1,1,false),(2,1,false)] [.string ByteArray.empty,.int .i64 0,.bool false]),
 (128,.struct [(0,1,false),(1,1,false)] [.int .i64 0,.int .i64 0]),
 (132,.one (.nilFunc)),
 (136,.slice 36 2),
 (139,.one (.complex .f64 0 0)),
 (147,.struct [(0,1,false),(1,1,false),(2,1,false)] [.int .i64 0,.bool false,.string ByteArray.empty]),
 (150,.one (.pointer Option.none)),
 (155,.one (.nilFunc)),
 (159,.struct [(0,1,false),(1,1,false),(2,1,false),(3,1,false)] [.pointer Option.none,.string ByteArray.empty,.slice Option.none 0 0,.bool false]),
 (174,.one (.nilFunc)),
 (175,.array 2 2 1 [.int .i64 0,.int .i64 0]),
 (176,.one (.pointer Option.none)),
 (182,.one (.pointer Option.none)),
 (190,.array 6 4 1 [.bool false,.bool false,.bool false,.bool false,.bool false,.bool false]),
 (195,.one (.nilFunc)),
 (196,.array 2 3 1 [.int .i64 0,.int .i64 0]),
 (197,.one (.float .f64 0)),
 (207,.slice 5 1),
 (211,.one (.nilFunc)),
 (213,.one (.nilFunc)),
 (216,.one (.nilFunc)),
 (218,.one (.nilFunc)),
 (222,.one (.map Option.none)),
 (224,.struct [(0,1,false),(1,3,true),(4,3,true),(7,1,false),(8,1,false),(9,1,false),(10,1,false),(11,1,false)] [.pointer Option.none,.int .i64 0,.slice Option.none 0 0,.int .i64 0,.int .i64 0,.slice Option.none 0 0,.int .i64 0,.int .i64 0,.map Option.none,.int .i64 0,.bool false,.bool false]),
 (232,.struct [(0,1,false)] [.slice Option.none 0 0]),
 (234,.one (.nilFunc)),
 (237,.one (.nilFunc)),
 (241,.one (.pointer Option.none)),
 (243,.struct [(0,1,false),(1,1,false)] [.pointer Option.none,.slice Option.none 0 0]),
 (245,.one (.nilIface)),
 (251,.array 2 197 1 [.float .f64 0,.float .f64 0]),
 (256,.one (.nilFunc)),
 (258,.one (.nilFunc)),
 (259,.one (.nilFunc)),
 (278,.one (.pointer Option.none)),
 (286,.one (.nilFunc)),
 (294,.array 24 5 1 [.int .u8 0,.int .u8 0,.int .u8 0,.int .u8 0,.int .u8 0,.int .u8 0,.int .u8 0,.int .u8 0,.int .u8 0,.int .u8 0,.int .u8 0,.int .u8 0,.int .u8 0,.int .u8 0,.int .u8 0,.int .u8 0,.int .u8 0,.int .u8 0,.int .u8 0,.int .u8 0,.int .u8 0,.int .u8 0,.int .u8 0,.int .u8 0]),
 (295,.int .u64),
 (300,.one (.pointer Option.none)),
 (305,.int .u64),
 (308,.one (.nilFunc)),
 (330,.array 20 295 1 [.int .u64 0,.int .u64 0,.int .u64 0,.int .u64 0,.int .u64 0,.int .u64 0,.int .u64 0,.int .u64 0,.int .u64 0,.int .u64 0,.int .u64 0,.int .u64 0,.int .u64 0,.int .u64 0,.int .u64 0,.int .u64 0,.int .u64 0,.int .u64 0,.int .u64 0,.int .u64 0]),
 (331,.int .u32),
 (332,.array 65 5 1 [.int .u8 0,.int .u8 0,.int .u8 0,.int .u8 0,.int .u8 0,.int .u8 0,.int .u8 0,.int .u8 0,.int .u8 0,.int .u8 0,.int .u8 0,.int .u8 0,.int .u8 0,.int .u8 0,.int .u8 0,.int .u8 0,.int .u8 0,.int .u8 0,.int .u8 0,.int .u8 0,.int .u8 0,.int .u8 0,.int .u8 0,.int .u8 0,.int .u8 0,.int .u8 0,.int .u8 0,.int .u8 0,.int .u8 0,.int .u8 0,.int .u8 0,.int .u8 0,.int .u8 0,.int .u8 0,.int .u8 0,.int .u8 0,.int .u8 0,.int .u8 0,.int .u8 0,.int .u8 0,.int .u8 0,.int .u8 0,.int .u8 0,.int .u8 0,.int .u8 0,.int .u8 0,.int .u8 0,.int .u8 0,.int .u8 0,.int .u8 0,.int .u8 0,.int .u8 0,.int .u8 0,.int .u8 0,.int .u8 0,.int .u8 0,.int .u8 0,.int .u8 0,.int .u8 0,.int .u8 0,.int .u8 0,.int .u8 0,.int .u8 0,.int .u8 0,.int .u8 0]),
 (343,.int .i64),
 (346,.one (.pointer Option.none)),
 (352,.array 32 5 1 [.int .u8 0,.int .u8 0,.int .u8 0,.int .u8 0,.int .u8 0,.int .u8 0,.int .u8 0,.int .u8 0,.int .u8 0,.int .u8 0,.int .u8 0,.int .u8 0,.int .u8 0,.int .u8 0,.int .u8 0,.int .u8 0,.int .u8 0,.int .u8 0,.int .u8 0,.int .u8 0,.int .u8 0,.int .u8 0,.int .u8 0,.int .u8 0,.int .u8 0,.int .u8 0,.int .u8 0,.int .u8 0,.int .u8 0,.int .u8 0,.int .u8 0,.int .u8 0]),
 (353,.array 64 5 1 [.int .u8 0,.int .u8 0,.int .u8 0,.int .u8 0,.int .u8 0,.int .u8 0,.int .u8 0,.int .u8 0,.int .u8 0,.int .u8 0,.int .u8 0,.int .u8 0,.int .u8 0,.int .u8 0,.int .u8 0,.int .u8 0,.int .u8 0,.int .u8 0,.int .u8 0,.int .u8 0,.int .u8 0,.int .u8 0,.int .u8 0,.int .u8 0,.int .u8 0,.int .u8 0,.int .u8 0,.int .u8 0,.int .u8 0,.int .u8 0,.int .u8 0,.int .u8 0,.int .u8 0,.int .u8 0,.int .u8 0,.int .u8 0,.int .u8 0,.int .u8 0,.int .u8 0,.int .u8 0,.int .u8 0,.int .u8 0,.int .u8 0,.int .u8 0,.int .u8 0,.int .u8 0,.int .u8 0,.int .u8 0,.int .u8 0,.int .u8 0,.int .u8 0,.int .u8 0,.int .u8 0,.int .u8 0,.int .u8 0,.int .u8 0,.int .u8 0,.int .u8 0,.int .u8 0,.int .u8 0,.int .u8 0,.int .u8 0,.int .u8 0,.int .u8 0]),
 (356,.struct [(0,1,false),(1,1,false),(2,1,false)] [.string ByteArray.empty,.string ByteArray.empty,.nilIface]),
 (358,.one (.pointer Option.none)),
 (360,.struct [(0,1,false)] [.string ByteArray.empty])]
def fnl:List Nat:=[3,4,5,6,7,8,9,10,11,12,13,14,15,16,17,18,19,20,21,22,23,24,25,26,27,28,29,30,31,32,33,34,35,36,37,38,39,40,41,42,43,44,45,46,47,48,49,50,51,52,53,54,55,56,57,58,59,60,61,62,63,64,65,66,67,68,69,70,71,72,73,74,75,76,77,78,79,80,81,82,83,84,85,86,87,88,89,90,91,92,93,94,95,96,97,98,99,100,101,102,103,104,105,106,107,108,109,110,111,112,113,114,115,116,117,118,119,120,121,122,123,124,125,126,127,128,129,130,131,132,133,134,135,136,137,138,139,140,141,142,143,144,145,146,147,148,149,150,151,152,153,154,155,156,157,158,159,160,161,162,163,164,165,166,167,168,169,170,171,172,173,174,175,176,177,178,179,180,181,182,183,184,185,186,187,188,189,190,191,192,193,194,195,196,197,198,199,200,201,202,203,204,205,206,207,208,209,210,211,212,213,214,215,216,217,218,219,220,221,222,223,224,225,226,227,228,229,230,231,232,233,234,235,236,237,238,239,240,241,242,243,244,245,246,247,248,249,250,251,252,253,254,255,256,257,259,260,261,262,263,264,265,266,267,268,269,270,271,272,274,275,276,277,279,280,281,282,283,285,286,287,288,289,290,291,292,293,294,296,297,298,299,300,301,302,303,304,305,306,307,308,311,312,313,314,315,316,317,318,319,320,321,322,323,324,325,326,327,328,329,330,331,332,333,334,335,336,337,338,339,340,341,342,343,344,345]
def lay:Lay:=⟨B1P tys,B1Q fnl⟩
theorem B9W:B7X Tryz.prog tys:=⟨
 ⟨Tryz.underlying2,G1 (by kernel_rfl)⟩,
 ⟨Tryz.underlying3,G1 (by kernel_rfl)⟩,
 ⟨Tryz.underlying4,G1 (by kernel_rfl)⟩,
 ⟨Tryz.underlying5,G1 (by kernel_rfl)⟩,
 ⟨Tryz.underlying9,G1 (by kernel_rfl)⟩,
 ⟨⟨_,Tryz.underlying20,rfl⟩,G1 (by kernel_rfl),rfl⟩,
 ⟨Tryz.underlying21,G1 (by kernel_rfl)⟩,
 ⟨Tryz.underlying22,G1 (by kernel_rfl),A35 (by kernel_rfl)⟩,
 ⟨Tryz.underlying23,G1 (by kernel_rfl),A35 (by kernel_rfl)⟩,
 ⟨⟨_,Tryz.underlying25,rfl⟩,G1 (by kernel_rfl),rfl⟩,
 ⟨⟨_,Tryz.underlying26,rfl⟩,G1 (by kernel_rfl),rfl⟩,
 ⟨Tryz.underlying29,G1 (by kernel_rfl),A35 (by kernel_rfl)⟩,
 ⟨⟨_,Tryz.underlying31,fs_ (by kernel_rfl)⟩,G1 (by kernel_rfl)⟩,
 ⟨Tryz.underlying32,G1 (by kernel_rfl),A35 (by kernel_rfl)⟩,
 ⟨Tryz.underlying34,G1 (by kernel_rfl)⟩,
 ⟨⟨_,Tryz.underlying36,fs_ (by kernel_rfl)⟩,G1 (by kernel_rfl)⟩,
 ⟨Tryz.underlying37,G1 (by kernel_rfl),A35 (by kernel_rfl)⟩,
 ⟨Tryz.underlying38,G1 (by kernel_rfl),A35 (by kernel_rfl)⟩,
 ⟨Tryz.underlying39,G1 (by kernel_rfl),A35 (by kernel_rfl)⟩,
 ⟨⟨_,Tryz.underlying41,fs_ (by kernel_rfl)⟩,G1 (by kernel_rfl)⟩,
 ⟨⟨_,Tryz.underlying43,fs_ (by kernel_rfl)⟩,G1 (by kernel_rfl)⟩,
 ⟨⟨_,Tryz.underlying45,fs_ (by kernel_rfl)⟩,G1 (by kernel_rfl)⟩,
 ⟨⟨_,Tryz.underlying49,rfl⟩,G1 (by kernel_rfl),rfl⟩,
 ⟨⟨_,Tryz.underlying50,rfl⟩,G1 (by kernel_rfl),rfl⟩,
 ⟨⟨_,Tryz.underlying60,rfl⟩,G1 (by kernel_rfl),rfl⟩,
 ⟨⟨_,Tryz.underlying72,rfl⟩,G1 (by kernel_rfl),rfl⟩,
 ⟨Tryz.underlying77,G1 (by kernel_rfl),A35 (by kernel_rfl)⟩,
 ⟨⟨_,Tryz.underlying85,fs_ (by kernel_rfl)⟩,G1 (by kernel_rfl)⟩,
 ⟨⟨_,Tryz.underlying88,rfl⟩,G1 (by kernel_rfl),rfl⟩,
 ⟨⟨_,Tryz.underlying90,fs_ (by kernel_rfl)⟩,G1 (by kernel_rfl)⟩,
 ⟨⟨_,Tryz.underlying92,fs_ (by kernel_rfl)⟩,G1 (by kernel_rfl)⟩,
 ⟨⟨_,Tryz.underlying96,rfl⟩,G1 (by kernel_rfl),rfl⟩,
 ⟨Tryz.underlying97,G1 (by kernel_rfl),A35 (by kernel_rfl)⟩,
 ⟨⟨_,Tryz.underlying99,fs_ (by kernel_rfl)⟩,G1 (by kernel_rfl)⟩,
 ⟨⟨_,Tryz.underlying101,fs_ (by kernel_rfl)⟩,G1 (by kernel_rfl)⟩,
 ⟨Tryz.underlying105,G1 (by kernel_rfl),A35 (by kernel_rfl)⟩,
 ⟨⟨_,Tryz.underlying107,fs_ (by kernel_rfl)⟩,G1 (by kernel_rfl)⟩,
 ⟨Tryz.underlying114,G1 (by kernel_rfl),A35 (by kernel_rfl)⟩,
 ⟨⟨_,Tryz.underlying117,rfl⟩,G1 (by kernel_rfl),rfl⟩,
 ⟨⟨_,Tryz.underlying119,fs_ (by kernel_rfl)⟩,G1 (by kernel_rfl)⟩,
 ⟨⟨_,Tryz.underlying121,fs_ (by kernel_rfl)⟩,G1 (by kernel_rfl)⟩,
 ⟨⟨_,Tryz.underlying128,fs_ (by kernel_rfl)⟩,G1 (by kernel_rfl)⟩,
 ⟨⟨_,Tryz.underlying132,rfl⟩,G1 (by kernel_rfl),rfl⟩,
 ⟨Tryz.underlying136,G1 (by kernel_rfl),A35 (by kernel_rfl)⟩,
 ⟨⟨_,Tryz.underlying139,rfl⟩,G1 (by kernel_rfl),rfl⟩,
 ⟨⟨_,Tryz.underlying147,fs_ (by kernel_rfl)⟩,G1 (by kernel_rfl)⟩,
 ⟨⟨_,Tryz.underlying150,rfl⟩,G1 (by kernel_rfl),rfl⟩,
 ⟨⟨_,Tryz.underlying155,rfl⟩,G1 (by kernel_rfl),rfl⟩,
 ⟨⟨_,Tryz.underlying159,fs_ (by kernel_rfl)⟩,G1 (by kernel_rfl)⟩,
 ⟨⟨_,Tryz.underlying174,rfl⟩,G1 (by kernel_rfl),rfl⟩,
 ⟨Tryz.underlying175,G1 (by kernel_rfl),A35 (by kernel_rfl)⟩,
 ⟨⟨_,Tryz.underlying176,rfl⟩,G1 (by kernel_rfl),rfl⟩,
 ⟨⟨_,Tryz.underlying182,rfl⟩,G1 (by kernel_rfl),rfl⟩,
 ⟨Tryz.underlying190,G1 (by kernel_rfl),A35 (by kernel_rfl)⟩,
 ⟨⟨_,Tryz.underlying195,rfl⟩,G1 (by kernel_rfl),rfl⟩,
 ⟨Tryz.underlying196,G1 (by kernel_rfl),A35 (by kernel_rfl)⟩,
 ⟨⟨_,Tryz.underlying197,rfl⟩,G1 (by kernel_rfl),rfl⟩,
 ⟨Tryz.underlying207,G1 (by kernel_rfl),A35 (by kernel_rfl)⟩,
 ⟨⟨_,Tryz.underlying211,rfl⟩,G1 (by kernel_rfl),rfl⟩,
 ⟨⟨_,Tryz.underlying213,rfl⟩,G1 (by kernel_rfl),rfl⟩,
 ⟨⟨_,Tryz.underlying216,rfl⟩,G1 (by kernel_rfl),rfl⟩,
 ⟨⟨_,Tryz.underlying218,rfl⟩,G1 (by kernel_rfl),rfl⟩,
 ⟨⟨_,Tryz.underlying222,rfl⟩,G1 (by kernel_rfl),rfl⟩,
 ⟨⟨_,Tryz.underlying224,fs_ (by kernel_rfl)⟩,G1 (by kernel_rfl)⟩,
 ⟨⟨_,Tryz.underlying232,fs_ (by kernel_rfl)⟩,G1 (by kernel_rfl)⟩,
 ⟨⟨_,Tryz.underlying234,rfl⟩,G1 (by kernel_rfl),rfl⟩,
 ⟨⟨_,Tryz.underlying237,rfl⟩,G1 (by kernel_rfl),rfl⟩,
 ⟨⟨_,Tryz.underlying241,rfl⟩,G1 (by kernel_rfl),rfl⟩,
 ⟨⟨_,Tryz.underlying243,fs_ (by kernel_rfl)⟩,G1 (by kernel_rfl)⟩,
 ⟨⟨_,Tryz.underlying245,rfl⟩,G1 (by kernel_rfl),rfl⟩,
 ⟨Tryz.underlying251,G1 (by kernel_rfl),A35 (by kernel_rfl)⟩,
 ⟨⟨_,Tryz.underlying256,rfl⟩,G1 (by kernel_rfl),rfl⟩,
 ⟨⟨_,Tryz.underlying258,rfl⟩,G1 (by kernel_rfl),rfl⟩,
 ⟨⟨_,Tryz.underlying259,rfl⟩,G1 (by kernel_rfl),rfl⟩,
 ⟨⟨_,Tryz.underlying278,rfl⟩,G1 (by kernel_rfl),rfl⟩,
 ⟨⟨_,Tryz.underlying286,rfl⟩,G1 (by kernel_rfl),rfl⟩,
 ⟨Tryz.underlying294,G1 (by kernel_rfl),A35 (by kernel_rfl)⟩,
 ⟨Tryz.underlying295,G1 (by kernel_rfl)⟩,
 ⟨⟨_,Tryz.underlying300,rfl⟩,G1 (by kernel_rfl),rfl⟩,
 ⟨Tryz.underlying305,G1 (by kernel_rfl)⟩,
 ⟨⟨_,Tryz.underlying308,rfl⟩,G1 (by kernel_rfl),rfl⟩,
 ⟨Tryz.underlying330,G1 (by kernel_rfl),A35 (by kernel_rfl)⟩,
 ⟨Tryz.underlying331,G1 (by kernel_rfl)⟩,
 ⟨Tryz.underlying332,G1 (by kernel_rfl),A35 (by kernel_rfl)⟩,
 ⟨Tryz.underlying343,G1 (by kernel_rfl)⟩,
 ⟨⟨_,Tryz.underlying346,rfl⟩,G1 (by kernel_rfl),rfl⟩,
 ⟨Tryz.underlying352,G1 (by kernel_rfl),A35 (by kernel_rfl)⟩,
 ⟨Tryz.underlying353,G1 (by kernel_rfl),A35 (by kernel_rfl)⟩,
 ⟨⟨_,Tryz.underlying356,fs_ (by kernel_rfl)⟩,G1 (by kernel_rfl)⟩,
 ⟨⟨_,Tryz.underlying358,rfl⟩,G1 (by kernel_rfl),rfl⟩,
 ⟨⟨_,Tryz.underlying360,fs_ (by kernel_rfl)⟩,G1 (by kernel_rfl)⟩,t6⟩
theorem B9X:B7Y Tryz.prog fnl:=⟨Tryz.call3,Tryz.call4,Tryz.call5,Tryz.call6,Tryz.call7,Tryz.call8,Tryz.call9,Tryz.call10,Tryz.call11,Tryz.call12,Tryz.call13,Tryz.call14,Tryz.call15,Tryz.call16,Tryz.call17,Tryz.call18,Tryz.call19,Tryz.call20,Tryz.call21,Tryz.call22,Tryz.call23,Tryz.call24,Tryz.call25,Tryz.call26,Tryz.call27,Tryz.call28,Tryz.call29,Tryz.call30,Tryz.call31,Tryz.call32,Tryz.call33,Tryz.call34,Tryz.call35,Tryz.call36,Tryz.call37,Tryz.call38,Tryz.call39,Tryz.call40,Tryz.call41,Tryz.call42,Tryz.call43,Tryz.call44,Tryz.call45,Tryz.call46,Tryz.call47,Tryz.call48,Tryz.call49,Tryz.call50,Tryz.call51,Tryz.call52,Tryz.call53,Tryz.call54,Tryz.call55,Tryz.call56,Tryz.call57,Tryz.call58,Tryz.call59,Tryz.call60,Tryz.call61,Tryz.call62,Tryz.call63,Tryz.call64,Tryz.call65,Tryz.call66,Tryz.call67,Tryz.call68,Tryz.call69,Tryz.call70,Tryz.call71,Tryz.call72,Tryz.call73,Tryz.call74,Tryz.call75,Tryz.call76,Tryz.call77,Tryz.call78,Tryz.call79,Tryz.call80,Tryz.call81,Tryz.call82,Tryz.call83,Tryz.call84,Tryz.call85,Tryz.call86,Tryz.call87,Tryz.call88,Tryz.call89,Tryz.call90,Tryz.call91,Tryz.call92,Tryz.call93,Tryz.call94,Tryz.call95,Tryz.call96,Tryz.call97,Tryz.call98,Tryz.call99,Tryz.call100,Tryz.call101,Tryz.call102,Tryz.call103,Tryz.call104,Tryz.call105,Tryz.call106,Tryz.call107,Tryz.call108,Tryz.call109,Tryz.call110,Tryz.call111,Tryz.call112,Tryz.call113,Tryz.call114,Tryz.call115,Tryz.call116,Tryz.call117,Tryz.call118,Tryz.call119,Tryz.call120,Tryz.call121,Tryz.call122,Tryz.call123,Tryz.call124,Tryz.call125,Tryz.call126,Tryz.call127,Tryz.call128,Tryz.call129,Tryz.call130,Tryz.call131,Tryz.call132,Tryz.call133,Tryz.call134,Tryz.call135,Tryz.call136,Tryz.call137,Tryz.call138,Tryz.call139,Tryz.call140,Tryz.call141,Tryz.call142,Tryz.call143,Tryz.call144,Tryz.call145,Tryz.call146,Tryz.call147,Tryz.call148,Tryz.call149,Tryz.call150,Tryz.call151,Tryz.call152,Tryz.call153,Tryz.call154,Tryz.call155,Tryz.call156,Tryz.call157,Tryz.call158,Tryz.call159,Tryz.call160,Tryz.call161,Tryz.call162,Tryz.call163,Tryz.call164,Tryz.call165,Tryz.call166,Tryz.call167,Tryz.call168,Tryz.call169,Tryz.call170,Tryz.call171,Tryz.call172,Tryz.call173,Tryz.call174,Tryz.call175,Tryz.call176,Tryz.call177,Tryz.call178,Tryz.call179,Tryz.call180,Tryz.call181,Tryz.call182,Tryz.call183,Tryz.call184,Tryz.call185,Tryz.call186,Tryz.call187,Tryz.call188,Tryz.call189,Tryz.call190,Tryz.call191,Tryz.call192,Tryz.call193,Tryz.call194,Tryz.call195,Tryz.call196,Tryz.call197,Tryz.call198,Tryz.call199,Tryz.call200,Tryz.call201,Tryz.call202,Tryz.call203,Tryz.call204,Tryz.call205,Tryz.call206,Tryz.call207,Tryz.call208,Tryz.call209,Tryz.call210,Tryz.call211,Tryz.call212,Tryz.call213,Tryz.call214,Tryz.call215,Tryz.call216,Tryz.call217,Tryz.call218,Tryz.call219,Tryz.call220,Tryz.call221,Tryz.call222,Tryz.call223,Tryz.call224,Tryz.call225,Tryz.call226,Tryz.call227,Tryz.call228,Tryz.call229,Tryz.call230,Tryz.call231,Tryz.call232,Tryz.call233,Tryz.call234,Tryz.call235,Tryz.call236,Tryz.call237,Tryz.call238,Tryz.call239,Tryz.call240,Tryz.call241,Tryz.call242,Tryz.call243,Tryz.call244,Tryz.call245,Tryz.call246,Tryz.call247,Tryz.call248,Tryz.call249,Tryz.call250,Tryz.call251,Tryz.call252,Tryz.call253,Tryz.call254,Tryz.call255,Tryz.call256,Tryz.call257,Tryz.call259,Tryz.call260,Tryz.call261,Tryz.call262,Tryz.call263,Tryz.call264,Tryz.call265,Tryz.call266,Tryz.call267,Tryz.call268,Tryz.call269,Tryz.call270,Tryz.call271,Tryz.call272,Tryz.call274,Tryz.call275,Tryz.call276,Tryz.call277,Tryz.call279,Tryz.call280,Tryz.call281,Tryz.call282,Tryz.call283,Tryz.call285,Tryz.call286,Tryz.call287,Tryz.call288,Tryz.call289,Tryz.call290,Tryz.call291,Tryz.call292,Tryz.call293,Tryz.call294,Tryz.call296,Tryz.call297,Tryz.call298,Tryz.call299,Tryz.call300,Tryz.call301,Tryz.call302,Tryz.call303,Tryz.call304,Tryz.call305,Tryz.call306,Tryz.call307,Tryz.call308,Tryz.call311,Tryz.call312,Tryz.call313,Tryz.call314,Tryz.call315,Tryz.call316,Tryz.call317,Tryz.call318,Tryz.call319,Tryz.call320,Tryz.call321,Tryz.call322,Tryz.call323,Tryz.call324,Tryz.call325,Tryz.call326,Tryz.call327,Tryz.call328,Tryz.call329,Tryz.call330,Tryz.call331,Tryz.call332,Tryz.call333,Tryz.call334,Tryz.call335,Tryz.call336,Tryz.call337,Tryz.call338,Tryz.call339,Tryz.call340,Tryz.call341,Tryz.call342,Tryz.call343,Tryz.call344,Tryz.call345,t6⟩
theorem lay_ok:Lay.Ok Tryz.prog lay:=Go.Vc.lay_ok B9W B9X
theorem vE {k:Nat} {f:Go.Func} {c:Go.Code} {a:List Go.Value} {w:Go.World} {R:Go.Ending->Go.World->Prop} (d:Tryz.prog.funcs[k]?=some f) (g:S6 Tryz.prog lay c (A7j a) w (fnK lay f.results R)) (b:f.body=some c:=by rfl) (h:Nat.ble a.length f.ntmps=true:=by kernel_rfl) (e:P1 f.ntmps c=true:=by kernel_rfl):Go.Calls Tryz.prog k a.toArray w R:=A45 lay_ok d b h e g
theorem vD {i:Nat} {o:List Go.Oper} {f:Fr} {w:Go.World} {K:Fr->Go.World->Prop} (s:Sched) (C:Go.World->Prop) (h:C w.drew) (b:dV Tryz.prog lay o C s f w.drew K) (m:Tryz.prog.follows .mixedOrders=true:=by kernel_rfl) (a:A2w o.toArray s=true:=by kernel_rfl):Drawn Tryz.prog i o.toArray f w K:=B9V lay_ok m s C a h b
end Go.Proofs.YtefdfaeieekioaaGreatDoor
namespace Go.Proofs.YtefdfaeieekioaaGreatDoor
open Go.Vc Go.RowKit
def B1c (n:Int):Bool:=(decide (97<=n)&&decide (n<=122))||(decide (48<=n)&&decide (n<=57))||n==46||n==45||n==95||n==47
theorem B0D (n:Int) (w:World):Calls Tryz.prog 165 #[.int .u8 n] w (D4 (.bool (B1c n)) w):=by
 refine vE Tryz.func165 ?_
 repeat' (first | refine B5 (by assumption) ?_ | refine B4 (by assumption) ?_ | refine Z9 (by decide) ?_ | refine A09 (fun _=>?_) (fun _=>?_))
 all_goals refine⟨C1 ?_,Below.refl _ _⟩
 all_goals simp only [B1c, *]
 all_goals rfl
def B9Y (c:UInt8):Bool:=B1c (c.toNat:Int)
def C0k (l:List UInt8):Bool:=l.all B9Y&&decide (1<=l.length)&&decide (l.length<=40)
def B1d (s:ByteArray):Bool:=C0k s.data.toList
theorem W0 (s:ByteArray):s.data.toList.length=s.size:=by rw [Array.length_toList];rfl
theorem B4s {a:Type} (p:a->Bool) (l:List a) (k:Nat) (d:a) (h:k<l.length) (b:(l.take k).all p=true):(l.take (k+1)).all p=p (l.getD k d):=by rw [List.take_succ_eq_append_getElem h,List.all_append,b];simp [List.getD_eq_getElem?_getD,yc h]
theorem A6N {a:Type} (p:a->Bool) (l:List a) (k:Nat) (d:a) (b:k<l.length) (h:p (l.getD k d)=false):l.all p=false:=by rw [List.all_eq_false];refine⟨l[k],List.getElem_mem b,?_⟩;rw [List.getD_eq_getElem?_getD,yc b] at h;simpa using h
theorem G8 (a b:Int) (h : -9223372036854775808<=a+b) (c:a+b<=9223372036854775807):IntKind.i64.wrap (a+b)=a+b:=yh _ ⟨h,c⟩
theorem B1e (s:ByteArray) (j:s.size<=9223372036854775807) (w:World):Calls Tryz.prog 103 #[.string s] w (D4 (.bool (B1d s)) w):=by
 refine vE Tryz.func103 ?_;refine⟨Nat,fun k=>[(0,.string s),(2,.bool false),(5,.int .i64 s.size),(6,.int .i64 k)],fun k w'=>k<=s.size/\(s.data.toList.take k).all B9Y=true/\Below w.heap.size w w',fun k _=>s.size-k,0,
  ⟨rfl,rfl,rfl,rfl,t6⟩,⟨zb _,by simp,Below.refl _ _⟩,?_⟩
 rintro k w' u ⟨i,a,b⟩;have n:=W0 s;by_cases l:k<s.size
 ·refine B5 (by simpa using l) ?_;refine⟨⟨by omega,by omega⟩,?_⟩;refine B8 (B0D _ _) ?_;intro m e;have c:=b.trans (e.mono b.size);have f:=B4s B9Y s.data.toList k 0 (by omega) a;cases h:B9Y (s.data.toList.getD k 0)
  ·refine B5 (by rw [<-Bool.not_false];exact yb _ h) ?_;refine⟨C1 ?_,c⟩;unfold B1d C0k;rw [A6N B9Y _ k 0 (by omega) h];rfl
  ·refine B4 (by rw [<-Bool.not_true];exact yb _ h) ?_;refine⟨k+1,⟨rfl,rfl,rfl,?_,t6⟩,⟨l,by rw [f,h],c⟩,by show s.size-(k+1)<s.size-k;omega⟩;show Value.int .i64 (IntKind.i64.wrap ((k:Int)+1))=_;rw [G8 _ _ (by omega) (by omega)];rfl
 ·refine B4 (by simp;omega) ?_;have g:k=s.size:=by omega
  rw [ym (by omega)] at a
  repeat' (first | refine B5 (by assumption) ?_ | refine B4 (by assumption) ?_ | refine Z9 (by decide) ?_ | refine A09 (fun _=>?_) (fun _=>?_))
  all_goals refine⟨C1 ?_,b⟩
  all_goals unfold B1d C0k
  all_goals rw [a,n,Bool.eq_iff_iff]
  all_goals (rename_i d;simp at d ⊢;omega)
def B7 (n:Int):Int:=if n<4294967296\/25769803776<=n\/n % 4294967296=0 then 0 else n / 4294967296
theorem O8 (n:Int) (w:World):Calls Tryz.prog 104 #[.int .i64 n] w (D4 (.int .i64 (B7 n)) w):=by
 refine vE Tryz.func104 ?_
 repeat' (first | refine B5 (by assumption) ?_ | refine B4 (by assumption) ?_ | refine Z9 (by decide) ?_ | refine A09 (fun _=>?_) (fun _=>?_))
 all_goals refine⟨A0x ?_,Below.refl _ _⟩
 all_goals unfold B7
 all_goals simp only [y9,decide_eq_false_iff_not,beq_iff_eq,ya] at*
 ·rw [yn (.inl (by assumption))]
 ·rw [yn (.inr (.inl (by assumption)))]
 ·rename_i a b h;rw [Int.tmod_eq_emod_of_nonneg (by omega)] at h;rw [yn (.inr (.inr h))]
 ·rename_i a b h;rw [Int.tmod_eq_emod_of_nonneg (by omega)] at h;rw [yo (by omega),Int.tdiv_eq_ediv_of_nonneg (by omega)];exact yh _ ⟨by omega,by omega⟩
theorem B7Z (s:ByteArray) (n:Int) (w:World) (a:0<=n) (b:s.size<=9223372036854775807):Calls Tryz.prog 49 #[.string s,.int .i64 n] w (D4 (.string (s.extract 0 (min s.size n.toNat))) w):=by
 refine vE Tryz.func49 ?_;have e:(0:Int).toNat=0:=rfl;by_cases h:n<s.size
 ·refine⟨⟨?_,?_,?_⟩,?_⟩
  ·omega
  ·show (0:Int)<=if n<(s.size:Int) then n else (s.size:Int)
   rw [yn h];exact a
  ·show (if n<(s.size:Int) then n else (s.size:Int))<=_;rw [yn h];omega
  ·refine⟨yb (fun x=>Ending.returned (.string (s.extract 0 x))) ?_,Below.refl _ _⟩;show (if n<(s.size:Int) then n else (s.size:Int)).toNat=_;rw [yn h];omega
 ·refine⟨⟨?_,?_,?_⟩,?_⟩
  ·omega
  ·show (0:Int)<=if n<(s.size:Int) then n else (s.size:Int)
   rw [yo h];omega
  ·show (if n<(s.size:Int) then n else (s.size:Int))<=_;rw [yo h];omega
  ·refine⟨yb (fun x=>Ending.returned (.string (s.extract 0 x))) ?_,Below.refl _ _⟩;show (if n<(s.size:Int) then n else (s.size:Int)).toNat=_;rw [yo h];omega
end Go.Proofs.YtefdfaeieekioaaGreatDoor
namespace Go.Fl
open Ieee
theorem A46 (N k:Nat) (h:N≠0):(N*2 ^ k).log2=N.log2+k:=by
 have p:0<2 ^ k:=Nat.two_pow_pos k;have e:N*2 ^ k≠0:=Nat.mul_ne_zero h (by omega);rw [Nat.log2_eq_iff e];have b:=Nat.log2_self_le h;have a:=Nat.lt_log2_self (n:=N);constructor
 ·rw [Nat.pow_add];exact Nat.mul_le_mul_right _ b
 ·rw [show N.log2+k+1=(N.log2+1)+k from by omega,Nat.pow_add];exact Nat.mul_lt_mul_of_pos_right a p
def A2R (N:Nat):Nat:=if N=0 then 0 else (N.log2+1022)*2 ^ 52+N*2 ^ (52-N.log2)
def dbl (n:Int):Nat:=if n<0 then 2 ^ 63+A2R n.natAbs else A2R n.natAbs
theorem B1f {N:Nat} (h:N≠0) (a:N<2 ^ 53):N.log2<=52:=by have:=(Nat.log2_lt h).2 a;omega
theorem C1n {N:Nat} (h:N≠0) (b:N<2 ^ 53):2 ^ 52<=N*2 ^ (52-N.log2)/\N*2 ^ (52-N.log2)<2 ^ 53:=by
 have l:=B1f h b;have c:=Nat.log2_self_le h;have a:=Nat.lt_log2_self (n:=N);constructor
 ·calc 2 ^ 52=2 ^ N.log2*2 ^ (52-N.log2):=by rw [<-Nat.pow_add];congr 1;omega
   _<=_:=Nat.mul_le_mul_right _ c
 ·calc N*2 ^ (52-N.log2)<2 ^ (N.log2+1)*2 ^ (52-N.log2):=Nat.mul_lt_mul_of_pos_right a (Nat.two_pow_pos _)
   _=2 ^ 53:=by rw [<-Nat.pow_add];congr 1;omega
def Is (b:Nat) (n:Int):Prop:=∃ k:Nat,double.read b=.number (decide (n<0)) (n.natAbs*2 ^ k) (-(k:Int))
theorem sw:double.signWeight=2 ^ 63:=rfl
theorem bn:double.binade=2 ^ 52:=rfl
theorem ir:double.infRung=2047*2 ^ 52:=rfl
theorem lp:double.leastPlace = -1074:=rfl
theorem A6O (neg:Bool) (N:Nat) (h:N≠0) (a:N<2 ^ 53):double.read (double.word neg (A2R N))=.number neg (N*2 ^ (52-N.log2)) (-((52-N.log2:Nat):Int)):=by
 obtain⟨j,g⟩:=C1n h a;have l:=B1f h a;have f:A2R N=(N.log2+1022)*2 ^ 52+N*2 ^ (52-N.log2):=yo h;generalize i:N*2 ^ (52-N.log2)=m at*;have e:(double.word neg (A2R N)) / double.signWeight % 2=neg.toNat/\(double.word neg (A2R N)) % double.signWeight=A2R N:=by
  rw [sw];unfold Format.word;rw [sw];cases neg
  ·simp only [Bool.false_eq_true,if_false,Bool.toNat_false];omega
  ·simp only [if_true,Bool.toNat_true];omega
 unfold Format.read;simp only [e.1,e.2];rw [bn,ir,lp,yo (by omega),yn (by omega)];have d:A2R N % 2 ^ 52=m-2 ^ 52:=by omega
 have c:A2R N / 2 ^ 52=N.log2+1023:=by omega
 rw [d,c];have b:(neg.toNat==1)=neg:=by cases neg<;>rfl
 rw [b];exact congr (yb (Datum.number neg) (by omega)) (by omega)
theorem B1g:double.read 0=.number false 0 (-1074):=by decide +kernel
theorem I3 (n:Int) (a:n.natAbs<2 ^ 53):Is (dbl n) n:=by
 unfold Is dbl;by_cases h0:n=0
 ·obtain⟨K,b⟩:∃ K:Nat,K=1074:=⟨1074,rfl⟩;refine⟨K,?_⟩;rw [yo (show ¬ n<0 by omega),show n.natAbs=0 from by omega,Nat.zero_mul,show A2R 0=0 from rfl,B1g,y8 (show ¬ n<0 by omega),b];rfl
 ·have e:n.natAbs≠0:=by omega
  refine⟨52-n.natAbs.log2,?_⟩;by_cases h:n<0
  ·rw [yn h,zz h];exact A6O true _ e a
  ·rw [yo h,y8 h];exact A6O false _ e a
theorem A1D (n:Int) (k:Nat) (a:n.natAbs<2 ^ 53):double.write (.number (decide (n<0)) (n.natAbs*2 ^ k) (-(k:Int)))=dbl n:=by
 show double.nearest _ _ _=_;unfold Format.nearest dbl;by_cases h0:n=0
 ·subst h0;simp [Format.word,A2R]
 ·have h:n.natAbs≠0:=by omega
  generalize f:n.natAbs=N at*;have e:=B1f h a;obtain⟨i,g⟩:=C1n h a;have p:0<2 ^ k:=Nat.two_pow_pos k;rw [yo (Nat.mul_ne_zero h (by omega)),A46 N k h,lp,bn,ir];have l:max (-(k:Int)+((N.log2+k:Nat):Int)-(double.fractionBits:Int)) (-1074)=(N.log2:Int)-52:=by have:(double.fractionBits:Int)=52:=rfl;rw [this];omega
  simp only [l];have u:Toward.even.cut (decide (n<0)) ((N*2 ^ k) <<< (-(k:Int)-((N.log2:Int)-52)).toNat) ((N.log2:Int)-52 - -(k:Int)).toNat=N*2 ^ (52-N.log2):=by
   obtain c|c:=zm k (52-N.log2)
   ·rw [show ((N.log2:Int)-52 - -(k:Int)).toNat=0 from by omega,show (-(k:Int)-((N.log2:Int)-52)).toNat=52-N.log2-k from by omega,Nat.shiftLeft_eq,Nat.mul_assoc,<-Nat.pow_add,
     show k+(52-N.log2-k)=52-N.log2 from by omega]
    simp only [Toward.cut,Nat.zero_min,Nat.shiftLeft_zero,Nat.div_one,Nat.mod_one,Nat.mul_zero];simp
   ·rw [show (-(k:Int)-((N.log2:Int)-52)).toNat=0 from by omega,show ((N.log2:Int)-52 - -(k:Int)).toNat=k-(52-N.log2) from by omega,Nat.shiftLeft_zero];have d:min (k-(52-N.log2)) ((N*2 ^ k).log2+2)=k-(52-N.log2):=by rw [A46 N k h];omega
    have s:N*2 ^ k=(N*2 ^ (52-N.log2))*2 ^ (k-(52-N.log2)):=by rw [Nat.mul_assoc,<-Nat.pow_add];congr 2;omega
    have q:0<2 ^ (k-(52-N.log2)):=Nat.two_pow_pos _;unfold Toward.cut;simp only [d,Nat.one_shiftLeft];rw [s,Nat.mul_div_cancel _ q,Nat.mul_mod_left];simp
  rw [u,show ((N.log2:Int)-52 - -1074).toNat=N.log2+1022 from by omega,Nat.min_eq_left (by omega)];unfold Format.word A2R;rw [sw,yo h];by_cases b:n<0
  ·simp [b]
  ·simp [b]
theorem T0 (n:Int) (k u K:Nat) (a:k+u=K):signed (decide (n<0)) (n.natAbs*2 ^ k) u=n*2 ^ K:=by
 unfold signed;have e:((n.natAbs*2 ^ k) <<< u:Nat)=n.natAbs*2 ^ K:=by rw [Nat.shiftLeft_eq,Nat.mul_assoc,<-Nat.pow_add,a]
 rw [e];have c:((n.natAbs*2 ^ K:Nat):Int)=(n.natAbs:Int)*2 ^ K:=by rw [Int.natCast_mul,Int.natCast_pow];rfl
 rw [c];by_cases h:n<0
 ·rw [zz h,yn rfl,<-Int.neg_mul];congr 1;omega
 ·rw [y8 h,yo (by simp)];congr 1;omega
theorem A7o (K:Nat):(0:Int)<2 ^ K:=Int.pow_pos (by decide)
theorem B9Z (n:Int) (K:Nat):(n*2 ^ K<0)=(n<0):=by
 have p:=A7o K;apply propext;constructor
 ·intro h;by_cases a:n<0
  ·exact a
  ·exact absurd (Int.mul_nonneg (show 0<=n by omega) (Int.le_of_lt p)) (by omega)
 ·intro h;exact Int.mul_neg_of_neg_of_pos h p
theorem B1h (n:Int) (K:Nat):(n*2 ^ K).natAbs=n.natAbs*2 ^ K:=by rw [Int.natAbs_mul,Int.natAbs_pow];rfl
theorem B1i (n:Int) (K:Nat):decide (n*2 ^ K<0)=decide (n<0):=by rw [Bool.eq_iff_iff,decide_eq_true_iff,decide_eq_true_iff,B9Z]
theorem B1j (n:Int) (K:Nat):(n*2 ^ K=0)=(n=0):=by
 have p:=A7o K;apply propext;constructor
 ·intro h;obtain h|h:=Int.mul_eq_zero.1 h
  ·exact h
  ·omega
 ·intro h;rw [h];simp
theorem A8w {c:Type} (n:Int) (K:Nat) (a b:c):(if n*2 ^ K=0 then a else b)=if n=0 then a else b:=by
 by_cases h:n=0
 ·rw [yn h,yn (by rw [B1j];exact h)]
 ·rw [yo h,yo (by rw [B1j];exact h)]
theorem B6z {x y:Nat} {a b:Int} (e:Is x a) (d:Is y b) (f:(a+b).natAbs<2 ^ 53):double.add x y=some (dbl (a+b)):=by
 obtain⟨k,i⟩:=e;obtain⟨l,g⟩:=d;unfold Format.add;rw [i,g];simp only [Datum.sum,Option.map_some];have h:min (-(k:Int)) (-(l:Int)) = -((max k l:Nat):Int):=by omega
 rw [h,T0 a k _ (max k l) (by omega),T0 b l _ (max k l) (by omega),<-Int.add_mul,B1h,B1i,A8w,<-A1D (a+b) (max k l) f];congr 3;by_cases h0:a+b=0
 ·rw [yn h0];have:¬ (a<0/\b<0):=by omega
  rw [y8 (show ¬ a+b<0 by omega)];by_cases c:a<0
  ·rw [y8 (show ¬ b<0 by omega)];simp
  ·rw [y8 c];rfl
 ·rw [yo h0]
theorem B0E (s:Bool) (m u:Nat):signed (!s) m u = -signed s m u:=by cases s<;>simp [signed]
theorem B9a {x y:Nat} {a b:Int} (e:Is x a) (d:Is y b) (f:(a-b).natAbs<2 ^ 53):double.sub x y=some (dbl (a-b)):=by
 obtain⟨k,i⟩:=e;obtain⟨l,g⟩:=d;unfold Format.sub;rw [i,g];simp only [Datum.opposite,Datum.sum,Option.map_some];have h:min (-(k:Int)) (-(l:Int)) = -((max k l:Nat):Int):=by omega
 rw [h,B0E,T0 a k _ (max k l) (by omega),T0 b l _ (max k l) (by omega),<-Int.sub_eq_add_neg,<-Int.sub_mul,B1h,B1i,A8w,<-A1D (a-b) (max k l) f];congr 3;by_cases h0:a-b=0
 ·rw [yn h0,y8 (show ¬ a-b<0 by omega)];by_cases c:a<0
  ·rw [zz (show b<0 by omega)];simp
  ·rw [y8 c];rfl
 ·rw [yo h0]
theorem B9b {x y:Nat} {a b:Int} (e:Is x a) (d:Is y b) (h:0<=a) (c:0<=b) (f:(a*b).natAbs<2 ^ 53):double.mul x y=some (dbl (a*b)):=by
 obtain⟨k,i⟩:=e;obtain⟨l,g⟩:=d;unfold Format.mul;rw [i,g];simp only [Datum.product,Option.map_some];have n:=Int.mul_nonneg h c;rw [<-A1D (a*b) (k+l) f,y8 (show ¬ a<0 by omega),y8 (show ¬ b<0 by omega),y8 (show ¬ a*b<0 by omega)];congr 3
 ·rw [Int.natAbs_mul,Nat.pow_add,Nat.mul_assoc,Nat.mul_left_comm (2 ^ k),<-Nat.mul_assoc]
 ·omega
theorem B7a (a b:Int) (K:Nat):compare (a*2 ^ K) (b*2 ^ K)=compare a b:=by
 have p:=A7o K;obtain h|h|h:=Int.lt_trichotomy a b
 ·have c:a*2 ^ K<b*2 ^ K:=Int.mul_lt_mul_of_pos_right h p;simp [compare,compareOfLessAndEq,h,c]
 ·subst h;simp [compare,compareOfLessAndEq]
 ·have c:b*2 ^ K<a*2 ^ K:=Int.mul_lt_mul_of_pos_right h p;have e:¬ a*2 ^ K<b*2 ^ K:=by omega
  have g:¬ a<b:=by omega
  have f:¬ a*2 ^ K=b*2 ^ K:=by omega
  have d:¬ a=b:=by omega
  simp [compare,compareOfLessAndEq,e,g,f,d]
theorem A47 {x y:Nat} {a b:Int} (d:Is x a) (c:Is y b):double.order x y=some (compare a b):=by
 obtain⟨k,f⟩:=d;obtain⟨l,e⟩:=c;unfold Format.order;rw [f,e];simp only [Datum.order];have h:min (-(k:Int)) (-(l:Int)) = -((max k l:Nat):Int):=by omega
 rw [h,T0 a k _ (max k l) (by omega),T0 b l _ (max k l) (by omega),B7a]
theorem A2y (a:Int) (k:Nat):(Datum.number (decide (a<0)) (a.natAbs*2 ^ k) (-(k:Int))).integral .zero=.number (decide (a<0)) a.natAbs 0:=by
 simp only [Datum.integral];have h:Toward.zero.cut (decide (a<0)) ((a.natAbs*2 ^ k) <<< (-(k:Int)).toNat) (- -(k:Int)).toNat=a.natAbs:=by
  rw [show (-(k:Int)).toNat=0 from by omega,show (- -(k:Int)).toNat=k from by omega,Nat.shiftLeft_zero];unfold Toward.cut;by_cases h0:a.natAbs=0
  ·rw [h0];simp
  ·have d:min k ((a.natAbs*2 ^ k).log2+2)=k:=by rw [A46 _ k h0];omega
   simp only [d,Nat.one_shiftLeft];rw [Nat.mul_div_cancel _ (Nat.two_pow_pos _)];simp
 rw [h]
theorem A8x {x:Nat} {a:Int} (b:Is x a):(double.read x).toInt .zero=some a:=by obtain⟨k,e⟩:=b;rw [e];unfold Datum.toInt;rw [A2y];have h:=T0 a 0 0 0 rfl;rw [Nat.pow_zero,Nat.mul_one,Int.pow_zero,Int.mul_one] at h;exact yb some h
theorem A1k (n:Int) (a:n.natAbs<2 ^ 53):FloatKind.f64.nearest n=dbl n:=by have h:=A1D n 0 a;rw [Nat.pow_zero,Nat.mul_one] at h;exact h
end Go.Fl
section
namespace Go.Fl
open Go Ieee Go.Vc
theorem B9c (a b:Int):(some (compare a b)==some Ordering.lt)=decide (a<b):=by
 obtain h|h|h:=Int.lt_trichotomy a b
 ·simp [compare,compareOfLessAndEq,h]
 ·subst h;simp [compare,compareOfLessAndEq]
 ·have d:¬ a<b:=by omega
  have c:¬ a=b:=by omega
  simp [compare,compareOfLessAndEq,d,c]
theorem B9d (a b:Int):(some (compare a b)==some Ordering.gt)=decide (b<a):=by
 obtain h|h|h:=Int.lt_trichotomy a b
 ·have c:¬ b<a:=by omega
  simp [compare,compareOfLessAndEq,h,c]
 ·subst h;simp [compare,compareOfLessAndEq]
 ·have c:¬ a<b:=by omega
  have d:¬ a=b:=by omega
  simp [compare,compareOfLessAndEq,c,d,h]
theorem B1k (a b:Int):(some (compare a b)==some Ordering.eq)=decide (a=b):=by
 obtain h|h|h:=Int.lt_trichotomy a b
 ·have c:¬ a=b:=by omega
  simp [compare,compareOfLessAndEq,h,c]
 ·subst h;simp [compare,compareOfLessAndEq]
 ·have d:¬ a<b:=by omega
  have c:¬ a=b:=by omega
  simp [compare,compareOfLessAndEq,d,c]
theorem C01 (a b:Int):(decide (a<b)||decide (a=b))=decide (a<=b):=by rw [Bool.eq_iff_iff];simp;omega
theorem C02 (a b:Int):(decide (b<a)||decide (a=b))=decide (b<=a):=by rw [Bool.eq_iff_iff];simp;omega
section
variable {P:Program} {T:TypeId} {ox oy:Operand} {x y:Nat} {a b:Int} {K:Value->Prop}
theorem B9e (c:Is x a) (h:Is y b) (k:K (.bool (decide (b<=a)))):∃ v,(∀ w,(do eqGuard .geq T ox oy (.float .f64 x) (.float .f64 y);binOp .geq T (.float .f64 x) (.float .f64 y):Sem Value).run P w=.ok v w)/\K v:=by refine⟨_,fun w=>?_,k⟩;show Result.ok (Value.bool (double.order x y==some .gt||double.order x y==some .eq)) w=_;rw [A47 c h,B9d,B1k,C02]
theorem B9f (c:Is x a) (h:Is y b) (k:K (.bool (decide (a<=b)))):∃ v,(∀ w,(do eqGuard .leq T ox oy (.float .f64 x) (.float .f64 y);binOp .leq T (.float .f64 x) (.float .f64 y):Sem Value).run P w=.ok v w)/\K v:=by refine⟨_,fun w=>?_,k⟩;show Result.ok (Value.bool (double.order x y==some .lt||double.order x y==some .eq)) w=_;rw [A47 c h,B9c,B1k,C01]
theorem B9g (c:Is x a) (h:Is y b) (k:K (.bool (decide (a=b)))):∃ v,(∀ w,(do eqGuard .eql T ox oy (.float .f64 x) (.float .f64 y);binOp .eql T (.float .f64 x) (.float .f64 y):Sem Value).run P w=.ok v w)/\K v:=by refine⟨_,fun w=>?_,k⟩;show Result.ok (Value.bool (double.order x y==some .eq)) w=_;rw [A47 c h,B1k]
theorem B9h (c:Is x a) (h:Is y b) (d:(a+b).natAbs<2 ^ 53) (k:K (.float .f64 (dbl (a+b)))):∃ v,(∀ w,(do eqGuard .add T ox oy (.float .f64 x) (.float .f64 y);binOp .add T (.float .f64 x) (.float .f64 y):Sem Value).run P w=.ok v w)/\K v:=by refine⟨_,fun w=>?_,k⟩;show (match double.add x y with | some r=>Pure.pure (Value.float .f64 r) | none=>(do pure (Value.float .f64 (<-choose (.nanBits .f64 x y)))):Sem Value).run P w=_;rw [B6z c h d];rfl
end
theorem A2z {P:Program} {x y:Nat} {a b:Int} (c:Is x a) (h:Is y b) (d:(a+b).natAbs<2 ^ 53) (w:World):(Op.Complex.arith .add .f64 x y).run P w=.ok (dbl (a+b)) w:=by unfold Op.Complex.arith Op.floatArith;rw [show FloatKind.f64.format.add x y=double.add x y from rfl,B6z c h d];rfl
theorem B1l {P:Program} {x y:Nat} {a b:Int} (c:Is x a) (h:Is y b) (d:(a-b).natAbs<2 ^ 53) (w:World):(Op.Complex.arith .sub .f64 x y).run P w=.ok (dbl (a-b)) w:=by unfold Op.Complex.arith Op.floatArith;rw [show FloatKind.f64.format.sub x y=double.sub x y from rfl,B9a c h d];rfl
theorem A1E {P:Program} {x y:Nat} {a b:Int} (e:Is x a) (d:Is y b) (h:0<=a) (c:0<=b) (f:(a*b).natAbs<2 ^ 53) (w:World):(Op.Complex.arith .mul .f64 x y).run P w=.ok (dbl (a*b)) w:=by unfold Op.Complex.arith Op.floatArith;rw [show FloatKind.f64.format.mul x y=double.mul x y from rfl,B9b e d h c f];rfl
section
variable {P:Program} {T:TypeId} {ox oy:Operand} {x y x' y':Nat} {a b c d:Int} {K:Value->Prop}
theorem B7b (g:Is x a) (e:Is y b) (i:Is x' c) (h:Is y' d) (f:(a+c).natAbs<2 ^ 53) (j:(b+d).natAbs<2 ^ 53) (k:K (.complex .f64 (dbl (a+c)) (dbl (b+d)))):
  ∃ v,(∀ w,(do eqGuard .add T ox oy (.complex .f64 x y) (.complex .f64 x' y');binOp .add T (.complex .f64 x y) (.complex .f64 x' y'):Sem Value).run P w=.ok v w)/\K v:=by
 refine⟨_,fun w=>?_,k⟩;show (do pure (Value.complex .f64 (<-Op.Complex.arith .add .f64 x x') (<-Op.Complex.arith .add .f64 y y')):Sem Value).run P w=_;simp only [yf,A2z g i f,A2z e h j,ye,yg]
theorem B7c (m:Is x a) (i:Is y b) (j:Is x' c) (k:Is y' d) (h:0<=a/\a<2 ^ 20) (e:0<=b/\b<2 ^ 20) (g:0<=c/\c<2 ^ 20) (f:0<=d/\d<2 ^ 20)
  (o:K (.complex .f64 (dbl (a*c-b*d)) (dbl (a*d+b*c)))):
  ∃ v,(∀ w,(do eqGuard .mul T ox oy (.complex .f64 x y) (.complex .f64 x' y');binOp .mul T (.complex .f64 x y) (.complex .f64 x' y'):Sem Value).run P w=.ok v w)/\K v:=by
 have l:∀ {u v:Int},0<=u/\u<2 ^ 20->0<=v/\v<2 ^ 20->0<=u*v/\u*v<2 ^ 40:=by intro u v n hv;refine⟨Int.mul_nonneg n.1 hv.1,?_⟩;have q:u*v<=u*2 ^ 20:=Int.mul_le_mul_of_nonneg_left (by omega) n.1;omega
 have z:=l h g;have l2:=l e f;have s:=l h f;have t:=l e g;refine⟨_,fun w=>?_,o⟩;show (do
  let r <-(do
   let p <-(do pure (<-Op.Complex.arith .sub .f64 (<-Op.Complex.arith .mul .f64 x x') (<-Op.Complex.arith .mul .f64 y y'),<-Op.Complex.arith .add .f64 (<-Op.Complex.arith .mul .f64 x y') (<-Op.Complex.arith .mul .f64 y x')):Sem (Nat × Nat))
   pure p:Sem (Nat × Nat))
  pure (Value.complex .f64 r.1 r.2):Sem Value).run P w=_
 simp only [yf,A1E m j h.1 g.1 (by omega),A1E i k e.1 f.1 (by omega),A1E m k h.1 f.1 (by omega),A1E i j e.1 g.1 (by omega),ye,yg,
  B1l (I3 (a*c) (by omega)) (I3 (b*d) (by omega)) (by omega),A2z (I3 (a*d) (by omega)) (I3 (b*c) (by omega)) (by omega)]
end
end Go.Fl
end
section
namespace Go.Vc
open Go Go.RowKit
def bv (l:List UInt8):List Value:=l.map fun c=>.int .u8 (c.toNat:Int)
theorem A6P (l:List UInt8):(bv l).length=l.length:=zl _
theorem A4Q (l:List UInt8) (k:Nat) (h:k<l.length):(bv l)[k]?=some (.int .u8 ((l.getD k 0).toNat:Int)):=by unfold bv;rw [List.getElem?_map,yc h,List.getD_eq_getElem?_getD,yc h];rfl
theorem A6Q (a b:List UInt8):bv (a++b)=bv a++bv b:=List.map_append
theorem Row.below {S:Nat->Prop} {w a:World} {A:Option Addr} {n c:Nat} {xs:List Value} (h:Row S w A n c xs) (b:Below w.heap.size w a):Row S a A n c xs:=
 ⟨h.1,h.2.1,fun x=>by obtain⟨g,e,s,d⟩:=h.2.2 x;exact⟨g,e,s,fun j u f=>cell_later b (d j u f)⟩⟩
theorem Row.at {S:Nat->Prop} {w:World} {A:Option Addr} {n p:Nat} {x:List Value} (h:Row S w A n p x) {i:Nat} {v:Value} (b:x[i]?=some v):∃ a,A=some a/\w.cell? (a.add i)=some v:=by
 obtain⟨a,e,c⟩:=h.get (i:=i) (by
  obtain h|h:=zm i x.length
  ·exact h
  ·rw [List.getElem?_eq_none h] at b;cases b)
 exact⟨a,e,c i v b⟩
theorem Row.sub {S S':Nat->Prop} {w:World} {A:Option Addr} {n c:Nat} {xs:List Value} (h:Row S w A n c xs) (s:∀ b,S b->S' b):Row S' w A n c xs:=
 ⟨h.1,h.2.1,fun x=>by obtain⟨d,e,f,a⟩:=h.2.2 x;exact⟨d,e,s _ f,a⟩⟩
section
variable {P:Program} {w:World} {K:Value->World->Prop}
theorem A20 {s d e:TypeId} {u:TypeDesc} (S:Nat->Prop) (k:P.underlying s=some u) (f:P.underlying d=some (.slice e)) (c:P.underlying e=some (.int .u8)) {t:ByteArray} (l:t.size<=maxLen)
  (m:∀ g cap w',Below w.heap.size w w'->Row (ext S w w') w' (some ⟨g,0,none⟩) t.size cap (bv t.data.toList)->K (.slice (some ⟨g,0,none⟩) t.size cap) w'):
  ∃ v w',(Go.convert s d (.string t)).run P w=.ok v w'/\K v w':=by
 refine⟨_,_,Lib.run_convert_string_bytes w s d e t k f c,m _ _ _ (Lib.bytesWorld_below w e t) ⟨?_,?_,fun _=>⟨_,rfl,?_,?_⟩⟩⟩
 ·exact grownCap_ge w t.size 0 e
 ·exact grownCap_le_maxLen w t.size 0 e l
 ·exact .inr ⟨zc _,by rw [Lib.bytesWorld_size];exact Nat.lt_succ_self _⟩
 ·intro j u h;have a:j<t.data.toList.length:=by
   obtain b|b:=zm j t.data.toList.length
   ·exact b
   ·rw [List.getElem?_eq_none (by rw [A6P];exact b)] at h;cases h
  rw [A4Q _ _ a] at h;have i:(⟨w.heap.size,0,none⟩:Addr).add j=⟨w.heap.size,j,none⟩:=by rw [yi,zn]
  rw [i,Lib.bytesWorld_cell w e t j (by rw [Array.length_toList] at a;exact a)];exact h
theorem B1m {s d e:TypeId} {S:Nat->Prop} {A:Option Addr} {n p:Nat} {l:List UInt8} (g:P.underlying s=some (.slice e)) (b:P.underlying e=some (.int .u8)) (f:P.underlying d=some .string)
  (R:Row S w A n p (bv l)) (m:n=l.length) (k:K (.string ⟨l.toArray⟩) w):∃ v w',(Go.convert s d (.slice A n p)).run P w=.ok v w'/\K v w':=by
 subst m;cases A with
 | none=>
  cases l with
  | nil=>
   refine⟨_,_,run_convert_bytes_string w s d e none 0 p g b f,?_⟩;exact k
  | cons c r=>
   obtain⟨q,h,_⟩:=R.at (A4Q (c::r) 0 (Nat.succ_pos _));cases h
 | some a=>
  refine⟨_,_,run_convert_bytes_back w s d e a p l g b f (fun i j=>?_),k⟩;obtain⟨q,h,o⟩:=R.at (A4Q l i j);cases h;rw [o,List.getD_eq_getElem?_getD,yc j];rfl
end
theorem A21:∀ {l:List Value},(∀ v∈l,v.oneCell'=true)->F4 l=true
 | [],_=>rfl
 | v::r,h=>by simp only [F4,z7];exact⟨h v (zv ..),A21 fun a u=>h a (zu _ u)⟩
structure Own (S:Nat->Prop) (n0:Nat) (w:World) (l:List LB) (e sz:Nat) (A:Option Addr) (n cap:Nat) (xs:List Value):Prop where
 row:w.ownsRow n0 e sz (.slice A n cap) n xs
 out:∀ a,A=some a->¬ S a.block/\∀ x∈l,x.1≠a.block
section
variable {S0 S:Nat->Prop} {w0 w w':World} {l:List LB} {e sz:Nat} {A:Option Addr} {n cap:Nat} {xs:List Value} {n0:Nat}
theorem Own.nil:Own S n0 w l e sz none 0 0 []:=⟨World.ownsRow_nil ..,fun a h=>by cases h⟩
theorem Own.lt (h:Own S n0 w l e sz A n cap xs) {a:Addr} (b:A=some a):n0<=a.block/\a.block<w.heap.size:=by subst b;exact h.row.lt a.block rfl
theorem Own.kept (i:Own S n0 w l e sz A n cap xs) (d:∀ a,A=some a->w'.heap[a.block]?=w.heap[a.block]?):w'.ownsRow n0 e sz (.slice A n cap) n xs:=by
 obtain⟨m,h⟩:=i.row;refine⟨m,?_⟩;obtain h|⟨g,p,c,b,f,k,j⟩:=h
 ·exact .inl h
 ·refine .inr ⟨g,p,c,b,f,?_,j⟩;cases b;rw [d _ rfl];exact k
theorem Own.below (b:Own S n0 w l e sz A n cap xs) (c:Below w.heap.size w w'):Own (ext S w w') n0 w' l e sz A n cap xs:=
 ⟨b.kept fun a h=>c.block _ (b.lt h).2,fun a h=>⟨fun s=>by
  obtain s|s:=s
  ·exact (b.out a h).1 s
  ·have:=(b.lt h).2;omega,(b.out a h).2⟩⟩
theorem Own.quiet (h:Own S n0 w l e sz A n cap xs) (c:Below w.heap.size w w'):Own S n0 w' l e sz A n cap xs:=
 ⟨h.kept fun a b=>c.block _ (h.lt b).2,h.out⟩
theorem Own.loc (b:Own S n0 w l e sz A n cap xs) {cs:List Value} {T g:Nat} (N:New w cs T g w'):Own S n0 w' ((g,T,cs)::l) e sz A n cap xs:=
 ⟨b.kept fun a h=>N.below.block _ (b.lt h).2,fun a h=>⟨(b.out a h).1,fun x c=>by
  cases c with
  | head=>have:=(b.lt h).2;have:=N.1;show g≠a.block;omega
  | tail _ c=>exact (b.out a h).2 x c⟩⟩
theorem Own.set (b:Own S n0 w l e sz A n cap xs) (r:Ctx S0 w0 S w l) (k:Nat) {g T:Nat} {c:List Value} (d:l[k]?=some (g,T,c)) {o:Nat} {s:List Value} (q:E6 w ⟨g,o,none⟩ s w'):
  Own S n0 w' (I2 l k (C5 c o s)) e sz A n cap xs:=by
 obtain⟨m,f,i,B,v,z⟩:=L9 o s w 0 c (r.blk k d);rw [<-(show w'=_ from q)] at m f i;refine⟨b.kept fun a h=>f _ fun p=>(b.out a h).2 _ (List.mem_of_getElem? d) p.symm,fun a h=>⟨(b.out a h).1,fun x t=>?_⟩⟩;obtain⟨y,j,u⟩:=O1 t;rw [<-u];exact (b.out a h).2 y j
theorem Own.told (d:Own S w0.heap.size w l e sz A n cap xs) (f:Ctx S0 w0 S w l):
  Ctx S0 w0 (fun b=>S b\/∃ a,A=some a/\a.block=b) w l/\Fut S w (fun b=>S b\/∃ a,A=some a/\a.block=b) w/\(n<=cap->cap<=maxLen->Row (fun b=>S b\/∃ a,A=some a/\a.block=b) w A n cap xs):=by
 refine⟨⟨f.below,fun b h=>.inl (f.sub b h),fun b h=>?_,fun b h=>?_,f.locs.mono (fun _ _=>rfl) (fun x i s=>?_)⟩,⟨fun b h=>.inl h,fun _ _=>rfl⟩,fun m o=>⟨m,o,fun i=>?_⟩⟩
 ·obtain h|⟨a,c,rfl⟩:=h
  ·exact f.new b h
  ·exact .inr (d.lt c).1
 ·obtain h|⟨a,c,rfl⟩:=h
  ·exact f.lt b h
  ·exact (d.lt c).2
 ·obtain s|⟨a,c,g⟩:=s
  ·exact s
  ·exact absurd g.symm ((d.out a c).2 x i)
 ·obtain⟨j,k⟩:=d.row;obtain⟨k,rfl⟩|⟨p,q,u,g,_,_,_,_,_,_⟩:=k
  ·rw [Nat.zero_mul] at j;exact absurd (zo j) i
  ·cases g;exact⟨_,rfl,.inr ⟨_,rfl,rfl⟩,d.row.cells rfl⟩
theorem Own.fit (a:Own S n0 w l e sz A n cap xs):n<=cap/\cap<=maxLen:=by
 obtain⟨f,h⟩:=a.row;obtain⟨h,rfl⟩|⟨g,p,u,d,_,_,c,b,_,_⟩:=h
 ·cases h;exact⟨zc _,zb _⟩
 ·cases d;exact⟨c,b⟩
end
theorem Ctx.drop {S b:Nat->Prop} {w a:World} {x:LB} {l:List LB} (h:Ctx S w b a (x::l)):Ctx S w b a l:=
 ⟨h.below,h.sub,h.new,h.lt,by obtain⟨g,T,c⟩:=x;exact h.locs.2.2.2.2⟩
theorem Own.drop {S:Nat->Prop} {w:World} {x:LB} {l:List LB} {e s:Nat} {A:Option Addr} {d c:Nat} {xs:List Value} {n:Nat} (h:Own S n w (x::l) e s A d c xs):Own S n w l e s A d c xs:=
 ⟨h.row,fun a b=>⟨(h.out a b).1,fun y f=>(h.out a b).2 y (zu _ f)⟩⟩
theorem New.row {a w:World} {cs:List Value} {T g:Nat} (c:New a cs T g w) (n:Nat) (h:n<=1000):Row (fun b=>b=g) w (some ⟨g,0,none⟩) n n cs:=
 ⟨zc _,zq h (by decide),fun _=>⟨_,rfl,rfl,fun j d u=>by
  have e:(⟨g,0,none⟩:Addr).add j=⟨g,j,none⟩:=by rw [yi,zn]
  rw [e,c.blk.cell j];exact u⟩⟩
structure Keeps (bs:Nat->Prop) (w x:World):Prop where
 block:∀ b,bs b->x.heap[b]?=w.heap[b]?
 size:w.heap.size<=x.heap.size
theorem Keeps.start (b:Nat->Prop) (w:World):Keeps b w w.drew:=⟨fun _ _=>rfl,zc _⟩
theorem Keeps.below {s:Nat->Prop} {w x x':World} (h:Keeps s w x) (l:∀ b,s b->b<w.heap.size) (c:Below x.heap.size x x'):Keeps s w x':=
 ⟨fun b a=>(c.block b (Nat.lt_of_lt_of_le (l b a) h.size)).trans (h.block b a),zq h.size c.size⟩
theorem Keeps.stored {s:Nat->Prop} {w x x':World} (a:Keeps s w x) {g T o:Nat} {c f:List Value} (B:Blk x g T c) (j:¬ s g) (S:E6 x ⟨g,o,none⟩ f x'):Keeps s w x':=by obtain⟨_,i,h,_⟩:=L9 o f x 0 c B;rw [<-(show x'=_ from S)] at i h;exact⟨fun b d=>(i b fun e=>j (e▸d)).trans (a.block b d),by rw [h];exact a.size⟩
theorem Keeps.cell {b:Nat->Prop} {w x:World} (a:Keeps b w x) {g T:Nat} {c:List Value} (B:Blk w g T c) (h:b g) {i:Nat} {v:Value} (d:c[i]?=some v):x.cell? ⟨g,i,none⟩=some v:=
 ((B.of_eq (a.block g h)).cell i).trans d
theorem Keeps.cells {b:Nat->Prop} {w x:World} (d:Keeps b w x) {g T:Nat} {c:List Value} (B:Blk w g T c) (a:b g):Go.Vc.cellsAt x ⟨g,0,none⟩ c 0:=
 C0 (B.of_eq (d.block g a)) 0 c 0 (fun j v h=>by simpa using h)
theorem Keeps.at {b:Nat->Prop} {w x:World} (c:Keeps b w x) {a:Addr} {v:Value} (h:w.cell? a=some v) (g:b a.block):x.cell? a=some v:=
 (World.cell?_of_block (c.block _ g)).trans h
theorem Ctx.drew {S b:Nat->Prop} {w a:World} {l:List LB} (h:Ctx S w b a l):Ctx S w b a.drew l:=⟨h.below.drew,h.sub,h.new,h.lt,h.locs.mono (fun _ _=>rfl) (fun _ _ h=>h)⟩
theorem A22 (A:Option Addr) (n c k:Nat):(Value.slice A n c).ownBlock=some k->∃ a,A=some a/\a.block=k:=by
 intro h;cases A with
 | none=>cases h
 | some a=>exact⟨a,rfl,Option.some.inj h⟩
section
variable {P:Program} {S0 S:Nat->Prop} {w0 w:World} {l:List LB} {e sz bytes:Nat} {A B:Option Addr} {n cap m c:Nat} {xs ys:List Value} {K:Value->World->Prop} {z:Value}
theorem X9 {t T:Nat} {cs:Array Bool} (C:P.underlying t=some (.slice e)) (hi:(P.info? e).map (fun i=>(i.zero,i.size,i.bytes))=some (some z,sz,bytes)) (a4:z.cells.size=sz) (a3:0<sz)
  (f:Ctx S0 w0 S w l) (s:Own S w0.heap.size w l e sz A n cap xs) {d:Addr} (q:ys.length=m*sz) (hy:Go.Vc.cellsAt w d ys 0) (Y:F4 ys=true) (a5:n+m<=34359738368) (a6:bytes<=4096)
  (k:∀ v cap' w',Ctx S0 w0 S w' l->Fut S w S w'->Own S w0.heap.size w' l e sz v (n+m) cap' (xs++ys)->w.grownBy w' (Value.slice A n cap).ownBlock->K (.slice v (n+m) cap') w'):
  ∃ M w',(builtin .append #[t,t] T cs #[.slice A n cap,.slice (some d) m c]).run P w=.ok (.value M) w'/\K M w':=by
 obtain⟨i,D,L,V,Q⟩:=info_parts hi;have O:w0.heap.size<=w.heap.size:=f.below.size;have U:(n+m)*bytes<=140737488355328:=zq (Nat.mul_le_mul a5 a6) (by decide);have a1:∀ (ys:List Value) (i:Nat),Go.Vc.cellsAt w d ys i->∀ j u,ys[j]?=some u->w.cell? (d.add (i+j))=some u:=by
  intro ys;induction ys with
  | nil=>intro i _ j u h;cases h
  | cons M b0 ih=>
   intro i h j u B;cases j with
   | zero=>cases B;exact h.1
   | succ j=>rw [show i+(j+1)=i+1+j from by omega];exact ih (i+1) h.2 j u B
 obtain⟨v',w',r,a0,G,_⟩:=run_append_own (P:=P) w w0.heap.size t T e i z sz bytes C D L V Q a4 a3 _ n xs s.row d m c ys q (fun j u B=>by have:=a1 ys 0 hy j u B;rwa [zn] at this)
  (L8 Y) (by simp only [maxLen];omega) U O
 have N:∀ k,(Value.slice A n cap).ownBlock=some k->w0.heap.size<=k/\¬ S k/\∀ x∈l,x.1≠k:=by intro k g;obtain⟨a,F,rfl⟩:=A22 _ _ _ _ g;exact⟨(s.lt F).1,s.out a F⟩
 have W:∀ b,b<w.heap.size->(∀ k,(Value.slice A n cap).ownBlock=some k->b≠k)->w'.heap[b]?=w.heap[b]?:=fun b y g=>G.block b y fun h=>g b h.symm rfl;have shape:∃ v cap',v'=.slice v (n+m) cap':=by
  obtain⟨_,o⟩:=a0;obtain⟨o,J⟩|⟨I,cp,R,o,_⟩:=o
  ·exact⟨none,0,by rw [J];exact o⟩
  ·exact⟨_,_,o⟩
 obtain⟨v,cap',rfl⟩:=shape;refine⟨_,w',?_,k v cap' w' ?_ ?_ ?_ G⟩
 ·show (do pure (Next.value (<-Builtin.append_ #[t,t] T #[.slice A n cap,.slice (some d) m c])):Sem Next).run P w=_;simp only [yf,r,ye,yg]
 ·exact⟨f.below.grown G O (fun k g=>(N k g).1),f.sub,f.new,fun b y=>Nat.lt_of_lt_of_le (f.lt b y) G.size,
   f.locs.mono (fun x H=>W _ (f.locs.lt x H) fun k g=>(N k g).2.2 x H) (fun _ _ h=>h)⟩
 ·exact⟨fun _ h=>h,fun b y=>W b (f.lt b y) fun k g Z=>(N k g).2.1 (Z▸y)⟩
 ·refine⟨a0,fun a F=>?_⟩;subst F
  -- where the new row lies: where the old one lay, or it is new
  have a2:a.block=w.heap.size->¬ S a.block/\∀ x∈l,x.1≠a.block:=fun hw=>
   ⟨fun hs=>by have:=f.lt _ hs;omega,fun x H Z=>by have:=f.locs.lt x H;omega⟩
  have E:∀ j u,ys[j]?=some u->w.cell? (d.add j)=some u:=fun j u B=>by have:=a1 ys 0 hy j u B;rwa [zn] at this
  subst V;subst Q;have a9:n+m<=9223372036854775807:=by omega
  obtain⟨o,J⟩|⟨I,cp,R,o,J,h8,h9,a8,a7,b1⟩:=s.row.2
  ·cases o;rw [zn] at*;by_cases hm:m=0
   ·subst hm;have p:(Builtin.append_ #[t,t] T #[.slice none 0 0,.slice (some d) 0 c]).run P w=.ok (.slice none 0 0) w:=by have b2:ys=[]:=zo (by simpa using q);have hf:=run_firstCells_some (P:=P) w i.size 0 d 0 c ys q E;simp [Builtin.append_,run_underlying C,sizeOf,typeInfo,D,Builtin.lenOf,hf]
    rw [p] at r;cases r
   ·have p:=run_append_nil (P:=P) w t T e i z C D L d m c ys q E (by omega) (by omega) (by omega);rw [p] at r;cases r;exact a2 rfl
  ·cases o;by_cases X:n+m<=cap
   ·have p:=run_append_room (P:=P) w t T e i C D I n cap R h8 d m c ys q E (L8 Y) X (by rw [q,a7,<-Nat.add_mul];exact Nat.mul_le_mul_right _ X);rw [p] at r;cases r;exact s.out _ rfl
   ·have p:=run_append_grow (P:=P) w t T e i z C D L ⟨I,0,none⟩ n cap xs s.row.1 (s.row.cells rfl) d m c ys q E (by omega) (by omega) (growslice_fits (by omega) U);rw [p] at r;cases r;exact a2 rfl
end
end Go.Vc
end
namespace Go.Proofs.YtefdfaeieekioaaGreatDoor
open Go.Vc Go.RowKit Go.Fl
theorem B9i {x:Nat} {a:Int} (b:Is x a) (h : -9223372036854775808<=a) (d:a<=9223372036854775807) (w:World):(Go.convert 197 2 (.float .f64 x)).run Tryz.prog w=.ok (.int .i64 a) w:=by unfold Go.convert;simp only [yf,run_underlying Tryz.underlying197,run_underlying Tryz.underlying2,ye];unfold Conv.floatToInt;rw [show FloatKind.f64.decode x=Ieee.double.read x from rfl,A8x b];have c:IntKind.i64.min<=a/\a<=IntKind.i64.max:=⟨h,d⟩;simp only [yn c,yg]
theorem B7d {x:Nat} {a:Int} (b:Is x a) (h : -9223372036854775808<=a) (d:a<=9223372036854775807) (w:World):(Go.convert 197 3 (.float .f64 x)).run Tryz.prog w=.ok (.int .i64 a) w:=by unfold Go.convert;simp only [yf,run_underlying Tryz.underlying197,run_underlying Tryz.underlying3,ye];unfold Conv.floatToInt;rw [show FloatKind.f64.decode x=Ieee.double.read x from rfl,A8x b];have c:IntKind.i64.min<=a/\a<=IntKind.i64.max:=⟨h,d⟩;simp only [yn c,yg]
theorem B9j {a:Int} (h:a.natAbs<2 ^ 53) (w:World):(Go.convert 2 197 (.int .i64 a)).run Tryz.prog w=.ok (.float .f64 (dbl a)) w:=by unfold Go.convert;simp only [yf,run_underlying Tryz.underlying197,run_underlying Tryz.underlying2,ye];unfold Conv.intToFloat;rw [A1k a h];rfl
theorem B60 {a:Int} (h:a.natAbs<2 ^ 53) (w:World):(Go.convert 3 197 (.int .i64 a)).run Tryz.prog w=.ok (.float .f64 (dbl a)) w:=by unfold Go.convert;simp only [yf,run_underlying Tryz.underlying197,run_underlying Tryz.underlying3,ye];unfold Conv.intToFloat;rw [A1k a h];rfl
theorem B9k {a:Int} (h:a.natAbs<2 ^ 53) (w:World):(Go.convert 5 197 (.int .u8 a)).run Tryz.prog w=.ok (.float .f64 (dbl a)) w:=by unfold Go.convert;simp only [yf,run_underlying Tryz.underlying197,run_underlying Tryz.underlying5,ye];unfold Conv.intToFloat;rw [A1k a h];rfl
theorem A48 {x:Nat} {a:Int} (c:Is x a) (h:a.natAbs<2 ^ 53) (w:World):(callFunc 278 #[.float .f64 x]).run Tryz.prog w=.ok (.value (.float .f64 (dbl a))) w:=by
 rw [run_callFunc_extern Tryz.func278 (by kernel_rfl) (by kernel_rfl) (by kernel_rfl) (show Extern.find _=some (Extern.MathFloor.toIntegral "math.archTrunc" .zero) by kernel_rfl)]
 obtain⟨k,e⟩:=c;have b:FloatKind.f64.decode x=_:=e;show ((match FloatKind.f64.decode x with
  | .nan s t=>if FloatKind.f64.format.quiet t=t then pure (.float .f64 x) else do
   let kept <-choose (.extern "math.Floor,Ceil,Trunc,RoundToEven.signallingNaN kept" 2)
   pure (.float .f64 (if kept==1 then x else FloatKind.f64.encode (.nan s (FloatKind.f64.format.quiet t))))
  | d=>pure (.float .f64 (FloatKind.f64.encode (d.integral .zero))):Sem Value).run Tryz.prog w).andThen (fun v f=>.ok (Next.value v) f)=_
 rw [b];simp only [A2y,yg,ye];rw [show FloatKind.f64.encode _=Ieee.double.write (.number (decide (a<0)) (a.natAbs*2 ^ 0) (-((0:Nat):Int))) by rw [Nat.pow_zero,Nat.mul_one];rfl,A1D a 0 h]
theorem B1n {x:Nat} {a:Int} (b:Is x a) (h:a.natAbs<2 ^ 53) (w:World):Calls Tryz.prog 254 #[.float .f64 x] w (D4 (.float .f64 (dbl a)) w):=by refine vE Tryz.func254 ?_;exact⟨_,_,A48 b h w,rfl,Below.refl _ _⟩
theorem A1F {x y z:Nat} {a d e:Int} (h:Is x a) (i:Is y d) (j:Is z e) (f:a.natAbs<2 ^ 53) (w:World):Calls Tryz.prog 211 #[.float .f64 x,.float .f64 y,.float .f64 z] w (D4 (.bool (decide (d<=a)&&decide (a<=e))) w):=by
 refine vE Tryz.func211 ?_;refine B9e h i ?_;by_cases c:d<=a
 ·refine dt c ?_;refine B9f h j ?_;by_cases b:a<=e
  ·refine dt b ?_;refine B8 (B1n h f _) ?_;intro w' g;refine B9g h (I3 a f) ?_;refine⟨C1 ?_,g⟩;simp [c,b]
  ·refine df b ?_;refine⟨C1 ?_,Below.refl _ _⟩;simp [b]
 ·refine df c ?_;refine⟨C1 ?_,Below.refl _ _⟩;simp [c]
theorem A23 (n:Int) (b:Nat) (h:n.natAbs<2 ^ 53) (e:dbl n=b):Is b n:=e▸I3 n h
theorem is0:Is 0 0:=A23 0 0 (by decide) (by kernel_rfl)
theorem is1:Is 4607182418800017408 1:=A23 1 _ (by decide) (by kernel_rfl)
theorem is3:Is 4613937818241073152 3:=A23 3 _ (by decide) (by kernel_rfl)
theorem is5:Is 4617315517961601024 5:=A23 5 _ (by decide) (by kernel_rfl)
theorem isP:Is 4679237813814689792 65520:=A23 65520 _ (by decide) (by kernel_rfl)
theorem isM:Is 4832362400168542208 1125899906842624:=A23 1125899906842624 _ (by decide) (by kernel_rfl)
theorem isN:Is 14055734437023318016 (-1125899906842624):=A23 (-1125899906842624) _ (by decide) (by kernel_rfl)
def inP (a:Int):Bool:=decide (0<=a)&&decide (a<=65520)
theorem Y0 {x y:Nat} {a b:Int} (g:Is x a) (f:Is y b) (d:a.natAbs<2 ^ 53) (c:b.natAbs<2 ^ 53) (w:World):Calls Tryz.prog 166 #[.complex .f64 x y] w (D4 (.bool (inP a&&inP b)) w):=by
 refine vE Tryz.func166 ?_;refine B8 (A1F g is0 isP d _) ?_;intro k h;cases e:inP a
 ·refine B4 e ?_;exact⟨C1 rfl,h⟩
 ·refine B5 e ?_;refine B8 (A1F f is0 isP c _) ?_;intro j i;exact⟨C1 rfl,h.trans (i.mono h.size)⟩
theorem C03 (a:Int):(if a.tmod 65521<0 then a.tmod 65521+65521 else a.tmod 65521)=a % 65521:=by
 by_cases b:0<=a
 ·rw [Int.tmod_eq_emod_of_nonneg b,yo (by omega)]
 ·have e:a.tmod 65521 = -((-a) % 65521):=by have c:(-a).tmod 65521=(-a) % 65521:=Int.tmod_eq_emod_of_nonneg (by omega);rw [Int.neg_tmod] at c;omega
  rw [e];by_cases h : -((-a) % 65521)<0
  ·rw [yn h];omega
  ·rw [yo h];omega
theorem A6R {x:Nat} {a:Int} (b:Is x a) (c:a.natAbs<2 ^ 53) (w:World):Calls Tryz.prog 316 #[.float .f64 x] w (D4 (.float .f64 (dbl (a % 65521))) w):=by
 refine vE Tryz.func316 ?_;refine⟨_,_,B9i b (by omega) (by omega) _,?_⟩;refine Z9 (by decide) ?_;have m:=C03 a;by_cases h:a.tmod 65521<0
 ·refine dt h ?_;have e:IntKind.i64.wrap (a.tmod 65521+65521)=a.tmod 65521+65521:=G8 _ _ (by omega) (by omega);rw [yn h] at m;exact⟨_,_,B9j (a:=IntKind.i64.wrap (a.tmod 65521+65521)) (by rw [e];omega) _,by rw [e,m];rfl,Below.refl _ _⟩
 ·refine df h ?_;rw [yo h] at m;exact⟨_,_,B9j (a:=a.tmod 65521) (by omega) _,by rw [m];rfl,Below.refl _ _⟩
theorem A8y {x f:Nat} {a b:Int} (g:Is x a) (y:Is f b) (j:a.natAbs<=1125899906842624) (k:b.natAbs<=1125899906842624) (w:World):
  Calls Tryz.prog 285 #[.complex .f64 x f] w (D4 (.complex .f64 (dbl (a % 65521)) (dbl (b % 65521))) w):=by
 refine vE Tryz.func285 ?_;have i:∀ c:Int,c.natAbs<=1125899906842624->(decide (-1125899906842624<=c)&&decide (c<=1125899906842624))=true:=by intro c q;simp;omega
 refine B8 (A1F g isN isM (by omega) _) ?_;intro r d;refine B4 (by rw [i a j];rfl) ?_;refine B8 (A1F y isN isM (by omega) _) ?_;intro p n;refine B4 (by rw [i b k];rfl) ?_;refine B8 (A6R g (by omega) _) ?_;intro o l;refine B8 (A6R y (by omega) _) ?_;intro s m;have e:=d.trans (n.mono d.size);have h:=e.trans (l.mono e.size);exact⟨rfl,h.trans (m.mono h.size)⟩
theorem A1G {a:Int} (h:0<=a/\a<65521):inP a=true:=by unfold inP;simp;omega
theorem B4t {x j e y:Nat} {a b c d:Int} (l:Is x a) (h:Is j b) (f:Is e c) (k:Is y d) (m:0<=a/\a<65521) (n:0<=b/\b<65521) (q:0<=c/\c<65521) (p:0<=d/\d<65521) (w:World):
  Calls Tryz.prog 260 #[.complex .f64 x j,.complex .f64 e y] w (D4 (.complex .f64 (dbl ((a+c) % 65521)) (dbl ((b+d) % 65521))) w):=by
 refine vE Tryz.func260 ?_;refine B8 (Y0 l h (by omega) (by omega) _) ?_;intro u g;refine B4 (by rw [A1G m,A1G n];rfl) ?_;refine B8 (Y0 f k (by omega) (by omega) _) ?_;intro t r;refine B4 (by rw [A1G q,A1G p];rfl) ?_;refine B7b l h f k (by omega) (by omega) ?_;refine B8 (A8y (I3 _ (by omega)) (I3 _ (by omega)) (by omega) (by omega) _) ?_;intro s o;have i:=g.trans (r.mono g.size);exact⟨rfl,i.trans (o.mono i.size)⟩
theorem A49 {u v:Int} (h:0<=u/\u<65521) (a:0<=v/\v<65521):0<=u*v/\u*v<4294967296:=by refine⟨Int.mul_nonneg h.1 a.1,?_⟩;have b:u*v<=u*65521:=Int.mul_le_mul_of_nonneg_left (by omega) h.1;omega
theorem A8z {x n i y:Nat} {a b c d:Int} (p:Is x a) (j:Is n b) (k:Is i c) (o:Is y d) (h:0<=a/\a<65521) (e:0<=b/\b<65521) (g:0<=c/\c<65521) (f:0<=d/\d<65521) (w:World):
  Calls Tryz.prog 261 #[.complex .f64 x n,.complex .f64 i y] w (D4 (.complex .f64 (dbl ((a*c-b*d) % 65521)) (dbl ((a*d+b*c) % 65521))) w):=by
 refine vE Tryz.func261 ?_;refine B8 (Y0 p j (by omega) (by omega) _) ?_;intro z l;refine B4 (by rw [A1G h,A1G e];rfl) ?_;refine B8 (Y0 k o (by omega) (by omega) _) ?_;intro u r;refine B4 (by rw [A1G g,A1G f];rfl) ?_;have A:=A49 h g;have l2:=A49 e f;have t:=A49 h f;have v:=A49 e g;refine B7c p j k o (by omega) (by omega) (by omega) (by omega) ?_;refine B8 (A8y (I3 _ (by omega)) (I3 _ (by omega)) (by omega) (by omega) _) ?_;intro s q;have m:=l.trans (r.mono l.size);exact⟨rfl,m.trans (q.mono m.size)⟩
def B4u (z:Int × Int) (c:UInt8):Int × Int:=
 ((((z.1*3-z.2*5) % 65521)+((c.toNat:Int)+1)) % 65521,(((z.1*5+z.2*3) % 65521)+0) % 65521)
def zOn (z:Int × Int) (l:List UInt8):Int × Int:=l.foldl B4u z
def zOk (z:Int × Int):Prop:=(0<=z.1/\z.1<65521)/\(0<=z.2/\z.2<65521)
theorem B4v (z:Int × Int) (c:UInt8):zOk (B4u z c):=by unfold zOk B4u;omega
theorem A80 (l:List UInt8):∀ z:Int × Int,zOk z->zOk (zOn z l):=by
 induction l with
 | nil=>intro z h;exact h
 | cons c r i=>intro z h;exact i _ (B4v z c)
theorem B4w (z:Int × Int) (l:List UInt8) (k:Nat) (h:k<l.length):zOn z (l.take (k+1))=B4u (zOn z (l.take k)) (l.getD k 0):=by unfold zOn;rw [List.take_succ_eq_append_getElem h,List.foldl_append,List.getD_eq_getElem?_getD,yc h];rfl
theorem C4 {n:Nat} (h:n<9223372036854775807):IntKind.i64.wrap ((n:Int)+1)=((n+1:Nat):Int):=by rw [G8 _ _ (by omega) (by omega)];rfl
theorem B7e {z:Int × Int} (h:zOk z) {S:Nat->Prop} {A:Option Addr} {n c:Nat} {l:List UInt8} (q:n=l.length) (M:n<=9223372036854775807) (w:World) (R:Row S w A n c (bv l)):
  Calls Tryz.prog 220 #[.complex .f64 (dbl z.1) (dbl z.2),.slice A n c] w (D4 (.complex .f64 (dbl (zOn z l).1) (dbl (zOn z l).2)) w):=by
 refine vE Tryz.func220 ?_;refine B8 (Y0 (I3 z.1 (by have:=h.1;omega)) (I3 z.2 (by have:=h.2;omega)) (by have:=h.1;omega) (by have:=h.2;omega) _) ?_;intro w0 h0;refine B4 (by rw [A1G h.1,A1G h.2];rfl) ?_;refine⟨Nat,fun k=>[(0,.complex .f64 (dbl (zOn z (l.take k)).1) (dbl (zOn z (l.take k)).2)),(10,.slice A n c),(11,.int .i64 n),(12,.int .i64 k)],fun k w'=>k<=n/\Below w.heap.size w w',fun k _=>n-k,0,
  ⟨rfl,rfl,rfl,rfl,t6⟩,⟨zb _,h0⟩,?_⟩
 rintro k w' u ⟨j,b⟩;by_cases t:k<n
 ·refine dt (by omega) ?_;have hv:=A4Q l k (by omega);obtain⟨o,rfl,g⟩:=(Row.below R b).at hv;refine⟨⟨by omega,by omega⟩,_,by rw [zi,Nat.mul_one];exact g,?_⟩;have a:=A80 (l.take k) z h;have s:=B4w z l k (by omega);have m:(l.getD k 0).toNat<256:=(l.getD k 0).toNat_lt;refine B8 (A8z (I3 (zOn z (l.take k)).1 (by have:=a.1;omega)) (I3 (zOn z (l.take k)).2 (by have:=a.2;omega)) is3 is5 a.1 a.2 (by decide) (by decide) _) ?_;intro r d;refine⟨_,_,B9k (by omega) _,?_⟩;refine B9h (I3 _ (by omega)) is1 (by omega) ?_;refine B8 (B4t (I3 _ (by omega)) (I3 _ (by omega)) (I3 _ (by omega)) is0 (by omega) (by omega) (by omega) (by omega) _) ?_;intro p i;have f:=d.trans (i.mono d.size);refine⟨k+1,⟨?_,rfl,rfl,yb _ (C4 (by omega)),t6⟩,⟨t,b.trans (f.mono b.size)⟩,by show n-(k+1)<n-k;omega⟩;rw [s];rfl
 ·refine df (by omega) ?_;have e:l.take k=l:=ym (by omega);refine⟨?_,b⟩;show Ending.returned (.complex .f64 (dbl (zOn z (l.take k)).1) (dbl (zOn z (l.take k)).2))=_;rw [e]
theorem A24 {S:Nat->Prop} {A:Option Addr} {n c:Nat} {l:List UInt8} (a:n=l.length) (h:n<=9223372036854775807) (w:World) (R:Row S w A n c (bv l)):
  Calls Tryz.prog 177 #[.slice A n c] w (D4 (.complex .f64 (dbl (zOn (0,1) l).1) (dbl (zOn (0,1) l).2)) w):=by
 refine vE Tryz.func177 ?_;refine B8 (B7e (z:=(0,1)) ⟨by decide,by decide⟩ a h _ R) ?_;intro d b;exact⟨rfl,b⟩
theorem B1o (n:Int):bits .and .i64 n 15=n % 16:=by
 have h:(BitVec.ofInt 64 15).toNat=2 ^ 4-1:=by decide
 have k:(BitVec.ofInt 64 n &&& BitVec.ofInt 64 15).toNat=(n % ((2 ^ 64:Nat):Int)).toNat % 2 ^ 4:=by rw [BitVec.toNat_and,BitVec.toNat_ofInt,h,Nat.and_two_pow_sub_one_eq_mod]
 show IntKind.i64.wrap ((BitVec.ofInt 64 n &&& BitVec.ofInt 64 15).toNat:Nat)=n % 16;rw [k,IntKind.wrap_i64];omega
def B9l (d:Nat):UInt8:=if d<10 then UInt8.ofNat (48+d) else UInt8.ofNat (87+d)
def dig (a:Int) (q:Nat):UInt8:=B9l (a / 2 ^ (12-4*q) % 16).toNat
def A81 (a:Int):List UInt8:=[dig a 0,dig a 1,dig a 2,dig a 3]
def A0n (z:Int × Int):List UInt8:=A81 z.1++A81 z.2
theorem A1l (d:Nat) (h:d<16):(B9l d).toNat=if d<10 then 48+d else 87+d:=by
 unfold B9l;split
 ·rw [UInt8.toNat_ofNat'];omega
 ·rw [UInt8.toNat_ofNat'];omega
theorem B1p (a:Int) (q:Nat) (h:q<4):(A81 a).take (q+1)=(A81 a).take q++[dig a q]:=by
 match q,h with
 | 0,_=>rfl
 | 1,_=>rfl
 | 2,_=>rfl
 | 3,_=>rfl
theorem A6S (a:Int) (q:Nat):0<=a / 2 ^ (12-4*q) % 16/\a / 2 ^ (12-4*q) % 16<16:=by omega
def P3 (z:Int × Int) (i:Nat):Int:=if i=0 then z.1 else z.2
theorem A7p (q:Nat) (h:q<4):IntKind.i64.wrap (4*(3-(q:Int)))=((12-4*q:Nat):Int):=by rw [IntKind.wrap_i64];omega
theorem A7q:(Tryz.prog.info? 5).map (fun i=>(i.zero,i.size,i.bytes))=some (some (.int .u8 0),1,1):=by kernel_rfl
theorem A6T {a b:Nat} (i:Nat) (c:i<2) (w:World):(Instr.index 251 (.agg #[.float .f64 a,.float .f64 b]) (.int .i64 i)).run Tryz.prog w=.ok (.float .f64 (if i=0 then a else b)) w:=by
 obtain⟨t,h,_,s,_⟩:=info_parts (show (Tryz.prog.info? 197).map (fun i=>(i.zero,i.size,i.bytes))=some (some (.float .f64 0),1,8) by kernel_rfl);unfold Instr.index;simp only [yf,asIntOf,yg,ye,run_underlying Tryz.underlying251];rw [yn ⟨by omega,by omega⟩]
 match i,c with
 | 0,_=>simp [part,isAgg,sizeOf,typeInfo,run_underlying Tryz.underlying197,h,s]
 | 1,_=>simp [part,isAgg,sizeOf,typeInfo,run_underlying Tryz.underlying197,h,s]
theorem A25 {z:Int × Int} (h:zOk z) (w:World):Calls Tryz.prog 176 #[.complex .f64 (dbl z.1) (dbl z.2)] w (D4 (.string ⟨(A0n z).toArray⟩) w):=by
 refine vE Tryz.func176 ?_;have F:=I3 z.1 (by have:=h.1;omega);have G:=I3 z.2 (by have:=h.2;omega);refine B8 (Y0 F G (by have:=h.1;omega) (by have:=h.2;omega) _) ?_;intro w0 h0;refine B4 (by rw [A1G h.1,A1G h.2];rfl) ?_;have c0:=(Ctx.start w (fun _=>False) (fun _ H=>H.elim));have I:=(c0.quiet h0).1;have step:∀ i:Nat,(A0n z).take (4*i)++A81 (P3 z i)=(A0n z).take (4*(i+1))\/2<=i:=by
  intro i
  match i with
  | 0=>exact .inl rfl
  | 1=>exact .inl rfl
  | n+2=>exact .inr (by omega)
 refine⟨Nat × Option Addr × Nat,fun x=>[(3,.slice x.2.1 (4*x.1) x.2.2),(16,.agg #[.float .f64 (dbl z.1),.float .f64 (dbl z.2)]),(17,.int .i64 x.1)],
  fun x w'=>x.1<=2/\Ctx (fun _=>False) w (fun _=>False) w' []/\Own (fun _=>False) w.heap.size w' [] 5 1 x.2.1 (4*x.1) x.2.2 (bv ((A0n z).take (4*x.1))),fun x _=>2-x.1,(0,none,0),
  ⟨rfl,rfl,rfl,t6⟩,⟨zb _,I,Own.nil⟩,?_⟩
 rintro⟨i,A,cap⟩ w' B ⟨K,c,o⟩;by_cases t:i<2
 ·refine dt (by show (i:Int)<2;omega) ?_;have O:0<=P3 z i/\P3 z i<65521:=by unfold P3;have:=h.1;have:=h.2;split<;>omega
  have E:∀ w,(Instr.index 251 (.agg #[.float .f64 (dbl z.1),.float .f64 (dbl z.2)]) (.int .i64 i)).run Tryz.prog w=.ok (.float .f64 (dbl (P3 z i))) w:=by
   intro w
   match i,t with
   | 0,_=>exact A6T 0 (by decide) w
   | 1,_=>exact A6T 1 (by decide) w
  refine⟨_,E,_,_,B7d (I3 (P3 z i) (by omega)) (by omega) (by omega) _,?_⟩;refine⟨Nat × Option Addr × Nat,fun x=>[(3,.slice x.2.1 (4*i+x.1) x.2.2),(6,.int .i64 (P3 z i)),(7,.int .i64 (3-(x.1:Int))),(16,.agg #[.float .f64 (dbl z.1),.float .f64 (dbl z.2)]),(17,.int .i64 i)],
   fun x w'=>x.1<=4/\Ctx (fun _=>False) w (fun _=>False) w' []/\Own (fun _=>False) w.heap.size w' [] 5 1 x.2.1 (4*i+x.1) x.2.2 (bv ((A0n z).take (4*i)++(A81 (P3 z i)).take x.1)),fun x _=>4-x.1,(0,A,cap),
   ⟨rfl,rfl,rfl,rfl,rfl,t6⟩,⟨zb _,c,?_⟩,?_⟩
  ·simpa using o
  rintro⟨q,A,cap⟩ w' B ⟨M,c,o⟩;by_cases d:q<4
  ·refine dt (by show (0:Int)<=3-q;omega) ?_;have y:=A7p q d;refine⟨?_,?_⟩
   ·show 0<=IntKind.i64.wrap (4*(3-(q:Int)))/\IntKind.i64.wrap (4*(3-(q:Int)))<=64;rw [y];omega
   have D:IntKind.u8.wrap (bits .and .i64 (P3 z i / 2 ^ (IntKind.i64.wrap (4*(3-(q:Int)))).toNat) 15)=P3 z i / 2 ^ (12-4*q) % 16:=by rw [y,zi,B1o];have:=A6S (P3 z i) q;exact IntWalk.u8_in _ ⟨by omega,by omega⟩
   have L:=A6S (P3 z i) q;have r:((dig (P3 z i) q).toNat:Int)=if P3 z i / 2 ^ (12-4*q) % 16<10 then 48+P3 z i / 2 ^ (12-4*q) % 16 else 87+P3 z i / 2 ^ (12-4*q) % 16:=by unfold dig;rw [A1l _ (by omega)];split<;>split<;>omega
   have s:IntKind.i64.wrap (3-(q:Int)-1)=3-((q+1:Nat):Int):=by rw [yh _ ⟨by omega,by omega⟩];omega
   have u:∀ (v:Value) (g:Nat) (a:World),v=.int .u8 ((dig (P3 z i) q).toNat:Int)->New w' [v] 5 g a->
     Ctx (fun _=>False) w (fun _=>False) a [(g,5,[v])]/\Own (fun _=>False) w.heap.size a [(g,5,[v])] 5 1 A (4*i+q) cap (bv ((A0n z).take (4*i)++(A81 (P3 z i)).take q))/\F4 [v]=true:=
    fun v g a hv N=>⟨(c.loc N).1,o.loc N,by rw [hv];rfl⟩
   have next:∀ (v:Value),v=.int .u8 ((dig (P3 z i) q).toNat:Int)->bv ((A0n z).take (4*i)++(A81 (P3 z i)).take q)++[v]=bv ((A0n z).take (4*i)++(A81 (P3 z i)).take (q+1)):=by intro v hv;rw [B1p _ _ d,hv,<-zw,A6Q _ [_]];rfl
   by_cases e:P3 z i / 2 ^ (12-4*q) % 16<10
   ·refine dt (by rw [D];exact e) ?_;intro g a N;have hv:Value.int .u8 (IntKind.u8.wrap (48+IntKind.u8.wrap (bits .and .i64 (P3 z i / 2 ^ (IntKind.i64.wrap (4*(3-(q:Int)))).toNat) 15)))=.int .u8 ((dig (P3 z i) q).toNat:Int):=by rw [D,IntWalk.u8_in _ ⟨by omega,by omega⟩,r,yn e]
    obtain⟨b,j,m⟩:=u _ g a hv N;refine X9 Tryz.underlying207 A7q rfl (by decide) b j rfl (b.cells 0 rfl) m (by omega) (by decide) ?_;intro f p J l _ k _;refine⟨(q+1,f,p),⟨rfl,rfl,yb _ s,rfl,rfl,t6⟩,⟨d,l.drop,?_⟩,by show 4-(q+1)<4-q;omega⟩;rw [next _ hv] at k;exact k.drop
   ·refine df (by rw [D];exact e) ?_;intro g a N;have hv:Value.int .u8 (IntKind.u8.wrap (IntKind.u8.wrap (97+IntKind.u8.wrap (bits .and .i64 (P3 z i / 2 ^ (IntKind.i64.wrap (4*(3-(q:Int)))).toNat) 15))-10))=.int .u8 ((dig (P3 z i) q).toNat:Int):=by rw [D,IntWalk.u8_in (97+_) ⟨by omega,by omega⟩,IntWalk.u8_in _ ⟨by omega,by omega⟩,r,yo e];congr 1;omega
    obtain⟨b,j,m⟩:=u _ g a hv N;refine X9 Tryz.underlying207 A7q rfl (by decide) b j rfl (b.cells 0 rfl) m (by omega) (by decide) ?_;intro f p J l _ k _;refine⟨(q+1,f,p),⟨rfl,rfl,yb _ s,rfl,rfl,t6⟩,⟨d,l.drop,?_⟩,by show 4-(q+1)<4-q;omega⟩;rw [next _ hv] at k;exact k.drop
  ·refine df (by show ¬ (0:Int)<=3-q;omega) ?_;obtain rfl:q=4:=by omega
   have C:=(step i).resolve_right (by omega);refine⟨(i+1,A,cap),⟨rfl,rfl,yb _ (C4 (by omega)),t6⟩,⟨t,c,?_⟩,by show 2-(i+1)<2-i;omega⟩;rw [<-C];exact o
 ·refine df (by show ¬ (i:Int)<2;omega) ?_;obtain rfl:i=2:=by omega
  have R:=(o.told c).2.2 o.fit.1 o.fit.2;refine B1m Tryz.underlying207 Tryz.underlying5 Tryz.underlying9 R rfl ?_;exact⟨rfl,c.below⟩
def no (_:Nat):Prop:=False
theorem A0I (a b:List UInt8):(⟨a.toArray⟩++⟨b.toArray⟩:ByteArray)=⟨(a++b).toArray⟩:=by apply ByteArray.ext;rw [ByteArray.data_append];simp
theorem I5 (a:List UInt8):(⟨a.toArray⟩:ByteArray).size=a.length:=by show a.toArray.size=_;simp
theorem B7f (t:ByteArray) (h:t.size<=maxLen) (w:World):Calls Tryz.prog 294 #[.string t] w (D4 (.string ⟨(A0n (zOn (0,1) t.data.toList)).toArray⟩) w):=by
 refine vE Tryz.func294 ?_;have M:t.size<=9223372036854775807:=by simp only [maxLen] at h;omega
 refine A20 no Tryz.underlying9 Tryz.underlying207 Tryz.underlying5 h ?_;intro g cap f b R;refine B8 (A24 (W0 t).symm M _ R) ?_;intro e d;refine B8 (A25 (A80 _ _ ⟨by decide,by decide⟩) _) ?_;intro i c;have a:=b.trans (d.mono b.size);exact⟨rfl,a.trans (c.mono a.size)⟩
def A0A (c:UInt8):Bool:=(decide (48<=c.toNat)&&decide (c.toNat<=57))||(decide (97<=c.toNat)&&decide (c.toNat<=102))
def hv (c:UInt8):Int:=if c.toNat<=57 then (c.toNat:Int)-48 else (c.toNat:Int)-87
def A36 (l:List UInt8):Int:=l.foldl (fun a c=>a*16+hv c) 0
def pp (l:List UInt8) (k:Nat):Int × Int:=(A36 ((l.take k).take 4),A36 ((l.take k).drop 4))
def A0y (l:List UInt8):(Int × Int) × Bool:=
 if l.length=8/\l.all A0A=true/\(pp l 8).1<65521/\(pp l 8).2<65521 then (pp l 8,true) else ((0,0),false)
theorem A6U (l:List UInt8) (c:UInt8):A36 (l++[c])=A36 l*16+hv c:=by unfold A36;rw [List.foldl_append];rfl
theorem T1 {a:Type} (l:List a) (k:Nat) (d:a) (h:k<l.length):l.take (k+1)=l.take k++[l.getD k d]:=by rw [List.take_succ_eq_append_getElem h,List.getD_eq_getElem?_getD,yc h];rfl
theorem B7g (l:List UInt8) (k:Nat) (a:k<l.length) (h:k<4):pp l (k+1)=((pp l k).1*16+hv (l.getD k 0),(pp l k).2):=by
 unfold pp;rw [T1 l k 0 a];have e:(l.take k).length=k:=by rw [zg];omega
 rw [ym (by rw [z6,e];exact h),A6U,ym (i:=4) (by omega),zr (by rw [z6,e];exact h),zr (by omega)]
theorem B7h (l:List UInt8) (k:Nat) (h:k<l.length) (a:4<=k):pp l (k+1)=((pp l k).1,(pp l k).2*16+hv (l.getD k 0)):=by
 unfold pp;rw [T1 l k 0 h];have e:(l.take k).length=k:=by rw [zg];omega
 rw [List.take_append_of_le_length (by omega),List.drop_append_of_le_length (by omega),A6U]
theorem A5A (c:UInt8) (h:A0A c=true):0<=hv c/\hv c<16:=by unfold A0A at h;unfold hv;simp only [Bool.or_eq_true,z7,y9] at h;split<;>omega
theorem A82 (l:List UInt8):∀ k:Nat,k<=8->k<=l.length->(l.take k).all A0A=true->(0<=(pp l k).1/\(pp l k).1<16 ^ (min k 4))/\(0<=(pp l k).2/\(pp l k).2<16 ^ (k-4))
 | 0,_,_,_=>⟨by simp [pp,A36],by simp [pp,A36]⟩
 | k+1,h8,hl,ha=>by
  rw [T1 l k 0 (by omega),List.all_append,z7] at ha;obtain⟨i,b⟩:=A82 l k (by omega) (by omega) ha.1;have r:=A5A (l.getD k 0) (by simpa using ha.2);by_cases h:k<4
  ·rw [B7g l k (by omega) h];have c:k-4=k+1-4:=by omega
   have a:min k 4=k:=by omega
   have e:min (k+1) 4=k+1:=by omega
   rw [a] at i;rw [e,<-c,Int.pow_succ];refine⟨?_,b⟩;generalize (16:Int) ^ k=p at*;show 0<=(pp l k).1*16+hv (l.getD k 0)/\(pp l k).1*16+hv (l.getD k 0)<p*16;omega
  ·rw [B7h l k (by omega) (by omega)];have a:min k 4=4:=by omega
   have e:min (k+1) 4=4:=by omega
   have d:k+1-4=(k-4)+1:=by omega
   rw [a] at i;rw [e,d,show (16:Int) ^ (k-4+1)=16 ^ (k-4)*16 from Int.pow_succ _ _];refine⟨i,?_⟩;generalize (16:Int) ^ (k-4)=p at*;show 0<=(pp l k).2*16+hv (l.getD k 0)/\(pp l k).2*16+hv (l.getD k 0)<p*16;omega
theorem B61 (l:List UInt8) (k:Nat) (c:k<=8) (b:k<=l.length) (a:(l.take k).all A0A=true):(0<=(pp l k).1/\(pp l k).1<65536)/\(0<=(pp l k).2/\(pp l k).2<65536):=by
 obtain⟨e,i⟩:=A82 l k c b a;have p:(16:Int) ^ (min k 4)<=65536:=by have:(16:Nat) ^ (min k 4)<=16 ^ 4:=Nat.pow_le_pow_right (by decide) (Nat.min_le_right _ _);have h:((16 ^ (min k 4):Nat):Int)<=((16 ^ 4:Nat):Int):=Int.ofNat_le.2 this;rw [Int.natCast_pow] at h;exact h
 have d:(16:Int) ^ (k-4)<=65536:=by have:(16:Nat) ^ (k-4)<=16 ^ 4:=Nat.pow_le_pow_right (by decide) (by omega);have h:((16 ^ (k-4):Nat):Int)<=((16 ^ 4:Nat):Int):=Int.ofNat_le.2 this;rw [Int.natCast_pow] at h;exact h
 omega
theorem A26 (l:List UInt8) (h:l.length≠8\/l.all A0A=false):A0y l=((0,0),false):=by
 unfold A0y;rw [yo];rintro⟨b,a,_⟩;obtain h|h:=h
 ·exact h b
 ·rw [h] at a;cases a
theorem C04:dbl 0=0:=by kernel_rfl
theorem A27 (t:ByteArray) (w:World):Calls Tryz.prog 105 #[.string t] w
  (D4 (.tuple #[.complex .f64 (dbl (A0y t.data.toList).1.1) (dbl (A0y t.data.toList).1.2),.bool (A0y t.data.toList).2]) w):=by
 refine vE Tryz.func105 ?_;obtain⟨l,r⟩:∃ l,t.data.toList=l:=⟨_,rfl⟩;have z:=W0 t;rw [r] at z ⊢;by_cases u:l.length=8
 ·refine B4 (by simp;omega) ?_;intro g N A;have E:=((Ctx.start w no (fun _ m=>m.elim)).loc A).1;refine⟨Nat,fun k=>[(0,.string t),(4,.pointer (some ⟨g,0,none⟩)),(12,.int .i64 t.size),(13,.int .i64 k)],
   fun k w'=>k<=8/\(l.take k).all A0A=true/\Ctx no w no w' [(g,196,[.int .i64 (pp l k).1,.int .i64 (pp l k).2])],fun k _=>8-k,0,
   ⟨rfl,rfl,rfl,rfl,t6⟩,⟨zb _,rfl,E⟩,?_⟩
  rintro k w' G ⟨H,d,h⟩;by_cases L:k<8
  ·refine dt (by omega) ?_;have M:(l.getD k 0).toNat<256:=(l.getD k 0).toNat_lt;have o:=B61 l k (by omega) (by omega) d;have D:=A6N A0A l k 0 (by omega);refine⟨⟨by omega,by omega⟩,?_⟩;have F:((t.data.toList.getD (k:Int).toNat 0).toNat:Int)=((l.getD k 0).toNat:Int):=by rw [r];rfl
   generalize ((t.data.toList.getD (k:Int).toNat 0).toNat:Int)=n at*;have v:IntKind.i64.wrap n=n:=yh _ ⟨by omega,by omega⟩;by_cases I:48<=n/\n<=57
   ·refine dt (by omega) ?_;refine dt (by omega) ?_;have x:A0A (l.getD k 0)=true:=by unfold A0A;simp only [Bool.or_eq_true,z7,y9];omega
    have B:=A5A _ x;have f:IntKind.i64.wrap (IntKind.i64.wrap n-48)=hv (l.getD k 0):=by rw [v];unfold hv;rw [yn (by omega),yh _ ⟨by omega,by omega⟩];omega
    by_cases p:k<4
    ·have q:IntKind.i64.wrap ((k:Int).tdiv 4)=0:=by rw [Int.tdiv_eq_ediv_of_nonneg (by omega),yh _ ⟨by omega,by omega⟩];omega
     have a:(⟨g,0,Option.none⟩:Addr).add ((IntKind.i64.wrap ((k:Int).tdiv 4)).toNat*1)=⟨g,0,Option.none⟩:=by rw [q];rfl
     have e:IntKind.i64.wrap (IntKind.i64.wrap ((pp l k).1*16)+IntKind.i64.wrap (IntKind.i64.wrap n-48))=(pp l k).1*16+hv (l.getD k 0):=by rw [f,yh ((pp l k).1*16) ⟨by omega,by omega⟩];exact yh _ ⟨by omega,by omega⟩
     refine Z9 (by decide) ?_;refine Z9 (by decide) ?_;refine⟨by rw [q];decide,.int .i64 (pp l k).1,by rw [a];exact h.cell 0 rfl 0 rfl,by rw [q];decide,by rw [a];exact h.may 0 rfl 0 _ (by show 0+1<=2;decide) rfl,?_⟩;intro j b;rw [a] at b;have c:=(h.set 0 rfl b).1;rw [e] at c;refine⟨k+1,⟨rfl,rfl,rfl,yb _ (C4 (by omega)),t6⟩,⟨by omega,by rw [T1 l k 0 (by omega),List.all_append,d];simp only [List.all_cons,List.all_nil,x];rfl,?_⟩,by show 8-(k+1)<8-k;omega⟩;rw [B7g l k (by omega) p];exact c
    ·have q:IntKind.i64.wrap ((k:Int).tdiv 4)=1:=by rw [Int.tdiv_eq_ediv_of_nonneg (by omega),yh _ ⟨by omega,by omega⟩];omega
     have a:(⟨g,0,Option.none⟩:Addr).add ((IntKind.i64.wrap ((k:Int).tdiv 4)).toNat*1)=⟨g,1,Option.none⟩:=by rw [q];rfl
     have e:IntKind.i64.wrap (IntKind.i64.wrap ((pp l k).2*16)+IntKind.i64.wrap (IntKind.i64.wrap n-48))=(pp l k).2*16+hv (l.getD k 0):=by rw [f,yh ((pp l k).2*16) ⟨by omega,by omega⟩];exact yh _ ⟨by omega,by omega⟩
     refine Z9 (by decide) ?_;refine Z9 (by decide) ?_;refine⟨by rw [q];decide,.int .i64 (pp l k).2,by rw [a];exact h.cell 0 rfl 1 rfl,by rw [q];decide,by rw [a];exact h.may 0 rfl 1 _ (by show 1+1<=2;decide) rfl,?_⟩;intro j b;rw [a] at b;have c:=(h.set 0 rfl b).1;rw [e] at c;refine⟨k+1,⟨rfl,rfl,rfl,yb _ (C4 (by omega)),t6⟩,⟨by omega,by rw [T1 l k 0 (by omega),List.all_append,d];simp only [List.all_cons,List.all_nil,x];rfl,?_⟩,by show 8-(k+1)<8-k;omega⟩;rw [B7h l k (by omega) (by omega)];exact c
   ·by_cases J:97<=n/\n<=102
    ·have x:A0A (l.getD k 0)=true:=by unfold A0A;simp only [Bool.or_eq_true,z7,y9];omega
     have B:=A5A _ x;have f:IntKind.i64.wrap (IntKind.i64.wrap n-87)=hv (l.getD k 0):=by rw [v];unfold hv;rw [yo (by omega),yh _ ⟨by omega,by omega⟩];omega
     refine dt (by omega) ?_;refine df (by omega) ?_;refine dt (by omega) ?_;refine dt (by omega) ?_;by_cases p:k<4
     ·have q:IntKind.i64.wrap ((k:Int).tdiv 4)=0:=by rw [Int.tdiv_eq_ediv_of_nonneg (by omega),yh _ ⟨by omega,by omega⟩];omega
      have a:(⟨g,0,Option.none⟩:Addr).add ((IntKind.i64.wrap ((k:Int).tdiv 4)).toNat*1)=⟨g,0,Option.none⟩:=by rw [q];rfl
      have e:IntKind.i64.wrap (IntKind.i64.wrap ((pp l k).1*16)+IntKind.i64.wrap (IntKind.i64.wrap n-87))=(pp l k).1*16+hv (l.getD k 0):=by rw [f,yh ((pp l k).1*16) ⟨by omega,by omega⟩];exact yh _ ⟨by omega,by omega⟩
      refine Z9 (by decide) ?_;refine Z9 (by decide) ?_;refine⟨by rw [q];decide,.int .i64 (pp l k).1,by rw [a];exact h.cell 0 rfl 0 rfl,by rw [q];decide,by rw [a];exact h.may 0 rfl 0 _ (by show 0+1<=2;decide) rfl,?_⟩;intro j b;rw [a] at b;have c:=(h.set 0 rfl b).1;rw [e] at c;refine⟨k+1,⟨rfl,rfl,rfl,yb _ (C4 (by omega)),t6⟩,⟨by omega,by rw [T1 l k 0 (by omega),List.all_append,d];simp only [List.all_cons,List.all_nil,x];rfl,?_⟩,by show 8-(k+1)<8-k;omega⟩;rw [B7g l k (by omega) p];exact c
     ·have q:IntKind.i64.wrap ((k:Int).tdiv 4)=1:=by rw [Int.tdiv_eq_ediv_of_nonneg (by omega),yh _ ⟨by omega,by omega⟩];omega
      have a:(⟨g,0,Option.none⟩:Addr).add ((IntKind.i64.wrap ((k:Int).tdiv 4)).toNat*1)=⟨g,1,Option.none⟩:=by rw [q];rfl
      have e:IntKind.i64.wrap (IntKind.i64.wrap ((pp l k).2*16)+IntKind.i64.wrap (IntKind.i64.wrap n-87))=(pp l k).2*16+hv (l.getD k 0):=by rw [f,yh ((pp l k).2*16) ⟨by omega,by omega⟩];exact yh _ ⟨by omega,by omega⟩
      refine Z9 (by decide) ?_;refine Z9 (by decide) ?_;refine⟨by rw [q];decide,.int .i64 (pp l k).2,by rw [a];exact h.cell 0 rfl 1 rfl,by rw [q];decide,by rw [a];exact h.may 0 rfl 1 _ (by show 1+1<=2;decide) rfl,?_⟩;intro j b;rw [a] at b;have c:=(h.set 0 rfl b).1;rw [e] at c;refine⟨k+1,⟨rfl,rfl,rfl,yb _ (C4 (by omega)),t6⟩,⟨by omega,by rw [T1 l k 0 (by omega),List.all_append,d];simp only [List.all_cons,List.all_nil,x];rfl,?_⟩,by show 8-(k+1)<8-k;omega⟩;rw [B7h l k (by omega) (by omega)];exact c
    ·have x:A0A (l.getD k 0)=false:=by unfold A0A;simp only [Bool.or_eq_false_iff,Bool.and_eq_false_iff,decide_eq_false_iff_not];omega
     have C:=A26 l (.inr (D x));rw [C]
     repeat' (first | refine B5 (by assumption) ?_ | refine B4 (by assumption) ?_ | refine Z9 (by decide) ?_ | refine A09 (fun _=>?_) (fun _=>?_))
     all_goals simp only [y9,decide_eq_false_iff_not] at*
     all_goals first | (exfalso;omega) | skip
     all_goals (refine⟨?_,h.below⟩;show _=Ending.returned (.tuple #[.complex .f64 (dbl 0) (dbl 0),.bool false]);rw [C04];rfl)
  ·refine df (by omega) ?_;obtain rfl:k=8:=by omega
   have o:=B61 l 8 (by omega) (by omega) d;refine⟨⟨by decide,by decide⟩,_,h.cell 0 rfl 0 rfl,_,_,B60 (by omega) _,⟨by decide,by decide⟩,_,h.cell 0 rfl 1 rfl,_,_,B60 (by omega) _,?_⟩;refine B8 (Y0 (I3 _ (by omega)) (I3 _ (by omega)) (by omega) (by omega) _) ?_;intro K y;have s:=(h.quiet y).1;rw [ym (by omega)] at d;by_cases i:(pp l 8).1<65521/\(pp l 8).2<65521
   ·refine B4 (by rw [A1G ⟨o.1.1,i.1⟩,A1G ⟨o.2.1,i.2⟩];rfl) ?_;refine⟨?_,s.below⟩;unfold A0y;rw [yn ⟨u,d,i⟩];rfl
   ·refine B5 (by unfold inP;simp;omega) ?_;refine⟨?_,s.below⟩;unfold A0y;rw [yo (fun m=>i m.2.2)];show _=Ending.returned (.tuple #[.complex .f64 (dbl 0) (dbl 0),.bool false]);rw [C04];rfl
 ·refine B5 (by simp;omega) ?_;rw [A26 l (.inl u)];refine⟨?_,Below.refl _ _⟩;show _=Ending.returned (.tuple #[.complex .f64 (dbl 0) (dbl 0),.bool false]);rw [C04];rfl
end Go.Proofs.YtefdfaeieekioaaGreatDoor
