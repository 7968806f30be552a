import Derived.Test.YtefdfaeieekioaaGreatDoorQ12
import Derived.Laws.Cover3
import Derived.ChangeKeysEq
set_option maxRecDepth 100000
set_option maxHeartbeats 40000000
set_option linter.unusedVariables false
set_option linter.unusedSimpArgs false
noncomputable section
section
namespace Go.Vx
open Go Go.Vc Go.RowKit
inductive Tr (α:Type) where
 | e
 | n (v:Option α) (l r:Tr α)
section
variable {α:Type}
def Tr.get (t:Tr α):Nat->Option α:=
 Tr.rec (motive:=fun _=>Nat->Option α) (fun _=>none) (fun v _ _ il ir k=>Nat.rec v (fun k' _=>cond (Nat.beq (Nat.mod k' 2) 0) (il (Nat.div k' 2)) (ir (Nat.div k' 2))) k) t
def Tr.mkK (f:Nat):Nat->α->(Tr α->Bool)->Bool:=
 Nat.rec (motive:=fun _=>Nat->α->(Tr α->Bool)->Bool) (fun _ _ _=>false)
  (fun _ ih k x K=>Nat.rec (K (.n (some x) .e .e)) (fun k' _=>cond (Nat.beq (Nat.mod k' 2) 0) (ih (Nat.div k' 2) x fun l=>K (.n none l .e)) (ih (Nat.div k' 2) x fun r=>K (.n none .e r))) k) f
def Tr.setK (t:Tr α):Nat->α->(Tr α->Bool)->Bool:=
 Tr.rec (motive:=fun _=>Nat->α->(Tr α->Bool)->Bool) (fun k x K=>Tr.mkK 40 k x K)
  (fun v l r il ir k x K=>Nat.rec (K (.n (some x) l r)) (fun k' _=>cond (Nat.beq (Nat.mod k' 2) 0) (il (Nat.div k' 2) x fun l'=>K (.n v l' r)) (ir (Nat.div k' 2) x fun r'=>K (.n v l r'))) k) t
theorem Tr.mkK_ok:∀ (f k:Nat) (x:α) (K:Tr α->Bool),Tr.mkK f k x K=true->∃ t,K t=true/\∀ j,t.get j=if j=k then some x else none
 | 0,_,_,_,h=>by cases h
 | f+1,k,x,K,h=>by
  cases k with
  | zero=>
   refine⟨_,h,fun j=>?_⟩;cases j with
   | zero=>rfl
   | succ j=>rw [yo (Nat.succ_ne_zero j)];show cond (Nat.beq (j % 2) 0) none none=none;cases Nat.beq (j % 2) 0<;>rfl
  | succ k=>
   have h:cond (Nat.beq (k % 2) 0) (Tr.mkK f (k / 2) x fun l=>K (.n none l .e)) (Tr.mkK f (k / 2) x fun r=>K (.n none .e r))=true:=h;have y:∀ (j:Nat) (l r:Tr α),(Tr.n none l r).get (j+1)=cond (Nat.beq (j % 2) 0) (l.get (j / 2)) (r.get (j / 2)):=fun _ _ _=>rfl;have m:∀ j:Nat,(Tr.e:Tr α).get j=none:=fun _=>rfl;cases b:Nat.beq (k % 2) 0 with
   | true=>
    rw [b] at h;obtain⟨n,d,g⟩:=mkK_ok f _ _ _ h;have i:k % 2=0:=z8 b;refine⟨_,d,fun j=>?_⟩;cases j with
    | zero=>rw [yo (fun e=>by cases e)];rfl
    | succ j=>
     rw [y,g,m];cases a:Nat.beq (j % 2) 0 with
     | true=>
      have c:j % 2=0:=z8 a;show (if j / 2=k / 2 then some x else none)=_;by_cases e:j=k
      ·subst e;rw [yn rfl,yn rfl]
      ·rw [yo (by omega),yo (by omega)]
     | false=>
      have c:j % 2≠0:=fun e=>by rw [e] at a;cases a
      rw [yo (show ¬ j+1=k+1 from fun e=>c (by omega))];rfl
   | false=>
    rw [b] at h;obtain⟨o,d,g⟩:=mkK_ok f _ _ _ h;have i:k % 2≠0:=fun e=>by rw [e] at b;cases b
    refine⟨_,d,fun j=>?_⟩;cases j with
    | zero=>rw [yo (fun e=>by cases e)];rfl
    | succ j=>
     rw [y,g,m];cases a:Nat.beq (j % 2) 0 with
     | true=>
      have c:j % 2=0:=z8 a;rw [yo (show ¬ j+1=k+1 from fun e=>i (by omega))];rfl
     | false=>
      have c:j % 2≠0:=fun e=>by rw [e] at a;cases a
      show (if j / 2=k / 2 then some x else none)=_;by_cases e:j=k
      ·subst e;rw [yn rfl,yn rfl]
      ·rw [yo (by omega),yo (by omega)]
theorem Tr.setK_ok:∀ (t:Tr α) (k:Nat) (x:α) (K:Tr α->Bool),t.setK k x K=true->∃ n,K n=true/\∀ j,n.get j=if j=k then some x else t.get j
 | .e,k,x,K,h=>Tr.mkK_ok 40 k x K h
 | .n v l r,k,x,K,h=>by
  cases k with
  | zero=>
   refine⟨.n (some x) l r,h,fun j=>?_⟩;cases j with
   | zero=>rfl
   | succ j=>rw [yo (Nat.succ_ne_zero j)];rfl
  | succ k=>
   have h:cond (Nat.beq (k % 2) 0) (l.setK (k / 2) x fun i=>K (.n v i r)) (r.setK (k / 2) x fun m=>K (.n v l m))=true:=h;have y:∀ (j:Nat) (l r:Tr α),(Tr.n v l r).get (j+1)=cond (Nat.beq (j % 2) 0) (l.get (j / 2)) (r.get (j / 2)):=fun _ _ _=>rfl;cases b:Nat.beq (k % 2) 0 with
   | true=>
    rw [b] at h;obtain⟨i,d,f⟩:=setK_ok l _ _ _ h;have g:k % 2=0:=z8 b;refine⟨_,d,fun j=>?_⟩;cases j with
    | zero=>rw [yo (fun e=>by cases e)];rfl
    | succ j=>
     rw [y,y,f];cases a:Nat.beq (j % 2) 0 with
     | true=>
      have c:j % 2=0:=z8 a;by_cases e:j=k
      ·subst e;rw [yn rfl,yn rfl];rfl
      ·rw [yo (by omega),yo (by omega)]
     | false=>
      have c:j % 2≠0:=fun e=>by rw [e] at a;cases a
      rw [yo (show ¬ j+1=k+1 from fun e=>c (by omega))];rfl
   | false=>
    rw [b] at h;obtain⟨m,d,f⟩:=setK_ok r _ _ _ h;have g:k % 2≠0:=fun e=>by rw [e] at b;cases b
    refine⟨_,d,fun j=>?_⟩;cases j with
    | zero=>rw [yo (fun e=>by cases e)];rfl
    | succ j=>
     rw [y,y,f];cases a:Nat.beq (j % 2) 0 with
     | true=>
      have c:j % 2=0:=z8 a;rw [yo (show ¬ j+1=k+1 from fun e=>g (by omega))];rfl
     | false=>
      have c:j % 2≠0:=fun e=>by rw [e] at a;cases a
      by_cases e:j=k
      ·subst e;rw [yn rfl,yn rfl];rfl
      ·rw [yo (by omega),yo (by omega)]
theorem Tr.keys:∀ (t:Tr α),∃ s:List Nat,∀ k x,t.get k=some x->k∈s
 | .e=>⟨[],fun _ _ h=>by cases h⟩
 | .n v l r=>by
  obtain⟨a,d⟩:=keys l;obtain⟨c,f⟩:=keys r;refine⟨0::(a.map (2*·+1)++c.map (2*·+2)),fun k x h=>?_⟩;cases k with
  | zero=>exact zv ..
  | succ k=>
   have h:cond (Nat.beq (k % 2) 0) (l.get (k / 2)) (r.get (k / 2))=some x:=h;refine zu _ (List.mem_append.2 ?_);cases b:Nat.beq (k % 2) 0 with
   | true=>
    rw [b] at h;have:=z8 b;exact .inl (List.mem_map.2 ⟨k / 2,d _ _ h,by omega⟩)
   | false=>
    rw [b] at h;have:k % 2≠0:=fun e=>by rw [e] at b;cases b
    exact .inr (List.mem_map.2 ⟨k / 2,f _ _ h,by omega⟩)
end
def fN (n:Nat) (K:Nat->Bool):Bool:=Nat.rec (K 0) (fun k _=>K (Nat.succ k)) n
def fI (n:Int) (K:Int->Bool):Bool:=Int.rec (fun a=>fN a fun a=>K (.ofNat a)) (fun a=>fN a fun a=>K (.negSucc a)) n
def fL {α:Type} (l:List α) (K:List α->Bool):Bool:=List.rec (motive:=fun _=>(List α->Bool)->Bool) (fun K=>K []) (fun x _ ih K=>ih fun r=>K (x::r)) l K
theorem A0W (n:Nat) (K:Nat->Bool):fN n K=K n:=by cases n<;>rfl
theorem B8g (n:Int) (K:Int->Bool):fI n K=K n:=by
 cases n with
 | ofNat a=>exact A0W a fun a=>K (.ofNat a)
 | negSucc a=>exact A0W a fun a=>K (.negSucc a)
theorem A0q {a:Type}:∀ (l:List a) (K:List a->Bool),fL l K=K l
 | [],_=>rfl
 | x::r,K=>A0q r fun r=>K (x::r)
def eqI (a b:Int):Bool:=Int.rec (fun a=>Int.rec (fun b=>Nat.beq a b) (fun _=>false) b) (fun a=>Int.rec (fun _=>false) (fun b=>Nat.beq a b) b) a
def leI (a b:Int):Bool:=Int.rec (fun a=>Int.rec (fun b=>Nat.ble a b) (fun _=>false) b) (fun a=>Int.rec (fun _=>true) (fun b=>Nat.ble b a) b) a
theorem A3o (a b:Int):eqI a b=(a==b):=by
 rw [Bool.eq_iff_iff,beq_iff_eq];cases a<;>cases b
 ·exact⟨fun h=>yb _ (z8 h),fun h=>by cases h;exact Nat.beq_refl _⟩
 ·exact⟨fun h=>(by cases h),fun h=>(by cases h)⟩
 ·exact⟨fun h=>(by cases h),fun h=>(by cases h)⟩
 ·exact⟨fun h=>yb _ (z8 h),fun h=>by cases h;exact Nat.beq_refl _⟩
theorem U4 (a b:Int):leI a b=decide (a<=b):=by
 have c:∀ a:Nat,Int.ofNat a=(a:Int):=fun _=>rfl;have e:∀ a:Nat,Int.negSucc a = -((a:Int)+1):=fun a=>Int.negSucc_eq a;rw [Bool.eq_iff_iff,decide_eq_true_iff];cases a<;>cases b
 ·exact⟨fun h=>Int.ofNat_le.2 (ze h),fun h=>Nat.ble_eq_true_of_le (Int.ofNat_le.1 h)⟩
 ·rw [c,e];exact⟨fun h=>(by cases h),fun h=>by omega⟩
 ·rw [c,e];exact⟨fun _=>by omega,fun _=>rfl⟩
 ·rename_i a b;rw [e,e];exact⟨fun h=>by have:=ze (show Nat.ble b a=true from h);omega,fun h=>show Nat.ble b a=true from Nat.ble_eq_true_of_le (by omega)⟩
inductive EC where
 | k (c:Nat)
 | j (d b:Nat)
 | z (d:Nat)
inductive EB where
 | l (v:Value)
 | p (N o:Nat)
 | s (N o n:Nat) (c:EC)
 | m (N:Nat)
 | f (g:Nat) (cs:List (Nat × Nat))
 | rg (k:IntKind) (lo hi:Int)
 | bo
inductive EV where
 | o (x:EB)
 | a (xs:List EB)
 | t (xs:List (Bool × List EB))
structure Pl where
 b:Nat
 o:Nat
 c:Nat
abbrev Sg:=Nat->Option Pl
def Ex (σ τ:Sg):Prop:=∀ N q,σ N=some q->τ N=some q
theorem Ex.refl (σ:Sg):Ex σ σ:=fun _ _ h=>h
theorem Ex.trans {a b υ:Sg} (h:Ex a b) (k:Ex b υ):Ex a υ:=fun N q e=>k N q (h N q e)
def All2 {α β:Type} (R:α->β->Prop):List α->List β->Prop
 | [],[]=>True
 | a::al,b::bs=>R a b/\All2 R al bs
 | _,_=>False
section
variable {α β:Type} {R R':α->β->Prop}
theorem All2.len:∀ {l:List α} {s:List β},All2 R l s->s.length=l.length
 | [],[],_=>rfl
 | a::l,b::s,h=>yb (·+1) (All2.len h.2)
theorem All2.mono (k:∀ a b,R a b->R' a b):∀ {l:List α} {s:List β},All2 R l s->All2 R' l s
 | [],[],_=>trivial
 | a::l,b::s,h=>⟨k _ _ h.1,All2.mono k h.2⟩
theorem All2.get:∀ {l:List α} {s:List β},All2 R l s->∀ {i:Nat} {a:α},l[i]?=some a->∃ b,s[i]?=some b/\R a b
 | a::l,b::s,h,0,x,e=>by cases e;exact⟨b,rfl,h.1⟩
 | a::l,b::s,h,i+1,x,e=>All2.get h.2 (i:=i) (by simpa using e)
theorem All2.append:∀ {l c:List α} {s d:List β},All2 R l s->All2 R c d->All2 R (l++c) (s++d)
 | [],_,[],_,_,k=>k
 | a::l,_,b::s,_,h,k=>⟨h.1,All2.append h.2 k⟩
theorem All2.take:∀ {l:List α} {s:List β},All2 R l s->∀ n,All2 R (l.take n) (s.take n)
 | [],[],_,n=>by rw [List.take_nil,List.take_nil];trivial
 | a::l,b::s,h,0=>trivial
 | a::l,b::s,h,n+1=>⟨h.1,All2.take h.2 n⟩
theorem All2.drop:∀ {l:List α} {s:List β},All2 R l s->∀ n,All2 R (l.drop n) (s.drop n)
 | [],[],_,n=>by rw [List.drop_nil,List.drop_nil];trivial
 | a::l,b::s,h,0=>h
 | a::l,b::s,h,n+1=>All2.drop h.2 n
theorem All2.set:∀ {l:List α} {s:List β} {a:α} {b:β},All2 R l s->R a b->∀ i,All2 R (l.set i a) (s.set i b)
 | [],[],_,_,_,_,_=>trivial
 | a::l,b::s,_,_,h,k,0=>⟨k,h.2⟩
 | a::l,b::s,_,_,h,k,i+1=>⟨h.1,All2.set h.2 k i⟩
theorem All2.map {a:Type} (f:a->α) (g:a->β) (h:∀ c,R (f c) (g c)):∀ l:List a,All2 R (l.map f) (l.map g)
 | []=>trivial
 | c::l=>⟨h c,All2.map f g h l⟩
end
def CR:EC->Pl->Nat->Nat->Addr->Nat->Prop
 | .k c,q,o,n,a,cp=>a=⟨q.b,q.o+o,none⟩/\cp=c/\n<=c
 | .j d b,q,o,n,a,cp=>a=⟨q.b,q.o+o,none⟩/\cp+d=q.c/\n<=b/\b<=cp
 | .z d,q,o,n,a,cp=>n=0/\a.spot=none/\(cp=0\/a=⟨q.b,q.o+o,none⟩/\cp+d=q.c)
def PR (σ:Sg) (c:Nat × Nat) (v:Value):Prop:=∃ q,σ c.1=some q/\v=.pointer (some ⟨q.b,q.o+c.2,none⟩)
def BR (σ:Sg):EB->Value->Prop
 | .l v,u=>u=v
 | .p N o,u=>PR σ (N,o) u
 | .s N o n c,u=>∃ q a cp,σ N=some q/\CR c q o n a cp/\u=.slice (some a) n cp
 | .m N,u=>∃ q,σ N=some q/\u=.map (some q.b)
 | .f g cs,u=>∃ vs,All2 (PR σ) cs vs/\u=.func (.func g) #[] vs.toArray
 | .rg k lo hi,u=>∃ a,u=.int k a/\lo<=a/\a<=hi
 | .bo,u=>∃ b,u=.bool b
def TR (σ:Sg) (x:Bool × List EB) (u:Value):Prop:=∃ cs,All2 (BR σ) x.2 cs/\(x.1=true/\u=.agg cs.toArray\/x.1=false/\cs=[u])
def VR (σ:Sg):EV->Value->Prop
 | .o x,u=>BR σ x u
 | .a xs,u=>∃ cs,All2 (BR σ) xs cs/\u=.agg cs.toArray
 | .t ys,u=>∃ vs,All2 (TR σ) ys vs/\u=.tuple vs.toArray
section
variable {σ τ:Sg}
theorem PR.ex (h:Ex σ τ) (c:Nat × Nat) (v:Value) (k:PR σ c v):PR τ c v:=by obtain⟨q,a,b⟩:=k;exact⟨q,h _ _ a,b⟩
theorem BR.ex (h:Ex σ τ) (x:EB) (v:Value) (k:BR σ x v):BR τ x v:=by
 cases x with
 | l u=>exact k
 | p N o=>exact PR.ex h _ _ k
 | s N o n c=>obtain⟨q,a,e,b,d⟩:=k;exact⟨q,a,e,h _ _ b,d⟩
 | m N=>obtain⟨q,b,d⟩:=k;exact⟨q,h _ _ b,d⟩
 | f j i=>obtain⟨g,b,d⟩:=k;exact⟨g,b.mono (PR.ex h),d⟩
 | rg k t r=>exact k
 | bo=>exact k
theorem TR.ex (h:Ex σ τ) (x:Bool × List EB) (v:Value) (k:TR σ x v):TR τ x v:=by obtain⟨c,a,b⟩:=k;exact⟨c,a.mono (BR.ex h),b⟩
theorem VR.ex (h:Ex σ τ) {x:EV} {v:Value} (k:VR σ x v):VR τ x v:=by
 cases x with
 | o x=>exact BR.ex h _ _ k
 | a e=>obtain⟨s,b,c⟩:=k;exact⟨s,b.mono (BR.ex h),c⟩
 | t y=>obtain⟨d,b,c⟩:=k;exact⟨d,b.mono (TR.ex h),c⟩
end
def FR (σ:Sg) (F:Tr EV) (f:Fr):Prop:=∀ t v,F.get t=some v->VR σ v (f t)
theorem FR.ex {a b:Sg} (h:Ex a b) {F:Tr EV} {f:Fr} (k:FR a F f):FR b F f:=fun t v e=>(k t v e).ex h
theorem FR.upd {a:Sg} {F c:Tr EV} {f:Fr} {t:Nat} {x:EV} {u:Value} (k:FR a F f) (d:VR a x u) (h:∀ j,c.get j=if j=t then some x else F.get j):FR a c (upd f t u):=fun j v e=>by
 rw [h] at e;show VR a v (bif Nat.beq j t then u else f j);by_cases b:j=t
 ·subst b;rw [yn rfl] at e;cases e;rw [show Nat.beq j j=true from Nat.beq_refl j];exact d
 ·rw [yo b] at e;rw [show Nat.beq j t=false from Bool.eq_false_iff.2 fun h=>b (z8 h)];exact k _ _ e
def ofV:Value->EV
 | .agg cs=>.a (cs.toList.map .l)
 | v=>.o (.l v)
theorem C0C (a:Sg) (v:Value):VR a (ofV v) v:=by
 cases v
 case agg cs=>exact⟨cs.toList,by have:=All2.map (R:=BR a) EB.l id (fun _=>rfl) cs.toList;rwa [List.map_id] at this,by simp⟩
 all_goals exact rfl
def xEv (F:Tr EV) (x:Operand):Option EV:=
 match x with
 | .tmp t=>F.get t
 | .const v=>some (ofV v)
 | .global g=>some (.o (.l (.pointer (some ⟨g,0,none⟩))))
 | .func n=>some (.o (.f n []))
theorem C8 {a:Sg} {F:Tr EV} {f:Fr} (h:FR a F f) {x:Operand} {v:EV} (e:xEv F x=some v):VR a v (ev f x):=by
 cases x with
 | tmp t=>exact h _ _ e
 | const u=>cases e;exact C0C _ _
 | «global» g=>cases e;rfl
 | func n=>cases e;exact⟨[],t6,rfl⟩
end Go.Vx
end
section
namespace Go.Vx
open Go Go.Vc Go.RowKit
inductive Ent where
 | d
 | c (T sz:Nat) (xs:List EB)
 | m (es:List (Value × EV × Nat)) (clock:Nat)
 | i (M since:Nat) (seen:List Nat) (c0:Nat)
 | r (xs:List EB)
structure Hp where
 t:Tr Ent
 n:Nat
def Ent.live:Ent->Bool
 | .d=>false
 | _=>true
theorem cell_of_heap {w b:World} {a:Addr} (h:b.heap[a.block]?=w.heap[a.block]?):b.cell? a=w.cell? a:=by unfold World.cell?;rw [h]
theorem heap_lt {c w:World} {b:Nat} (a:w.heap[b]?=c.heap[b]?) (d:b<c.heap.size):b<w.heap.size:=by
 obtain h|h:=zm b w.heap.size
 ·exact h
 ·rw [Array.getElem?_eq_none h,Array.getElem?_eq_getElem d] at a;cases a
theorem C0D {w:World} {b:Nat} {o:Obj} (h:w.heap[b]?=some o):b<w.heap.size:=by
 obtain l|g:=zm b w.heap.size
 ·exact l
 ·rw [Array.getElem?_eq_none g] at h;cases h
def MR (σ:Sg) (x:Value × EV × Nat) (e:MapEntry):Prop:=e.key=x.1/\VR σ x.2.1 e.val/\e.born=x.2.2
def EntR (w0:World) (σ:Sg) (w:World) (N:Nat):Ent->Prop
 | .d=>True
 | .c T sz xs=>∃ q cur cs,σ N=some q/\w0.heap.size<=q.b/\Blk w q.b T cur/\(sz=0->q.o=0/\cur.length=xs.length)/\(sz≠0->cur.length=q.o+q.c*sz/\q.c<=maxLen)/\All2 (BR σ) xs cs/\∀ j v,cs[j]?=some v->cur[q.o+j]?=some v
 | .m es clock=>∃ q ents,σ N=some q/\w0.heap.size<=q.b/\w.heap[q.b]?=some (.map ents clock)/\All2 (MR σ) es ents.toList
 | .i M since seen c0=>∃ q r,σ N=some q/\σ M=some r/\w0.heap.size<=q.b/\q.o=0/\w.heap[q.b]?=some (.mapIter (some r.b) since seen.toArray c0)
 | .r xs=>∃ q cs,σ N=some q/\w0.heap.size<=q.b/\(q.b<w.heap.size/\q.c<=maxLen)/\All2 (BR σ) xs cs/\∀ j v,cs[j]?=some v->w.cell? ⟨q.b,q.o+j,none⟩=some v
structure Rep (w0:World) (σ:Sg) (H:Hp) (w:World):Prop where
 below:Below w0.heap.size w0 w
 none:∀ N,H.t.get N=none->σ N=none
 ent:∀ N E,H.t.get N=some E->EntR w0 σ w N E
 sep:∀ N M E E' q r,N≠M->H.t.get N=some E->H.t.get M=some E'->E.live=true->E'.live=true->σ N=some q->σ M=some r->q.b≠r.b
section
variable {w0 w w':World} {σ τ:Sg} {H H':Hp} {N:Nat}
theorem EntR.place {E:Ent} (e:EntR w0 σ w N E) (l:E.live=true):∃ q,σ N=some q/\w0.heap.size<=q.b/\q.b<w.heap.size:=by
 cases E with
 | d=>cases l
 | c T z x=>
  obtain⟨q,u,s,h,a,b,_⟩:=e;exact⟨q,h,a,b.lt⟩
 | m f o=>
  obtain⟨q,n,h,a,b,_⟩:=e;exact⟨q,h,a,C0D b⟩
 | i M g seen c0=>
  obtain⟨q,r,h,_,a,_,b⟩:=e;exact⟨q,h,a,C0D b⟩
 | r x=>
  obtain⟨q,s,h,a,b,_⟩:=e;exact⟨q,h,a,b.1⟩
theorem EntR.of {E:Ent} (n:EntR w0 σ w N E) (e:Ex σ τ) (l:E.live=true->∀ q,σ N=some q->w'.heap[q.b]?=w.heap[q.b]?):EntR w0 τ w' N E:=by
 cases E with
 | d=>trivial
 | c T F z=>
  obtain⟨q,u,s,h,f,b,g,j,o,p⟩:=n;exact⟨q,u,s,e _ _ h,f,b.of_eq (l rfl q h),g,j,o.mono (BR.ex e),p⟩
 | m C B=>
  obtain⟨q,t,h,f,b,g⟩:=n;exact⟨q,t,e _ _ h,f,(l rfl q h).trans b,g.mono (fun a A k=>⟨k.1,k.2.1.ex e,k.2.2⟩)⟩
 | i M D seen c0=>
  obtain⟨q,r,h,f,b,g,j⟩:=n;exact⟨q,r,e _ _ h,e _ _ f,b,g,(l rfl q h).trans j⟩
 | r z=>
  obtain⟨q,s,h,f,b,g,j⟩:=n;refine⟨q,s,e _ _ h,f,⟨heap_lt (l rfl q h) b.1,b.2⟩,g.mono (BR.ex e),fun x y v=>?_⟩;rw [<-j x y v];exact cell_of_heap (l rfl q h)
theorem Rep.keep (h:Rep w0 σ H w) (b:Below w.heap.size w w'):Rep w0 σ H w':=
 ⟨h.below.trans (b.mono h.below.size),h.none,fun N E e=>(h.ent N E e).of (Ex.refl _) fun l q d=>by obtain⟨r,a,f,c⟩:=(h.ent N E e).place l;rw [d] at a;cases a;exact b.block _ c,h.sep⟩
theorem Rep.drew (h:Rep w0 σ H w):Rep w0 σ H w.drew:=h.keep (Below.refl _ _).drew
theorem Rep.turn (h:Rep w0 σ H w) {E k:Ent} (g:H.t.get N=some E) (l:E.live=true) {B:Pl} (q:σ N=some B) (J:w.heap.size<=w'.heap.size) (o:w'.os=w.os/\w'.tape=w.tape/\w'.output=w.output) (v:∀ b,b≠B.b->b<w.heap.size->w'.heap[b]?=w.heap[b]?)
  (t:∀ j,H'.t.get j=if j=N then some k else H.t.get j) (D:EntR w0 σ w' N k):Rep w0 σ H' w':=by
 obtain⟨C,u,L,O⟩:=(h.ent N E g).place l;rw [q] at u;cases u;have I:∀ b,b<w0.heap.size->w'.heap[b]?=w0.heap[b]?:=fun b G=>by have P:=h.below.size;exact (v b (by omega) (by omega)).trans (h.below.block b G)
 refine⟨⟨o.1.trans h.below.os,o.2.1.trans h.below.tape,o.2.2.trans h.below.output,zq h.below.size J,I⟩,fun M f=>h.none M (by
  rw [t] at f;by_cases e:M=N
  ·rw [yn e] at f;cases f
  ·rwa [yo e] at f),fun M F a=>?_,fun M d F m C s n a c y z r i=>?_⟩
 ·rw [t] at a;by_cases e:M=N
  ·subst e;rw [yn rfl] at a;cases a;exact D
  ·rw [yo e] at a;refine (h.ent M F a).of (Ex.refl _) fun x C r=>?_;obtain⟨s,A,Q,K⟩:=(h.ent M F a).place x;rw [r] at A;cases A;exact v _ (h.sep M N F E _ _ e a g x l r q) K
 ·rw [t] at a c;by_cases e:M=N
  ·subst e;rw [yo (fun e=>n e.symm)] at c;rw [q] at r;cases r;exact h.sep M d E m _ _ n g c l z q i
  ·rw [yo e] at a;by_cases p:d=N
   ·subst p;rw [q] at i;cases i;exact h.sep M d F E _ _ n a g y l r q
   ·rw [yo p] at c;exact h.sep M d F m _ _ n a c y z r i
theorem Rep.lose (b:Rep w0 σ H w) (t:∀ j,H'.t.get j=if j=N then some .d else H.t.get j):Rep w0 σ H' w:=
 ⟨b.below,fun M c=>b.none M (by
  rw [t] at c;by_cases e:M=N
  ·rw [yn e] at c;cases c
  ·rwa [yo e] at c),fun M F h=>by
  rw [t] at h;by_cases e:M=N
  ·rw [yn e] at h;cases h;trivial
  ·rw [yo e] at h;exact b.ent M F h,fun M d F i m s n h a l g r k=>by
  rw [t] at h a;by_cases e:M=N
  ·rw [yn e] at h;cases h;cases l
  ·rw [yo e] at h;by_cases f:d=N
   ·rw [yn f] at a;cases a;cases g
   ·rw [yo f] at a;exact b.sep M d F i m s n h a l g r k⟩
def A4u (σ:Sg) (N:Nat) (q:Pl):Sg:=fun M=>if M=N then some q else σ M
theorem V3 (a:Rep w0 σ H w) (b:H.t.get N=Option.none) (q:Pl):Ex σ (A4u σ N q):=fun M r h=>by
 unfold A4u;by_cases e:M=N
 ·rw [e,a.none _ b] at h;cases h
 ·rw [yo e];exact h
theorem Rep.newG (f:Rep w0 σ H w) (q:Pl) {E:Ent} (C:Below w0.heap.size w0 w') (D:∀ j,j≠q.b->j<w.heap.size->w'.heap[j]?=w.heap[j]?) (k:∀ M F r,H.t.get M=some F->F.live=true->σ M=some r->r.b≠q.b) (B:H.t.get N=Option.none) (t:∀ l,H'.t.get l=if l=N then some E else H.t.get l)
  (A:EntR w0 (A4u σ N q) w' N E):Rep w0 (A4u σ N q) H' w':=by
 have I:=V3 f B q;have o:∀ M,M≠N->A4u σ N q M=σ M:=fun M e=>yo e;have x:A4u σ N q N=some q:=yn rfl;have old:∀ M F r,H.t.get M=some F->F.live=true->σ M=some r->r.b<w.heap.size:=fun M F r h G a=>by obtain⟨s,y,K,J⟩:=(f.ent M F h).place G;rw [a] at y;cases y;exact J
 refine⟨C,fun M i=>?_,fun M F h=>?_,fun M c F m r s v h g p u a d=>?_⟩
 ·rw [t] at i;by_cases e:M=N
  ·rw [yn e] at i;cases i
  ·rw [yo e] at i;rw [o M e];exact f.none M i
 ·rw [t] at h;by_cases e:M=N
  ·subst e;rw [yn rfl] at h;cases h;exact A
  ·rw [yo e] at h;refine (f.ent M F h).of I fun n r a=>?_;exact D _ (k M F r h n a) (old M F r h n a)
 ·rw [t] at h g;by_cases e:M=N
  ·have b:c≠N:=fun b=>v (e.trans b.symm);rw [yo b] at g;rw [o c b] at d;have:=k c m s g u d;rw [e,x] at a;cases a;exact this.symm
  ·rw [yo e] at h;rw [o M e] at a;have z:=k M F r h p a;by_cases b:c=N
   ·rw [b,x] at d;cases d;exact z
   ·rw [yo b] at g;rw [o c b] at d;exact f.sep M c F m _ _ v h g p u a d
theorem Rep.new (h:Rep w0 σ H w) (q:Pl) {E:Ent} (b:Below w.heap.size w w') (f:w.heap.size<=q.b) (e:H.t.get N=Option.none) (t:∀ j,H'.t.get j=if j=N then some E else H.t.get j)
  (c:EntR w0 (A4u σ N q) w' N E):Rep w0 (A4u σ N q) H' w':=
 h.newG q (h.below.trans (b.mono h.below.size)) (fun a _ l=>b.block a l) (fun M F m d l r=>by obtain⟨s,k,g,i⟩:=(h.ent M F d).place l;rw [r] at k;cases k;omega) e t c
theorem Rep.row (b:Rep w0 σ H w) {T s:Nat} {x:List EB} (e:H.t.get N=some (.c T s x)) (i n:Nat) (p:i+n<=x.length):
  ∃ q c,σ N=some q/\All2 (BR σ) ((x.drop i).take n) c/\c.length=n/\cellsAt w ⟨q.b,q.o+i,Option.none⟩ c 0:=by
 obtain⟨q,u,c,d,l,f,m,o,a,g⟩:=b.ent N _ e;have r:=a.len;have k:=(a.drop i).take n;refine⟨q,_,d,k,by rw [zg,zh];omega,C0 f (q.o+i) _ 0 fun j v h=>?_⟩;rw [List.getElem?_take] at h;split at h
 ·rw [List.getElem?_drop] at h;have:=g _ _ h;rwa [show q.o+(i+j)=q.o+i+0+j by omega] at this
 ·cases h
theorem Rep.cell (h:Rep w0 σ H w) {T z:Nat} {s:List EB} (e:H.t.get N=some (.c T z s)) {i:Nat} {x:EB} (f:s[i]?=some x):∃ q v,σ N=some q/\BR σ x v/\w.cell? ⟨q.b,q.o+i,Option.none⟩=some v:=by obtain⟨q,u,g,a,j,b,k,l,c,d⟩:=h.ent N _ e;obtain⟨v,hv,r⟩:=c.get f;exact⟨q,v,a,r,(b.cell _).trans (d _ _ hv)⟩
def A9o:List EB->Nat->List EB->List EB
 | xs,_,[]=>xs
 | xs,i,y::ys=>A9o (xs.set i y) (i+1) ys
theorem A5p:∀ (s x:List EB) (i:Nat),(A9o x i s).length=x.length
 | [],_,_=>rfl
 | y::s,x,i=>by rw [A9o,A5p s,List.length_set]
theorem putAt_len:∀ (s x:List Value) (i:Nat),(C5 x i s).length=x.length
 | [],_,_=>rfl
 | y::s,x,i=>by rw [C5,putAt_len s,List.length_set]
theorem A3p {R:EB->Value->Prop}:∀ {a:List EB} {s:List Value} {x:List EB} {c:List Value} (i:Nat),All2 R x c->All2 R a s->All2 R (A9o x i a) (C5 c i s)
 | [],[],_,_,_,h,_=>h
 | y::a,u::s,x,c,i,h,k=>A3p (i+1) (h.set k.1 i) k.2
theorem A8Z (o:Nat):∀ (s c r:List Value) (i:Nat),i+s.length<=c.length->(∀ j v,c[j]?=some v->r[o+j]?=some v)->∀ j v,(C5 c i s)[j]?=some v->(C5 r (o+i) s)[o+j]?=some v
 | [],_,_,_,_,h=>h
 | u::s,c,r,i,hi,h=>by
  rw [zj] at hi;refine A8Z o s (c.set i u) (r.set (o+i) u) (i+1) (by rw [List.length_set];omega) fun j v a=>?_;rw [List.getElem?_set] at a ⊢;by_cases e:i=j
  ·subst e;rw [yn rfl,yn (by omega)] at a;cases a;have l:i<c.length:=by omega
   have:=h i _ (yc l);rw [yn rfl,yn (by
    obtain b|b:=zm (o+i) r.length
    ·exact b
    ·rw [List.getElem?_eq_none b] at this;cases this)]
  ·rw [yo e] at a;rw [yo (by omega)];exact h j v a
theorem Rep.store (g:Rep w0 σ H w) {T z:Nat} {x:List EB} (f:H.t.get N=some (.c T z x)) {i:Nat} {y:List EB} {u:List Value} (n:All2 (BR σ) y u) (D:∀ K∈u,K.oneCell'=true) (M:i+y.length<=x.length)
  (G:∀ j,H'.t.get j=if j=N then some (.c T z (A9o x i y)) else H.t.get j):∃ q,σ N=some q/\E0 w ⟨q.b,q.o+i,Option.none⟩ u 0/\∀ w',E6 w ⟨q.b,q.o+i,Option.none⟩ u w'->Rep w0 σ H' w':=by
 obtain⟨q,c,e,k,I,o,b,d,p,r⟩:=g.ent N _ f;have P:=n.len;have O:=p.len;have l:∀ j,j<e.length->q.o+j<c.length:=fun j F=>by
  have:=r j _ (yc F);obtain a|a:=zm (q.o+j) c.length
  ·exact a
  ·rw [List.getElem?_eq_none a] at this;cases this
 have L:q.o+i+u.length<=c.length:=by
  obtain h0|h0:=Nat.eq_zero_or_pos u.length
  ·rw [h0];obtain m|m:=Nat.eq_zero_or_pos i
   ·rw [m];obtain h|h:=Classical.em (z=0)
    ·have:=b h;omega
    ·have:=d h;omega
   ·have:=l (i-1) (by omega);omega
  ·have:=l (i+u.length-1) (by omega);omega
 refine⟨q,k,A0H o _ u 0 (by omega) D,fun w' S=>?_⟩;obtain⟨s,t,J,v,A,B⟩:=L9 (q.o+i) u w 0 c o;rw [<-(show w'=_ from S)] at s t J v A B;rw [Nat.add_zero] at s;refine g.turn f rfl k (by omega) ⟨v,A,B⟩ (fun C E _=>t C E) G ⟨q,_,_,k,I,s,fun h=>⟨(b h).1,?_⟩,fun h=>⟨?_,(d h).2⟩,A3p i p n,A8Z q.o u e c i (by omega) r⟩
 ·rw [putAt_len,A5p];exact (b h).2
 ·rw [putAt_len];exact (d h).1
theorem Rep.alloc (h:Rep w0 σ H w) {T g:Nat} {s:List EB} {c:List Value} (x:All2 (BR σ) s c) (G:New w c T g w') (a:H.t.get N=Option.none) (t:∀ j,H'.t.get j=if j=N then some (.c T 0 s) else H.t.get j):
  Ex σ (A4u σ N ⟨g,0,0⟩)/\A4u σ N ⟨g,0,0⟩ N=some ⟨g,0,0⟩/\Rep w0 (A4u σ N ⟨g,0,0⟩) H' w':=by
 refine⟨V3 h a _,yn rfl,h.new ⟨g,0,0⟩ G.below (by rw [G.1];exact zc _) a t ⟨⟨g,0,0⟩,c,c,yn rfl,?_,G.blk,fun _=>⟨rfl,x.len⟩,fun h=>absurd rfl h,x.mono (BR.ex (V3 h a _)),fun j v b=>?_⟩⟩
 ·rw [G.1];exact h.below.size
 ·rw [zn];exact b
end
end Go.Vx
end
section
namespace Go.Vx
open Go Go.Vc Go.RowKit
def lit (v:Value):EV:=.o (.l v)
def A3q (n:Int):Bool:=Int.rec (fun a=>Nat.ble a 9223372036854775807) (fun a=>Nat.ble a 9223372036854775807) n
def wr (k:IntKind) (n:Int):Int:=match k with
 | .i64=>cond (A3q n) n (k.wrap n)
 | k=>k.wrap n
theorem A8a (k:IntKind) (n:Int):wr k n=k.wrap n:=by
 cases k
 case i64=>
  show cond (A3q n) n _=_;cases h:A3q n with
  | false=>rfl
  | true=>
   refine (yh n ?_).symm;have e:∀ a:Nat,Int.ofNat a=(a:Int):=fun _=>rfl;have b:∀ a:Nat,Int.negSucc a = -((a:Int)+1):=fun a=>Int.negSucc_eq a;cases n with
   | ofNat a=>have:=ze (show Nat.ble a 9223372036854775807=true from h);rw [e];omega
   | negSucc a=>have:=ze (show Nat.ble a 9223372036854775807=true from h);rw [b];omega
 all_goals rfl
def C1v (op:BinOp) (k:IntKind) (a b:Int):Option Value:=
 match op with
 | .add=>some (.int k (wr k (Int.add a b)))
 | .sub=>some (.int k (wr k (Int.sub a b)))
 | .mul=>some (.int k (wr k (Int.mul a b)))
 | .eql=>some (.bool (eqI a b))
 | .neq=>some (.bool (not (eqI a b)))
 | .lss=>some (.bool (not (leI b a)))
 | .leq=>some (.bool (leI a b))
 | .gtr=>some (.bool (not (leI a b)))
 | .geq=>some (.bool (leI b a))
 | .quo=>cond (eqI b 0) none (some (.int k (wr k (Int.tdiv a b))))
 | .rem=>cond (eqI b 0) none (some (.int k (Int.tmod a b)))
 | .and=>some (.int k (bits .and k a b))
 | .or=>some (.int k (bits .or k a b))
 | .xor=>some (.int k (bits .xor k a b))
 | _=>none
theorem B7F (a b:Int):decide (a<b)=!decide (b<=a):=by
 by_cases h:a<b
 ·rw [zz h,y8 (by omega)];rfl
 ·rw [y8 h,zz (by omega)];rfl
theorem A7K {a b:Int} (h:eqI a b=false):a≠b:=by rw [A3o] at h;exact beq_eq_false_iff_ne.1 h
theorem B8h {P:Program} {o:BinOp} {T:Nat} {k:IntKind} {d b:Int} {v:Value} {K:Value->Prop} (h:C1v o k d b=some v) (a:K v):B9K P o T k d b K:=by
 cases o
 case quo=>
  have h:cond (eqI b 0) none (some (Value.int k (wr k (Int.tdiv d b))))=some v:=h;cases c:eqI b 0 with
  | true=>rw [c] at h;cases h
  | false=>rw [c] at h;cases h;exact⟨A7K c,by rw [A8a] at a;exact a⟩
 case rem=>
  have h:cond (eqI b 0) none (some (Value.int k (Int.tmod d b)))=some v:=h;cases c:eqI b 0 with
  | true=>rw [c] at h;cases h
  | false=>rw [c] at h;cases h;exact⟨A7K c,a⟩
 case add=>cases h;rw [A8a] at a;exact a
 case sub=>cases h;rw [A8a] at a;exact a
 case mul=>cases h;rw [A8a] at a;exact a
 case eql=>cases h;rw [A3o] at a;exact a
 case neq=>cases h;rw [A3o] at a;exact a
 case lss=>cases h;rw [U4] at a;show K (.bool (decide (d<b)));rw [B7F];exact a
 case leq=>cases h;rw [U4] at a;exact a
 case gtr=>cases h;rw [U4] at a;show K (.bool (decide (b<d)));rw [B7F];exact a
 case geq=>cases h;rw [U4] at a;exact a
 case and=>cases h;exact a
 case or=>cases h;exact a
 case xor=>cases h;exact a
 all_goals cases h
def B3v (op:BinOp) (k:IntKind) (a b:Int):Option Value:=
 cond (and (leI 0 b) (leI b k.bits)) (match op with
  | .shl=>some (.int k (wr k (a*2 ^ b.toNat)))
  | .shr=>some (.int k (a / 2 ^ b.toNat))
  | _=>none) none
theorem B3w {P:Program} {o:BinOp} {T:Nat} {k e:IntKind} {d a:Int} {v:Value} {K:Value->Prop} (h:B3v o k d a=some v) (c:K v):A6D P o T k e d a K:=by
 unfold B3v at h;cases b:and (leI 0 a) (leI a k.bits) with
 | false=>rw [b] at h;cases h
 | true=>
  rw [b] at h;rw [z7,U4,U4,decide_eq_true_iff,decide_eq_true_iff] at b;cases o
  case shl=>cases h;rw [A8a] at c;exact⟨b,c⟩
  case shr=>cases h;exact⟨b,c⟩
  all_goals cases h
def eqL (a:List UInt8):List UInt8->Bool:=List.rec (motive:=fun _=>List UInt8->Bool) (fun b=>A2s b) (fun x _ ih b=>match b with
 | []=>false
 | y::r=>and (Nat.beq x.toNat y.toNat) (ih r)) a
theorem A3r:∀ a b:List UInt8,eqL a b=(a==b)
 | [],[]=>rfl
 | [],_::_=>rfl
 | _::_,[]=>rfl
 | x::a,y::b=>by show and (Nat.beq x.toNat y.toNat) (eqL a b)=_;rw [A3r a b,List.cons_beq_cons];congr 1;rw [Bool.eq_iff_iff,beq_iff_eq];exact⟨fun h=>UInt8.toNat_inj.1 (z8 h),fun h=>by rw [h];exact Nat.beq_refl _⟩
def bytes (l:List UInt8):ByteArray:=⟨⟨l⟩⟩
theorem A2n (s:ByteArray):bytes s.data.toList=s:=rfl
theorem B3x (a b:ByteArray):bytes (a.data.toList++b.data.toList)=a++b:=by apply ByteArray.ext;apply Array.ext';simp [bytes]
def C1w (op:BinOp) (a b:ByteArray):Option Value:=
 match op with
 | .add=>cond (Nat.ble (Nat.add a.data.toList.length b.data.toList.length) 1000000) (some (.string (bytes (a.data.toList++b.data.toList)))) none
 | .eql=>some (.bool (eqL a.data.toList b.data.toList))
 | .neq=>some (.bool (not (eqL a.data.toList b.data.toList)))
 | .lss=>some (.bool (E4 a b))
 | .leq=>some (.bool (or (E4 a b) (eqL a.data.toList b.data.toList)))
 | .gtr=>some (.bool (not (or (E4 a b) (eqL a.data.toList b.data.toList))))
 | .geq=>some (.bool (not (E4 a b)))
 | _=>none
theorem B8i {P:Program} {o:BinOp} {T:Nat} {b c:ByteArray} {v:Value} {K:Value->Prop} (h:C1w o b c=some v) (a:K v):vStr P o T b c K:=by
 cases o
 case add=>
  have h:cond (Nat.ble (Nat.add b.data.toList.length c.data.toList.length) 1000000) (some (Value.string (bytes (b.data.toList++c.data.toList)))) none=some v:=h;cases d:Nat.ble (Nat.add b.data.toList.length c.data.toList.length) 1000000 with
  | false=>rw [d] at h;cases h
  | true=>
   rw [d] at h;cases h;have:=ze d;rw [B3x] at a;have e:∀ s:ByteArray,s.size=s.data.toList.length:=fun s=>rfl;exact⟨by rw [e,e];have this:b.data.toList.length+c.data.toList.length<=1000000:=this;omega,a⟩
 case eql=>cases h;rw [A3r] at a;exact a
 case neq=>cases h;rw [A3r] at a;exact a
 case lss=>cases h;exact a
 case leq=>cases h;rw [A3r] at a;exact a
 case gtr=>cases h;rw [A3r] at a;exact a
 case geq=>cases h;exact a
 all_goals cases h
structure Eqs (P:Program) where
 eq:Nat->List EB->List EB->Option Bool
 ok:∀ T xs ys r,eq T xs ys=some r->∀ (σ:Sg) cs ds,All2 (BR σ) xs cs->All2 (BR σ) ys ds->∀ (ox oy:Operand) w,
  (do eqGuard .eql T ox oy (.agg cs.toArray) (.agg ds.toArray);binOp .eql T (.agg cs.toArray) (.agg ds.toArray):Sem Value).run P w=.ok (.bool r) w/\
  (do eqGuard .neq T ox oy (.agg cs.toArray) (.agg ds.toArray);binOp .neq T (.agg cs.toArray) (.agg ds.toArray):Sem Value).run P w=.ok (.bool (!r)) w
def A8b (P:Program) (T:Nat):Bool:=match P.underlying T with
 | some (.pointer e)=>(P.info? e).isSome
 | _=>false
def B7G (P:Program) (T:Nat):Bool:=match P.underlying T with
 | some (.slice _)=>true
 | _=>false
def C1M (P:Program) (T:Nat):Bool:=match P.underlying T with
 | some (.interface _)=>true
 | _=>false
def isC:Operand->Bool
 | .const _=>true
 | _=>false
def eqv (op:BinOp) (r:Bool):Option EV:=match op with
 | .eql=>some (lit (.bool r))
 | .neq=>some (lit (.bool (!r)))
 | _=>none
def B9O (P:Program) (T:Nat) (ox oy:Operand) (x y:Value) (r:Bool):Prop:=∀ w,
 (do eqGuard .eql T ox oy x y;binOp .eql T x y:Sem Value).run P w=.ok (.bool r) w/\(do eqGuard .neq T ox oy x y;binOp .neq T x y:Sem Value).run P w=.ok (.bool (!r)) w
theorem A2O {P:Program} {o:BinOp} {T:Nat} {b c:Operand} {x y:Value} {r:Bool} {v:EV} {d:Sg} {K:Value->Prop} (h:eqv o r=some v) (s:B9O P T b c x y r) (a:∀ u,VR d v u->K u):Pure P (do eqGuard o T b c x y;binOp o T x y) K:=by
 cases o
 case eql=>cases h;exact⟨_,fun w=>(s w).1,a _ rfl⟩
 case neq=>cases h;exact⟨_,fun w=>(s w).2,a _ rfl⟩
 all_goals cases h
section
variable {P:Program} {T:Nat} {ox oy:Operand}
theorem A9p (h:A8b P T=true) (p:Option Addr):B9O P T ox oy (.pointer p) (.pointer none) p.isNone:=fun w=>by
 unfold A8b at h;cases u:P.underlying T with
 | none=>rw [u] at h;cases h
 | some d=>
  rw [u] at h;cases d
  case pointer e=>
   have h:∀ d:Nat,(Op.equalIn (d+1) T (.pointer p) (.pointer none)).run P w=.ok p.isNone w:=fun d=>by cases p<;>simp [Op.equalIn,run_underlying u]
   simp only [binOp];constructor<;>simp [Op.equal,Op.maxDepth,h 9999,eqGuard]
  all_goals cases h
theorem B3y (h:A8b P T=true) (a:Addr):B9O P T ox oy (.pointer (some a)) (.pointer (some a)) true:=fun w=>by
 unfold A8b at h;cases u:P.underlying T with
 | none=>rw [u] at h;cases h
 | some d=>
  rw [u] at h;cases d
  case pointer e=>
   obtain⟨f,j⟩:=Option.isSome_iff_exists.1 h;have b:=run_eql_ptr_same (P:=P) (w:=w) a u j;have c:=Lib.run_neq_ptr_same (P:=P) w a u j;constructor
   ·simp [eqGuard,b]
   ·simp [eqGuard,c]
  all_goals cases h
theorem B3z (h:B7G P T=true) (a:Option Addr) (n c f b:Nat):B9O P T ox oy (.slice a n c) (.slice none f b) a.isNone:=fun w=>by
 unfold B7G at h;cases u:P.underlying T with
 | none=>rw [u] at h;cases h
 | some d=>
  rw [u] at h;cases d
  case slice e=>
   have h:∀ d:Nat,(Op.equalIn (d+1) T (.slice a n c) (.slice none f b)).run P w=.ok a.isNone w:=fun d=>by cases a<;>simp [Op.equalIn,run_underlying u]
   simp only [binOp];constructor<;>simp [Op.equal,Op.maxDepth,h 9999,eqGuard]
  all_goals cases h
theorem B8j (h:C1M P T=true) (c:(isC ox||isC oy)=true):B9O P T ox oy .nilIface .nilIface true:=fun w=>by
 unfold C1M at h;cases u:P.underlying T with
 | none=>rw [u] at h;cases h
 | some d=>
  rw [u] at h;cases d
  case interface ms=>
   have h:∀ d:Nat,(Op.equalIn (d+1) T .nilIface .nilIface).run P w=.ok true w:=fun d=>by simp [Op.equalIn,run_underlying u]
   simp only [binOp];cases ox<;>cases oy<;>first | (simp [isC] at c;done) | (constructor<;>simp [Op.equal,Op.maxDepth,h 9999,eqGuard])
  all_goals cases h
theorem B8k (a b c d:Nat):B9O P T ox oy (.complex .f64 a b) (.complex .f64 c d) ((FloatKind.f64.format.order a c==some .eq)&&(FloatKind.f64.format.order b d==some .eq)):=fun w=>
 ⟨by simp only [eqGuard];simp [run_eql_complex],by simp only [eqGuard];simp [run_neq_complex]⟩
end
theorem B6 {a:Type} {b:Bool} {x:Option a} {v:a} (h:cond b x none=some v):b=true/\x=some v:=by
 cases b
 ·cases h
 ·exact⟨rfl,h⟩
def xRg (op:BinOp) (lo hi b:Int):Option EV:=match op with
 | .add=>cond (A3q (Int.add lo b)&&A3q (Int.add hi b)) (some (.o (.rg .i64 (Int.add lo b) (Int.add hi b)))) none
 | .rem=>cond (leI 1 b) (some (.o (.rg .i64 (cond (leI 0 lo) 0 (Int.sub 1 b)) (Int.sub b 1)))) none
 | .and=>cond (eqI b 15||eqI b 31) (some (.o (.rg .i64 0 b))) none
 | .lss=>cond (not (leI b hi)) (some (lit (.bool true))) (cond (leI b lo) (some (lit (.bool false))) none)
 | .gtr=>cond (not (leI lo b)) (some (lit (.bool true))) (cond (leI hi b) (some (lit (.bool false))) none)
 | _=>none
theorem A9q {n:Int} (h:A3q n=true) : -9223372036854775808<=n/\n<=9223372036854775807:=by
 unfold A3q at h;cases n with
 | ofNat a=>
  have:=ze (show Nat.ble a 9223372036854775807=true from h);show -9223372036854775808<=(a:Int)/\(a:Int)<=9223372036854775807;exact⟨by omega,by omega⟩
 | negSucc a=>
  have:=ze (show Nat.ble a 9223372036854775807=true from h);exact⟨by omega,by omega⟩
theorem C0E (n:Int):bits .and .i64 n 15=n % 16:=by
 have h:(BitVec.ofInt 64 15).toNat=2 ^ 4-1:=by decide
 have k:(BitVec.ofInt 64 n &&& BitVec.ofInt 64 15).toNat=(n % ((2 ^ 64:Nat):Int)).toNat % 2 ^ 4:=by rw [BitVec.toNat_and,BitVec.toNat_ofInt,h,Nat.and_two_pow_sub_one_eq_mod]
 show IntKind.i64.wrap ((BitVec.ofInt 64 n &&& BitVec.ofInt 64 15).toNat:Nat)=n % 16;rw [k,IntKind.wrap_i64];omega
theorem C0F (n:Int):bits .and .i64 n 31=n % 32:=by
 have h:(BitVec.ofInt 64 31).toNat=2 ^ 5-1:=by decide
 have k:(BitVec.ofInt 64 n &&& BitVec.ofInt 64 31).toNat=(n % ((2 ^ 64:Nat):Int)).toNat % 2 ^ 5:=by rw [BitVec.toNat_and,BitVec.toNat_ofInt,h,Nat.and_two_pow_sub_one_eq_mod]
 show IntKind.i64.wrap ((BitVec.ofInt 64 n &&& BitVec.ofInt 64 31).toNat:Nat)=n % 32;rw [k,IntKind.wrap_i64];omega
theorem B30 {a b:Int} (h:(!leI a b)=true):b<a:=by rw [U4,Bool.not_eq_true',decide_eq_false_iff_not] at h;omega
theorem A5q {a b:Int} (h:leI a b=true):a<=b:=by rw [U4] at h;exact of_decide_eq_true h
theorem B7H {P:Program} {o:BinOp} {T:Nat} {l i a b:Int} {v:EV} {m:Sg} {K:Value->Prop} (h:xRg o l i b=some v) (n:l<=a) (p:a<=i) (e:∀ u,VR m v u->K u):A0w o=false/\B9K P o T .i64 a b K:=by
 cases o
 case add=>
  obtain⟨c,d⟩:=B6 h;cases d;obtain⟨g,j⟩:=Bool.and_eq_true_iff.1 c;have g:=(A9q g).1;have j:=(A9q j).2;have g : -9223372036854775808<=l+b:=g;have j:i+b<=9223372036854775807:=j;refine⟨rfl,e _ ⟨a+b,?_,?_,?_⟩⟩
  ·rw [yh (a+b) ⟨by omega,by omega⟩]
  ·show l+b<=a+b;omega
  ·show a+b<=i+b;omega
 case rem=>
  obtain⟨c,d⟩:=B6 h;cases d;have c:=A5q c;have g:(a.tmod b).natAbs=a.natAbs % b.natAbs:=Int.natAbs_tmod a b;have j:a.natAbs % b.natAbs<b.natAbs:=Nat.mod_lt _ (by omega);refine⟨rfl,by omega,e _ ⟨a.tmod b,rfl,?_,?_⟩⟩
  ·cases k:leI 0 l with
   | true=>
    show (0:Int)<=_;exact Int.tmod_nonneg b (by have:=A5q k;omega)
   | false=>show (1-b:Int)<=_;omega
  ·show _<=(b-1:Int);omega
 case and=>
  obtain⟨c,d⟩:=B6 h;cases d;rw [Bool.or_eq_true,A3o,A3o,beq_iff_eq,beq_iff_eq] at c;refine⟨rfl,e _ ⟨_,rfl,?_,?_⟩⟩
  ·obtain rfl|rfl:=c
   ·rw [C0E];omega
   ·rw [C0F];omega
  ·obtain rfl|rfl:=c
   ·rw [C0E];omega
   ·rw [C0F];omega
 case lss=>
  refine⟨rfl,?_⟩;show K (.bool (decide (a<b)));replace h:cond (not (leI b i)) (some (lit (.bool true))) (cond (leI b l) (some (lit (.bool false))) none)=some v:=h;cases f:leI b i with
  | false=>
   rw [f] at h;cases h;have:=B30 (show (!leI b i)=true by rw [f];rfl);rw [zz (by omega)];exact e _ rfl
  | true=>
   rw [f] at h;obtain⟨c,d⟩:=B6 (show cond (leI b l) (some (lit (.bool false))) none=some v from h);cases d;have:=A5q c;rw [y8 (by omega)];exact e _ rfl
 case gtr=>
  refine⟨rfl,?_⟩;show K (.bool (decide (b<a)));replace h:cond (not (leI l b)) (some (lit (.bool true))) (cond (leI i b) (some (lit (.bool false))) none)=some v:=h;cases f:leI l b with
  | false=>
   rw [f] at h;cases h;have:=B30 (show (!leI l b)=true by rw [f];rfl);rw [zz (by omega)];exact e _ rfl
  | true=>
   rw [f] at h;obtain⟨c,d⟩:=B6 (show cond (leI i b) (some (lit (.bool false))) none=some v from h);cases d;have:=A5q c;rw [y8 (by omega)];exact e _ rfl
 all_goals cases h
def C0n (P:Program) (Q:Eqs P) (isB:Bool) (op:BinOp) (T:Nat) (ox oy:Operand) (x y:EV):Option EV:=
 match x,y with
 | .o (.l (.int k a)),.o (.l (.int k' b))=>(cond (A0w op) (B3v op k a b) (cond (K7 k k') (C1v op k a b) none)).map lit
 | .o (.rg k lo hi),.o (.l (.int k' b))=>cond (K7 k .i64&&K7 k' .i64) (xRg op lo hi b) none
 | .o (.l (.int k b)),.o (.rg k' lo hi)=>cond (K7 k .i64&&K7 k' .i64) (match op with
  | .add=>xRg .add lo hi b
  | _=>none) none
 | .o (.l (.string a)),.o (.l (.string b))=>(C1w op a b).map lit
 | .o (.l (.bool a)),.o (.l (.bool b))=>cond isB (match op with
  | .eql=>some (lit (.bool (a==b)))
  | .neq=>some (lit (.bool (!(a==b))))
  | _=>none) none
 | .o (.p N o),.o (.l (.pointer none))=>cond (A8b P T) (eqv op false) none
 | .o (.l (.pointer none)),.o (.l (.pointer none))=>cond (A8b P T) (eqv op true) none
 | .o (.p N o),.o (.p M o')=>cond (Nat.beq N M&&Nat.beq o o'&&A8b P T) (eqv op true) none
 | .o (.s N o n c),.o (.l (.slice none n' c'))=>cond (B7G P T) (eqv op false) none
 | .o (.l (.slice none n c)),.o (.l (.slice none n' c'))=>cond (B7G P T) (eqv op true) none
 | .o (.l .nilIface),.o (.l .nilIface)=>cond (C1M P T&&(isC ox||isC oy)) (eqv op true) none
 | .o (.l (.complex .f64 a b)),.o (.l (.complex .f64 c d))=>eqv op ((FloatKind.f64.format.order a c==some .eq)&&(FloatKind.f64.format.order b d==some .eq))
 | .a xs,.a ys=>match Q.eq T xs ys with
  | some r=>eqv op r
  | none=>none
 | _,_=>none
theorem B8l {P:Program} {Q:Eqs P} {B:Bool} {o:BinOp} {T:Nat} {A C:Operand} {G H:EV} {F:EV} (h:C0n P Q B o T A C G H=some F) {p:Sg} {u E:Value} (x:VR p G u) (y:VR p H E) {K:Value->Prop} (d:∀ u,VR p F u->K u):C0i P B o T A C u E K:=by
 unfold C0n at h;split at h
 ·cases x;cases y;rename_i k a f e;rw [Option.map_eq_some_iff] at h;obtain⟨N,h,rfl⟩:=h;show cond (A0w o) (A6D P o T k f a e K) (cond (K7 k f) (B9K P o T k a e K) False);cases v:A0w o with
  | true=>rw [v] at h;exact B3w h (d _ rfl)
  | false=>
   rw [v] at h;obtain⟨b,c⟩:=B6 h;rw [b];exact B8h c (d _ rfl)
 ·obtain⟨a,rfl,r,s⟩:=x;cases y;obtain⟨b,c⟩:=B6 h;obtain⟨l,m⟩:=Bool.and_eq_true_iff.1 b;rename_i k M L f e;have g:k=.i64:=by cases k<;>first | rfl | cases l
  have i:f=.i64:=by cases f<;>first | rfl | cases m
  subst g;subst i;obtain⟨z,n⟩:=B7H (P:=P) (T:=T) c r s d;show cond (A0w o) (A6D P o T .i64 .i64 a e K) (cond (K7 .i64 .i64) (B9K P o T .i64 a e K) False);rw [z];exact n
 ·obtain⟨a,rfl,r,s⟩:=y;cases x;obtain⟨b,c⟩:=B6 h;obtain⟨l,m⟩:=Bool.and_eq_true_iff.1 b;rename_i k e f M L;have g:k=.i64:=by cases k<;>first | rfl | cases l
  have i:f=.i64:=by cases f<;>first | rfl | cases m
  subst g;subst i;split at c
  ·obtain⟨z,n⟩:=B7H (P:=P) (T:=T) c r s d;have n:K (.int .i64 (IntKind.i64.wrap (a+e))):=n;show K (.int .i64 (IntKind.i64.wrap (e+a)));rw [Int.add_comm e a];exact n
  ·cases c
 ·cases x;cases y;rw [Option.map_eq_some_iff] at h;obtain⟨N,h,rfl⟩:=h;exact B8i h (d _ rfl)
 ·cases x;cases y;obtain⟨b,c⟩:=B6 h;subst b;cases o
  case eql=>cases c;exact d _ rfl
  case neq=>cases c;exact d _ rfl
  all_goals cases c
 ·obtain⟨q,_,rfl⟩:=x;cases y;obtain⟨b,c⟩:=B6 h;exact A2O c (A9p b _) d
 ·cases x;cases y;obtain⟨b,c⟩:=B6 h;exact A2O c (A9p b _) d
 ·obtain⟨q,j,rfl⟩:=x;obtain⟨D,t,rfl⟩:=y;obtain⟨b,c⟩:=B6 h;rw [z7,z7] at b;obtain⟨⟨b,I⟩,J⟩:=b;have g:=z8 b;have i:=z8 I;have j:p _=some q:=j;rw [g] at j;rw [show p _=some D from t] at j;cases j;rw [i];exact A2O c (B3y J _) d
 ·obtain⟨q,a,O,_,_,rfl⟩:=x;cases y;obtain⟨b,c⟩:=B6 h;exact A2O c (B3z b _ _ _ _ _) d
 ·cases x;cases y;obtain⟨b,c⟩:=B6 h;exact A2O c (B3z b _ _ _ _ _) d
 ·cases x;cases y;obtain⟨b,c⟩:=B6 h;rw [z7] at b;exact A2O c (B8j b.1 b.2) d
 ·cases x;cases y;exact A2O h (B8k _ _ _ _) d
 ·obtain⟨R,l,rfl⟩:=x;obtain⟨S,m,rfl⟩:=y;split at h
  ·rename_i D t;exact A2O h (fun w=>Q.ok _ _ _ _ t _ _ _ l m _ _ w) d
  ·cases h
 ·cases h
end Go.Vx
end
section
namespace Go.Vx
open Go Go.Vc Go.RowKit
def C0o (x:EB):Bool:=match x with
 | .l v=>v.oneCell'
 | _=>true
theorem A7L {v:Value} (h:v.oneCell'=true):v.cells=#[v]:=by cases v<;>first | rfl | cases h
theorem B31 {b:Sg} {x:EB} {u:Value} (h:C0o x=true) (k:BR b x u):u.oneCell'=true:=by
 cases x with
 | l v=>cases k;exact h
 | p N o=>obtain⟨q,_,rfl⟩:=k;rfl
 | s N o n c=>obtain⟨q,a,e,_,_,rfl⟩:=k;rfl
 | m N=>obtain⟨q,_,rfl⟩:=k;rfl
 | f i g=>obtain⟨t,_,rfl⟩:=k;rfl
 | rg k r j=>obtain⟨a,rfl,_⟩:=k;rfl
 | bo=>obtain⟨d,rfl⟩:=k;rfl
def B7I (xs:List EB):Bool:=List.rec (motive:=fun _=>Bool) true (fun x _ ih=>and (C0o x) ih) xs
theorem A8c {b:Sg}:∀ {s:List EB} {u:List Value},B7I s=true->All2 (BR b) s u->∀ a∈u,a.oneCell'=true
 | [],[],_,_=>fun _ h=>by cases h
 | x::s,a::u,h,k=>fun v hv=>by
  have h:and (C0o x) (B7I s)=true:=h;rw [z7] at h;cases hv with
  | head=>exact B31 h.1 k.1
  | tail _ hv=>exact A8c h.2 k.2 v hv
def A4v (v:EV):Option (List EB):=match v with
 | .o x=>cond (C0o x) (some [x]) none
 | .a xs=>some xs
 | .t _=>none
theorem A3s {b:Sg} {v:EV} {x:List EB} {u:Value} (h:A4v v=some x) (k:VR b v u):All2 (BR b) x u.cells.toList:=by
 cases v with
 | o f=>
  obtain⟨c,d⟩:=B6 h;cases d;rw [A7L (B31 c k)];exact⟨k,t6⟩
 | a y=>
  cases h;obtain⟨s,e,rfl⟩:=k;exact e
 | t y=>cases h
def A7M (F:Tr EV) (d:Nat) (o:Option Operand):Option Int:=match o with
 | none=>some d
 | some x=>match xEv F x with
  | some (.o (.l (.int _ n)))=>some n
  | _=>none
section
variable {σ:Sg} {F:Tr EV} {f:Fr}
theorem Z3 (a:FR σ F f) {d:Nat} {o:Option Operand} {n:Int} (h:A7M F d o=some n):H7 f d o=some n:=by
 cases o with
 | none=>exact h
 | some x=>
  unfold A7M at h;simp only at h;split at h
  ·rename_i b;cases h;have e:ev f x=.int _ _:=C8 a b;show (match ev f x with | .int _ n=>some n | _=>none)=_;rw [e]
  ·cases h
end
def xPs (F:Tr EV) (l:List (Nat × Operand)):Option (List (Nat × List EB)):=
 List.rec (motive:=fun _=>Option (List (Nat × List EB))) (some []) (fun p _ ih=>match xEv F p.2 with
  | some v=>match A4v v with
   | some xs=>match ih with
    | some r=>some ((p.1,xs)::r)
    | none=>none
   | none=>none
  | none=>none) l
def PsR (σ:Sg) (x:Nat × List EB) (p:Nat × Value):Prop:=p.1=x.1/\All2 (BR σ) x.2 p.2.cells.toList
theorem B32 {b:Sg} {F:Tr EV} {f:Fr} (a:FR b F f):∀ {l:List (Nat × Operand)} {ys:List (Nat × List EB)},xPs F l=some ys->All2 (PsR b) ys (l.map fun p=>(p.1,ev f p.2))
 | [],_,h=>by cases h;trivial
 | p::l,ys,h=>by
  have h:(match xEv F p.2 with
   | some v=>match A4v v with
    | some x=>match xPs F l with
     | some r=>some ((p.1,x)::r)
     | none=>none
    | none=>none
   | none=>none)=some ys:=h
  split at h
  ·rename_i v hv;split at h
   ·rename_i x s;split at h
    ·rename_i r c;cases h;exact⟨⟨rfl,A3s s (C8 a hv)⟩,B32 a c⟩
    ·cases h
   ·cases h
  ·cases h
def A9r (fs:List (Nat × Nat × Bool)) (l:List (Nat × List EB)):List EB->Option (List EB):=
 List.rec (motive:=fun _=>List EB->Option (List EB)) (fun xs=>some xs) (fun p _ ih xs=>match fs[p.1]? with
  | some (off,size,_)=>cond (Nat.beq p.2.length size&&Nat.ble (Nat.add off size) xs.length) (ih (A9o xs off p.2)) none
  | none=>none) l
theorem A7N {a:Sg} {f:List (Nat × Nat × Bool)}:∀ {l:List (Nat × List EB)} {s:List (Nat × Value)} {x ys:List EB} {c:List Value},A9r f l x=some ys->All2 (PsR a) l s->All2 (BR a) x c->∃ d,A6E f c s=some d/\All2 (BR a) ys d
 | [],[],_,_,c,h,_,k=>by cases h;exact⟨c,rfl,k⟩
 | p::l,(i,v)::s,x,ys,c,h,hp,k=>by
  obtain⟨⟨b,e⟩,m⟩:=hp;have b:i=p.1:=b;subst b;have e:All2 (BR a) p.2 v.cells.toList:=e;have h:(match f[p.1]? with
   | some (o,size,_)=>cond (Nat.beq p.2.length size&&Nat.ble (Nat.add o size) x.length) (A9r f l (A9o x o p.2)) none
   | none=>none)=some ys:=h
  unfold A6E;split at h
  ·rename_i o size q n;obtain⟨g,j⟩:=B6 h;rw [n];simp only;rw [show v.cells.size=p.2.length from by rw [<-Array.length_toList];exact e.len,show c.length=x.length from k.len,show (Nat.beq p.2.length size&&Nat.ble (o+size) x.length)=true from g];exact A7N j m (A3p o k e)
  ·cases h
def A4w (esz:Nat) (l:List (Nat × List EB)):List EB->Option (List EB):=
 List.rec (motive:=fun _=>List EB->Option (List EB)) (fun xs=>some xs) (fun p _ ih xs=>
  cond (Nat.beq p.2.length esz&&Nat.ble (Nat.add (Nat.mul p.1 esz) esz) xs.length) (ih (A9o xs (Nat.mul p.1 esz) p.2)) none) l
theorem A3t {σ:Sg} {e:Nat}:∀ {l:List (Nat × List EB)} {s:List (Nat × Value)} {x ys:List EB} {c:List Value},A4w e l x=some ys->All2 (PsR σ) l s->All2 (BR σ) x c->∃ d,A0l e c s=some d/\All2 (BR σ) ys d
 | [],[],_,_,c,h,_,k=>by cases h;exact⟨c,rfl,k⟩
 | p::l,(i,v)::s,x,ys,c,h,hp,k=>by obtain⟨⟨b,a⟩,j⟩:=hp;have b:i=p.1:=b;subst b;have a:All2 (BR σ) p.2 v.cells.toList:=a;have h:cond (Nat.beq p.2.length e&&Nat.ble (Nat.add (Nat.mul p.1 e) e) x.length) (A4w e l (A9o x (Nat.mul p.1 e) p.2)) none=some ys:=h;obtain⟨f,g⟩:=B6 h;unfold A0l;rw [show v.cells.size=p.2.length from by rw [<-Array.length_toList];exact a.len,show c.length=x.length from k.len,show (Nat.beq p.2.length e&&Nat.ble (p.1*e+e) x.length)=true from f];exact A3t g j (A3p _ k a)
theorem A0X (a:Sg) (z:List Value):All2 (BR a) (z.map EB.l) z:=by have:=All2.map (R:=BR a) EB.l id (fun _=>rfl) z;rwa [List.map_id] at this
theorem eqI_iff {a b:Int} (h:eqI a b=true):a=b:=by rw [A3o] at h;exact beq_iff_eq.1 h
theorem O7 {a b:Int} (h:leI a b=true):a<=b:=by rw [U4] at h;exact of_decide_eq_true h
def C1x (N o n:Nat) (c:EC) (esz:Nat) (l h:Int):Option EB:=match c with
 | .k c=>cond (leI h c) (cond (eqI l c) (some (.s N o 0 (.k 0))) (some (.s N (Nat.add o (Nat.mul l.toNat esz)) (Int.sub h l).toNat (.k (Nat.sub c l.toNat))))) none
 | .j d b=>cond (leI h b) (cond (eqI l b) (some (.s N (Nat.add o (Nat.mul l.toNat esz)) 0 (.z (Nat.add d b)))) (some (.s N (Nat.add o (Nat.mul l.toNat esz)) (Int.sub h l).toNat (.j (Nat.add d l.toNat) (Nat.sub b l.toNat))))) none
 | .z d=>cond (eqI h 0) (some (.s N o 0 (.z d))) none
def C1y (N o:Nat) (c:EC) (esz:Nat) (l h m:Int):Option EB:=cond (leI h m) (match c with
 | .z d=>cond (eqI m 0) (some (.s N o 0 (.z d))) none
 | .k c=>cond (leI m c) (cond (eqI l m) (some (.s N o 0 (.k 0))) (some (.s N (Nat.add o (Nat.mul l.toNat esz)) (Int.sub h l).toNat (.k (Int.sub m l).toNat)))) none
 | .j _ c=>cond (leI m c) (cond (eqI l m) (some (.s N o 0 (.k 0))) (some (.s N (Nat.add o (Nat.mul l.toNat esz)) (Int.sub h l).toNat (.k (Int.sub m l).toNat)))) none) none
def xSl (x:EB) (esz:Nat) (l h:Int) (m:Option Int):Option EB:=
 cond (leI 0 l&&leI l h) (match x with
  | .l (.slice none n c)=>cond (eqI h 0&&Nat.beq c 0&&eqI (m.getD 0) 0) (some (.l (.slice none 0 0))) none
  | .s N o n c=>match m with
   | none=>C1x N o n c esz l h
   | some m=>C1y N o c esz l h m
  | _=>none) none
section
variable {σ:Sg} {K:Value->Prop} {N o n cap esz:Nat} {c:EC} {y:EB} {a:Option Addr} {l h:Int}
theorem B8m (t:0<=l) (u:l<=h) (e:C1x N o n c esz l h=some y) (A:BR σ (.s N o n c) (.slice a n cap)) (i:∀ w,BR σ y w->K w):K8 a cap esz (some l) (some h) (some (cap:Int)) K:=by
 obtain⟨q,b,C,m,g,B⟩:=A;cases B;cases c with
 | k c=>
  obtain⟨p,g,s⟩:=g;obtain⟨f,e⟩:=B6 e;have f:=O7 f;subst g;subst p;refine⟨⟨t,u,f,Int.le_refl _⟩,?_⟩;cases d:eqI l cap with
  | true=>
   rw [d] at e;cases e;have d:=eqI_iff d;rw [yn d.symm,show (h-l).toNat=0 by omega,show ((cap:Int)-l).toNat=0 by omega];exact i _ ⟨q,_,0,m,⟨rfl,rfl,zc _⟩,rfl⟩
  | false=>
   rw [d] at e;cases e;have d:=A7K d;rw [yo (fun e=>d e.symm)];refine i _ ⟨q,_,_,m,⟨rfl,rfl,?_⟩,?_⟩
   ·show (h-l).toNat<=cap-l.toNat;omega
   ·rw [Option.map_some,yi,show ((cap:Int)-l).toNat=cap-l.toNat by omega,Nat.add_assoc];rfl
 | j r b=>
  obtain⟨p,g,s,D⟩:=g;obtain⟨f,e⟩:=B6 e;have f:=O7 f;subst p;refine⟨⟨t,u,by omega,Int.le_refl _⟩,?_⟩;cases d:eqI l b with
  | true=>
   rw [d] at e;cases e;have d:=eqI_iff d;rw [show (h-l).toNat=0 by omega];by_cases v:(cap:Int)=l
   ·rw [yn v,show ((cap:Int)-l).toNat=0 by omega];exact i _ ⟨q,_,0,m,⟨rfl,rfl,.inl rfl⟩,rfl⟩
   ·rw [yo v];refine i _ ⟨q,_,_,m,⟨rfl,?_,.inr ⟨?_,?_⟩⟩,rfl⟩
    ·show ((⟨q.b,q.o+o,none⟩:Addr).add (l.toNat*esz)).spot=none;rw [yi]
    ·show ((⟨q.b,q.o+o,none⟩:Addr).add (l.toNat*esz))=_;rw [yi,Nat.add_assoc];rfl
    ·show ((cap:Int)-l).toNat+(r+b)=q.c;omega
  | false=>
   rw [d] at e;cases e;have d:=A7K d;rw [yo (by omega)];refine i _ ⟨q,_,_,m,⟨?_,?_,?_,?_⟩,rfl⟩
   ·show ((⟨q.b,q.o+o,none⟩:Addr).add (l.toNat*esz))=_;rw [yi,Nat.add_assoc];rfl
   ·show ((cap:Int)-l).toNat+(r+l.toNat)=q.c;omega
   ·show (h-l).toNat<=b-l.toNat;omega
   ·show b-l.toNat<=((cap:Int)-l).toNat;omega
 | z r=>
  obtain⟨p,g,s⟩:=g;obtain⟨f,e⟩:=B6 e;have f:=eqI_iff f;cases e;subst p;obtain rfl:l=0:=by omega
  subst f;refine⟨⟨by omega,by omega,by omega,Int.le_refl _⟩,?_⟩;have x:∀ b:Addr,b.add ((0:Int).toNat*esz)=b:=fun b=>by rw [show (0:Int).toNat=0 from rfl,Nat.zero_mul];rfl
  rw [Option.map_some,x,ite_self,show ((cap:Int)-0).toNat=cap by omega];exact i _ ⟨q,_,cap,m,⟨rfl,g,s⟩,rfl⟩
theorem B8n {m:Int} (v:0<=l) (w:l<=h) (e:C1y N o c esz l h m=some y) (B:BR σ (.s N o n c) (.slice a n cap)) (g:∀ u,BR σ y u->K u):K8 a cap esz (some l) (some h) (some m) K:=by
 obtain⟨q,p,D,i,d,C⟩:=B;cases C;obtain⟨t,e⟩:=B6 e;have x:=O7 t;have r:∀ (c:Nat),c<=cap->p=⟨q.b,q.o+o,none⟩->cond (leI m c) (cond (eqI l m) (some (EB.s N o 0 (.k 0))) (some (.s N (Nat.add o (Nat.mul l.toNat esz)) (Int.sub h l).toNat (.k (Int.sub m l).toNat)))) none=some y->K8 (some p) cap esz (some l) (some h) (some m) K:=fun c F A e=>by
  obtain⟨f,e⟩:=B6 e;have E:=O7 f;refine⟨⟨v,w,x,by omega⟩,?_⟩;subst A;cases b:eqI l m with
  | true=>
   rw [b] at e;cases e;have b:=eqI_iff b;rw [yn b.symm,show (h-l).toNat=0 by omega,show (m-l).toNat=0 by omega];exact g _ ⟨q,_,0,i,⟨rfl,rfl,zc _⟩,rfl⟩
  | false=>
   rw [b] at e;cases e;have b:=A7K b;rw [yo (fun e=>b e.symm)];refine g _ ⟨q,_,_,i,⟨?_,rfl,?_⟩,rfl⟩
   ·show ((⟨q.b,q.o+o,none⟩:Addr).add (l.toNat*esz))=_;rw [yi,Nat.add_assoc];rfl
   ·show (h-l).toNat<=(m-l).toNat;omega
 cases c with
 | k c=>exact r c (by rw [d.2.1];exact zc _) d.1 e
 | j s c=>exact r c d.2.2.2 d.1 e
 | z s=>
  obtain⟨f,e⟩:=B6 e;obtain rfl:=eqI_iff f;cases e;obtain rfl:l=0:=by omega
  obtain rfl:h=0:=by omega
  refine⟨⟨by omega,by omega,by omega,by omega⟩,?_⟩;rw [yn rfl];exact g _ ⟨q,_,0,i,⟨rfl,d.2.1,.inl rfl⟩,rfl⟩
theorem B33 {i:EB} {m:Option Int} (r:xSl i esz l h m=some y) (x:BR σ i (.slice a n cap)) (g:∀ u,BR σ y u->K u):K8 a cap esz (some l) (some h) (some (m.getD cap)) K:=by
 obtain⟨d,e⟩:=B6 r;rw [z7] at d;have h0:=O7 d.1;have j:=O7 d.2;cases i with
 | l L=>
  cases x;cases a with
  | some a=>cases e
  | none=>
   obtain⟨b,t⟩:=B6 e;rw [z7,z7] at b;have v:=eqI_iff b.1.1;have w:=z8 b.1.2;have z:m.getD 0=0:=eqI_iff b.2;cases t;obtain rfl:l=0:=by omega
   subst v;subst w;have A:m.getD ((0:Nat):Int)=0:=z;rw [A];exact⟨⟨by omega,by omega,by omega,by omega⟩,g _ rfl⟩
 | s N o n' c=>
  obtain rfl:n'=n:=by obtain⟨q,C,D,H,I,B⟩:=x;cases B;rfl
  cases m with
  | none=>exact B8m h0 j e x g
  | some m=>exact B8n h0 j e x g
 | p N o=>cases e
 | m N=>cases e
 | f F E=>cases e
 | rg k J G=>cases e
 | bo=>cases e
end
end Go.Vx
end
section
namespace Go.Vx
open Go Go.Vc Go.RowKit
def C1N (d:TD) (x:EV):Option EV:=match d,x with
 | .str,.o (.l (.string s))=>some (lit (.int .i64 (Int.ofNat s.data.toList.length)))
 | .slice _ _,.o (.l (.slice none n _))=>some (lit (.int .i64 (Int.ofNat n)))
 | .slice _ _,.o (.s _ _ n _)=>some (lit (.int .i64 (Int.ofNat n)))
 | .array n _ _ _,_=>some (lit (.int .i64 (Int.ofNat n)))
 | _,_=>none
theorem B8o {P:Program} {d:TD} {x v:EV} {e:Sg} {u:Value} {t T:Nat} {K:Value->Prop} (h:C1N d x=some v) (c:VR e x u) (b:∀ u,VR e v u->K u):(match (generalizing:=false) d,u with
  | .str,.string s=>K (.int .i64 s.size)
  | .slice ..,.slice _ n _=>K (.int .i64 n)
  | .array n ..,_=>K (.int .i64 n)
  | _,x=>Pure P (Builtin.len_ #[t] T #[x]) K:Prop):=by
 unfold C1N at h;split at h
 ·cases c;cases h;exact b _ rfl
 ·cases c;cases h;exact b _ rfl
 ·obtain⟨q,a,p,_,_,rfl⟩:=c;cases h;exact b _ rfl
 ·cases h;exact b _ rfl
 ·cases h
def A3u (L:Lay) (b:Builtin) (ats:List Nat) (xs:List EV):Option EV:=
 match b,ats,xs with
 | .len,[t],[x]=>C1N (L.ty t) x
 | .min,_,[.o (.l (.int k x)),.o (.l (.int _ y))]=>some (lit (.int k (cond (leI x y) x y)))
 | .max,_,[.o (.l (.int k x)),.o (.l (.int _ y))]=>some (lit (.int k (cond (leI y x) x y)))
 | .real,_,[.o (.l (.complex k re _))]=>some (lit (.float k re))
 | .imag,_,[.o (.l (.complex k _ im))]=>some (lit (.float k im))
 | .complex,_,[.o (.l (.float .f64 re)),.o (.l (.float .f64 im))]=>some (lit (.complex .f64 re im))
 | _,_,_=>none
def B9P (F:Tr EV) (l:List Operand):Option (List EV):=
 List.rec (motive:=fun _=>Option (List EV)) (some []) (fun x _ ih=>match xEv F x with
  | some v=>match ih with
   | some r=>some (v::r)
   | none=>none
  | none=>none) l
theorem A3v {b:Sg} {F:Tr EV} {f:Fr} (a:FR b F f):∀ {l:List Operand} {ys:List EV},B9P F l=some ys->All2 (VR b) ys (l.map (ev f))
 | [],_,h=>by cases h;trivial
 | p::l,ys,h=>by
  replace h:(match xEv F p with
   | some v=>match B9P F l with
    | some r=>some (v::r)
    | none=>none
   | none=>none)=some ys:=h
  split at h
  ·rename_i v hv;split at h
   ·rename_i r c;cases h;exact⟨C8 a hv,A3v a c⟩
   ·cases h
  ·cases h
def C0p (F:Tr EV) (l:List Operand):Option (List (Nat × Nat)):=
 List.rec (motive:=fun _=>Option (List (Nat × Nat))) (some []) (fun x _ ih=>match xEv F x with
  | some (.o (.p N o))=>match ih with
   | some r=>some ((N,o)::r)
   | none=>none
  | _=>none) l
theorem B34 {b:Sg} {F:Tr EV} {f:Fr} (a:FR b F f):∀ {l:List Operand} {ys:List (Nat × Nat)},C0p F l=some ys->All2 (PR b) ys (l.map (ev f))
 | [],_,h=>by cases h;trivial
 | p::l,ys,h=>by
  replace h:(match xEv F p with
   | some (.o (.p N o))=>match C0p F l with
    | some r=>some ((N,o)::r)
    | none=>none
   | _=>none)=some ys:=h
  split at h
  ·rename_i N o hv;split at h
   ·rename_i r c;cases h;exact⟨C8 a hv,B34 a c⟩
   ·cases h
  ·cases h
section
variable {P:Program} {L:Lay} {Q:Eqs P} {σ:Sg} {F:Tr EV} {f:Fr} {T:Nat} {K:Value->Prop}
theorem All2.one {a b:Type} {R:a->b->Prop} {x:a} {s:List b} (h:All2 R [x] s):∃ u,s=[u]/\R x u:=by
 match s,h with
 | [u],h=>exact⟨u,rfl,h.1⟩
theorem All2.two {a b:Type} {R:a->b->Prop} {x y:a} {s:List b} (h:All2 R [x,y] s):∃ u u',s=[u,u']/\R x u/\R y u':=by
 match s,h with
 | [u,u'],h=>exact⟨u,u',rfl,h.1,h.2.1⟩
theorem A7O {g:Builtin} {a:List Nat} {j:List EV} {s:List Value} {v:EV} {cs:Array Bool} (d:A3u L g a j=some v) (h:All2 (VR σ) j s) (f:∀ u,VR σ v u->K u):cond (P7 g) (A2A P L g a.toArray T cs s K) False:=by
 unfold A3u at d;split at d
 ·rename_i t x;obtain⟨u,rfl,b⟩:=h.one;show A2A P L .len [t].toArray T cs [u] K;exact B8o d b f
 ·rename_i a k x m y;obtain⟨u,i,rfl,h,b⟩:=h.two;cases h;cases b;cases d;have e:(if y<x then y else x)=cond (leI x y) x y:=by
   rw [U4];by_cases c:x<=y
   ·rw [zz c,yo (by omega)];rfl
   ·rw [y8 c,yn (by omega)];rfl
  have:K (.int k (if y<x then y else x)):=by rw [e];exact f _ rfl
  cases l:a.toArray.toList<;>exact this
 ·rename_i a k x m y;obtain⟨u,i,rfl,h,b⟩:=h.two;cases h;cases b;cases d;have e:(if y > x then y else x)=cond (leI y x) x y:=by
   rw [U4];by_cases c:y<=x
   ·rw [zz c,yo (by omega)];rfl
   ·rw [y8 c,yn (by omega)];rfl
  have:K (.int k (if y > x then y else x)):=by rw [e];exact f _ rfl
  cases l:a.toArray.toList<;>exact this
 ·rename_i a k re im;obtain⟨u,rfl,b⟩:=h.one;have e:u=.complex k re im:=b;subst e;cases d;have:K (.float k re):=f _ rfl;cases l:a.toArray.toList<;>exact this
 ·rename_i a k re im;obtain⟨u,rfl,b⟩:=h.one;have e:u=.complex k re im:=b;subst e;cases d;have:K (.float k im):=f _ rfl;cases l:a.toArray.toList<;>exact this
 ·rename_i a re im;obtain⟨u,i,rfl,h,b⟩:=h.two;cases h;cases b;cases d;have:K (.complex .f64 re im):=f _ rfl;cases l:a.toArray.toList<;>exact this
 ·cases d
end
theorem B35 (s:ByteArray) (a b:Nat):s.extract a b=bytes ((s.data.toList.drop a).take (Nat.sub b a)):=by apply ByteArray.ext;apply Array.ext';simp [bytes,ByteArray.data_extract]
def C0q (x:EB):Option Nat:=match x with
 | .l (.slice _ n _)=>some n
 | .s _ _ n _=>some n
 | _=>none
theorem B8p {b:Sg} {x:EB} {n:Nat} {u:Value} (h:C0q x=some n) (k:BR b x u):∃ a cap,u=.slice a n cap:=by
 unfold C0q at h;split at h
 ·cases h;cases k;exact⟨_,_,rfl⟩
 ·cases h;obtain⟨q,a,c,_,_,rfl⟩:=k;exact⟨_,_,rfl⟩
 ·cases h
def C0r (F:Tr EV) (x:EB) (esz n:Nat) (lo hi mx:Option Operand):Option EV:=match mx with
 | none=>match A7M F 0 lo,A7M F n hi with
  | some l,some h=>(xSl x esz l h none).map .o
  | _,_=>none
 | some m=>match lo,hi with
  | some lo,some hi=>match A7M F 0 (some lo),A7M F 0 (some hi),A7M F 0 (some m) with
   | some l,some h,some m=>(xSl x esz l h (some m)).map .o
   | _,_,_=>none
  | _,_=>none
theorem A9s {F:Tr EV} {d d':Nat} {x:Operand}:A7M F d (some x)=A7M F d' (some x):=rfl
theorem B8q {j:Sg} {p:Tr EV} {f:Fr} {K:Value->Prop} (F:FR j p f) {t:EB} {v:EV} {e n c:Nat} {b:Option Addr} {o i x:Option Operand} (h:C0r p t e n o i x=some v) (s:BR j t (.slice b n c)) (q:∀ u,VR j v u->K u):(match (generalizing:=false) x with
  | none=>K8 b c e (H7 f 0 o) (H7 f n i) (some c) K
  | some m=>match (generalizing:=false) o,i with
   | some l,some h=>K8 b c e (H7 f 0 (some l)) (H7 f n (some h)) (H7 f c (some m)) K
   | _,_=>False:Prop):=by
 unfold C0r at h;cases x with
 | none=>
  simp only at h ⊢;split at h
  ·rename_i l m g a;rw [Z3 F g,Z3 F a];rw [Option.map_eq_some_iff] at h;obtain⟨y,d,rfl⟩:=h;exact B33 d s q
  ·cases h
 | some m=>
  cases o with
  | none=>cases h
  | some o=>
   cases i with
   | none=>cases h
   | some i=>
    simp only at h ⊢;split at h
    ·rename_i l w k g a r;rw [A9s (d':=n)] at a;rw [A9s (d':=c)] at r;rw [Z3 F g,Z3 F a,Z3 F r];rw [Option.map_eq_some_iff] at h;obtain⟨y,d,rfl⟩:=h;exact B33 d s q
    ·cases h
def C0s (P:Program) (t:Nat) (xs:List EB) (n:Int):Option EV:=match P.underlying t with
 | some (.array len e)=>match P.info? e with
  | some i=>cond (P.plainKey e&&Nat.beq i.size 1&&leI 0 n&&not (leI len n)) (match xs[n.toNat]? with
   | some x=>some (.o x)
   | none=>none) none
  | none=>none
 | _=>none
theorem B8r {P:Program} {t:Nat} {xs:List EB} {n:Int} {v:EV} {e:Sg} {u:Value} {k:IntKind} {K:Value->Prop} (h:C0s P t xs n=some v) (y:VR e (.a xs) u) (j:∀ u,VR e v u->K u):Pure P (Instr.index t u (.int k n)) K:=by
 unfold C0s at h;split at h
 ·rename_i len A r;split at h
  ·rename_i C o;obtain⟨d,a⟩:=B6 h;simp only [z7,Bool.not_eq_true'] at d;obtain⟨⟨⟨f,g⟩,i⟩,b⟩:=d;split at a
   ·rename_i D z;cases a;obtain⟨s,l,rfl⟩:=y;obtain⟨c,m,x⟩:=l.get z;have q:=z8 g;have h0:=O7 i;have B:¬ (len:Int)<=n:=by rw [U4] at b;exact of_decide_eq_false b
    refine⟨c,fun w=>?_,j c x⟩;have p:=run_part_plain (w:=w) f (xs:=s.toArray) (off:=n.toNat) (v:=c) (by simpa using m);unfold Instr.index;simp only [yf,asIntOf,yg,ye,run_underlying r];rw [yn ⟨h0,by omega⟩];simp only [yf,sizeOf,typeInfo,run_program,o,yg,ye,q,Nat.mul_one];exact p
   ·cases a
  ·cases h
 ·cases h
def B8s (P:Program) (L:Lay) (Q:Eqs P) (T:Nat) (F:Tr EV) (c:Operand) (x:Operand) (y:Operand):Option EV:=match xEv F c with
  | some (.o (.l (.bool b)))=>Bool.rec (xEv F y) (xEv F x) b
  | _=>none
def B58 (P:Program) (L:Lay) (Q:Eqs P) (T:Nat) (F:Tr EV) (op:BinOp) (t:Nat) (x:Operand) (y:Operand):Option EV:=match xEv F x with
  | some u=>match xEv F y with
   | some v=>C0n P Q (L.ty t).isBool op t x y u v
   | none=>none
  | none=>none
def B8t (P:Program) (L:Lay) (Q:Eqs P) (T:Nat) (F:Tr EV) (op:UnOp) (x:Operand):Option EV:=match op,xEv F x with
  | .not,some (.o (.l (.bool b)))=>some (lit (.bool (not b)))
  | .neg,some (.o (.l (.int k n)))=>some (lit (.int k (wr k (Int.sub 0 n))))
  | _,_=>none
def B06 (P:Program) (L:Lay) (Q:Eqs P) (T:Nat) (F:Tr EV) (s:Nat) (d:Nat) (x:Operand):Option EV:=match L.ty s,L.ty d,xEv F x with
  | .int _,.int k',some (.o (.l (.int _ n)))=>some (lit (.int k' (wr k' n)))
  | .str,.str,some (.o (.l (.string s)))=>some (lit (.string s))
  | _,_,_=>none
def A7P (P:Program) (L:Lay) (Q:Eqs P) (T:Nat) (F:Tr EV) (t:Nat) (x:Operand) (i:Nat):Option EV:=match L.ty t,xEv F x with
  | .struct fs _,some (.o (.p N o))=>match fs[i]? with
   | some (off,size,_)=>cond (Nat.beq size 0) none (some (.o (.p N (Nat.add o off))))
   | none=>none
  | _,_=>none
def B59 (P:Program) (L:Lay) (Q:Eqs P) (T:Nat) (F:Tr EV) (t:Nat) (x:Operand) (i:Nat):Option EV:=match L.ty t,xEv F x with
  | .struct fs _,some (.a xs)=>match fs[i]? with
   | some (off,size,g)=>cond g (some (.a ((xs.drop off).take size))) (match xs[off]? with
    | some x=>some (.o x)
    | none=>none)
   | none=>none
  | _,_=>none
def B6A (P:Program) (L:Lay) (Q:Eqs P) (T:Nat) (F:Tr EV) (t:Nat) (ps:Array (Nat × Operand)):Option EV:=match xPs F ps.toList with
  | some l=>match L.ty t with
   | .struct fs z=>(A9r fs l (z.map .l)).map .a
   | .array _ _ esz z=>(A4w esz l (z.map .l)).map .a
   | _=>none
  | none=>none
def B6B (P:Program) (L:Lay) (Q:Eqs P) (T:Nat) (F:Tr EV) (t:Nat) (x:Operand) (i:Operand):Option EV:=match L.ty t,xEv F x,xEv F i with
  | .str,some (.o (.l (.string s))),some (.o (.l (.int _ n)))=>cond (leI 0 n) (match s.data.toList[n.toNat]? with
   | some c=>some (lit (.int .u8 (Int.ofNat c.toNat)))
   | none=>none) none
  | _,some (.a xs),some (.o (.l (.int _ n)))=>C0s P t xs n
  | _,_,_=>none
def A7Q (P:Program) (L:Lay) (Q:Eqs P) (T:Nat) (F:Tr EV) (t:Nat) (x:Operand) (i:Operand):Option EV:=match L.ty t,xEv F x,xEv F i with
  | .slice _ esz,some (.o (.s N o len (.k _))),some (.o (.l (.int _ n)))=>cond (leI 0 n&&not (leI len n)) (some (.o (.p N (Nat.add o (Nat.mul n.toNat esz))))) none
  | .slice _ esz,some (.o (.s N o len (.j _ _))),some (.o (.l (.int _ n)))=>cond (leI 0 n&&not (leI len n)) (some (.o (.p N (Nat.add o (Nat.mul n.toNat esz))))) none
  | .array len _ esz _,some (.o (.p N o)),some (.o (.l (.int _ n)))=>cond (leI 0 n&&not (leI len n)) (some (.o (.p N (Nat.add o (Nat.mul n.toNat esz))))) none
  | _,_,_=>none
def B6C (P:Program) (L:Lay) (Q:Eqs P) (T:Nat) (F:Tr EV) (t:Nat) (x:Operand) (lo:Option Operand) (hi:Option Operand) (mx:Option Operand):Option EV:=match L.ty t,xEv F x with
  | .str,some (.o (.l (.string s)))=>match mx,A7M F 0 lo,A7M F s.data.toList.length hi with
   | none,some l,some h=>cond (leI 0 l&&leI l h&&leI h s.data.toList.length) (some (lit (.string (bytes ((s.data.toList.drop l.toNat).take (Nat.sub h.toNat l.toNat)))))) none
   | _,_,_=>none
  | .slice _ esz,some (.o x)=>match C0q x with
   | some n=>C0r F x esz n lo hi mx
   | none=>none
  | .array n _ esz _,some (.o (.p N o))=>match mx,A7M F 0 lo,A7M F n hi with
   | none,some l,some h=>(xSl (.s N o n (.k n)) esz l h none).map .o
   | _,_,_=>none
  | _,_=>none
def B07 (P:Program) (L:Lay) (Q:Eqs P) (T:Nat) (F:Tr EV) (x:Operand) (i:Nat):Option EV:=match xEv F x with
  | some (.t ys)=>match ys[i]? with
   | some (true,xs)=>some (.a xs)
   | some (false,[x])=>some (.o x)
   | _=>none
  | _=>none
def A8d (P:Program) (L:Lay) (Q:Eqs P) (T:Nat) (F:Tr EV) (fn:Fn) (fs:Array Operand) (cs:Array Operand):Option EV:=match fn,fs.toList with
  | .func g,[]=>match C0p F cs.toList with
   | some l=>some (.o (.f g l))
   | none=>none
  | _,_=>none
def A8e (P:Program) (L:Lay) (Q:Eqs P) (T:Nat) (F:Tr EV) (x:Operand):Option EV:=match xEv F x with
  | some (.o (.p N o))=>some (.o (.p N o))
  | some (.o (.f g cs))=>some (.o (.f g cs))
  | _=>none
def B8u (P:Program) (L:Lay) (Q:Eqs P) (T:Nat) (F:Tr EV) (c:Go.Call):Option EV:=match c.callee with
  | .builtin b=>match B9P F c.args.toList with
   | some xs=>A3u L b c.argTypes.toList xs
   | none=>none
  | _=>none
def xP (P:Program) (L:Lay) (Q:Eqs P) (T:Nat) (op:Op) (F:Tr EV):Option EV:=
 match op with
 | .move x=>xEv F x
 | .assign x=>xEv F x
 | .pick c x y=>B8s P L Q T F c x y
 | .binOp op t x y _=>B58 P L Q T F op t x y
 | .unOp op _ x=>B8t P L Q T F op x
 | .convert s d x=>B06 P L Q T F s d x
 | .fieldAddr t x i=>A7P P L Q T F t x i
 | .field t x i=>B59 P L Q T F t x i
 | .build t ps=>B6A P L Q T F t ps
 | .index t x i=>B6B P L Q T F t x i
 | .indexAddr t x i=>A7Q P L Q T F t x i
 | .slice t x lo hi mx=>B6C P L Q T F t x lo hi mx
 | .extract x i=>B07 P L Q T F x i
 | .makeFunc fn fs cs=>A8d P L Q T F fn fs cs
 | .nilCheck x=>A8e P L Q T F x
 | .call c=>B8u P L Q T F c
 | _=>none
section
variable {P:Program} {L:Lay} {Q:Eqs P} {σ:Sg} {F:Tr EV} {f:Fr} {T:Nat} {K:Value->Prop}
theorem C0G (g:FR σ F f) {X:Op} {v:EV} (h:xP P L Q T X F=some v) (j:∀ J,VR σ v J->K J):pOp P L T X f K:=by
 cases X
 case move x=>show V5 (ev f x) K;rw [K2];exact j _ (C8 g h)
 case assign x=>show V5 (ev f x) K;rw [K2];exact j _ (C8 g h)
 case pick c x y=>
  replace h:(match xEv F c with
   | some (.o (.l (.bool b)))=>(Bool.rec (xEv F y) (xEv F x) b:Option EV)
   | _=>none)=some v:=h
  split at h
  ·rename_i b e;have p:ev f c=.bool b:=C8 g e;show (match ev f c with
    | .bool b=>Bool.rec (motive:=fun _=>Prop) (V5 (ev f y) K) (V5 (ev f x) K) b
    | _=>False)
   rw [p,K2,K2];cases b
   ·exact j _ (C8 g h)
   ·exact j _ (C8 g h)
  ·cases h
 case binOp X t x y yt=>
  replace h:(match xEv F x with
   | some J=>match xEv F y with
    | some v=>C0n P Q (L.ty t).isBool X t x y J v
    | none=>none
   | none=>none)=some v:=h
  split at h
  ·rename_i J W;split at h
   ·rename_i u' a4;exact B8l h (C8 g W) (C8 g a4) j
   ·cases h
  ·cases h
 case unOp X t x=>
  replace h:(match (generalizing:=false) X,xEv F x with
   | .not,some (.o (.l (.bool b)))=>some (lit (.bool (not b)))
   | .neg,some (.o (.l (.int k n)))=>some (lit (.int k (wr k (Int.sub 0 n))))
   | _,_=>none)=some v:=h
  split at h
  ·rename_i b e;have p:ev f x=.bool b:=C8 g e;cases h;show vUn P .not (ev f x) K;rw [p];exact j _ rfl
  ·rename_i k n e;have p:ev f x=.int k n:=C8 g e;cases h;show vUn P .neg (ev f x) K;rw [p];rw [A8a] at j;exact j _ rfl
  ·cases h
 case convert s d x=>
  replace h:(match L.ty s,L.ty d,xEv F x with
   | .int _,.int S,some (.o (.l (.int _ n)))=>some (lit (.int S (wr S n)))
   | .str,.str,some (.o (.l (.string s)))=>some (lit (.string s))
   | _,_,_=>none)=some v:=h
  split at h
  ·rename_i k S k2 n u w e;have p:ev f x=.int k2 n:=C8 g e;cases h;show (match L.ty s,L.ty d,ev f x with
    | .int _,.int S,.int _ n=>K (.int S (S.wrap n))
    | .str,.str,.string s=>K (.string s)
    | _,_,x=>Pure P (convert s d x) K)
   rw [u,w,p];rw [A8a] at j;exact j _ rfl
  ·rename_i s' u w e;have p:ev f x=.string s':=C8 g e;cases h;show (match L.ty s,L.ty d,ev f x with
    | .int _,.int S,.int _ n=>K (.int S (S.wrap n))
    | .str,.str,.string s=>K (.string s)
    | _,_,x=>Pure P (convert s d x) K)
   rw [u,w,p];exact j _ rfl
  ·cases h
 case fieldAddr t x i=>
  replace h:(match L.ty t,xEv F x with
   | .struct z _,some (.o (.p N o))=>match z[i]? with
    | some (A,size,_)=>cond (Nat.beq size 0) none (some (EV.o (.p N (Nat.add o A))))
    | none=>none
   | _,_=>none)=some v:=h
  split at h
  ·rename_i z C N o u e;obtain⟨q,H,p⟩:=C8 g e;split at h
   ·rename_i A size E hf;show (match L.ty t,ev f x with
     | .struct z _,.pointer (some a)=>match z[i]? with
      | some (A,size,_)=>cond (Nat.beq size 0) False (B9L a A K)
      | none=>False
     | _,_=>False)
    rw [u,p];simp only;rw [hf];simp only;cases hs:Nat.beq size 0 with
    | true=>rw [hs] at h;cases h
    | false=>
     rw [hs] at h;cases h;show B9L _ A K;rw [B1R,yi];exact j _ ⟨q,H,by rw [show (Nat.add o A)=o+A from rfl,Nat.add_assoc]⟩
   ·cases h
  ·cases h
 case field t x i=>
  replace h:(match L.ty t,xEv F x with
   | .struct z _,some (.a B)=>match z[i]? with
    | some (A,size,E)=>cond E (some (EV.a ((B.drop A).take size))) (match B[A]? with
     | some x=>some (.o x)
     | none=>none)
    | none=>none
   | _,_=>none)=some v:=h
  split at h
  ·rename_i z C B u e;obtain⟨r,a2,p⟩:=C8 g e;split at h
   ·rename_i A size E hf;show (match L.ty t,ev f x with
     | .struct z _,.agg r=>match z[i]? with
      | some (A,size,E)=>cond E (K (.agg (r.extract A (A+size)))) (match r[A]? with
       | some v=>V5 v K
       | none=>False)
      | none=>False
     | _,_=>False)
    rw [u,p];simp only;rw [hf];simp only;cases E with
    | true=>
     cases h;refine j _ ⟨(r.drop A).take size,(a2.drop A).take size,?_⟩;congr 1;apply Array.ext';simp
    | false=>
     replace h:(match B[A]? with
      | some x=>some (EV.o x)
      | none=>none)=some v:=h
     split at h
     ·rename_i y hy;cases h;obtain⟨J,W,hr⟩:=a2.get hy;rw [show r.toArray[A]?=some J from by rw [List.getElem?_toArray];exact W];show V5 J K;rw [K2];exact j _ hr
     ·cases h
   ·cases h
  ·cases h
 case build t ps=>
  replace h:(match xPs F ps.toList with
   | some l=>match L.ty t with
    | .struct z C=>(A9r z l (C.map .l)).map EV.a
    | .array _ _ esz C=>(A4w esz l (C.map .l)).map .a
    | _=>none
   | none=>none)=some v:=h
  split at h
  ·rename_i l O;have hp:=B32 g O;show (match L.ty t with
    | .struct z C=>B6x f ps.toList fun l=>match A6E z C l with
     | some r=>K (.agg r.toArray)
     | none=>False
    | .array _ _ esz C=>B6x f ps.toList fun l=>match A0l esz C l with
     | some r=>K (.agg r.toArray)
     | none=>False
    | _=>False)
   split at h
   ·rename_i z C u;rw [Option.map_eq_some_iff] at h;obtain⟨Z,Y,rfl⟩:=h;rw [A1h];obtain⟨ds,M,G⟩:=A7N Y hp (A0X σ C);rw [M];exact j _ ⟨ds,G,rfl⟩
   ·rename_i n p esz C u;rw [Option.map_eq_some_iff] at h;obtain⟨Z,Y,rfl⟩:=h;rw [A1h];obtain⟨ds,M,G⟩:=A3t Y hp (A0X σ C);rw [M];exact j _ ⟨ds,G,rfl⟩
   ·cases h
  ·cases h
 case index t x i=>
  replace h:(match L.ty t,xEv F x,xEv F i with
   | .str,some (.o (.l (.string s))),some (.o (.l (.int _ n)))=>cond (leI 0 n) (match s.data.toList[n.toNat]? with
    | some c=>some (lit (.int .u8 (Int.ofNat c.toNat)))
    | none=>none) none
   | _,some (.a B),some (.o (.l (.int _ n)))=>C0s P t B n
   | _,_,_=>none)=some v:=h
  split at h
  ·rename_i s k n u e R;have w:ev f x=.string s:=C8 g e;have I:ev f i=.int k n:=C8 g R;obtain⟨h0,h⟩:=B6 h;have h0:=O7 h0;split at h
   ·rename_i c U;cases h;show (match L.ty t,ev f x,ev f i with
     | .str,.string s,.int _ n=>(0<=n/\n<s.size)/\K (.int .u8 ((s.data.toList.getD n.toNat 0).toNat:Int))
     | _,x,i=>Pure P (Instr.index t x i) K)
    rw [u,w,I];simp only;have a5:n.toNat<s.data.toList.length:=by
     obtain h|h:=zm n.toNat s.data.toList.length
     ·exact h
     ·rw [List.getElem?_eq_none h] at U;cases U
    refine⟨⟨h0,?_⟩,?_⟩
    ·show n<(s.data.toList.length:Int);omega
    ·rw [List.getD_eq_getElem?_getD,U];exact j _ rfl
   ·cases h
  ·rename_i B k n e R;have w:=C8 g e;have I:ev f i=.int k n:=C8 g R;obtain⟨r,_,e4⟩:=w;have:=B8r (k:=k) h (C8 g e) j;show (match L.ty t,ev f x,ev f i with
    | .str,.string s,.int _ n=>(0<=n/\n<s.size)/\K (.int .u8 ((s.data.toList.getD n.toNat 0).toNat:Int))
    | _,x,i=>Pure P (Instr.index t x i) K)
   rw [e4] at this ⊢;rw [I];cases L.ty t<;>exact this
  ·cases h
 case indexAddr t x i=>
  have a1:∀ {N o len esz:Nat} {n:Int} {a:Addr} {q:Pl},σ N=some q->a=⟨q.b,q.o+o,none⟩->cond (leI 0 n&&not (leI len n)) (some (EV.o (.p N (Nat.add o (Nat.mul n.toNat esz))))) none=some v->(0<=n/\n<len)/\K (.pointer (some (a.add (n.toNat*esz)))):=fun H ha h=>by obtain⟨h0,h⟩:=B6 h;rw [z7,Bool.not_eq_true',U4,U4,decide_eq_true_iff,decide_eq_false_iff_not] at h0;cases h;subst ha;refine⟨⟨h0.1,by omega⟩,?_⟩;rw [yi];refine j _ ⟨_,H,?_⟩;rw [Nat.add_assoc];rfl
  replace h:(match L.ty t,xEv F x,xEv F i with
   | .slice _ esz,some (.o (.s N o len (.k _))),some (.o (.l (.int _ n)))=>cond (leI 0 n&&not (leI len n)) (some (EV.o (.p N (Nat.add o (Nat.mul n.toNat esz))))) none
   | .slice _ esz,some (.o (.s N o len (.j _ _))),some (.o (.l (.int _ n)))=>cond (leI 0 n&&not (leI len n)) (some (.o (.p N (Nat.add o (Nat.mul n.toNat esz))))) none
   | .array len _ esz _,some (.o (.p N o)),some (.o (.l (.int _ n)))=>cond (leI 0 n&&not (leI len n)) (some (.o (.p N (Nat.add o (Nat.mul n.toNat esz))))) none
   | _,_,_=>none)=some v:=h
  show (match L.ty t,ev f x,ev f i with
   | .slice _ esz,.slice (some a) len _,.int _ n=>(0<=n/\n<len)/\K (.pointer (some (a.add (n.toNat*esz))))
   | .array len _ esz _,.pointer (some a),.int _ n=>(0<=n/\n<len)/\K (.pointer (some (a.add (n.toNat*esz))))
   | _,_,_=>False)
  split at h
  ·rename_i p esz N o len c k n u e R;have I:ev f i=.int k n:=C8 g R;obtain⟨q,a,cp,H,U,w⟩:=C8 g e;rw [u,w,I];exact a1 H U.1 h
  ·rename_i p esz N o len c c' k n u e R;have I:ev f i=.int k n:=C8 g R;obtain⟨q,a,cp,H,U,w⟩:=C8 g e;rw [u,w,I];exact a1 H U.1 h
  ·rename_i len p esz C N o k n u e R;have I:ev f i=.int k n:=C8 g R;obtain⟨q,H,w⟩:=C8 g e;rw [u,w,I];exact a1 H rfl h
  ·cases h
 case slice t x lo D mx=>
  replace h:(match (generalizing:=false) L.ty t,xEv F x with
   | .str,some (.o (.l (.string s)))=>match (generalizing:=false) mx,A7M F 0 lo,A7M F s.data.toList.length D with
    | none,some l,some h=>cond (leI 0 l&&leI l h&&leI h s.data.toList.length) (some (lit (.string (bytes ((s.data.toList.drop l.toNat).take (Nat.sub h.toNat l.toNat)))))) none
    | _,_,_=>none
   | .slice _ esz,some (.o x)=>match C0q x with
    | some n=>C0r F x esz n lo D mx
    | none=>none
   | .array n _ esz _,some (.o (.p N o))=>match (generalizing:=false) mx,A7M F 0 lo,A7M F n D with
    | none,some l,some h=>(xSl (.s N o n (.k n)) esz l h none).map EV.o
    | _,_,_=>none
   | _,_=>none)=some v:=h
  show (match L.ty t,ev f x with
   | .str,.string s=>match (generalizing:=false) mx with
    | none=>A43 s (H7 f 0 lo) (H7 f s.size D) K
    | some _=>False
   | .slice _ esz,.slice a len cap=>match (generalizing:=false) mx with
    | none=>K8 a cap esz (H7 f 0 lo) (H7 f len D) (some cap) K
    | some m=>match (generalizing:=false) lo,D with
     | some l,some h=>K8 a cap esz (H7 f 0 (some l)) (H7 f len (some h)) (H7 f cap (some m)) K
     | _,_=>False
   | .array n _ esz _,.pointer (some a)=>match (generalizing:=false) mx with
    | none=>K8 (some a) n esz (H7 f 0 lo) (H7 f n D) (some n) K
    | some _=>False
   | _,_=>False)
  split at h
  ·rename_i s u e;have w:ev f x=.string s:=C8 g e;rw [u,w];split at h
   ·rename_i l m O V;have O:=Z3 g O;have V:H7 f s.size D=some m:=Z3 g V;obtain⟨h0,h⟩:=B6 h;rw [z7,z7] at h0;have M:=O7 h0.1.1;have G:=O7 h0.1.2;have Y:=O7 h0.2;cases h;show A43 s (H7 f 0 lo) (H7 f s.size D) K;rw [O,V];refine⟨⟨M,G,Y⟩,?_⟩;rw [B35];exact j _ rfl
   ·cases h
  ·rename_i p esz y u e;have w:BR σ y (ev f x):=C8 g e;split at h
   ·rename_i n R;obtain⟨a,cap,I⟩:=B8p R w;rw [u,I];rw [I] at w;exact B8q g h w j
   ·cases h
  ·rename_i n p esz C N o u e;obtain⟨q,H,w⟩:=C8 g e;rw [u,w];split at h
   ·rename_i l m O V;have O:=Z3 g O;have V:=Z3 g V;rw [Option.map_eq_some_iff] at h;obtain⟨y,M,rfl⟩:=h;show K8 _ n esz (H7 f 0 lo) (H7 f n D) (some n) K;rw [O,V];exact B33 (cap:=n) (n:=n) M ⟨q,_,n,H,⟨rfl,rfl,zc _⟩,rfl⟩ j
   ·cases h
  ·cases h
 case extract x i=>
  replace h:(match xEv F x with
   | some (.t Z)=>match Z[i]? with
    | some (true,B)=>some (EV.a B)
    | some (false,[x])=>some (.o x)
    | _=>none
   | _=>none)=some v:=h
  split at h
  ·rename_i Z e;obtain⟨vs,hv,p⟩:=C8 g e;show (match ev f x with
    | .tuple vs=>match vs.toList[i]? with
     | some v=>V5 v K
     | none=>False
    | _=>False)
   rw [p];simp only;split at h
   ·rename_i B D;cases h;obtain⟨J,W,r,M,G⟩:=hv.get D;rw [W];show V5 J K;rw [K2];obtain⟨_,rfl⟩|⟨G,_⟩:=G
    ·exact j _ ⟨r,M,rfl⟩
    ·cases G
   ·rename_i y D;cases h;obtain⟨J,W,r,M,G⟩:=hv.get D;rw [W];show V5 J K;rw [K2];obtain⟨G,_⟩|⟨_,rfl⟩:=G
    ·cases G
    ·exact j _ M.1
   ·cases h
  ·cases h
 case makeFunc fn z r=>
  replace h:(match (generalizing:=false) fn,z.toList with
   | .func E,[]=>match C0p F r.toList with
    | some l=>some (EV.o (.f E l))
    | none=>none
   | _,_=>none)=some v:=h
  split at h
  ·rename_i E a3;split at h
   ·rename_i l O;cases h;show B1N f z.toList fun z=>B1N f r.toList fun r=>K (.func (.func E) z.toArray r.toArray);rw [A0F,A0F,a3];exact j _ ⟨_,B34 g O,rfl⟩
   ·cases h
  ·cases h
 case nilCheck x=>
  replace h:(match xEv F x with
   | some (.o (.p N o))=>some (EV.o (.p N o))
   | some (.o (.f E r))=>some (.o (.f E r))
   | _=>none)=some v:=h
  show (match ev f x with
   | .pointer (some a)=>K (.pointer (some a))
   | .func (.func n) z r=>K (.func (.func n) z r)
   | _=>False)
  split at h
  ·rename_i N o e;have e:=C8 g e;have a0:=e;obtain⟨q,H,p⟩:=a0;cases h;rw [p] at e ⊢;exact j _ e
  ·rename_i E r e;have e:=C8 g e;have a0:=e;obtain⟨vs,H,p⟩:=a0;cases h;rw [p] at e ⊢;exact j _ e
  ·cases h
 case call c=>
  replace h:(match c.callee with
   | .builtin b=>match B9P F c.args.toList with
    | some B=>A3u L b c.argTypes.toList B
    | none=>none
   | _=>none)=some v:=h
  show (match c.callee with
   | .builtin b=>cond (P7 b) (B1N f c.args.toList fun B=>A2A P L b c.argTypes T (c.args.map fun | .const _=>true | _=>false) B K) False
   | _=>False)
  split at h
  ·rename_i b e;rw [A0F];split at h
   ·rename_i B hx;exact A7O h (A3v g hx) j
   ·cases h
  ·cases h
 all_goals cases h
end
end Go.Vx
end
section
namespace Go.Vx
open Go Go.Vc Go.RowKit
def bit (i:Nat):Nat:=Nat.pow 2 i
def A5r (m i:Nat):Bool:=Nat.beq (Nat.land (Nat.shiftRight m i) 1) 1
def B08 (a b:Nat):Bool:=Nat.beq (Nat.land a b) a
theorem A16 (m i:Nat):A5r m i=m.testBit i:=by unfold A5r Nat.testBit;rw [Bool.eq_iff_iff,bne_iff_ne];show Nat.beq ((m >>> i) &&& 1) 1=true↔1 &&& (m >>> i)≠0;rw [Nat.and_comm 1];have a:(m >>> i) &&& 1=(m >>> i) % 2:=Nat.and_one_is_mod _;rw [a];have:=Nat.mod_lt (m >>> i) (show 0<2 by decide);exact⟨fun h=>by have:=z8 h;omega,fun h=>by rw [show (m >>> i) % 2=1 by omega];rfl⟩
theorem U5 (i j:Nat):(bit i).testBit j=decide (i=j):=Nat.testBit_two_pow
theorem A5s (a b:Nat):B08 a b=true↔∀ i,a.testBit i=true->b.testBit i=true:=by
 unfold B08;constructor
 ·intro h i c;have e:a &&& b=a:=z8 h;rw [<-e,Nat.testBit_and,z7] at c;exact c.2
 ·intro h;have e:a &&& b=a:=Nat.eq_of_testBit_eq fun i=>by
   rw [Nat.testBit_and];cases c:a.testBit i with
   | false=>rfl
   | true=>rw [h i c];rfl
  show Nat.beq (a &&& b) a=true;rw [e];exact Nat.beq_refl _
structure RI where
 D:Nat
 B:Nat
 q:Bool
def B09 (l:List Edge):Nat:=List.rec (motive:=fun _=>Nat) 0 (fun e _ s=>cond (Region.binds .any e) (Nat.lor (bit e.on) s) s) l
theorem X4:∀ (l:List Edge) (j:Nat),(B09 l).testBit j=l.any fun e=>Region.binds .any e&&e.on==j
 | [],j=>Nat.zero_testBit j
 | e::l,j=>by
  show (cond (Region.binds .any e) (bit e.on ||| B09 l) (B09 l)).testBit j=(Region.binds .any e&&e.on==j||l.any _);cases Region.binds .any e with
  | false=>exact X4 l j
  | true=>
   show (bit e.on ||| B09 l).testBit j=_;rw [Nat.testBit_or,U5,X4 l j];rfl
def B9Q (ops:Array Oper) (i:Nat) (oi:Oper) (l:List Oper):Nat->Nat:=List.rec (motive:=fun _=>Nat->Nat) (fun _=>0) (fun o _ ih j=>cond (Nat.beq j i||A5r (B09 o.after.toList) i||oi.apart ops o) (ih (Nat.succ j)) (Nat.lor (bit j) (ih (Nat.succ j)))) l
theorem B36 {p:Array Oper} {i k:Nat} {o x:Oper} {l:List Oper}:B9Q p i o (x::l) k=cond (Nat.beq k i||A5r (B09 x.after.toList) i||o.apart p x) (B9Q p i o l (k+1)) (bit k ||| B9Q p i o l (k+1)):=rfl
theorem B37 {ops:Array Oper} {i:Nat} {oi:Oper} (l:List Oper):∀ (k j:Nat) (o:Oper),l[j]?=some o->(k+j=i\/(B09 o.after.toList).testBit i=true\/oi.apart ops o=true)\/(B9Q ops i oi l k).testBit (k+j)=true:=by
 induction l with
 | nil=>intro k j o h;cases h
 | cons x l b=>
  intro k j o h;rw [B36];cases j with
  | zero=>
   cases h;cases c:(Nat.beq k i||A5r (B09 x.after.toList) i||oi.apart ops x) with
   | true=>
    left;rw [Bool.or_eq_true,Bool.or_eq_true,A16] at c;obtain (c|c)|c:=c
    ·exact .inl (z8 c)
    ·exact .inr (.inl c)
    ·exact .inr (.inr c)
   | false=>
    right;rw [cond_false,Nat.testBit_or,U5,zz (by omega)];rfl
  | succ j=>
   have:=b (k+1) j o (by simpa using h);rw [show k+1+j=k+(j+1) by omega] at this;obtain a|a:=this
   ·exact .inl a
   ·right;cases (Nat.beq k i||A5r (B09 x.after.toList) i||oi.apart ops x) with
    | true=>rw [cond_true];exact a
    | false=>rw [cond_false,Nat.testBit_or,a,Bool.or_true]
def A0r (ops:Array Oper) (all:List Oper) (nq:List Bool) (l:List Oper):Nat->List RI:=List.rec (motive:=fun _=>Nat->List RI) (fun _=>[]) (fun o _ ih i=>⟨B09 o.after.toList,B9Q ops i o all 0,not (nq.getD i true)⟩::ih (Nat.succ i)) l
theorem A0Y {p:Array Oper} {a:List Oper} {n:List Bool}:∀ (l:List Oper) (k i:Nat),(A0r p a n l k)[i]?=(l[i]?).map fun o=>⟨B09 o.after.toList,B9Q p (k+i) o a 0,not (n.getD (k+i) true)⟩
 | [],_,_=>rfl
 | o::l,k,0=>rfl
 | o::l,k,i+1=>by show (A0r p a n l (k+1))[i]?=_;rw [A0Y l (k+1) i,show k+1+i=k+(i+1) by omega];rfl
def U6 (l:List RI) (m:Nat):Nat->Nat:=List.rec (motive:=fun _=>Nat->Nat) (fun _=>0) (fun r _ ih i=>cond (not (A5r m i)&&B08 r.D m) (Nat.lor (bit i) (ih (Nat.succ i))) (ih (Nat.succ i))) l
theorem A3w {m:Nat}:∀ (l:List RI) (k j:Nat),(U6 l m k).testBit j=true↔∃ i r,l[i]?=some r/\j=k+i/\m.testBit j=false/\B08 r.D m=true
 | [],k,j=>by
  show (0:Nat).testBit j=true↔_;rw [Nat.zero_testBit];exact⟨fun h=>(by cases h),fun ⟨i,r,h,_⟩=>(by cases h)⟩
 | r::l,k,j=>by
  have n:U6 (r::l) m k=cond (not (A5r m k)&&B08 r.D m) (bit k ||| U6 l m (k+1)) (U6 l m (k+1)):=rfl;have f:=A3w (m:=m) l (k+1) j;rw [n];constructor
  ·intro h;cases c:(not (A5r m k)&&B08 r.D m) with
   | false=>
    rw [c] at h;obtain⟨i,d,a,e,b⟩:=f.1 h;exact⟨i+1,d,a,by omega,b⟩
   | true=>
    rw [c] at h;have h:(bit k ||| U6 l m (k+1)).testBit j=true:=h;rw [Nat.testBit_or,Bool.or_eq_true,U5,decide_eq_true_iff] at h;obtain h|h:=h
    ·subst h;rw [z7,Bool.not_eq_true',A16] at c;exact⟨0,r,rfl,rfl,c.1,c.2⟩
    ·obtain⟨i,d,a,e,b⟩:=f.1 h;exact⟨i+1,d,a,by omega,b⟩
  ·rintro⟨i,d,a,e,b,g⟩;cases i with
   | zero=>
    cases a;obtain rfl:j=k:=e;rw [show (not (A5r m j)&&B08 r.D m)=true from by rw [A16,b,g];rfl];show (bit j ||| _).testBit j=true;rw [Nat.testBit_or,U5,zz rfl];rfl
   | succ i=>
    have:=f.2 ⟨i,d,a,by omega,b,g⟩;cases (not (A5r m k)&&B08 r.D m) with
    | false=>exact this
    | true=>show (bit k ||| _).testBit j=true;rw [Nat.testBit_or,this,Bool.or_true]
def okM (l:List RI) (full:Nat) (s:Sched):Nat->Nat->Nat->Bool:=
 Sched.rec (motive:=fun _=>Nat->Nat->Nat->Bool) (fun _ _ r=>Nat.beq r 0)
  (fun i fuel m r=>Nat.rec (motive:=fun _=>Bool) false (fun _ _=>match l[i]? with
   | some x=>A5r r i&&Nat.beq r (bit i)&&Nat.beq (Nat.lor x.D (bit i)) full&&Nat.beq (U6 l (Nat.lor m (bit i)) 0) 0
   | none=>false) fuel)
  (fun i s ih fuel m r=>Nat.rec (motive:=fun _=>Bool) false (fun fuel' _=>match l[i]? with
   | some x=>A5r r i&&B08 x.B m&&not s.isStop&&ih fuel' (Nat.lor m (bit i)) (U6 l (Nat.lor m (bit i)) 0)
   | none=>false) fuel)
  (fun i s t ihs iht fuel m r=>Nat.rec (motive:=fun _=>Bool) false (fun fuel' _=>A5r r i&&not s.isStop&&t.isAlt&&ihs fuel' (Nat.lor m (bit i)) (U6 l (Nat.lor m (bit i)) 0)&&iht (Nat.succ fuel') m (Nat.xor r (bit i))) fuel)
  (fun _ _ r=>Nat.beq r 0) s
section
variable {ops:List Oper} {nq:List Bool}
structure LM (n:Nat) (listed:Array Bool) (m:Nat):Prop where
 size:listed.size=n
 bits:∀ i,listed.getD i false=m.testBit i
theorem LM.tr {n:Nat} {l:Array Bool} {m:Nat} (h:LM n l m) {i:Nat} (a:i<n):l.getD i true=m.testBit i:=by
 rw [<-h.bits];have:i<l.size:=by rw [h.size];exact a
 simp [Array.getD,this]
theorem LM.add {n:Nat} {l:Array Bool} {m:Nat} (h:LM n l m) {i:Nat} (a:i<n):LM n (l.setIfInBounds i true) (Nat.lor m (bit i)):=
 ⟨by simp [h.size],fun j=>by
  show _=(m ||| bit i).testBit j;rw [Nat.testBit_or,U5,<-h.bits];have s:i<l.size:=by rw [h.size];exact a
  by_cases e:i=j
  ·subst e;simp [Array.getD,s]
  ·rw [y8 e,Bool.or_false];simp only [Array.getD,Array.size_setIfInBounds];split
   ·rename_i b;exact Array.getElem_setIfInBounds_ne (by omega) e
   ·rfl⟩
theorem A7R {s:Array Bool} {m:Nat} (a:LM ops.length s m) (j:Nat):j∈Region.ready .any ops.toArray s↔(U6 (A0r ops.toArray ops nq ops 0) m 0).testBit j=true:=by
 rw [mem_ready,A3w];constructor
 ·rintro⟨c,o,h,d⟩;have h:ops[j]?=some o:=by simpa using h
  have g:j<ops.length:=(List.getElem?_eq_some_iff.1 h).1;refine⟨j,_,by rw [A0Y,h];rfl,by omega,by rw [<-a.tr g];exact c,(A5s _ _).2 fun i l=>?_⟩;rw [X4] at l;obtain⟨e,f,b⟩:=List.any_eq_true.1 l;rw [z7,beq_iff_eq] at b;rw [<-a.bits,<-b.2];exact d e (by simpa using f) b.1
 ·rintro⟨i,r,c,h,d,n⟩;obtain rfl:i=j:=by omega
  rw [A0Y,Option.map_eq_some_iff] at c;obtain⟨o,k,rfl⟩:=c;have g:i<ops.length:=(List.getElem?_eq_some_iff.1 k).1;refine⟨by rw [a.tr g];exact d,o,by simpa using k,fun e f b=>?_⟩;rw [a.bits];refine (A5s _ _).1 n _ ?_;rw [X4];exact List.any_eq_true.2 ⟨e,by simpa using f,by rw [b,Bool.true_and,beq_self_eq_true]⟩
theorem C0H (E:∀ j,j<ops.length->(bit ops.length-1).testBit j=true):∀ (s:Sched) (f m b:Nat) (l:Array Bool) (e:List Nat),okM (A0r ops.toArray ops nq ops 0) (bit ops.length-1) s f m b=true->LM ops.length l m->(∀ j,j∈e↔b.testBit j=true)->(∀ j∈e,j<ops.length)->
  M4 ops.toArray s f l e=true:=by
 have A:∀ {b:Nat} {e:List Nat},Nat.beq b 0=true->(∀ j,j∈e↔b.testBit j=true)->e.isEmpty=true:=fun h r=>by rw [List.isEmpty_iff,List.eq_nil_iff_forall_not_mem];intro j a;rw [r,z8 h,Nat.zero_testBit] at a;cases a
 have next:∀ {l m},LM ops.length l m->(∀ j,j∈Region.ready .any ops.toArray l↔(U6 (A0r ops.toArray ops nq ops 0) m 0).testBit j=true)/\∀ j∈Region.ready .any ops.toArray l,j<ops.length:=fun h=>
  ⟨A7R h,fun j a=>by obtain⟨_,o,g,_⟩:=mem_ready.1 a;simpa using (Array.getElem?_eq_some_iff.1 g).1⟩
 intro s;induction s with
 | fin=>intro f m b l e h L r p;exact A h r
 | stop=>intro f m b l e h L r p;exact A h r
 | z i=>
  intro f m b l e h L r p;cases f with
  | zero=>cases h
  | succ f=>
   have h:(match (A0r ops.toArray ops nq ops 0)[i]? with
    | some y=>A5r b i&&Nat.beq b (bit i)&&Nat.beq (Nat.lor y.D (bit i)) (bit ops.length-1)&&Nat.beq (U6 (A0r ops.toArray ops nq ops 0) (Nat.lor m (bit i)) 0) 0
    | none=>false)=true:=h
   split at h
   ·rename_i y x;rw [A0Y,Option.map_eq_some_iff] at x;obtain⟨o,C,rfl⟩:=x;simp only [z7] at h;obtain⟨⟨⟨d,g⟩,u⟩,v⟩:=h;rw [A16] at d;have g:=z8 g;have u:B09 o.after.toList ||| bit i=bit ops.length-1:=z8 u;have k:=p i ((r i).2 d);simp only [M4,z7];refine⟨⟨⟨?_,by simpa using (r i).2 d⟩,?_⟩,A v (next (L.add k)).1⟩
    ·rw [List.all_eq_true];intro j a;rw [r,g,U5,decide_eq_true_iff] at a;rw [a];exact Nat.beq_refl _
    ·unfold A1B;rw [show ops.toArray[i]?=some o from by simpa using C];simp only;rw [List.all_eq_true];intro j a;have a:j<ops.length:=by simpa using a
     have:=E j a;rw [<-u,Nat.testBit_or,U5,X4,Bool.or_eq_true,decide_eq_true_iff] at this;rw [Bool.or_eq_true];obtain c|c:=this
     ·right;obtain⟨t,B,w⟩:=List.any_eq_true.1 c;rw [z7,beq_iff_eq] at w;refine List.any_eq_true.2 ⟨t,B,?_⟩;rw [w.1,w.2];exact Nat.beq_refl _
     ·left;rw [c];exact Nat.beq_refl _
   ·cases h
 | q i s G=>
  intro f m b l e h L r p;cases f with
  | zero=>cases h
  | succ f=>
   have h:(match (A0r ops.toArray ops nq ops 0)[i]? with
    | some y=>A5r b i&&B08 y.B m&&not s.isStop&&okM (A0r ops.toArray ops nq ops 0) (bit ops.length-1) s f (Nat.lor m (bit i)) (U6 (A0r ops.toArray ops nq ops 0) (Nat.lor m (bit i)) 0)
    | none=>false)=true:=h
   split at h
   ·rename_i y x;rw [A0Y,Option.map_eq_some_iff] at x;obtain⟨o,C,rfl⟩:=x;simp only [z7] at h;obtain⟨⟨⟨d,g⟩,u⟩,v⟩:=h;rw [A16] at d;have k:=p i ((r i).2 d);simp only [M4,z7];refine⟨⟨⟨by simpa using (r i).2 d,?_⟩,u⟩,G f _ _ _ _ v (L.add k) (next (L.add k)).1 (next (L.add k)).2⟩;unfold Region.free;rw [show ops.toArray[i]?=some o from by simpa using C];simp only;rw [List.all_eq_true];intro j a;have a:j<ops.length:=by simpa using a
    have F:ops[j]?=some ops[j]:=yc a;rw [show ops.toArray[j]?=some ops[j] from by simp];simp only [Bool.or_eq_true];have:=B37 (ops:=ops.toArray) (i:=i) (oi:=o) ops 0 j _ F;rw [zn] at this;obtain (c|c|c)|c:=this
    ·exact .inl (.inl (by rw [c];exact beq_self_eq_true _))
    ·refine .inr (.inl ?_);rw [X4] at c;obtain⟨t,B,w⟩:=List.any_eq_true.1 c;exact Array.any_eq_true'.2 ⟨t,by simpa using B,w⟩
    ·exact .inr (.inr c)
    ·refine .inl (.inr ?_);rw [L.tr a];refine (A5s _ _).1 g j ?_;rw [zn];exact c
   ·cases h
 | n i s D H I=>
  intro f m b l e h L r p;cases f with
  | zero=>cases h
  | succ f=>
   have h:(A5r b i&&not s.isStop&&D.isAlt&&okM (A0r ops.toArray ops nq ops 0) (bit ops.length-1) s f (Nat.lor m (bit i)) (U6 (A0r ops.toArray ops nq ops 0) (Nat.lor m (bit i)) 0)&&okM (A0r ops.toArray ops nq ops 0) (bit ops.length-1) D (Nat.succ f) m (Nat.xor b (bit i)))=true:=h;simp only [z7] at h;obtain⟨⟨⟨⟨d,g⟩,u⟩,v⟩,c⟩:=h;rw [A16] at d;have k:=p i ((r i).2 d);simp only [M4,z7];refine⟨⟨⟨⟨by simpa using (r i).2 d,g⟩,u⟩,H f _ _ _ _ v (L.add k) (next (L.add k)).1 (next (L.add k)).2⟩,I (f+1) _ _ _ _ c L (fun j=>?_) (fun j a=>p j (List.mem_filter.1 a).1)⟩;rw [List.mem_filter,r];show _↔(b ^^^ bit i).testBit j=true;rw [Nat.testBit_xor,U5];by_cases t:i=j
   ·subst t;rw [zz rfl,d];simp
   ·rw [y8 t,Bool.xor_false,show Nat.beq j i=false from Bool.eq_false_iff.2 fun h=>t (z8 h).symm];simp
def A7S (ops:List Oper) (nq:List Bool) (s:Sched):Bool:=Region.noSelect ops.toArray&&not s.isStop&&okM (A0r ops.toArray ops nq ops 0) (bit ops.length-1) s ops.length 0 (U6 (A0r ops.toArray ops nq ops 0) 0 0)
theorem B38 {s:Sched} (h:A7S ops nq s=true):A2w ops.toArray s=true:=by
 unfold A7S at h;simp only [z7] at h;obtain⟨⟨c,a⟩,d⟩:=h;have L:LM ops.length (Array.replicate ops.toArray.size false) 0:=⟨by simp,fun i=>by
  rw [Nat.zero_testBit];simp only [Array.getD];split
  ·simp
  ·rfl⟩
 unfold A2w;simp only [z7];refine⟨⟨c,a⟩,?_⟩;have f:∀ j,j<ops.length->(bit ops.length-1).testBit j=true:=fun j b=>by show (2 ^ ops.length-1).testBit j=true;rw [Nat.testBit_two_pow_sub_one,zz b]
 have:=C0H f s ops.length 0 _ _ (Region.ready .any ops.toArray (Array.replicate ops.toArray.size false)) d L (A7R L) (fun j b=>by obtain⟨_,o,a,_⟩:=mem_ready.1 b;simpa using (Array.getElem?_eq_some_iff.1 a).1);simpa using this
end
def C0I (l:List RI) (m:Nat):Nat->Option Nat:=List.rec (motive:=fun _=>Nat->Option Nat) (fun _=>none) (fun r _ ih i=>cond (r.q&&not (A5r m i)&&B08 r.D m&&B08 r.B m) (some i) (ih (Nat.succ i))) l
def readyL (l:List RI) (m:Nat):Nat->List Nat:=List.rec (motive:=fun _=>Nat->List Nat) (fun _=>[]) (fun r _ ih i=>cond (not (A5r m i)&&B08 r.D m) (i::ih (Nat.succ i)) (ih (Nat.succ i))) l
def mkM (l:List RI) (full fuel:Nat):Nat->Sched:=Nat.rec (motive:=fun _=>Nat->Sched) (fun _=>.fin) (fun _ ih m=>match C0I l m 0 with
 | some i=>.q i (ih (Nat.lor m (bit i)))
 | none=>match readyL l m 0 with
  | []=>.fin
  | [i]=>match l[i]? with
   | some x=>cond (Nat.beq (Nat.lor x.D (bit i)) full&&Nat.beq (Nat.lor m (bit i)) full) (.z i) (.n i (ih (Nat.lor m (bit i))) .stop)
   | none=>.fin
  | is=>List.rec (motive:=fun _=>Sched) .stop (fun i _ s=>.n i (ih (Nat.lor m (bit i))) s) is) fuel
end Go.Vx
end
