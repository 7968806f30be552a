import Derived.Test.YtefdfaeieekioaaGreatDoorQ14
import Derived.KernelRfl
set_option maxRecDepth 100000
set_option maxHeartbeats 40000000
set_option linter.unusedVariables false
set_option linter.unusedSimpArgs false
noncomputable section
section
namespace Go.Vx
open Go Go.Vc Go.RowKit
section
variable {M:Mach} {E:World->Prop} {F:Tr EV} {H:Hp} {K:Kt} {σ:Sg} {w0 w:World} {f:Fr}
theorem C2G {P:Program} {L:Lay} {T:Nat} {o:Op} {R:Value->World->Prop} (b:pOp P L T o f fun v=>R v w) (j:∀ c,o≠.call c):vOp P L T o f w R:=by
 cases o
 case call c=>exact absurd rfl (j c)
 case convert s d x=>
  have h:(match L.ty s,L.ty d,ev f x with
   | .int _,.int a,.int _ n=>(fun v=>R v w) (.int a (a.wrap n))
   | .str,.str,.string s=>(fun v=>R v w) (.string s)
   | _,_,x=>Pure P (convert s d x) fun v=>R v w):=b
  show (match L.ty s,L.ty d,ev f x with
   | .int _,.int a,.int _ n=>R (.int a (a.wrap n)) w
   | .str,.str,.string s=>R (.string s) w
   | _,_,x=>Runs P (convert s d x) w R)
  have e:∀ u:Value,Pure P (convert s d u) (fun v=>R v w)->Runs P (convert s d u) w R:=fun u ⟨v,g,i⟩=>⟨v,w,g w,i⟩;revert h;generalize L.ty s=ds;generalize L.ty d=dd;generalize ev f x=u;intro h;cases ds with
  | int k=>cases dd with
   | int a=>cases u with
    | int l n=>exact h
    | _=>exact e _ h
   | _=>exact e _ h
  | str=>cases dd with
   | str=>cases u with
    | string s=>exact h
    | _=>exact e _ h
   | _=>exact e _ h
  | _=>exact e _ h
 all_goals first | exact b | exact b.elim
theorem B86 (l:MachOk M E) {T:Nat} {o:Op} {v:EV} (b:xP M.P M.L M.Q T o F=some v) (h:fV v (fun v=>K v H)=true) (i:∀ c,o≠.call c):∃ v a,K v a=true/\B1E E F H v a (fun f w R=>vOp M.P M.L T o f w R):=by rw [A2W] at h;exact⟨_,_,h,fun w0 σ f w k d g R e=>C2G (C0G d b fun j u=>e σ j w (Ex.refl _) u g) i⟩
theorem C1T (b:MachOk M E) {T:Nat} {o:Op} (h:(match xP M.P M.L M.Q T o F with
  | some v=>fV v fun v=>K v H
  | none=>false)=true) (d:∀ c,o≠.call c):∃ v a,K v a=true/\B1E E F H v a (fun f w R=>vOp M.P M.L T o f w R):=by
 split at h
 ·rename_i v hv;exact B86 b hv h d
 ·cases h
theorem B87 {s:List (Nat × Nat)} {vs:List Value} (h:All2 (PR σ) s vs):All2 (VR σ) (s.map fun c=>EV.o (.p c.1 c.2)) vs:=by
 induction s generalizing vs with
 | nil=>cases vs with
  | nil=>trivial
  | cons v vs=>exact h.elim
 | cons c s i=>cases vs with
  | nil=>exact h.elim
  | cons v vs=>exact⟨h.1,i h.2⟩
theorem B6e (a:Sg) (z:List Value) (n:Nat):All2 (BR a) ((V6 z n).map EB.l) (V6 z n):=A0X a _
theorem B6f {e n:Nat} {z ds:List Value} {l:List (Nat × Value)} (d:z.length=e) (a:A0l e (V6 z n) l=some ds):A6G e n z l=some ds:=by
 cases h:A6G e n z l with
 | some c=>rw [B1V d h] at a;exact a
 | none=>
  unfold A6G at h;cases b:Nat.beq l.length n with
  | false=>rw [b,cond_false,a] at h;cases h
  | true=>
   rw [b,cond_true] at h;cases f:A6F e 0 l with
   | none=>rw [f] at h;replace h:A0l e (V6 z n) l=none:=h;rw [a] at h;cases h
   | some c=>rw [f] at h;cases h
theorem B6g {d:TD} (h:d≠.none):d.zero.length=d.size:=by cases d<;>first | rfl | exact absurd rfl h
theorem A93 {P:Program} {L:Lay} {T:Nat} {b:Builtin} {a:Array Operand} {t:Array Nat} {R:Value->World->Prop} (h:∀ c:Array Bool,cond (P7 b)
   (A2A P L b t T c (a.toList.map (ev f)) fun v=>R v w)
   (∃ v d,(builtin b t T c (a.toList.map (ev f)).toArray).run P w=.ok (.value v) d/\R v d)):vOp P L T (.call ⟨.builtin b,a,t⟩) f w R:=by
 simp only [vOp,A0F];exact h _
theorem B6h {P:Program} {L:Lay} {T n:Nat} {o:Operand} {a:Array Operand} {t:Array Nat} {v:List Value} {R:Value->World->Prop} (e:ev f o=.func (.func n) #[] v.toArray) (h:A0m P L n ((a.toList.map (ev f))++v) w R):vOp P L T (.call ⟨.value o,a,t⟩) f w R:=by
 show (match ev f o with
  | .func (.func n) first captured=>B1N f a.toList fun xs=>match first.toList,captured.toList with
   | [],[]=>A0m P L n xs w R
   | fs,cs=>A0m P L n (fs++xs++cs) w R
  | _=>False)
 rw [e];dsimp only;rw [A0F];cases v with
 | nil=>rw [zx] at h;exact h
 | cons b v=>exact h
theorem B1L (q:MachOk M E) {l:Nat->List EV->Hp->Kt->Bool} (C:A2P M E l) {B:Option Nat} {T:Nat} {c:Go.Call} (h:xO M l B T (.call c) F H K=true):∃ v a,K v a=true/\B1E E F H v a (fun f w R=>vOp M.P M.L T (.call c) f w R):=by
 replace h:(match B9P F c.args.toList with
  | some xs=>match c.callee with
   | .builtin b=>cond (P7 b) (match A3u M.L b c.argTypes.toList xs with
    | some v=>fV v fun v=>K v H
    | none=>false) (xBu M b c.argTypes.toList xs H K)
   | .value o=>match xEv F o with
    | some (.o (.f g cs))=>l g (xs++cs.map fun c=>.o (.p c.1 c.2)) H fun v H=>K v H
    | _=>false
   | .invoke ..=>false
  | none=>false)=true:=h
 obtain⟨p,args,t⟩:=c;split at h
 ·rename_i xs x;cases p with
  | builtin b=>
   replace h:cond (P7 b) (match A3u M.L b t.toList xs with
    | some v=>fV v fun v=>K v H
    | none=>false) (xBu M b t.toList xs H K)=true:=h
   cases j:P7 b with
   | true=>
    rw [j,cond_true] at h;split at h
    ·rename_i v hv;rw [A2W] at h;refine⟨_,_,h,fun w0 σ f w n d i R e=>?_⟩;refine A93 fun cs=>?_;have:=A7O (P:=M.P) (T:=T) (K:=fun u=>R u w) (cs:=cs) hv (A3v d x) fun u y=>e σ u w (Ex.refl _) y i;rw [j] at this ⊢;exact this
    ·cases h
   | false=>
    rw [j,cond_false] at h;obtain⟨v,a,k,m⟩:=C0R q h;refine⟨v,a,k,fun w0 σ f w n d i R e=>?_⟩;refine A93 fun cs=>?_;obtain⟨u,N,D,τ,G,I,J⟩:=m w0 σ w _ T cs i (A3v d x);rw [j];exact⟨u,N,D,e _ _ _ G I J⟩
  | value o=>
   replace h:(match xEv F o with
    | some (.o (.f g cs))=>l g (xs++cs.map fun c=>.o (.p c.1 c.2)) H fun v H=>K v H
    | _=>false)=true:=h
   split at h
   ·rename_i g cs s;obtain⟨v,a,k,m⟩:=C _ _ _ _ h;refine⟨v,a,k,fun w0 σ f w n d i R e=>?_⟩;obtain⟨L,z,A⟩:=C8 d s;have r:All2 (VR σ) (xs++cs.map fun c=>EV.o (.p c.1 c.2)) ((args.toList.map (ev f))++L):=All2.append (A3v d x) (B87 z);exact B6h A (m w0 σ w _ n i r R e)
   ·cases h
  | invoke=>cases h
 ·cases h
theorem C1U (U:MachOk M E) {call:Nat->List EV->Hp->Kt->Bool} (hC:A2P M E call) {I:Option Nat} {T:Nat} {op:Op} (h:xO M call I T op F H K=true):∃ v b,K v b=true/\B1E E F H v b (fun f w R=>vOp M.P M.L T op f w R):=by
 cases op
 case call c=>exact B1L U hC h
 case load t x=>
  replace h:(match xEv F x with
   | some v=>match A8f M t v H with
    | some u=>fV u fun u=>K u H
    | none=>false
   | none=>false)=true:=h
  split at h
  ·rename_i v hv;split at h
   ·rename_i u W;rw [A2W] at h;exact⟨_,_,h,fun w0 σ f w G o p R q=>B6Q W o hv p fun u W=>q σ u w (Ex.refl _) W p⟩
   ·cases h
  ·cases h
 case store t x y=>
  replace h:(match xEv F x,xEv F y with
   | some v,some u=>A9t M t v u H K
   | _,_=>false)=true:=h
  split at h
  ·rename_i v u hv W;exact B4G h hv W
  ·cases h
 case alloc t=>
  replace h:(match M.L.ty t with
   | .none=>false
   | d=>A5t I t 0 (d.zero.map .l) H fun N H=>K (.o (.p N 0)) H)=true:=h
  have X:∀ d,M.L.ty t=d->d≠.none->A5t I t 0 (d.zero.map .l) H (fun N H=>K (.o (.p N 0)) H)=true->∃ v b,K v b=true/\B1E E F H v b (fun f w R=>vOp M.P M.L T (.alloc t) f w R):=fun d L hn h=>by
   obtain⟨v,b,j,i⟩:=A2p (mkV:=fun g=>.pointer (some ⟨g,0,none⟩)) h B7O;refine⟨v,b,j,fun w0 σ f w G o p R q=>?_⟩;have:=i w0 σ w _ p (A0X σ _) R q;show (match M.L.ty t with
    | .none=>False
    | d=>∀ g a,New w d.zero t g a->R (.pointer (some ⟨g,0,none⟩)) a)
   rw [L];cases d with
   | none=>exact absurd rfl hn
   | _=>exact this
  cases L:M.L.ty t with
  | none=>rw [L] at h;cases h
  | _=>rw [L] at h;exact X _ L (fun e=>by cases e) h
 case box t x=>
  replace h:(match xEv F x with
   | some v=>match A4v v with
    | some ys=>A5t I t 0 ys H fun N H=>K (.o (.p N 0)) H
    | none=>false
   | none=>false)=true:=h
  split at h
  ·rename_i v hv;split at h
   ·rename_i ys hy;obtain⟨r,b,j,i⟩:=A2p (mkV:=fun g=>.pointer (some ⟨g,0,none⟩)) h B7O;refine⟨r,b,j,fun w0 σ f w G o p R q=>?_⟩;show A4N (ev f x) fun S=>∀ g a,New w S t g a->R (.pointer (some ⟨g,0,none⟩)) a;rw [A2u];exact i w0 σ w _ p (A3s hy (C8 o hv)) R q
   ·cases h
  ·cases h
 case buildSlice t n ps=>
  replace h:(match elemOf (M.L.ty t) with
   | some (e,J)=>cond (Nat.beq n 0&&A2s ps.toList) (A5t I e 0 [] H fun N H=>K (.o (.s N 0 0 (.k 0))) H)
    (cond (Nat.ble (Nat.mul n J) 16777216&&!Nat.beq J 0&&!Nat.beq n 0&&Nat.beq (M.L.ty e).size J) (match xPs F ps.toList,M.L.ty e with
     | some l,.none=>false
     | some l,d=>match A4w J l (V6 d.zero n |>.map .l) with
      | some S=>A5t I e 0 S H fun N H=>K (.o (.s N 0 n (.k n))) H
      | none=>false
     | none,_=>false) false)
   | none=>false)=true:=h
  split at h
  ·rename_i e J O;have ht:=A7Y O;cases Y:(Nat.beq n 0&&A2s ps.toList) with
   | true=>
    rw [Y,cond_true] at h;obtain⟨r,b,j,i⟩:=A2p (mkV:=fun g=>.slice (some ⟨g,0,none⟩) 0 0) h (C0O 0);refine⟨r,b,j,fun w0 σ f w G o p R q=>?_⟩;simp only [vOp];rw [ht];dsimp only;rw [Y,cond_true];exact i w0 σ w [] p trivial R q
   | false=>
    rw [Y,cond_false] at h;obtain⟨j,i⟩:=C2 h;rw [z7] at j;obtain⟨h0,j⟩:=j;have a4:n≠0:=fun e=>by rw [e] at h0;rw [z7] at h0;cases h0.2
    split at i
    ·cases i
    ·rename_i l d hl L;split at i
     ·rename_i S a3;obtain⟨r,b,k1,k2⟩:=A2p (mkV:=fun g=>.slice (some ⟨g,0,none⟩) n n) i (C0O n);refine⟨r,b,k1,fun w0 σ f w G o p R q=>?_⟩;simp only [vOp,A1h];rw [ht];dsimp only;rw [Y,cond_false];have a2:(Nat.ble (n*J) 16777216&&!Nat.beq J 0&&!Nat.beq n 0)=true:=h0;rw [a2,cond_true];obtain⟨Z,A,B⟩:=A3t (σ:=σ) a3 (B32 o hl) (B6e σ _ n);have X:cond (Nat.beq (M.L.ty e).size J) (match A6G J n (M.L.ty e).zero (ps.toList.map fun a0=>(a0.1,ev f a0.2)) with
       | some S=>∀ g a,New w S e g a->R (.slice (some ⟨g,0,none⟩) n n) a
       | none=>False) False:=by
       rw [j,cond_true,B6f ((B6g L).trans (z8 j)) A];exact k2 w0 σ w Z p B R q
      revert X;generalize M.L.ty e=d at L;intro X;cases d with
      | none=>exact absurd rfl L
      | _=>exact X
     ·cases i
    ·cases i
  ·cases h
 case convert s d x=>
  replace h:cond (B4B M.L s d) (match xP M.P M.L M.Q T (.convert s d x) F with
   | some v=>fV v fun v=>K v H
   | none=>false) (match xEv F x with
   | some v=>B6H M I s d v H K
   | none=>false)=true:=h
  cases O:B4B M.L s d with
  | true=>rw [O,cond_true] at h;exact C1T U h (fun c e=>by cases e)
  | false=>
   rw [O,cond_false] at h;split at h
   ·rename_i v hv;obtain⟨r,b,j,i⟩:=B6X h;refine⟨r,b,j,fun w0 σ f w G o p R q=>?_⟩;obtain⟨u,a,A,τ,B,C,D⟩:=i w0 σ w _ p (C8 o hv);have V:Runs M.P (Go.convert s d (ev f x)) w R:=⟨u,a,A,q τ u a B C D⟩;show (match M.L.ty s,M.L.ty d,ev f x with
     | .int _,.int k',.int _ n=>R (.int k' (k'.wrap n)) w
     | .str,.str,.string s=>R (.string s) w
     | _,_,x=>Runs M.P (Go.convert s d x) w R)
    unfold B4B at O;revert V;generalize M.L.ty s=Z at O;generalize M.L.ty d=dd at O;generalize ev f x=u;intro V;cases Z with
    | int k=>cases dd with
     | int k'=>cases O
     | _=>exact V
    | str=>cases dd with
     | str=>cases O
     | _=>exact V
    | _=>exact V
   ·cases h
 case makeSlice t l c=>
  replace h:(match xEv F l,xEv F c with
   | some l,some c=>B6I M I t l c H K
   | _,_=>false)=true:=h
  split at h
  ·rename_i l' c' hl hc;obtain⟨r,b,j,i⟩:=B6c U h;refine⟨r,b,j,fun w0 σ f w G o p R q=>?_⟩;obtain⟨u,a,A,τ,B,C,D⟩:=i w0 σ w _ _ p (C8 o hl) (C8 o hc);exact⟨u,a,A,q τ u a B C D⟩
  ·cases h
 case makeMap t a1=>
  cases a1 with
  | none=>
   obtain⟨r,b,j,i⟩:=A8i (P:=M.P) (t:=t) (show B7J I (.m [] 0) H (fun N H=>K (.o (.m N)) H)=true from h);refine⟨r,b,j,fun w0 σ f w G o p R q=>?_⟩;obtain⟨u,a,A,τ,B,C,D⟩:=i w0 σ w p;exact⟨u,a,A,q τ u a B C D⟩
  | some a1=>exact C1T U h (fun c e=>by cases e)
 case lookup t x y ok=>
  replace h:(match xEv F x,xEv F y with
   | some m,some k=>A5u M t m k ok H K
   | _,_=>false)=true:=h
  split at h
  ·rename_i m k Q hk;obtain⟨r,b,j,i⟩:=B1G U h;refine⟨r,b,j,fun w0 σ f w G o p R q=>?_⟩;obtain⟨u,a,A,τ,B,C,D⟩:=i w0 σ w _ _ p (C8 o Q) (C8 o hk);exact⟨u,a,A,q τ u a B C D⟩
  ·cases h
 case mapUpdate t x y z=>
  replace h:(match xEv F x,xEv F y,xEv F z with
   | some m,some k,some v=>A5v M t m k v H K
   | _,_,_=>false)=true:=h
  split at h
  ·rename_i m k v Q hk hv;obtain⟨b,j,i⟩:=B1I h;refine⟨_,b,j,fun w0 σ f w G o p R q=>?_⟩;obtain⟨a,A,B⟩:=i w0 σ w _ _ _ p (C8 o Q) (C8 o hk) (C8 o hv);exact⟨a,A,q σ _ a (Ex.refl _) rfl B⟩
  ·cases h
 case range t x=>
  replace h:(match xEv F x with
   | some m=>A9u M I t m H K
   | none=>false)=true:=h
  split at h
  ·rename_i m Q;obtain⟨r,b,j,i⟩:=B4L h;refine⟨r,b,j,fun w0 σ f w G o p R q=>?_⟩;obtain⟨u,a,A,τ,B,C,D⟩:=i w0 σ w _ p (C8 o Q);exact⟨u,a,A,q τ u a B C D⟩
  ·cases h
 case next x s=>
  replace h:(match xEv F x with
   | some it=>B6E it s H K
   | none=>false)=true:=h
  split at h
  ·rename_i m Q;obtain⟨r,b,j,i⟩:=B6V (P:=M.P) (T:=T) h;refine⟨r,b,j,fun w0 σ f w G o p R q=>?_⟩;obtain⟨u,a,A,τ,B,C,D⟩:=i w0 σ w _ p (C8 o Q);exact⟨u,a,A,q τ u a B C D⟩
  ·cases h
 case entry x=>
  replace h:(match xEv F x with
   | some it=>A9v it H K
   | none=>false)=true:=h
  split at h
  ·rename_i m Q;obtain⟨r,b,j,i⟩:=B4M (P:=M.P) h;refine⟨r,b,j,fun w0 σ f w G o p R q=>?_⟩;obtain⟨u,a,A,τ,B,C,D⟩:=i w0 σ w _ p (C8 o Q);exact⟨u,a,A,q τ u a B C D⟩
  ·cases h
 all_goals exact C1T U h (fun c e=>by cases e)
end
end Go.Vx
end
section
namespace Go.Vx
open Go Go.Vc Go.RowKit
section
variable {M:Mach} {E:World->Prop} {F:Tr EV} {H:Hp} {σ:Sg} {w0 w:World} {f:Fr} {call:Nat->List EV->Hp->Kt->Bool}
theorem A54 {d:Option Nat} {v:EV} {K:Tr EV->Bool} (b:B82 F d v K=true):∃ a,K a=true/\∀ σ f u,FR σ F f->VR σ v u->FR σ a (B9J f d u):=by
 cases d with
 | none=>exact⟨F,b,fun σ f u h _=>h⟩
 | some t=>
  obtain⟨a,c,e⟩:=Tr.setK_ok _ _ _ _ (show F.setK t v K=true from b);exact⟨a,c,fun σ f u h g=>h.upd g e⟩
theorem FR.same {t:Nat} {v:Value} (h:FR σ F f) (e:f t=v):FR σ F (Go.Vc.upd f t v):=fun j x a=>by
 show VR σ x (bif Nat.beq j t then v else f j);cases b:Nat.beq j t with
 | false=>exact h j x a
 | true=>
  have:=z8 b;subst this;have:=h j x a;rw [e] at this;exact this
theorem A31 {p:List Oper} {j:Nat} {w r:Bool} (h:A4x p F (some (j,w))=some r) (c:FR σ F f):(J6 p f j=none/\r=false)\/∃ t b,J6 p f j=some (t,b)/\f t=.bool b/\r=(b==w):=by
 replace h:(match p[j]? with
  | some o=>match o.dst with
   | some t=>match F.get t with
    | some (.o (.l (.bool b)))=>some (b==w)
    | some (.o (.l (.tuple _)))=>some false
    | _=>none
   | none=>some false
  | none=>some false)=some r:=h
 unfold J6;cases g:p[j]? with
 | none=>rw [g] at h;cases h;exact .inl ⟨rfl,rfl⟩
 | some o=>
  rw [g] at h;dsimp only at h ⊢;cases d:o.dst with
  | none=>rw [d] at h;cases h;exact .inl ⟨rfl,rfl⟩
  | some t=>
   rw [d] at h;dsimp only at h ⊢;split at h
   ·rename_i b a;cases h;have e:f t=.bool b:=c t _ a;exact .inr ⟨t,b,by rw [e],e,rfl⟩
   ·rename_i vs a;cases h;have e:f t=.tuple vs:=c t _ a;exact .inl ⟨by rw [e],rfl⟩
   ·cases h
theorem A4z {p:List Oper} {o:Oper} {y:Nat->Op->Fr->Option Nat->Prop} {no:Fr->Prop} (k:A4x p F o.guard=some true) (a:FR σ F f) (i:∀ c,FR σ F c->y o.type o.op c o.dst):gOp p o f y no:=by
 obtain⟨d,j,T,n,r,g⟩:=o;cases g with
 | none=>exact i f a
 | some g=>
  obtain⟨m,w⟩:=g;show (match J6 p f m with
   | some (t,b)=>Bool.rec (motive:=fun _=>Prop)
     (cond w (T8 (upd f t (.bool false)) d undef no) (y T j (upd f t (.bool false)) d))
     (cond w (y T j (upd f t (.bool true)) d) (T8 (upd f t (.bool true)) d undef no)) b
   | none=>T8 f d undef no)
  obtain⟨e,h⟩|⟨t,b,e,h,l⟩:=A31 k a
  ·cases h
  ·rw [e];have s:=a.same h;cases b<;>cases w<;>first | (cases l;done) | exact i _ s
theorem A7d {p:List Oper} {o:Oper} {y:Nat->Op->Fr->Option Nat->Prop} {no:Fr->Prop} (e:A4x p F o.guard=some false) (a:FR σ F f) (n:∀ c,FR σ F c->no (B9J c o.dst undef)):gOp p o f y no:=by
 obtain⟨d,j,T,m,r,g⟩:=o;cases g with
 | none=>cases e
 | some g=>
  obtain⟨l,w⟩:=g;show (match J6 p f l with
   | some (t,b)=>Bool.rec (motive:=fun _=>Prop)
     (cond w (T8 (upd f t (.bool false)) d undef no) (y T j (upd f t (.bool false)) d))
     (cond w (y T j (upd f t (.bool true)) d) (T8 (upd f t (.bool true)) d undef no)) b
   | none=>T8 f d undef no)
  obtain⟨h,i⟩|⟨t,b,h,i,k⟩:=A31 e a
  ·rw [h];show T8 f d undef no;rw [L3];exact n f a
  ·rw [h];have s:=n _ (a.same i);cases b<;>cases w<;>first | (cases k;done) | (show T8 _ d undef no;rw [L3];exact s)
theorem A94 (a:Sg):VR a (lit undef) undef:=rfl
theorem A55 (v:MachOk M E) (C:A2P M E call) {A:Option Nat} {s:List Oper} {o:Oper} {K:Tr EV->Hp->Bool} (h:A7W M call A s o F H K=true):∃ b c,K b c=true/\∀ w0 σ f w,E w0->FR σ F f->Rep w0 σ H w->∀ (Y:Fr->Option Nat->Value->World->Prop) (N:Fr->Prop),
  (∀ τ l u e,Ex σ τ->Rep w0 τ c e->FR τ b (B9J l o.dst u)->Y l o.dst u e)->(∀ a,Rep w0 σ c w->FR σ b a->N a)->gOp s o f (fun T B f t=>vOp M.P M.L T B f w (Y f t)) N:=by
 unfold A7W at h;split at h
 ·rename_i k;obtain⟨D,c,q,r⟩:=C1U v C h;obtain⟨b,g,i⟩:=A54 q;refine⟨b,c,g,fun w0 σ f w m j R Y N p n=>A4z k j fun a d=>r w0 σ a w m d R _ fun τ u e x z y=>p τ a u e x y (i τ a u (d.ex x) z)⟩
 ·rename_i k;obtain⟨b,g,i⟩:=A54 h;exact⟨b,H,g,fun w0 σ f w m j R Y N p n=>A7d k j fun a d=>n _ R (i σ a undef d (A94 σ))⟩
 ·cases h
theorem B4O {P:Program} {L:Lay} {o l:List Oper} {b:Oper} {K:Fr->World->Prop}:A6H P L o (b::l) f w K=gOp o b f (fun T p f d=>vOp P L T p f w fun v c=>T8 f d v fun a=>A6H P L o l a c K) (fun a=>A6H P L o l a w K):=by obtain⟨d,p,T,s,t,g⟩:=b;cases g<;>rfl
def C0S (E:World->Prop) (F:Tr EV) (H:Hp) (F':Tr EV) (H':Hp) (X:Fr->World->(Fr->World->Prop)->Prop):Prop:=
 ∀ w0 σ f w,E w0->FR σ F f->Rep w0 σ H w->∀ R,(∀ τ f' w',Ex σ τ->FR τ F' f'->Rep w0 τ H' w'->R f' w')->X f w R
theorem B4P (q:MachOk M E) (C:A2P M E call) {p:List Oper}:∀ (l:List Oper) (F:Tr EV) (H:Hp) (K:Tr EV->Hp->Bool),C1Q M call p l F H K=true->∃ b c,K b c=true/\C0S E F H b c (fun f w R=>A6H M.P M.L p l f w R)
 | [],F,H,K,h=>⟨F,H,h,fun w0 σ f w d g j R e=>e σ f w (Ex.refl _) g j⟩
 | o::l,F,H,K,h=>by obtain⟨r,s,u,v⟩:=A55 q C (show A7W M call none p o F H (fun F H=>C1Q M call p l F H K)=true from h);obtain⟨b,c,x,n⟩:=B4P q C l r s K u;refine⟨b,c,x,fun w0 σ f w d g j R e=>?_⟩;show A6H M.P M.L p (o::l) f w R;rw [B4O];refine v w0 σ f w d g j (fun f t A m=>T8 f t A fun a=>A6H M.P M.L p l a m R) _ (fun τ G I m y k i=>?_) (fun a k i=>n w0 σ a w d i k R e);rw [L3];exact n w0 τ _ m d i k R fun D a B z=>e D a B (y.trans z)
end
end Go.Vx
end
section
namespace Go.Vx
open Go Go.Vc Go.RowKit
theorem V4 {c:Type} {R:c->c->Bool} (d:∀ x y,R x y=true->x=y):∀ a b:List c,B4E R a b=true->a=b
 | [],b,h=>by cases b with
  | nil=>rfl
  | cons y r=>cases h
 | x::a,b,h=>by cases b with
  | nil=>cases h
  | cons y r=>
   obtain⟨e,f⟩:=Bool.and_eq_true_iff.1 (show (R x y&&B4E R a r)=true from h);rw [d _ _ e,V4 d a r f]
theorem B4Q {a b:Value} (h:C0w a b=true):a=b:=by
 unfold C0w at h;split at h
 ·rename_i k x i y;obtain⟨d,f⟩:=Bool.and_eq_true_iff.1 h;rw [intSame_eq d,eqI_iff f]
 ·rename_i s t;rw [A3r] at h;have:=eq_of_beq h;rw [<-A2n s,<-A2n t,this]
 ·rename_i x y;rw [eq_of_beq h]
 ·rfl
 ·rename_i n c n' g;obtain⟨d,f⟩:=Bool.and_eq_true_iff.1 h;rw [z8 d,z8 f]
 ·rfl
 ·rfl
 ·rfl
 ·obtain⟨d,f⟩:=Bool.and_eq_true_iff.1 h;rw [z8 d,z8 f]
 ·rw [z8 h]
 ·rename_i a b;obtain⟨d,f⟩:=Bool.and_eq_true_iff.1 h;have e:∀ a:Array Value,A2s a.toList=true->a=#[]:=fun a h=>by
   obtain⟨l⟩:=a;cases l with
   | nil=>rfl
   | cons x r=>cases h
  rw [e a d,e b f]
 ·cases h
theorem C0T {a b:EC} (h:eqC a b=true):a=b:=by
 unfold eqC at h;split at h
 ·rw [z8 h]
 ·obtain⟨c,d⟩:=Bool.and_eq_true_iff.1 h;rw [z8 c,z8 d]
 ·rw [z8 h]
 ·cases h
theorem A40 (e b:EB) (h:eqE e b=true):e=b:=by
 unfold eqE at h;split at h
 ·rw [B4Q h]
 ·obtain⟨a,c⟩:=Bool.and_eq_true_iff.1 h;rw [z8 a,z8 c]
 ·simp only [z7] at h;obtain⟨⟨⟨a,c⟩,d⟩,f⟩:=h;rw [z8 a,z8 c,z8 d,C0T f]
 ·rw [z8 h]
 ·obtain⟨a,c⟩:=Bool.and_eq_true_iff.1 h;rw [z8 a,V4 (fun x y h=>by obtain⟨a,c⟩:=Bool.and_eq_true_iff.1 h;exact Prod.ext (z8 a) (z8 c)) _ _ c]
 ·simp only [z7] at h;obtain⟨⟨a,c⟩,d⟩:=h;rw [intSame_eq a,eqI_iff c,eqI_iff d]
 ·rfl
 ·cases h
theorem B7P (a b:EV) (h:eqX a b=true):a=b:=by
 unfold eqX at h;split at h
 ·rw [A40 _ _ h]
 ·rw [V4 A40 _ _ h]
 ·rw [V4 (fun x y h=>by obtain⟨c,d⟩:=Bool.and_eq_true_iff.1 h;exact Prod.ext (eq_of_beq c) (V4 A40 _ _ d)) _ _ h]
 ·cases h
theorem A95 {f:Type} {R:f->f->Bool} (d:∀ x y,R x y=true->x=y):∀ a b:Tr f,eqT R a b=true->a=b
 | .e,b,h=>by cases b with
  | e=>rfl
  | n v l r=>cases h
 | .n v l r,b,h=>by cases b with
  | e=>cases h
  | n m g i=>
   replace h:(eqO R v m&&eqT R l g&&eqT R r i)=true:=h;simp only [z7] at h;obtain⟨⟨c,j⟩,k⟩:=h;rw [A95 d l g j,A95 d r i k];unfold eqO at c;split at c
   ·rfl
   ·rw [d _ _ c]
   ·cases c
theorem B6i (e b:Ent) (h:B4F e b=true):e=b:=by
 unfold B4F at h;split at h
 ·rfl
 ·simp only [z7] at h;obtain⟨⟨a,c⟩,d⟩:=h;rw [z8 a,z8 c,V4 A40 _ _ d]
 ·obtain⟨a,c⟩:=Bool.and_eq_true_iff.1 h;rw [z8 c,V4 (fun x y h=>by simp only [z7] at h;obtain⟨⟨a,c⟩,d⟩:=h;exact Prod.ext (B4Q a) (Prod.ext (B7P _ _ c) (z8 d))) _ _ a]
 ·simp only [z7] at h;obtain⟨⟨⟨a,c⟩,d⟩,f⟩:=h;rw [z8 a,z8 c,V4 (fun x y h=>z8 h) _ _ d,z8 f]
 ·rw [V4 A40 _ _ h]
 ·cases h
section
variable {σ:Sg}
theorem B4R:∀ {s:List (Nat × Nat)} {a b:List Value},All2 (PR σ) s a->All2 (PR σ) s b->a=b
 | [],[],[],_,_=>rfl
 | c::s,u::a,v::b,h,k=>by obtain⟨q,e,f⟩:=h.1;obtain⟨q',d,g⟩:=k.1;rw [e] at d;cases d;rw [f,g,B4R h.2 k.2]
theorem B6j {x:EB} {y v:Value} (t:B83 x=true) (i:BR σ x y) (r:BR σ x v):y=v:=by
 cases x with
 | l a=>exact i.trans r.symm
 | p N o=>
  obtain⟨q,h,b⟩:=i;obtain⟨q',d,e⟩:=r;rw [h] at d;cases d;rw [b,e]
 | s N o n c=>
  obtain⟨q,a,B,h,b,u⟩:=i;obtain⟨q',A,cp',d,e,w⟩:=r;rw [h] at d;cases d;cases c with
  | k c=>rw [u,w,b.1,e.1,b.2.1,e.2.1]
  | j C A=>
   have D:B=cp':=by have F:=b.2.1;have G:=e.2.1;omega
   rw [u,w,b.1,e.1,D]
  | z C=>cases t
 | m N=>
  obtain⟨q,h,b⟩:=i;obtain⟨q',d,e⟩:=r;rw [h] at d;cases d;rw [b,e]
 | f g E=>
  obtain⟨J,h,b⟩:=i;obtain⟨K,d,e⟩:=r;rw [b,e,B4R h d]
 | rg k I H=>cases t
 | bo=>cases t
theorem A32:∀ {xs:List EB} {s a:List Value},B1C xs=true->All2 (BR σ) xs s->All2 (BR σ) xs a->s=a
 | [],[],[],_,_,_=>rfl
 | x::xs,u::s,v::a,h,h1,h2=>by obtain⟨k,b⟩:=Bool.and_eq_true_iff.1 (show (B83 x&&B1C xs)=true from h);rw [B6j k h1.1 h2.1,A32 b h1.2 h2.2]
end
abbrev Lk:=Nat × Nat × List EB
def C0U (σ:Sg) (lk:Lk) (z:World):Prop:=∃ q cs,σ lk.1=some q/\All2 (BR σ) lk.2.2 cs/\cellsAt z ⟨q.b,q.o+lk.2.1,none⟩ cs 0
def Cls (σ:Sg) (lks:List Lk) (z:World):Prop:=∀ lk∈lks,C0U σ lk z
section
variable {M:Mach} {E:World->Prop} {T:Nat} {F:Tr EV} {H H0:Hp} {σ σ0 τ:Sg} {w0 w:World} {f:Fr} {call:Nat->List EV->Hp->Kt->Bool}
def At (H:Hp) (lk:Lk):Prop:=∃ xs,rowR H lk.1=some xs/\(xs.drop lk.2.1).take lk.2.2.length=lk.2.2/\B1C lk.2.2=true
theorem A7e {lk:Lk} (h:A7X H lk=true):At H lk:=by
 unfold A7X at h;split at h
 ·rename_i xs r;obtain⟨a,b⟩:=Bool.and_eq_true_iff.1 h;exact⟨xs,r,V4 A40 _ _ a,b⟩
 ·cases h
theorem C0x (R:Rep w0 σ H w) {l:Lk} (a:At H l):C0U σ l w:=by
 obtain⟨N,o,ys⟩:=l;obtain⟨xs,r,e,_⟩:=a;by_cases b:o+ys.length<=xs.length
 ·obtain⟨q,c,d,k,g,f⟩:=R.rowR r o ys.length b;rw [show (xs.drop o).take ys.length=ys from e] at k;exact⟨q,c,d,k,f⟩
 ·have:ys=[]:=by have h:=yb List.length e;rw [zg,zh] at h;apply zo;show ys.length=0;replace h:min ys.length (xs.length-o)=ys.length:=h;omega
  subst this;obtain⟨q,h⟩:=R.placeR r;exact⟨q,[],h,t6,t6⟩
theorem B88 (x:Ex σ τ) {l:Lk} (d:C0U σ l w0) (s:B1C l.2.2=true) (b:C0U τ l w):C0U σ l w:=by obtain⟨q,c,h,a,i⟩:=d;obtain⟨r,g,k,e,f⟩:=b;rw [x _ _ h] at k;cases k;have:=A32 s (a.mono (BR.ex x)) e;subst this;exact⟨q,c,h,a,f⟩
structure AOk (H0:Hp) (A:Acc):Prop where
 at0:∀ lk∈A.lks,At H0 lk
 all:∀ lk∈A.lks,∀ h∈A.hs,At h lk
structure Acc.le (A B:Acc):Prop where
 lks:∀ lk∈A.lks,lk∈B.lks
 hs:∀ h∈A.hs,h∈B.hs
theorem Acc.le.trans {A B C:Acc} (a:A.le B) (k:B.le C):A.le C:=⟨fun x h=>k.lks x (a.lks x h),fun x h=>k.hs x (a.hs x h)⟩
theorem Acc.le.refl (A:Acc):A.le A:=⟨fun _ h=>h,fun _ h=>h⟩
theorem C0V {A:Acc} (h:AOk H0 A) {s:World} (b:Rep w0 σ0 H0 s) (x:Ex σ0 σ) (R:Rep w0 σ H w) (c:H∈A.hs):Cls σ0 A.lks w:=fun lk l=>
 B88 x (C0x b (h.at0 lk l)) (by obtain⟨_,_,_,a⟩:=h.at0 lk l;exact a) (C0x R (h.all lk l H c))
theorem B6k {a:Type} (l:List a) (n:Nat):l.take (l.take n).length=l.take n:=by
 rw [zg];by_cases h:n<=l.length
 ·rw [Nat.min_eq_left h]
 ·rw [Nat.min_eq_right (by omega),List.take_length,ym (by omega)]
theorem B6l {t:Nat} {v:EV} {p:Acc} {K:EV->Acc->Bool} (h:B6O M t v H0 p K=true) (P:AOk H0 p):∃ g A,K g A=true/\p.le A/\AOk H0 A/\∀ w0 σ0 ws,Rep w0 σ0 H0 ws->∀ C:World->Prop,(∀ z,C z->Cls σ0 A.lks z)->∀ σ f,Ex σ0 σ->FR σ F f->∀ x,xEv F x=some v->∀ R:Value->Prop,(∀ V,VR σ g V->R V)->Go.Vc.qOp M.P M.L C T (.load t x) f R:=by
 unfold B6O at h;split at h
 ·rename_i N o;split at h
  ·rename_i xs hr;split at h
   ·rename_i g u;rw [A0q] at h;obtain⟨J,s⟩:=C2 h;rw [A2W] at s;obtain⟨L,O⟩:=Bool.and_eq_true_iff.1 J;have B:At H0 (N,o,(xs.drop o).take (M.L.ty t).size):=⟨_,hr,B6k _ _,L⟩;refine⟨g,_,s,⟨fun lk l=>zu _ l,fun h j=>j⟩,⟨fun lk l=>?_,fun lk l h j=>?_⟩,fun w0 σ0 ws h0 C Z σ f E hF x hv R Q=>?_⟩
    ·cases l with
     | head=>exact B
     | tail _ l=>exact P.at0 lk l
    ·cases l with
     | head=>exact A7e (A50 O h j)
     | tail _ l=>exact P.all lk l h j
    ·obtain⟨r,a0,e⟩:=C8 hF hv;obtain⟨q,cs,U,b,k3⟩:=C0x h0 B;have:σ N=some q:=E _ _ U;rw [show σ N=some r from a0] at this;cases this;have D:∀ z,C z->cellsAt z ⟨r.b,r.o+o,none⟩ cs 0:=fun z G=>by obtain⟨q',ds,m,H,I⟩:=Z z G _ (zv ..);rw [U] at m;cases m;rw [A32 L b H];exact I
     replace hv:=e;have one:(match xs[o]? with
       | some x=>some (EV.o x)
       | none=>none)=some g->(M.L.ty t).size=1->∃ v,(∀ z,C z->z.cell? ⟨r.b,r.o+o,none⟩=some v)/\R v:=fun h hs=>by
      split at h
      ·rename_i a1 y;cases h;have X:(xs.drop o).take (M.L.ty t).size=[a1]:=by
        rw [hs];have S:o<xs.length:=by
         obtain h|h:=zm o xs.length
         ·exact h
         ·rw [List.getElem?_eq_none h] at y;cases y
        rw [yl S];rw [yc S] at y;cases y;rfl
       replace b:All2 (BR σ0) ((xs.drop o).take (M.L.ty t).size) cs:=b;rw [X] at b;obtain⟨c,rfl,hc⟩:=b.one;exact⟨c,fun z G=>by have:=(D z G).1;rwa [yi,Nat.add_zero] at this,Q _ (BR.ex E _ _ hc)⟩
      ·cases h
     have i:cond (Nat.ble (Nat.add o (M.L.ty t).size) xs.length) (some (EV.a ((xs.drop o).take (M.L.ty t).size))) none=some g->∃ cs:List Value,cs.length=(M.L.ty t).size/\(∀ z,C z->cellsAt z ⟨r.b,r.o+o,none⟩ cs 0)/\R (.agg cs.toArray):=fun h=>by obtain⟨m,H⟩:=B6 h;cases H;have I:=ze m;refine⟨cs,?_,D,Q _ ⟨cs,b.mono (BR.ex E),rfl⟩⟩;rw [b.len];show ((xs.drop o).take (M.L.ty t).size).length=_;rw [zg,zh];exact Nat.min_eq_left (Nat.le_sub_of_add_le (by rw [Nat.add_comm];exact I))
     show (match M.L.ty t,ev f x with
      | .none,_=>False
      | .array _ _ _ z,.pointer (some a)=>∃ cs:List Value,cs.length=z.length/\(∀ w,C w->cellsAt w a cs 0)/\R (.agg cs.toArray)
      | .struct _ z,.pointer (some a)=>∃ cs:List Value,cs.length=z.length/\(∀ w,C w->cellsAt w a cs 0)/\R (.agg cs.toArray)
      | _,.pointer (some a)=>∃ v,(∀ w,C w->w.cell? a=some v)/\R v
      | _,_=>False)
     rw [e];clear s O B b D J;revert u one i;generalize M.L.ty t=d;intro u one i;cases d with
     | none=>cases u
     | array n W Y z=>exact i u
     | struct fs z=>exact i u
     | int k=>exact one u rfl
     | str=>exact one u rfl
     | bool=>exact one u rfl
     | slice W Y=>exact one u rfl
     | one z=>exact one u rfl
   ·cases h
  ·cases h
 ·cases h
end
end Go.Vx
end
section
namespace Go.Vx
open Go Go.Vc Go.RowKit
section
variable {M:Mach} {E:World->Prop} {T:Nat} {F:Tr EV} {H H0:Hp} {σ σ0 τ:Sg} {w0 w:World} {f:Fr} {call:Nat->List EV->Hp->Kt->Bool}
theorem C1V (q:MachOk M E) {o:Op} {a:Acc} {K:EV->Acc->Bool} (h:xQ M H0 T o F a K=true) (g:AOk H0 a):∃ u A,K u A=true/\a.le A/\AOk H0 A/\∀ w0 σ0 ws,Rep w0 σ0 H0 ws->∀ C:World->Prop,(∀ z,C z->Cls σ0 A.lks z)->∀ σ f,Ex σ0 σ->FR σ F f->∀ R:Value->Prop,(∀ b,VR σ u b->R b)->Go.Vc.qOp M.P M.L C T o f R:=by
 have r:(match xP M.P M.L M.Q T o F with
   | some v=>fV v fun v=>K v a
   | none=>false)=true->(∀ t x,o≠.load t x)->∃ u A,K u A=true/\a.le A/\AOk H0 A/\∀ w0 σ0 ws,Rep w0 σ0 H0 ws->∀ C:World->Prop,(∀ z,C z->Cls σ0 A.lks z)->∀ σ f,Ex σ0 σ->FR σ F f->∀ R:Value->Prop,(∀ b,VR σ u b->R b)->Go.Vc.qOp M.P M.L C T o f R:=fun h p=>by
  split at h
  ·rename_i v hv;rw [A2W] at h;refine⟨v,a,h,Acc.le.refl a,g,fun w0 σ0 ws h0 C i σ f j c R d=>?_⟩;have:=C0G c hv d;cases o
   case load t x=>exact absurd rfl (p t x)
   all_goals exact this
  ·cases h
 cases o
 case load t x=>
  replace h:(match xEv F x with
   | some v=>B6O M t v H0 a K
   | none=>false)=true:=h
  split at h
  ·rename_i v hv;obtain⟨u,A,k,l,m,n⟩:=B6l (T:=T) (F:=F) h g;exact⟨u,A,k,l,m,fun w0 σ0 ws h0 C i σ f j c R d=>n w0 σ0 ws h0 C i σ f j c x hv R d⟩
  ·cases h
 all_goals exact r h (fun t x e=>by cases e)
def C1W (M:Mach) (E:World->Prop) (ops:List Oper) (H0:Hp) (s:Sched) (F:Tr EV) (H:Hp) (A':Acc) (F':Tr EV) (H':Hp):Prop:=
 ∀ w0 σ0 ws,E w0->Rep w0 σ0 H0 ws->∀ B:Acc,A'.le B->AOk H0 B->∀ σ f w,Ex σ0 σ->FR σ F f->Rep w0 σ H w->Cls σ0 B.lks w->∀ R:Fr->World->Prop,(∀ τ f' w',Ex σ τ->FR τ F' f'->Rep w0 τ H' w'->R f' w')->dV M.P M.L ops (Cls σ0 B.lks) s f w R
theorem C1X (hM:MachOk M E) (hC:A2P M E call) {p:List Oper} {O:Nat}:∀ (s:Sched) (F:Tr EV) (H:Hp) (A:Acc) (K:Kd),xD M call p H0 O s F H A K=true->AOk H0 A->∃ L H' J,K L H' J=true/\A.le J/\AOk H0 J/\C1W M E p H0 s F H J L H':=by
 intro s;induction s with
 | fin=>exact fun F H A K h y=>⟨F,H,A,h,Acc.le.refl A,y,fun w0 σ0 ws e h0 B d g σ f w x i j m R c=>c σ f w (Ex.refl _) i j⟩
 | stop=>exact fun F H A K h y=>⟨F,H,A,h,Acc.le.refl A,y,fun w0 σ0 ws e h0 B d g σ f w x i j m R c=>trivial⟩
 | z r=>
  intro F H A K h y;replace h:(match p[r]? with
   | some o=>A7W M call (some (Nat.add O r)) p o F H fun F H=>K F H A
   | none=>false)=true:=h
  split at h
  ·rename_i o Z;obtain⟨L,H',W,X⟩:=A55 hM hC h;refine⟨L,H',A,W,Acc.le.refl A,y,fun w0 σ0 ws e h0 B d g σ f w x i j m R c=>?_⟩;show (match p[r]? with
    | some o=>gOp p o f (fun T D f t=>vOp M.P M.L T D f w fun v b=>T8 f t v fun a=>R a b) (fun a=>R a w)
    | none=>False)
   rw [Z];refine X w0 σ f w e i j (fun f t v b=>T8 f t v fun a=>R a b) _ (fun τ f0 a4 b Q l k=>?_) (fun a l k=>c σ a w (Ex.refl _) k l);rw [L3];exact c τ _ b Q k l
  ·cases h
 | q r s ih=>
  intro F H A K h y;replace h:(match p[r]? with
   | some o=>match A4x p F o.guard with
    | some true=>xQ M H0 o.type o.op F A fun v A=>B82 F o.dst v fun F=>xD M call p H0 O s F H A K
    | some false=>B82 F o.dst (lit undef) fun F=>xD M call p H0 O s F H A K
    | none=>false
   | none=>false)=true:=h
  split at h
  ·rename_i o Z;have shape:∀ (C:World->Prop) f w R,dV M.P M.L p C (.q r s) f w R=gOp p o f (fun T D f t=>Go.Vc.qOp M.P M.L C T D f fun v=>T8 f t v fun a=>dV M.P M.L p C s a w R) (fun a=>dV M.P M.L p C s a w R):=fun C f w R=>by
    show (match p[r]? with
     | some o=>gOp p o f (fun T D f t=>Go.Vc.qOp M.P M.L C T D f fun v=>T8 f t v fun a=>dV M.P M.L p C s a w R) (fun a=>dV M.P M.L p C s a w R)
     | none=>False)=_
    rw [Z]
   split at h
   ·rename_i hg;obtain⟨a4,A1,W,X,h3,h4⟩:=C1V hM h y;obtain⟨P,h5,h6⟩:=A54 W;obtain⟨L,H',J,h7,h8,h9,a0⟩:=ih P H A1 K h5 h3;refine⟨L,H',J,h7,X.trans h8,h9,fun w0 σ0 ws e h0 B d g σ f w x i j m R c=>?_⟩;rw [shape];refine A4z hg i fun a k=>h4 w0 σ0 ws h0 _ (fun z hz lk hl=>hz lk (d.lks lk (h8.lks lk hl))) σ a x k _ fun u' hu=>?_;rw [L3];exact a0 w0 σ0 ws e h0 B d g σ _ w x (h6 σ a u' k hu) j m R c
   ·rename_i hg;obtain⟨P,h5,h6⟩:=A54 h;obtain⟨L,H',J,h7,h8,h9,a0⟩:=ih P H A K h5 y;refine⟨L,H',J,h7,h8,h9,fun w0 σ0 ws e h0 B d g σ f w x i j m R c=>?_⟩;rw [shape];exact A7d hg i fun a k=>a0 w0 σ0 ws e h0 B d g σ _ w x (h6 σ a undef k (A94 σ)) j m R c
   ·cases h
  ·cases h
 | n r s I a8 a9=>
  intro F H A K h y;replace h:(match p[r]? with
   | some o=>A7W M call (some (Nat.add O r)) p o F H fun P N=>cond (B9R (A7X N) A.lks) (xD M call p H0 O s P N ⟨A.lks,N::A.hs⟩ fun G u A2=>cond I.isStop (K G u A2) (xD M call p H0 O I F H A2 fun F3 S U=>cond (eqT eqX G F3&&eqT B4F u.t S.t&&Nat.beq u.n S.n) (K G u U) false)) false
   | none=>false)=true:=h
  split at h
  ·rename_i o Z;obtain⟨P,N,W,X⟩:=A55 hM hC h;obtain⟨h3,h4⟩:=C2 W;have a5:AOk H0 ⟨A.lks,N::A.hs⟩:=⟨y.at0,fun lk hl h Y=>by
    cases Y with
    | head=>exact A7e (A50 h3 lk hl)
    | tail _ Y=>exact y.all lk hl h Y⟩
   obtain⟨G,u,A2,k1,k2,k3,k4⟩:=a8 P N _ _ h4 a5;have a3:A.le A2:=⟨k2.lks,fun h Y=>k2.hs h (zu _ Y)⟩;have a6:N∈A2.hs:=k2.hs N (zv ..)
   -- the first way
   have a1:∀ w0 σ0 ws,E w0->Rep w0 σ0 H0 ws->∀ B:Acc,A2.le B->AOk H0 B->∀ σ f w,Ex σ0 σ->FR σ F f->Rep w0 σ H w->Cls σ0 B.lks w->∀ R:Fr->World->Prop,(∀ τ a b,Ex σ τ->FR τ G a->Rep w0 τ u b->R a b)->
     gOp p o f (fun T D f t=>vOp M.P M.L T D f w fun v b=>Cls σ0 B.lks b/\T8 f t v fun a=>dV M.P M.L p (Cls σ0 B.lks) s a b R) (fun a=>dV M.P M.L p (Cls σ0 B.lks) s a w R):=fun w0 σ0 ws e h0 B d g σ f w x i j m R c=>by
    refine X w0 σ f w e i j (fun f t v b=>Cls σ0 B.lks b/\T8 f t v fun a=>dV M.P M.L p (Cls σ0 B.lks) s a b R) _ (fun τ f0 a4 b Q l k=>?_) (fun a l k=>?_)
    ·have a2:=C0V g h0 (x.trans Q) l (d.hs _ a6);refine⟨a2,?_⟩;rw [L3];exact k4 w0 σ0 ws e h0 B d g τ _ b (x.trans Q) k l a2 R fun υ a b1 a7=>c υ a b1 (Q.trans a7)
    ·exact k4 w0 σ0 ws e h0 B d g σ a w x k l m R c
   have shape:∀ (C:World->Prop) f w R,dV M.P M.L p C (.n r s I) f w R=(gOp p o f (fun T D f t=>vOp M.P M.L T D f w fun v b=>C b/\T8 f t v fun a=>dV M.P M.L p C s a b R) (fun a=>dV M.P M.L p C s a w R)/\dV M.P M.L p C I f w R):=fun C f w R=>by
    show ((match p[r]? with
     | some o=>gOp p o f (fun T D f t=>vOp M.P M.L T D f w fun v b=>C b/\T8 f t v fun a=>dV M.P M.L p C s a b R) (fun a=>dV M.P M.L p C s a w R)
     | none=>False)/\dV M.P M.L p C I f w R)=_
    rw [Z]
   cases ht:I.isStop with
   | true=>
    have:I=.stop:=by cases I<;>first | rfl | cases ht
    subst this;refine⟨G,u,A2,k1,a3,k3,fun w0 σ0 ws e h0 B d g σ f w x i j m R c=>?_⟩;rw [shape];exact⟨a1 w0 σ0 ws e h0 B d g σ f w x i j m R c,t6⟩
   | false=>
    have b0:xD M call p H0 O I F H A2 (fun F3 S U=>cond (eqT eqX G F3&&eqT B4F u.t S.t&&Nat.beq u.n S.n) (K G u U) false)=true:=by rw [ht,cond_false] at k1;exact k1
    obtain⟨F3,S,U,m1,m2,m3,m4⟩:=a9 F H A2 _ b0 k3;obtain⟨m5,m6⟩:=C2 m1;simp only [z7] at m5;obtain⟨⟨e1,V⟩,e3⟩:=m5;have e1:=A95 B7P _ _ e1;have V:=A95 B6i _ _ V;subst e1;refine⟨G,u,U,m6,a3.trans m2,m3,fun w0 σ0 ws e h0 B d g σ f w x i j m R c=>?_⟩;rw [shape];refine⟨a1 w0 σ0 ws e h0 B (m2.trans d) g σ f w x i j m R c,m4 w0 σ0 ws e h0 B d g σ f w x i j m R fun τ a b Q k l=>c τ a b Q k ?_⟩;exact⟨l.below,by rw [V];exact l.none,by rw [V];exact l.ent,by rw [V];exact l.sep⟩
  ·cases h
theorem B1M (c:MachOk M E) (C:A2P M E call) {id n:Nat} {ops:Array Oper} {s:Sched} {t:List Bool} {K:Tr EV->Hp->Bool} (r:A7S ops.toList t s=true) (g:xD M call ops.toList H H.n s F ⟨H.t,n⟩ ⟨[],[]⟩ (fun F H _=>K F H)=true):∃ a b,K a b=true/\C0S E F H a b (fun f w R=>Drawn M.P id ops f w R):=by obtain⟨a,b,A,i,u,d,j⟩:=C1X c C s F ⟨H.t,n⟩ ⟨[],[]⟩ _ g ⟨fun lk l=>(by cases l),fun lk l=>by cases l⟩;refine⟨a,b,i,fun w0 σ f w k m p R o=>?_⟩;have h:=p.drew;have q:Rep w0 σ ⟨H.t,n⟩ w.drew:=⟨h.below,h.none,h.ent,h.sep⟩;have e:Cls σ A.lks w.drew:=fun lk l=>C0x h (d.at0 lk l);exact B9V (ops:=ops.toList) c.lay c.mixed s (Cls σ A.lks) (B38 r) e (j w0 σ w.drew k h A (Acc.le.refl A) d σ f w.drew (Ex.refl _) m q e R o)
end
end Go.Vx
end
section
namespace Go.Vx
open Go Go.Vc Go.RowKit
section
variable {M:Mach} {E:World->Prop} {T:Nat} {F:Tr EV} {H H0:Hp} {σ σ0 τ:Sg} {w0 w:World} {f:Fr} {call:Nat->List EV->Hp->Kt->Bool} {g:Nat}
def C0W (M:Mach) (E:World->Prop) (F:Tr EV) (H:Hp) (e:Exit) (F':Tr EV) (H':Hp) (X:Fr->World->(Exit->Fr->World->Prop)->Prop):Prop:=
 ∀ w0 σ f w,E w0->FR σ F f->Rep w0 σ H w->∀ R:Exit->Fr->World->Prop,(∀ τ f' w',Ex σ τ->FR τ F' f'->Rep w0 τ H' w'->R e f' w')->X f w R
def B6m (M:Mach) (E:World->Prop) (X:Fr->World->(Exit->Fr->World->Prop)->Prop):Nat->Tr EV->Hp->Exit->Tr EV->Hp->Prop
 | 0,_,_,_,_,_=>False
 | n+1,F,H,e',F',H'=>∃ e F1 H1,C0W M E F H e F1 H1 X/\(match e with
  | .normal=>B6m M E X n F1 H1 e' F' H'
  | e=>e'=e/\F'=F1/\H'=H1)
theorem C0X (d:FR σ F f):∃ l:List (Nat × Value),B4j f l/\∀ u,FR σ F (mk l u):=by
 obtain⟨s,a⟩:=F.keys;refine⟨s.map fun k=>(k,f k),?_,fun u t v e=>?_⟩
 ·clear a;induction s with
  | nil=>trivial
  | cons k s i=>exact⟨rfl,i⟩
 ·have n:=a t v e;have:mk (s.map fun k=>(k,f k)) u t=f t:=by
   have c:lk (s.map fun k=>(k,f k)) t=some (f t):=by
    clear a e;induction s with
    | nil=>cases n
    | cons k s i=>
     show (bif Nat.beq t k then some (f k) else lk (s.map fun k=>(k,f k)) t)=some (f t);cases h:Nat.beq t k with
     | true=>rw [z8 h];rfl
     | false=>
      refine i ?_;cases n with
      | head=>rw [Nat.beq_refl] at h;cases h
      | tail _ b=>exact b
   unfold mk;rw [c]
  rw [this];exact d t v e
theorem B6n (W:MachOk M E) (V:A2P M E call):∀ (c:Code) (F:Tr EV) (H:Hp) (K:Kc),A2X M call g c F H K=true->∃ e k H',K e k H'=true/\C0W M E F H e k H' (S6 M.P M.L c):=by
 intro c;induction c with
 | skip=>exact fun F H K h=>⟨.normal,F,H,h,fun w0 σ f w j b i R d=>d σ f w (Ex.refl _) b i⟩
 | label l=>exact fun F H K h=>⟨.normal,F,H,h,fun w0 σ f w j b i R d=>d σ f w (Ex.refl _) b i⟩
 | ret=>exact fun F H K h=>⟨.ret,F,H,h,fun w0 σ f w j b i R d=>d σ f w (Ex.refl _) b i⟩
 | exit id=>exact fun F H K h=>⟨.exit id,F,H,h,fun w0 σ f w j b i R d=>d σ f w (Ex.refl _) b i⟩
 | rangeFunc=>exact fun F H K h=>by cases h
 | scope=>exact fun F H K h=>by cases h
 | goto=>exact fun F H K h=>by cases h
 | refuse=>exact fun F H K h=>by cases h
 | region id D a1=>
  intro F H K h;cases a1 with
  | true=>
   replace h:cond (A7S D.toList (C1R M.L (M.late g id) D.toList 0 0) (B6N M.L (M.late g id) D.toList)) (fN (Nat.add H.n D.toList.length) fun n=>xD M call D.toList H H.n (B6N M.L (M.late g id) D.toList) F ⟨H.t,n⟩ ⟨[],[]⟩ fun F H _=>K .normal F H) false=true:=h;obtain⟨o,s⟩:=C2 h;rw [A0W] at s;obtain⟨k,H',v,y⟩:=B1M (K:=K .normal) (id:=id) W V o s;exact⟨.normal,k,H',v,fun w0 σ f w j b i R d=>y w0 σ f w j b i (R .normal) d⟩
  | false=>
   obtain⟨k,H',v,y⟩:=B4P W V D.toList F H (K .normal) h;exact⟨.normal,k,H',v,fun w0 σ f w j b i R d=>y w0 σ f w j b i (R .normal) d⟩
 | seq a m Q S=>
  intro F H K h;obtain⟨e,p,q,o,s⟩:=Q F H _ (show A2X M call g a F H (fun e F H=>match e with
   | .normal=>A2X M call g m F H K
   | e=>K e F H)=true from h)
  cases e with
  | normal=>
   obtain⟨e,k,H',v,y⟩:=S p q K o;exact⟨e,k,H',v,fun w0 σ f w j b i R d=>s w0 σ f w j b i (B9S (S6 M.P M.L m) R) fun τ u r C A B=>y w0 τ u r j A B R fun O f2 w2 a5=>d O f2 w2 (C.trans a5)⟩
  | _=>exact⟨_,p,q,o,fun w0 σ f w j b i R d=>s w0 σ f w j b i (B9S (S6 M.P M.L m) R) d⟩
 | cond c a m Q S=>
  intro F H K h;replace h:(match xEv F c with
   | some (.o (.l (.bool b')))=>Bool.rec (motive:=fun _=>Bool) (A2X M call g m F H K) (A2X M call g a F H K) b'
   | _=>false)=true:=h
  split at h
  ·rename_i t ht;have shape:∀ (σ:Sg) f w R,FR σ F f->S6 M.P M.L (.cond c a m) f w R=Bool.rec (motive:=fun _=>Prop) (S6 M.P M.L m f w R) (S6 M.P M.L a f w R) t:=fun σ f w R b=>by
    show (match ev f c with
     | .bool t=>Bool.rec (motive:=fun _=>Prop) (S6 M.P M.L m f w R) (S6 M.P M.L a f w R) t
     | _=>False)=_
    have e:ev f c=.bool t:=C8 b ht;rw [e]
   cases t with
   | true=>
    obtain⟨e,k,H',v,y⟩:=Q F H K h;exact⟨e,k,H',v,fun w0 σ f w j b i R d=>by rw [shape σ f w R b];exact y w0 σ f w j b i R d⟩
   | false=>
    obtain⟨e,k,H',v,y⟩:=S F H K h;exact⟨e,k,H',v,fun w0 σ f w j b i R d=>by rw [shape σ f w R b];exact y w0 σ f w j b i R d⟩
  ·cases h
 | block id m P=>
  intro F H K h;obtain⟨e,p,q,o,s⟩:=P F H _ (show A2X M call g m F H (fun e F H=>match e with
   | .exit z=>cond (Nat.beq z id) (K .normal F H) (K (.exit z) F H)
   | e=>K e F H)=true from h)
  cases e with
  | exit z=>
   replace o:cond (Nat.beq z id) (K .normal p q) (K (.exit z) p q)=true:=o;cases L:Nat.beq z id with
   | true=>
    rw [L] at o;refine⟨.normal,p,q,o,fun w0 σ f w j b i R d=>s w0 σ f w j b i (A8r id R) fun τ u r C A B=>?_⟩;show cond (Nat.beq z id) (R .normal u r) (R (.exit z) u r);rw [L];exact d τ u r C A B
   | false=>
    rw [L] at o;refine⟨.exit z,p,q,o,fun w0 σ f w j b i R d=>s w0 σ f w j b i (A8r id R) fun τ u r C A B=>?_⟩;show cond (Nat.beq z id) (R .normal u r) (R (.exit z) u r);rw [L];exact d τ u r C A B
  | _=>exact⟨_,p,q,o,fun w0 σ f w j b i R d=>s w0 σ f w j b i (A8r id R) d⟩
 | loop m P=>
  intro F H K h;have a2:∀ n F H,A9x (A2X M call g m) K n F H=true->∃ e k H',K e k H'=true/\B6m M E (S6 M.P M.L m) n F H e k H':=by
   intro n;induction n with
   | zero=>exact fun F H h=>by cases h
   | succ n a6=>
    intro F H h;obtain⟨e,p,q,o,s⟩:=P F H _ (show A2X M call g m F H (fun e F H=>match e with
     | .normal=>A9x (A2X M call g m) K n F H
     | e=>K e F H)=true from h)
    cases e with
    | normal=>
     obtain⟨e',k,H',v,y⟩:=a6 p q o;exact⟨e',k,H',v,.normal,p,q,s,y⟩
    | _=>exact⟨_,p,q,o,_,p,q,s,rfl,rfl,rfl⟩
  obtain⟨e,k,H',o,s⟩:=a2 A9w F H (show A9x (A2X M call g m) K A9w F H=true from h);refine⟨e,k,H',o,fun w0 σ f w j b i R d=>?_⟩;obtain⟨l,a3,a4⟩:=C0X b;show ∃ (J:Type) (U:J->List (Nat × Value)) (T:J->World->Prop) (μ:J->World->Nat) (Z:J),
   B4j f (U Z)/\T Z w/\∀ (x:J) (r:World) (I:Fr),T x r->S6 M.P M.L m (mk (U x) I) r (B9T U T μ x r R)
  refine⟨Nat × Tr EV × Hp × Sg × List (Nat × Value),fun x=>x.2.2.2.2,fun x w=>B6m M E (S6 M.P M.L m) x.1 x.2.1 x.2.2.1 e k H'/\Ex σ x.2.2.2.1/\Rep w0 x.2.2.2.1 x.2.2.1 w/\∀ I,FR x.2.2.2.1 x.2.1 (mk x.2.2.2.2 I),fun x _=>x.1,⟨A9w,F,H,σ,l⟩,a3,⟨s,Ex.refl _,i,a4⟩,?_⟩;rintro⟨n,G,a0,τ,l'⟩ r I ⟨N,X,k3,k4⟩;replace N:B6m M E (S6 M.P M.L m) n G a0 e k H':=N;cases n with
  | zero=>exact N.elim
  | succ n=>
   obtain⟨e1,p,q,m1,Y⟩:=N;refine m1 w0 τ _ r j (k4 I) k3 _ fun O u a7 C A B=>?_;cases e1 with
   | normal=>
    obtain⟨l2,q1,q2⟩:=C0X A;exact⟨⟨n,p,q,O,l2⟩,q1,⟨Y,X.trans C,B,q2⟩,Nat.lt_succ_self n⟩
   | _=>
    obtain⟨rfl,rfl,rfl⟩:=Y;exact d O u a7 (X.trans C) A B
end
end Go.Vx
end
section
namespace Go.Vx
open Go Go.Vc Go.RowKit
section
variable {M:Mach} {E:World->Prop} {T:Nat} {F:Tr EV} {H H0:Hp} {σ σ0 τ:Sg} {w0 w:World} {f:Fr} {call:Nat->List EV->Hp->Kt->Bool} {g:Nat}
theorem All2.reverse {c d:Type} {R:c->d->Prop}:∀ {l:List c} {s:List d},All2 R l s->All2 R l.reverse s.reverse
 | [],[],_=>trivial
 | a::l,b::s,h=>by rw [List.reverse_cons,List.reverse_cons];exact All2.append (All2.reverse h.2) ⟨h.1,t6⟩
theorem A8m:∀ (rs:List ResultVar) (s:List EV) (K:List EV->Bool),B7M M F H rs s K=true->∃ d,K d=true/\∀ w0 σ f w u,FR σ F f->Rep w0 σ H w->All2 (VR σ) s u->∀ R:List Value->Prop,(∀ n,All2 (VR σ) d n->R n)->A6B M.L f w rs u R
 | [],s,K,h=>⟨s.reverse,h,fun w0 σ f w u b i hv R g=>g _ hv.reverse⟩
 | .tmp t::rs,s,K,h=>by
  replace h:(match F.get t with
   | some v=>B7M M F H rs (v::s) K
   | none=>false)=true:=h
  split at h
  ·rename_i v hv;obtain⟨d,j,k⟩:=A8m rs (v::s) K h;refine⟨d,j,fun w0 σ f w u b i l R g=>?_⟩;show V5 (f t) fun v=>A6B M.L f w rs (v::u) R;rw [K2];exact k w0 σ f w (f t::u) b i ⟨b t v hv,l⟩ R g
  ·cases h
 | .cell a t::rs,s,K,h=>by
  replace h:(match F.get a with
   | some p=>match A8f M t p H with
    | some v=>fV v fun v=>B7M M F H rs (v::s) K
    | none=>false
   | none=>false)=true:=h
  split at h
  ·rename_i p x;split at h
   ·rename_i v hv;rw [A2W] at h;obtain⟨d,j,k⟩:=A8m rs (v::s) K h;refine⟨d,j,fun w0 σ f w u b i l R g=>?_⟩;unfold A8f at hv;split at hv
    ·split at hv
     ·rename_i y;obtain⟨q,m,r⟩:=B7N hv i y;obtain⟨C,A,e⟩:=b a _ x;rw [show σ _=some C from A] at m;cases m;have:=r (fun v _=>A6B M.L f w rs (v::u) R) fun D B=>k w0 σ f w (D::u) b i ⟨B,l⟩ R g;show (match M.L.ty t,f a with
       | .none,_=>False
       | .array _ _ _ z,.pointer (some p)=>∃ c:List Value,c.length=z.length/\cellsAt w p c 0/\A6B M.L f w rs (.agg c.toArray::u) R
       | .struct _ z,.pointer (some p)=>∃ c:List Value,c.length=z.length/\cellsAt w p c 0/\A6B M.L f w rs (.agg c.toArray::u) R
       | _,.pointer (some p)=>∃ v,w.cell? p=some v/\A6B M.L f w rs (v::u) R
       | _,_=>False)
      rw [e];cases o:M.L.ty t<;>rw [o] at this<;>exact this
     ·cases hv
    ·cases hv
   ·cases h
  ·cases h
theorem B4S:∀ {s:List EV} {ys:List (Bool × List EB)} {u:List Value},C1S s=some ys->All2 (VR σ) s u->All2 (TR σ) ys u
 | [],ys,u,h,k=>by
  cases h;cases u with
  | nil=>trivial
  | cons b u=>exact k.elim
 | v::s,ys,u,h,k=>by
  cases u with
  | nil=>exact k.elim
  | cons b u=>
   replace h:(match C1S s with
    | some r=>match (generalizing:=false) v with
     | .o x=>some ((false,[x])::r)
     | .a xs=>some ((true,xs)::r)
     | .t _=>none
    | none=>none)=some ys:=h
   split at h
   ·rename_i r f;have i:=B4S f k.2;cases v with
    | o x=>cases h;exact⟨⟨[b],⟨k.1,t6⟩,.inr ⟨rfl,rfl⟩⟩,i⟩
    | a xs=>
     cases h;obtain⟨c,d,e⟩:=k.1;exact⟨⟨c,d,.inl ⟨rfl,e⟩⟩,i⟩
    | t y=>cases h
   ·cases h
theorem B89 {v:List EV} {a:EV} {u:List Value} (h:B84 v=some a) (k:All2 (VR σ) v u):VR σ a (A6I u):=by
 unfold B84 at h;split at h
 ·rename_i x;cases h;obtain⟨c,rfl,b⟩:=k.one;exact b
 ·rename_i n;split at h
  ·rename_i ys y;cases h;have l:=k.len;have:A6I u=.tuple u.toArray:=by
    cases u with
    | nil=>rfl
    | cons c u=>cases u with
     | nil=>
      cases v with
      | nil=>cases l
      | cons x v=>cases v with
       | nil=>exact absurd rfl (n x)
       | cons e v=>simp at l
     | cons d u=>rfl
   rw [this];exact⟨u,B4S y k,rfl⟩
  ·cases h
theorem A96:∀ (args:List EV) (i:Nat) (F:Tr EV) (K:Tr EV->Bool),B6P args i F K=true->∃ b,K b=true/\∀ σ f u,FR σ F f->All2 (VR σ) args u->(∀ k c,u[k]?=some c->f (i+k)=c)->FR σ b f
 | [],i,F,K,h=>⟨F,h,fun σ f u d _ _=>d⟩
 | v::args,i,F,K,h=>by
  obtain⟨m,n,o⟩:=Tr.setK_ok _ _ _ _ (show F.setK i v (fun F=>B6P args (Nat.succ i) F K)=true from h);obtain⟨b,p,q⟩:=A96 args (i+1) m K n;refine⟨b,p,fun σ f u d g j=>?_⟩;cases u with
  | nil=>exact g.elim
  | cons c u=>
   refine q σ f u (fun l x a=>?_) g.2 fun k s r=>?_
   ·rw [o] at a;by_cases e:l=i
    ·subst e;rw [yn rfl] at a;cases a;have:=j 0 c rfl;rw [Nat.add_zero] at this;rw [this];exact g.1
    ·rw [yo e] at a;exact d l x a
   ·have:=j (k+1) s (by simpa using r);rwa [show i+1+k=i+(k+1) by omega]
theorem B4T (i:MachOk M E):∀ fuel,A2P M E (B1D M fuel)
 | 0=>fun n args H K h=>by cases h
 | fuel+1=>fun n args H K h=>by
  replace h:(match M.prim n args H with
   | some v=>fV v fun v=>K v H
   | none=>cond (M.L.fns n) (match M.P.funcs[n]? with
    | some a=>match a.body with
     | some c=>cond (Nat.ble args.length a.ntmps&&P1 a.ntmps c) (B6P args 0 .e fun F=>A2X M (B1D M fuel) n c F H fun e F H=>match e with
       | .normal=>B7M M F H a.results.toList [] fun s=>match B84 s with
        | some v=>fV v fun v=>K v H
        | none=>false
       | .ret=>B7M M F H a.results.toList [] fun s=>match B84 s with
        | some v=>fV v fun v=>K v H
        | none=>false
       | _=>false) false
     | none=>false
    | none=>false) false)=true:=h
  split at h
  ·rename_i v hv;rw [A2W] at h;exact⟨v,H,h,fun w0 σ w u q j l R r=>i.prim n args H v hv w0 σ w u q j l R fun g b x L=>r σ g b (Ex.refl _) x (j.keep L)⟩
  ·obtain⟨P,h⟩:=C2 h;split at h
   ·rename_i a O;split at h
    ·rename_i c N;obtain⟨o,C⟩:=C2 h;rw [z7] at o;obtain⟨F,D,G⟩:=A96 args 0 .e _ C;obtain⟨e,A,d,p,I⟩:=B6n i (B4T i fuel) c F H _ D;have z:B7M M A d a.results.toList [] (fun s=>match B84 s with
       | some v=>fV v fun v=>K v d
       | none=>false)=true->(∀ f w (R:Ending->World->Prop),(A6B M.L f w a.results.toList [] fun s=>R (.returned (A6I s)) w)->fnK M.L a.results R e f w)->∃ v d,K v d=true/\∀ w0 σ w u,E w0->Rep w0 σ H w->All2 (VR σ) args u->∀ R:Value->World->Prop,(∀ τ g b,Ex σ τ->VR τ v g->Rep w0 τ d b->R g b)->A0m M.P M.L n u w R:=fun h t=>by
      obtain⟨s,m,S⟩:=A8m _ _ _ h;split at m
      ·rename_i v hv;rw [A2W] at m;refine⟨v,d,m,fun w0 σ w u q j l R r=>?_⟩;show cond (M.L.fns n) (CallVc M.P n u w R) (ExtVc M.P n u w R);rw [P,cond_true];refine⟨A45 i.lay O N (by rw [l.len];exact o.1) o.2 ?_⟩;refine I w0 σ _ w q (G σ _ u (fun T v e=>by cases e) l fun k g t=>?_) j _ fun τ B b Q J y=>t _ _ _ (S w0 τ B b [] J y trivial _ fun U x=>⟨_,rfl,r τ _ b Q (B89 hv x) y⟩);show u.getD (0+k) undef=g;rw [zn,List.getD_eq_getElem?_getD,t];rfl
      ·cases m
     cases e with
     | normal=>exact z p fun f w R h=>h
     | ret=>exact z p fun f w R h=>h
     | _=>cases p
    ·cases h
   ·cases h
theorem rep0 (w:World) (n:Nat):Rep w (fun _=>none) ⟨.e,n⟩ w:=⟨Below.refl _ w,fun _ _=>rfl,fun N Z h=>(by cases h),fun N M Z a q r _ h=>(by cases h)⟩
def Z8 (v:EV) (_:Hp):Bool:=match v with
 | .o (.l (.bool b))=>b
 | _=>false
theorem B6o (g:MachOk M E) {n f:Nat} (i:M.L.fns n=true) (b:B1D M f n [] ⟨.e,0⟩ Z8=true) (d:E w):Calls M.P n #[] w fun e w'=>e=.returned (.bool true)/\Below w.heap.size w w':=by
 obtain⟨v,H,h,a⟩:=B4T g f n [] _ _ b;have:=a w _ w [] d (rep0 w 0) trivial (fun u w'=>u=.bool true/\Below w.heap.size w w') fun τ u w' _ j R=>⟨(by
  unfold Z8 at h;split at h
  ·subst h;exact j
  ·cases h),R.below⟩
 replace this:cond (M.L.fns n) (CallVc M.P n [] w fun u w'=>u=.bool true/\Below w.heap.size w w') (ExtVc M.P n [] w fun u w'=>u=.bool true/\Below w.heap.size w w'):=this;rw [i,cond_true] at this;exact this.calls.mono fun e w' ⟨v,h,a,c⟩=>⟨by rw [h,a],c⟩
end
end Go.Vx
end
section
namespace Go.Proofs.YtefdfaeieekioaaGreatDoor
open Go.Vc Go.Vx Go.RowKit Go.Fl
def und (x:Nat):Int:=cond (Nat.beq (x % 2 ^ 63) 0) 0 (cond (Nat.beq (x / 2 ^ 63) 0) (Int.ofNat ((x % 2 ^ 52+2 ^ 52) / 2 ^ (1075-x % 2 ^ 63 / 2 ^ 52))) (-Int.ofNat ((x % 2 ^ 52+2 ^ 52) / 2 ^ (1075-x % 2 ^ 63 / 2 ^ 52))))
def okZ (x:Nat):Bool:=Nat.beq (dbl (und x)) x&&leI 0 (und x)&&leI (und x) 65520
def cx (z:Int × Int):EV:=lit (.complex .f64 (dbl z.1) (dbl z.2))
theorem A41 {x:Nat} (h:okZ x=true):x=dbl (und x)/\Is x (und x)/\0<=und x/\und x<65521:=by unfold okZ at h;simp only [z7] at h;obtain⟨⟨c,a⟩,b⟩:=h;have e:=z8 c;have a:=O7 a;have b:=O7 b;have:=I3 (und x) (by omega);rw [e] at this;exact⟨e.symm,this,a,by omega⟩
def B9A (v:EV) (H:Hp):Bool:=match v with
 | .o (.l (.slice none n c))=>Nat.beq n 0&&Nat.beq c 0
 | .o (.s N o n (.k c))=>Nat.ble c 1000000
 | .o (.s N o n (.j _ _))=>match H.t.get N with
  | some (.r _)=>true
  | some (.c _ sz _)=>not (Nat.beq sz 0)
  | _=>false
 | _=>false
def prim (done:List Nat) (n:Nat) (args:List EV) (H:Hp):Option EV:=match n,args with
 | 261,[.o (.l (.complex .f64 x y)),.o (.l (.complex .f64 x' y'))]=>cond (okZ x&&okZ y&&okZ x'&&okZ y') (some (cx ((und x*und x'-und y*und y') % 65521,(und x*und y'+und y*und x') % 65521))) none
 | 176,[.o (.l (.complex .f64 x y))]=>cond (okZ x&&okZ y) (some (lit (.string ⟨(A0n (und x,und y)).toArray⟩))) none
 | 105,[.o (.l (.string t))]=>some (.t [(false,[.l (.complex .f64 (dbl (A0y t.data.toList).1.1) (dbl (A0y t.data.toList).1.2))]),(false,[.l (.bool (A0y t.data.toList).2)])])
 | 177,[v]=>match sliceB v H with
  | some l=>cond (B9A v H) (some (cx (zOn (0,1) l))) none
  | none=>none
 | 216,[.o (.l (.int .i64 n))]=>cond (A3q n) (some (lit (.string ⟨(Lib.itoa n).toArray⟩))) none
 | 213,[.o (.l (.int .i64 n)),.o (.l (.int .i64 (.ofNat 10)))]=>cond (A3q n) (some (lit (.string ⟨(Lib.itoa n).toArray⟩))) none
 | 286,[.o (.l (.string t)),.o (.l (.int .i64 (.ofNat 10))),.o (.l (.int .i64 (.ofNat 64)))]=>cond (Nat.ble t.data.toList.length 1000) (match Lib.parseIntB 64 t.data.toList with
  | .ok n=>some (.t [(false,[.l (.int .i64 n)]),(false,[.l .nilIface])])
  | _=>none) none
 | 173,[.o (.l (.string s)),.o (.l (.int .u8 c))]=>some (lit (.int .i64 (Lib.indexByte s.data.toList c.toNat.toUInt8)))
 | 284,[x]=>some x
 | n,[]=>cond (C0K n done) (some (lit (.bool true))) none
 | _,_=>none
def C1Y (xs:List EB):Option Ver:=match xs with
 | [.l (.int .i64 v),.l (.bool g),.l (.string b)]=>some ⟨v,g,b⟩
 | _=>none
def C1Z (xs:List EB):Option Res:=match xs with
 | [.l (.int .i64 e),.l (.int .i64 v)]=>some ⟨e,v⟩
 | _=>none
def C1a (xs:List EB):Option Mem:=match xs with
 | [.l (.int .i64 r),.l (.int .i64 e),.l (.int .i64 v)]=>some ⟨r,⟨e,v⟩⟩
 | _=>none
def dE (xs:List EB):Option D:=match xs with
 | [.l (.int .i64 a),.l (.string b),.l (.string c),.l (.int .i64 d),.l (.int .i64 e),.l (.string f),.l (.int .i64 g),.l (.int .i64 h)]=>some ⟨a,b,c,d,e,f,g,h⟩
 | _=>none
def C1b (xs:List EB):Option (List Int):=match xs with
 | [.l (.int .i64 a),.l (.int .i64 b),.l (.int .i64 c),.l (.int .i64 d),.l (.int .i64 e)]=>some [a,b,c,d,e]
 | _=>none
def both {α:Type} (f:List EB->Option α) (r:α->α->Bool) (xs ys:List EB):Option Bool:=match f xs,f ys with
 | some a,some b=>some (r a b)
 | _,_=>none
def qEq (T:Nat) (xs ys:List EB):Option Bool:=match T with
 | 36=>both C1Z (fun a b=>a.err==b.err&&a.ver==b.ver) xs ys
 | 45=>both dE eqD xs ys
 | 39=>both C1b (fun a b=>a==b) xs ys
 | 101=>both C1a A3A xs ys
 | 147=>both C1Y A5H xs ys
 | _=>none
theorem A33 {a:Type} {f:List EB->Option a} {r:a->a->Bool} {s c:List EB} {b:Bool} (h:both f r s c=some b):∃ x y,f s=some x/\f c=some y/\b=r x y:=by
 unfold both at h;split at h
 ·rename_i x y d e;cases h;exact⟨x,y,d,e,rfl⟩
 ·cases h
section
variable {σ:Sg}
theorem B4U {x:List EB} {v:Ver} {c:List Value} (h:C1Y x=some v) (k:All2 (BR σ) x c):c=J0 v:=by
 unfold C1Y at h;split at h
 ·cases h
  match c,k with
  | [_,_,_],⟨h1,h2,h3,_⟩=>cases h1;cases h2;cases h3;rfl
 ·cases h
theorem B4V {x:List EB} {v:Res} {c:List Value} (h:C1Z x=some v) (k:All2 (BR σ) x c):c=[.int .i64 v.err,.int .i64 v.ver]:=by
 unfold C1Z at h;split at h
 ·cases h
  match c,k with
  | [_,_],⟨h1,h2,_⟩=>cases h1;cases h2;rfl
 ·cases h
theorem B4W {x:List EB} {v:Mem} {c:List Value} (h:C1a x=some v) (k:All2 (BR σ) x c):c=G0 v:=by
 unfold C1a at h;split at h
 ·cases h
  match c,k with
  | [_,_,_],⟨h1,h2,h3,_⟩=>cases h1;cases h2;cases h3;rfl
 ·cases h
theorem C0Y {x:List EB} {v:D} {c:List Value} (h:dE x=some v) (k:All2 (BR σ) x c):c=dC v:=by
 unfold dE at h;split at h
 ·cases h
  match c,k with
  | [_,_,_,_,_,_,_,_],⟨h1,h2,h3,h4,h5,h6,h7,h8,_⟩=>cases h1;cases h2;cases h3;cases h4;cases h5;cases h6;cases h7;cases h8;rfl
 ·cases h
theorem B4X {x:List EB} {v:List Int} {s:List Value} (h:C1b x=some v) (k:All2 (BR σ) x s):∃ a b c d e,v=[a,b,c,d,e]/\s=[.int .i64 a,.int .i64 b,.int .i64 c,.int .i64 d,.int .i64 e]:=by
 unfold C1b at h;split at h
 ·cases h
  match s,k with
  | [_,_,_,_,_],⟨h1,h2,h3,h4,h5,_⟩=>cases h1;cases h2;cases h3;cases h4;cases h5;exact⟨_,_,_,_,_,rfl,rfl⟩
 ·cases h
end
theorem C0Z (T:Nat) (u v:List EB) (r:Bool) (d:qEq T u v=some r) (z:Sg) (s e:List Value) (x:All2 (BR z) u s) (f:All2 (BR z) v e) (o y:Operand) (w:World):
  (do eqGuard .eql T o y (.agg s.toArray) (.agg e.toArray);Go.binOp .eql T (.agg s.toArray) (.agg e.toArray):Sem Value).run Tryz.prog w=.ok (.bool r) w/\
  (do eqGuard .neq T o y (.agg s.toArray) (.agg e.toArray);Go.binOp .neq T (.agg s.toArray) (.agg e.toArray):Sem Value).run Tryz.prog w=.ok (.bool (!r)) w:=by
 unfold qEq at d;split at d
 ·obtain⟨a,b,h,c,rfl⟩:=A33 d;rw [B4V h x,B4V c f];exact⟨A3I B66 (fun w=>A5M 9998 w a b) o y w,A0O B66 (fun w=>A5M 9998 w a b) o y w⟩
 ·obtain⟨a,b,h,c,rfl⟩:=A33 d;rw [C0Y h x,C0Y c f];exact⟨A3I B2I (fun w=>B65 9998 w a b) o y w,A0O B2I (fun w=>B65 9998 w a b) o y w⟩
 ·obtain⟨a,b,h,c,rfl⟩:=A33 d;obtain⟨g,i,j,k,l,rfl,rfl⟩:=B4X h x;obtain⟨m,n,p,q,t,rfl,rfl⟩:=B4X c f;exact⟨A3I A77 (fun w=>A76 9998 w g i j k l m n p q t) o y w,A0O A77 (fun w=>A76 9998 w g i j k l m n p q t) o y w⟩
 ·obtain⟨a,b,h,c,rfl⟩:=A33 d;rw [B4W h x,B4W c f];exact⟨A3I B2H (fun w=>A5N 9997 w a b) o y w,A0O B2H (fun w=>A5N 9997 w a b) o y w⟩
 ·obtain⟨a,b,h,c,rfl⟩:=A33 d;rw [B4U h x,B4U c f];exact⟨A3I B2G (fun w=>A5L 9998 w a b) o y w,A0O B2G (fun w=>A5L 9998 w a b) o y w⟩
 ·cases d
def lateT:List (Nat × Nat × Nat):=[(31,11,3),(127,6,3),(65,5,4),(98,7,1),(54,1,1),(54,1,4),(54,5,8),(73,12,4),(96,2,4),(122,8,3),(131,5,1),(133,6,6),(190,15,1),(41,4,4),(47,8,6)]
def late (g id i:Nat):Bool:=lateT.any fun x=>Nat.beq x.1 g&&Nat.beq x.2.1 id&&Nat.beq x.2.2 i
def B4Y (done:List Nat):Mach:=⟨Tryz.prog,lay,⟨qEq,C0Z⟩,late,prim done⟩
theorem C0a {v:EV} {H:Hp} {z:Sg} {J y:World} {x:Value} {l:List UInt8} (b:sliceB v H=some l) (h:B9A v H=true) (R:Rep J z H y) (u:VR z v x):∃ A c,x=.slice A l.length c/\Row (fun _=>True) y A l.length c (bv l):=by
 obtain⟨A,c,rfl,D,E⟩:=A7a b R u;have r:l.length<=c/\c<=maxLen:=by
  unfold B9A at h;split at h
  ·obtain⟨d,k⟩:=Bool.and_eq_true_iff.1 h;have d:=z8 d;have k:=z8 k;have e:Value.slice A l.length c=.slice none _ _:=u;cases e;rw [d,k];exact⟨zc _,zb _⟩
  ·obtain⟨q,a,B,i,⟨d,k,p⟩,e⟩:=u;cases e;have:=ze h;refine⟨by rw [k];exact p,?_⟩;rw [k];simp only [maxLen];omega
  ·rename_i N o n M K;obtain⟨q,a,B,i,⟨d,k,p,F⟩,e⟩:=u;cases e;refine⟨zq p F,?_⟩;have O:q.c<=maxLen:=by
    split at h
    ·rename_i xs g;obtain⟨q',C,m,G,w,_⟩:=R.ent N _ g;rw [i] at m;cases m;exact w.2
    ·rename_i T sz xs g;obtain⟨q',L,C,m,G,w,P,I,_⟩:=R.ent N _ g;rw [i] at m;cases m;exact (I fun e=>by rw [e] at h;cases h).2
    ·cases h
   omega
  ·cases h
 refine⟨A,c,rfl,r.1,r.2,fun s=>?_⟩;cases A with
 | none=>
  rw [D rfl] at s;exact absurd rfl s
 | some a=>exact⟨a,rfl,t6,fun f v j=>by
   have t:f<l.length:=by
    obtain b|b:=zm f l.length
    ·exact b
    ·rw [List.getElem?_eq_none (by rw [A6P];exact b)] at j;cases j
   rw [A4Q l f t] at j;cases j;rw [E a rfl f _ (yc t),List.getD_eq_getElem?_getD,yc t];rfl⟩
theorem B7Q {n:Int} (h:A3q n=true):B9 n:=by
 unfold A3q at h;cases n with
 | ofNat a=>
  have:=ze (show Nat.ble a 9223372036854775807=true from h);show -9223372036854775808<=(a:Int)/\(a:Int)<=9223372036854775807;exact⟨by omega,by omega⟩
 | negSucc a=>
  have:=ze (show Nat.ble a 9223372036854775807=true from h);exact⟨by omega,by omega⟩
theorem Z4 {n:Nat} {s:List Value} {u:Value} {v:EV} {b:Sg} {w:World} (f:lay.fns n=true) {R:Value->World->Prop} (d:∀ u a,VR b v u->Below w.heap.size w a->R u a) (c:Calls Tryz.prog n s.toArray w (D4 u w)) (g:VR b v u):A0m Tryz.prog lay n s w R:=by unfold A0m;rw [f,cond_true];exact⟨c.mono fun e a h=>⟨u,h.1,d u a g h.2⟩⟩
def P5 (n:Nat):Prop:=lay.fns n=true/\∀ w,Env w->Calls Tryz.prog n #[] w (D4 (.bool true) w)
theorem B9B (done:List Nat) (B:∀ n∈done,P5 n) (n:Nat) (t:List EV) (H:Hp) (I:EV) (b:prim done n t H=some I) (J:World) (q:Sg) (w:World) (s:List Value) (P:Env J) (y:Rep J q H w) (d:All2 (VR q) t s) (R:Value->World->Prop) (K:∀ c p,VR q I c->Below w.heap.size w p->R c p):A0m Tryz.prog lay n s w R:=by
 have W:Env w:=P.below y.below;unfold prim at b;split at b
 ·obtain⟨h,a⟩:=B6 b;cases a;simp only [z7] at h;obtain⟨⟨⟨h,a⟩,m⟩,o⟩:=h;obtain⟨v,E,g,j⟩:=A41 h;obtain⟨x,F,i,k⟩:=A41 a;obtain⟨Z,T,L,N⟩:=A41 m;obtain⟨e4,U,M,O⟩:=A41 o;obtain⟨c,G,rfl,u,f⟩:=d.two;cases u;cases f;exact Z4 (by kernel_rfl) K (A8z E F T U ⟨g,j⟩ ⟨i,k⟩ ⟨L,N⟩ ⟨M,O⟩ w) rfl
 ·obtain⟨h,a⟩:=B6 b;cases a;obtain⟨h,a⟩:=Bool.and_eq_true_iff.1 h;obtain⟨v,E,g,j⟩:=A41 h;obtain⟨x,F,i,k⟩:=A41 a;obtain⟨c,rfl,u⟩:=d.one;have A:=A25 (z:=(und _,und _)) ⟨⟨g,j⟩,⟨i,k⟩⟩ w;rw [<-v,<-x] at A;cases u;exact Z4 (by kernel_rfl) K A rfl
 ·cases b;obtain⟨c,rfl,u⟩:=d.one;cases u;exact Z4 (by kernel_rfl) K (A27 _ w) ⟨[.complex .f64 _ _,.bool _],⟨R0 _,R0 _,t6⟩,rfl⟩
 ·split at b
  ·rename_i l Q;obtain⟨h,a⟩:=B6 b;cases a;obtain⟨c,rfl,u⟩:=d.one;obtain⟨X,Y,rfl,r⟩:=C0a Q h y u;exact Z4 (by kernel_rfl) K (A24 rfl (zq r.1 r.2.1) w r) rfl
  ·cases b
 ·obtain⟨h,a⟩:=B6 b;cases a;obtain⟨c,rfl,u⟩:=d.one;cases u;exact Z4 (by kernel_rfl) K (A2Y _ (B7Q h) w W.tab) rfl
 ·obtain⟨h,a⟩:=B6 b;cases a;obtain⟨c,G,rfl,u,f⟩:=d.two;cases u;cases f;exact Z4 (by kernel_rfl) K (A7r _ (B7Q h) w W.tab) rfl
 ·rename_i V;obtain⟨h,a⟩:=B6 b;split at a
  ·rename_i n S;cases a
   match s,d with
   | [_,_,_],⟨m,o,h5,_⟩=>
    cases m;cases o;cases h5;have:=A9D V.data.toList (by have:=ze h;omega) n S w;exact Z4 (by kernel_rfl) K this ⟨[.int .i64 n,.nilIface],⟨R0 _,R0 _,t6⟩,rfl⟩
  ·cases a
 ·cases b;obtain⟨c,G,rfl,u,f⟩:=d.two;cases u;cases f;exact Z4 (by kernel_rfl) K ((Tryz.strings_IndexByte _ _ w).mono fun e p C=>⟨C.1,by rw [C.2];exact Below.refl _ _⟩) rfl
 ·cases b;obtain⟨c,rfl,u⟩:=d.one;unfold A0m;rw [show lay.fns 284=false by kernel_rfl,cond_false];exact⟨⟨c,w,A2E c w,K c w u (Below.refl _ _)⟩⟩
 ·obtain⟨h,a⟩:=B6 b;cases a;rw [A8j] at h;have D:=List.contains_iff_mem.1 h;have:=d.none;subst this;exact Z4 (B _ D).1 K ((B _ D).2 w W) rfl
 ·cases b
theorem B9C {done:List Nat} (h:∀ n∈done,P5 n):MachOk (B4Y done) Env:=⟨lay_ok,by kernel_rfl,B9B done h⟩
theorem Z5 {done:List Nat} (d:∀ n∈done,P5 n) {n f:Nat} (h:lay.fns n=true) (a:B1D (B4Y done) f n [] ⟨.e,0⟩ Z8=true):P5 n:=⟨h,fun w b=>B6o (B9C d) h a b⟩
end Go.Proofs.YtefdfaeieekioaaGreatDoor
end
namespace Go.Proofs.YtefdfaeieekioaaGreatDoor
open Go.Vc Go.Vx Go.RowKit
theorem N6:∀ n∈([]:List Nat),P5 n:=fun n h=>by cases h
theorem I7 {l:List Nat} {n:Nat} (a:P5 n) (k:∀ n∈l,P5 n):∀ m∈n::l,P5 m:=fun m h=>by
 cases h with
 | head=>exact a
 | tail _ h=>exact k m h
theorem C2H:B1D (B4Y []) 50 298 [] ⟨.e,0⟩ Z8=true:=by kernel_rfl
theorem B9D:P5 298:=Z5 N6 (by kernel_rfl) C2H
theorem C2I:B1D (B4Y [298]) 50 243 [] ⟨.e,0⟩ Z8=true:=by kernel_rfl
theorem C1c:P5 243:=Z5 (I7 B9D N6) (by kernel_rfl) C2I
theorem C2J:B1D (B4Y [243,298]) 50 141 [] ⟨.e,0⟩ Z8=true:=by kernel_rfl
theorem C0b:P5 141:=Z5 (I7 C1c (I7 B9D N6)) (by kernel_rfl) C2J
theorem C2K:B1D (B4Y [298]) 50 249 [] ⟨.e,0⟩ Z8=true:=by kernel_rfl
theorem C1d:P5 249:=Z5 (I7 B9D N6) (by kernel_rfl) C2K
theorem C2L:B1D (B4Y []) 50 142 [] ⟨.e,0⟩ Z8=true:=by kernel_rfl
theorem C1e:P5 142:=Z5 N6 (by kernel_rfl) C2L
theorem C2M:B1D (B4Y [249,141]) 50 152 [] ⟨.e,0⟩ Z8=true:=by kernel_rfl
theorem C1f:P5 152:=Z5 (I7 C1d (I7 C0b N6)) (by kernel_rfl) C2M
theorem C1g:B1D (B4Y [141]) 50 43 [] ⟨.e,0⟩ Z8=true:=by kernel_rfl
theorem C0c:P5 43:=Z5 (I7 C0b N6) (by kernel_rfl) C1g
theorem C1h:B1D (B4Y [152,142]) 50 44 [] ⟨.e,0⟩ Z8=true:=by kernel_rfl
theorem C0d:P5 44:=Z5 (I7 C1f (I7 C1e N6)) (by kernel_rfl) C1h
theorem C1i:B1D (B4Y [43,44]) 50 15 [] ⟨.e,0⟩ Z8=true:=by kernel_rfl
theorem C0e:P5 15:=Z5 (I7 C0c (I7 C0d N6)) (by kernel_rfl) C1i
theorem A8n (w:World) (h:Env w):Calls Tryz.prog 15 #[] w (D4 (.bool true) w):=C0e.2 w h
end Go.Proofs.YtefdfaeieekioaaGreatDoor
namespace Go.Proofs.YtefdfaeieekioaaGreatDoor
open Go.Vc Go.RowKit Go.Fl Go.ChangeShapes Go.WideShapes Go.ChangeAt
theorem A42 {d S:Nat->Prop} {q c:World} {n:List LB} {p:List OR} {R O:Kn} {o:Nat} {w:List Wd} {A:Option Addr} {f:Nat} {s:List (List Value)} (j:CtxF d q S c n (orW w A f s::p) (Sep o R O)) (g:∃ S,WsR w s S c) (i:Nat) (m:i<w.length):∃ a x,A=some a/\Go.Vc.cellsAt c (a.add (i*21)) (wdC w[i] x) 0:=by obtain⟨t,h⟩:=g;obtain⟨u,r⟩:=J3 j;have v:=h.len;obtain⟨x,b,_⟩:=h.get i m;obtain⟨a,e,l⟩:=Row.elemF r (k:=21) (by decide) h.flat i (by omega);obtain⟨_,b⟩:=List.getElem?_eq_some_iff.1 b;rw [b] at l;exact⟨a,x,e,l⟩
theorem X5 {g:Lg} {n:Int} {L:Lk}:A3m g n L:=fun L' _ _ h d _ S w l e K=>A8T g L' h d n S w l e K
end Go.Proofs.YtefdfaeieekioaaGreatDoor
namespace Go.Proofs.YtefdfaeieekioaaGreatDoor
open Go.Vc Go.RowKit Go.Fl
structure GoodG (G:List D):Prop where
 len:G.length<=8
 d:∀ d∈G,d.Ok/\M0 d=true/\B7 d.req=1
structure Two (G:List D) (na nb:Nat) (Ha Hb:Sh):Prop where
 g:GoodG G
 ab:na<=nb
 bG:nb<=G.length
 fa:Fit Ha (2+G.length+na)
 fb:Fit Hb (2+2*nb)
 ka:Ha.k=⟨W8 Stt0 (G.take na),G.drop na,1,0⟩
 kb:Hb.k=⟨W8 Stt0 (G.take nb),[],1,0⟩
def C1j (s:Nat) (l:List D):Wd:=wd 4 1 2 1 s 0 l
def C2N (s:Nat):Wd:=wd 6 2 1 1 s 0 []
def C1k (s:Nat):Wd:=wd 5 2 1 1 s 0 []
def C1l (q:Int) (r:Res):Wd:=⟨7,2,1,1,0,q,0,r,Ros0,[],Stt0⟩
def beat (f:Int):Wd:=wd 1 f 0 1 0 0 []
inductive Wq (G:List D) (nb:Nat):Wd->Prop
 | beat (f:Int):Wq G nb (beat f)
 | pass (s:Nat) (l:List D) (hs:s+l.length<=G.length) (hl:l=(G.drop s).take l.length):Wq G nb (C1j s l)
 | ack (s:Nat) (hs:s<=nb):Wq G nb (C2N s)
 | need (s:Nat) (hs:s<=nb):Wq G nb (C1k s)
 | done (q:Int) (r:Res) (hq:B7 q=1):Wq G nb (C1l q r)
theorem Wq.mono {G a:List D} {n b:Nat} {w:Wd} (c:Wq G n w) (d:∃ t,a=G++t) (i:n<=b):Wq a b w:=by
 obtain⟨t,rfl⟩:=d;cases c with
 | beat f=>exact .beat f
 | pass s l h e=>
  refine .pass s l (by rw [z6];omega) ?_;rw [List.drop_append_of_le_length (by omega),List.take_append_of_le_length (by rw [zh];omega)];exact e
 | ack s h=>exact .ack s (by omega)
 | need s h=>exact .need s (by omega)
 | done q r g=>exact .done q r g
end Go.Proofs.YtefdfaeieekioaaGreatDoor
section
namespace Go.Vc
open Go Go.RowKit
section
variable {P:Program}
theorem A56 {w:World} {t ty e:TypeId} {i:TypeInfo} (o:P.underlying t=some (.slice e)) (f:P.info? e=some i) (b:Addr) (a p:Nat) (c:Addr) (m d:Nat) (n:List Value) (l:n.length=m*i.size) (g:∀ j u,n[j]?=some u->w.cell? (c.add j)=some u)
  (s:E0 w (b.add (a*i.size)) n 0) (r:a+m<=p):
  (Builtin.append_ #[t,t] ty #[.slice (some b) a p,.slice (some c) m d]).run P w=.ok (.slice (some b) (a+m) p) (stored w (b.add (a*i.size)) n 0):=by
 have h:=run_firstCells_some (P:=P) w i.size m c m d n l g;have k:=J9 (P:=P) n w 0 s;simp [Builtin.append_,run_underlying o,sizeOf,typeInfo,f,Builtin.lenOf,r,h,k]
end
def Que (e sz n:Nat) (xs:List Value) (v:Value) (x:LB):Prop:=∃ g o cap cur,x=(g,e,cur)/\v=.slice (some ⟨g,o,none⟩) n cap/\o+cap*sz<=cur.length/\n<=cap/\cap<=maxLen/\(cur.drop o).take (n*sz)=xs/\xs.length=n*sz
theorem putAt_drop {c ys:List Value} {o k:Nat} (h:o+k+ys.length<=c.length):((C5 c (o+k) ys).drop o).take (k+ys.length)=(c.drop o).take k++ys:=by
 have e:(c.take (o+k)).drop o=(c.drop o).take k:=by rw [List.drop_take];congr 1;omega
 have a:((c.drop o).take k).length=k:=by rw [zg,zh];omega
 rw [G9 _ _ _ h,zw,List.drop_append_of_le_length (by rw [zg];omega),e,<-zw];exact List.take_left' (by rw [z6,a])
section
variable {P:Program} {S0 S:Nat->Prop} {w0 w:World} {l:List LB} {os:List OR} {R:Kn} {n m c e sz bytes:Nat} {B:Option Addr} {xs ys:List Value} {z:Value} {K:Value->World->Prop} {x:LB}
theorem A8o {t T:Nat} {G:Array Bool} {U:Nat->Prop} (D:P.underlying t=some (.slice e)) (hi:(P.info? e).map (fun i=>(i.zero,i.size,i.bytes))=some (some z,sz,bytes)) (b1:z.cells.size=sz) (b0:0<sz)
  (f:CtxF S0 w0 S w (x::l) os R) {O:Value} (hQ:Que e sz n xs O x) (H:Row U w B m c ys) (h:ys.length=m*sz) (W:F4 ys=true) (a0:n+m<=34359738368) (a1:bytes<=4096)
  (F:∀ v Q w',CtxF S0 w0 S w' (Q::l) os R->Que e sz (n+m) (xs++ys) v Q->K v w'):
  ∃ v w',(builtin .append #[t,t] T G #[O,.slice B m c]).run P w=.ok (.value v) w'/\K v w':=by
 obtain⟨g,o,a,p,rfl,rfl,J,N,M,E,d⟩:=hQ;obtain⟨i,A,X,Y,Z⟩:=info_parts hi;subst Y;subst Z;have a2:(n+m)*i.bytes<=140737488355328:=zq (Nat.mul_le_mul a0 a1) (by decide);have done:∀ v w',(Builtin.append_ #[t,t] T #[.slice (some ⟨g,o,none⟩) n a,.slice B m c]).run P w=.ok v w'->K v w'->∃ v w',(builtin .append #[t,t] T G #[.slice (some ⟨g,o,none⟩) n a,.slice B m c]).run P w=.ok (.value v) w'/\K v w':=fun v w' r hk=>by refine⟨v,w',?_,hk⟩;show (do pure (Next.value (<-Builtin.append_ #[t,t] T #[.slice (some ⟨g,o,none⟩) n a,.slice B m c])):Sem Next).run P w=_;simp only [yf,r,ye,yg]
 cases B with
 | none=>
  have y:ys=[]:=by
   obtain _|⟨b3,b2⟩:=ys
   ·rfl
   ·obtain⟨V,q,_⟩:=H.get (i:=0) (by simp);cases q
  subst y;have hm:m=0:=by
   obtain s|s:=Nat.eq_zero_or_pos m
   ·exact s
   ·have:=Nat.mul_pos s b0;rw [<-h] at this;simp at this
  subst hm;refine done _ w ?_ (F (.slice (some ⟨g,o,none⟩) n a) _ w f ⟨g,o,a,p,rfl,rfl,J,N,M,by rw [zx];exact E,by rw [zx];exact d⟩);simp [Builtin.append_,run_underlying D,sizeOf,typeInfo,A,Builtin.lenOf,Builtin.firstCells,N,storeCells]
 | some k=>
  have y:∀ j u,ys[j]?=some u->w.cell? (k.add j)=some u:=fun j u b=>by obtain⟨a7,_⟩:=List.getElem?_eq_some_iff.1 b;obtain⟨V,q,a4⟩:=H.get (i:=j) a7;cases q;exact a4 j u b
  by_cases C:n+m<=a
  ·have L:o+n*i.size+ys.length<=p.length:=by rw [h];have:=Nat.mul_le_mul_right i.size C;rw [Nat.add_mul] at this;omega
   have I:(⟨g,o,none⟩:Addr).add (n*i.size)=⟨g,o+n*i.size,none⟩:=yi ..;have a8:=f.may 0 rfl (o+n*i.size) ys L W;have r:=A56 (P:=P) (w:=w) (ty:=T) D A ⟨g,o,none⟩ n a k m c ys h y (by rw [I];exact a8) C;rw [I] at r;have hs:=(f.set 0 rfl (rfl:E6 w ⟨g,o+n*i.size,none⟩ ys (stored w ⟨g,o+n*i.size,none⟩ ys 0))).1;refine done _ _ r (F _ (g,e,C5 p (o+n*i.size) ys) _ hs ⟨g,o,a,_,rfl,rfl,by rw [putAt_len];exact J,C,M,?_,by rw [z6,d,h,Nat.add_mul]⟩);rw [Nat.add_mul,<-h,putAt_drop L,E]
  ·have a9:∀ j u,xs[j]?=some u->w.cell? ((⟨g,o,none⟩:Addr).add j)=some u:=fun j u b=>by
    rw [<-E,List.getElem?_take] at b;split at b
    ·rw [List.getElem?_drop] at b;rw [yi];exact f.cell 0 rfl (o+j) b
    ·cases b
   have hg:=run_append_grow (P:=P) w t T e i z D A X ⟨g,o,none⟩ n a xs d a9 k m c ys h y (by omega) (by omega) (growslice_fits (by omega) a2);have a6:=grownCap_ge w (n+m) a e;have a5:grownCap w (n+m) a e<=maxLen:=grownCap_le_maxLen w (n+m) a e (by simp only [maxLen];omega);have hN:New w.drew (xs++ys++(Builtin.zeroCells z.cells (grownCap w (n+m) a e-(n+m))).toList) e w.heap.size (w.drew.alloc (.cells (xs.toArray++ys.toArray++Builtin.zeroCells z.cells (grownCap w (n+m) a e-(n+m))) e)):=by refine⟨rfl,?_⟩;congr 2;simp
   have a3:=(f.drew.loc hN).1.swapL.drop;refine done _ _ hg (F _ _ _ a3 ⟨w.heap.size,0,grownCap w (n+m) a e,_,rfl,rfl,?_,a6,a5,?_,by rw [z6,d,h,Nat.add_mul]⟩)
   ·rw [zn,z6,z6,d,h,Array.length_toList,size_zeroCells,b1,<-Nat.add_mul,<-Nat.add_mul];exact Nat.mul_le_mul_right _ (by omega)
   ·rw [List.drop_zero,Nat.add_mul,<-d,<-h,<-z6,List.take_left]
end
end Go.Vc
end
section
namespace Go.Proofs.YtefdfaeieekioaaGreatDoor
open Go.Vc Go.RowKit Go.Fl Go.ChangeShapes Go.WideShapes Go.ChangeAt
open Go.Vc (Sep)
section
variable {w0 w:World} {S G:Nat->Prop} {l:List LB} {os:List OR} {Q X K:Kn} {g:Lg} {L L':Lk} {ws:List Wd} {f:Nat} {args:Array Value}
theorem _root_.Go.Vc.CtxF.heard2 (i:CtxF no (bare w0) S w l os (Sep 0 (Sep 0 Q X) (LinkK g L))) (o:Stab Q) (p:Stab X) (K:∀ S n,Q S n->Keep w0 G S n) (P:EnvFree G w0)
  (J:∀ d m:Nat->Prop,(∀ x,d x->x<w.heap.size)->EnvFree d w->LinkK g L d w->(∀ y,m y->y<w.heap.size/\¬ d y)->Q m w->Calls Tryz.prog f args w (RetWL d w (LinkK g L') ws)):
  Calls Tryz.prog f args w (fun u n=>∃ A c s F,u=.returned (.slice A ws.length c)/\CtxF no (bare w0) F n l (orW ws A c s::os) (Sep 0 (Sep 0 (fun S w=>Q S w/\WsR ws s S w) X) (LinkK g L'))):=by
 obtain⟨m,t,b,v,⟨q,d,q1,q2,j,B⟩,M⟩:=i.row;have U:EnvFree t w:=P.kept fun x h C=>⟨fun a=>(b x (q1 x ((K _ _ j) x h C).1).1).2 a,((K _ _ j) x h C).2⟩;refine (J t q (fun x h=>i.ctx.lt x (v x h).1) U M (fun y E=>⟨i.ctx.lt y (b y (q1 y E).1).1,(b y (q1 y E).1).2⟩) j).mono fun u Z V=>?_;obtain⟨A,c,s,r,H,e,T,z,O,Y,W,N,I⟩:=V;have a:=CtxF.turnW (w0:=bare w0) (R:=Sep 0 Q X) i (Sep.stab o p) b v ⟨q,d,q1,q2,j,B⟩ T z O xa Y W N I;refine⟨A,c,s,_,e,a.now (fun _=>⟨fun x=>m x\/r x,H,fun x h=>?_,fun x h=>⟨.inr (.inl h),zb _⟩,⟨fun x=>q x\/r x,d,fun x h=>?_,fun x h=>⟨.inl (q2 x h).1,zb _⟩,⟨?_,?_⟩,?_⟩,O⟩) (Sep.stab (Sep.stab (o.and (WsR.stab _ _)) p) xa)⟩
 ·obtain h|h:=h
  ·refine⟨.inl ⟨(b x h).1,(b x h).2⟩,fun a=>?_⟩;obtain k|k:=(z x a).1
   ·exact (b x h).2 k
   ·have:=i.ctx.lt x (b x h).1;omega
  ·exact⟨.inr (.inr h),(N x h).2.2⟩
 ·obtain h|h:=h
  ·exact⟨.inl (q1 x h).1,(q1 x h).2⟩
  ·refine⟨.inr h,fun a=>?_⟩;have D:=b x (q2 x a).1;obtain k|k:=(N x h).1
   ·exact D.2 k
   ·have:=i.ctx.lt x D.1;omega
 ·exact o _ _ _ _ j ⟨fun _ a=>.inl a,fun x h=>T.block x (i.ctx.lt x (b x (q1 x h).1).1) (b x (q1 x h).1).2⟩
 ·exact WsR.stab _ _ _ _ _ _ W ⟨fun _ a=>.inr a,fun _ _=>rfl⟩
 ·exact p _ _ _ _ B ⟨fun _ a=>a,fun x h=>T.block x (i.ctx.lt x (b x (q2 x h).1).1) (b x (q2 x h).1).2⟩
theorem _root_.Go.Vc.CtxF.swap2 {A B:Kn} (h:CtxF no (bare w0) S w l os (Sep 0 (Sep 0 Q A) B)) (b:Stab Q) (s:Stab A) (a:Stab B):CtxF no (bare w0) S w l os (Sep 0 (Sep 0 Q B) A):=
 h.now Sep.swap (Sep.stab (Sep.stab b a) s)
theorem _root_.Go.Vc.CtxF.now2 {Q' A B:Kn} (c:CtxF no (bare w0) S w l os (Sep 0 (Sep 0 Q A) B)) (e:Stab Q') (s:Stab A) (d:Stab B) (h:∀ S,Q S w->Q' S w):CtxF no (bare w0) S w l os (Sep 0 (Sep 0 Q' A) B):=
 c.now (fun b=>b.mono (fun _ a=>a.mono h fun _ h=>h) fun _ h=>h) (Sep.stab (Sep.stab e s) d)
end
structure RS where
 k:Nat
 na:Nat
 nb:Nat
 Ha:Sh
 Hb:Sh
 dn:List Wd
 q:List Wd
 st:Nat
 g:Nat
 o:Nat
 cap:Nat
 cur:List Value
end Go.Proofs.YtefdfaeieekioaaGreatDoor
end
section
namespace Go.Proofs.YtefdfaeieekioaaGreatDoor
open Go.Vc Go.RowKit Go.Fl Go.ChangeShapes Go.WideShapes Go.ChangeAt
open Go.Vc (Sep)
theorem B4Z {c:List Value} {o:Nat} {u:List Value} {r:List (List Value)} {n:Nat} (b:u.length=21) (h:(c.drop o).take ((n+1)*21)=(u::r).flatten):(c.drop o).take 21=u/\(c.drop (o+21)).take (n*21)=r.flatten:=by rw [List.flatten_cons] at h;have e:=yb (List.take 21) h;rw [List.take_take,Nat.min_eq_left (by omega),List.take_left' b] at e;have a:=yb (List.drop 21) h;rw [List.drop_take,List.drop_drop,List.drop_left' b] at a;refine⟨e,?_⟩;rw [<-a];congr 1;omega
theorem B6p {g o c:Nat} {u:List Value} {b:List Value} {t:List (List Value)} {n:Nat} (k:b.length=21) (i:t.length=n) (m:o+c*21<=u.length) (q:n+1<=c) (p:c<=maxLen) (e:(u.drop o).take ((n+1)*21)=(b::t).flatten) (F:Flat 21 t):
  ∃ a,Value.slice (if (c:Int)=1 then some (⟨g,o,none⟩:Addr) else (some (⟨g,o,none⟩:Addr)).map (·.add ((1:Int).toNat*21))) (((n+1:Nat):Int)-1).toNat ((c:Int)-1).toNat=.slice (some ⟨g,a,none⟩) n (c-1)/\a+(c-1)*21<=u.length/\n<=c-1/\c-1<=maxLen/\(u.drop a).take (n*21)=t.flatten:=by
 obtain⟨l,h⟩:=B4Z k e;by_cases d:c=1
 ·subst d;have f:n=0:=by omega
  subst f;have j:t=[]:=zo i;subst j;exact⟨o,by rw [yn (show ((1:Nat):Int)=1 from rfl)];rfl,by omega,zb _,zb _,by rw [Nat.zero_mul,List.take_zero];rfl⟩
 ·refine⟨o+21,?_,by omega,by omega,by omega,h⟩;rw [yo (by omega)];show Value.slice (some ((⟨g,o,none⟩:Addr).add ((1:Int).toNat*21))) _ _=_;rw [yi,show (1:Int).toNat*21=21 from rfl,show (((n+1:Nat):Int)-1).toNat=n by omega,show ((c:Int)-1).toNat=c-1 by omega]
theorem B4a {T s n:Nat} {x:List Value} {v a:Value} {c:LB} (e:v=a) (h:Que T s n x a c):Que T s n x v c:=e▸h
end Go.Proofs.YtefdfaeieekioaaGreatDoor
end
section
namespace Go.Proofs.YtefdfaeieekioaaGreatDoor
open Go.Vc Go.RowKit Go.Fl Go.ChangeShapes Go.WideShapes Go.ChangeAt
open Go.Vc (Sep)
section
variable {w0 w:World} {S:Nat->Prop} {l:List LB} {os:List OR} {o:OR} {Q X O:Kn} {ga gb:Lg}
theorem _root_.Go.Vc.CtxF.toldQ (d:CtxF no (bare w0) S w l (o::os) (Sep 0 (Sep 0 Q X) O)) (s:Stab Q) (c:Stab X) (b:Stab O):∃ a,CtxF no (bare w0) a w l os (Sep 0 (Sep 0 (fun S w=>Q S w/\Row S w o.A o.n o.cap o.xs) X) O):=by obtain⟨a,h⟩:=d.toldR s c b;exact⟨a,h.now (fun h=>h.mono (fun S h=>(Sep.inner h).mono (fun S h=>⟨h.left s,h.right H8⟩) fun _ h=>h) fun _ h=>h) (Sep.stab (Sep.stab (s.and H8) c) b)⟩
theorem _root_.Go.Vc.CtxF.envNow {R:Kn} (c:CtxF no (bare w0) S w l os R) (e:EnvFree no w0) (h:R S w->Keep w0 no S w):Env w:=
 (e.kept (G':=no) fun x a _=>⟨id,(h c.row x a id).2⟩).1
theorem Keep.below {R:Kn} (c:CtxF no (bare w0) S w l os R) (a:R S w->Keep w0 no S w):Below w0.heap.size w0 w:=by
 have h:=c.leave (a c.row);refine⟨h.os,h.tape,h.output,?_,fun x b=>h.block x b id⟩;obtain h0|h0:=Nat.eq_zero_or_pos w0.heap.size
 ·omega
 ·have:=heap_lt (h.block (w0.heap.size-1) (by omega) id) (by omega);omega
end
end Go.Proofs.YtefdfaeieekioaaGreatDoor
end
namespace Go.Proofs.YtefdfaeieekioaaGreatDoor
open Go.Vc Go.RowKit Go.Fl
def R1:Ros:=⟨3,[1],0⟩
def R4:Ros:=⟨4,[1,2],2⟩
theorem B4b:A7i R1=true:=by kernel_rfl
theorem A2Q:A7i R4=true:=by kernel_rfl
theorem B9E {H:Sh} (h:H.down=false) (p:H.k.pend=[]) {m:Int} (a:m<=H.k.seq):F9 H m=(H,[],0):=by unfold F9;rw [h,yo (by decide),yo (by omega),yn];show (A5X H.k.b (H.k.pend.take _)).length=0;rw [p,List.take_nil];rfl
theorem A34 {i:Int} {H:Sh} {r:Ros} {t:Int} {dn:List Wd} (h:H.down=false) (p:H.k.pend=[]) {m:Int} (a:m<=H.k.seq):E3 (lk i H r t dn) m=lk i H r t dn:=by show lk i (F9 H m).1 r t dn=_;rw [B9E h p a]
theorem A97 {i:Int} {H:Sh} {r:Ros} {t:Int} {d:List Wd} (a:H.down=false) (h:H.k.pend=[]):H6 (lk i H r t d)=(lk i H r t d,[]):=by unfold H6;have e:(lk i H r t d).k.pend=[]:=h;rw [show (lk i H r t d).k.seq=H.k.seq from rfl,A34 a h (Int.le_refl _),e];rfl
def Hd (H:Sh) (dn:List Wd):Lk:=lk 1 H R1 50 dn
theorem B4c (H:Sh) (d:List Wd):Z0 (Hd H d)=true:=(by kernel_rfl:(A3W [1]==1)=true)
theorem B4d (H:Sh) (d:List Wd):A1w (Hd H d).r.l=(Hd H d).id:=(by kernel_rfl:A1w [1]=1)
theorem B7R {H:Sh} {a:Nat} {d:List Wd} {n:Int} (f:Fit H a) (h:H.k.ep=3) (t:n<=50):E5 (Hd H d) n=true:=A7H f (by show (1:Int)∈[(1:Int)];decide) (by show (0:Int)≠1;decide) h t
theorem C0f {H:Sh} {n:Nat} {d:List Wd} (h:Fit H n):(Hd H d).Ok:=B8d (by decide) h B4b (by unfold B9;decide)
theorem B6q:∃ H,Fit H 1/\H.k=⟨Stt0,[],3,0⟩/\V2 (lk 1 (H0 1048576) Ros0 0 []) (I4 1 R1 50) 0=(Hd H [],[]):=by obtain⟨a,_,k,f,s⟩:=A5n (id:=1) (r0:=Ros0) (til0:=0) (now:=0) (dn:=[]) (til:=50) (r:=R1) Fit.h0 (by decide) (by decide) B4b (by show (1:Int)∈[(1:Int)];decide) (by decide) (by show (0:Int)<3;decide);have k:a.k=⟨Stt0,[],3,0⟩:=k;refine⟨a,f,k,?_⟩;rw [s,yn ⟨B7R f (by rw [k]) (by decide),B4c a []⟩];exact A97 f.down (by rw [k])
theorem B6r {H:Sh} {t:Nat} (k:Fit H t) (R:t<=300) (v:H.k.pend=[]) (u:H.k.ep=3) (dn:List Wd) {d:D} (B:d.Ok):
  ∃ b n ws,T7 (Hd H dn) d 1=(Hd b n,ws)/\Fit b (t+2)/\b.k.pend=[]/\b.k.ep=3/\n.length<=dn.length+1:=by
 have same:∀ n ws,n.length<=dn.length+1->T7 (Hd H dn) d 1=(Hd H n,ws)->∃ b n ws,T7 (Hd H dn) d 1=(Hd b n,ws)/\Fit b (t+2)/\b.k.pend=[]/\b.k.ep=3/\n.length<=dn.length+1:=fun n ws l e=>
  ⟨H,n,ws,e,k.mono (by omega),v,u,l⟩
 have told:∀ (a:Sh) (q:Int) (r:Res),∃ n ws,toldL (Hd a dn) q r=(Hd a n,ws)/\n.length<=dn.length+1:=fun a q r=>by
  unfold toldL A7C A3d;split
  ·split
   ·exact⟨_,_,rfl,by rw [z6];exact zc _⟩
   ·exact⟨dn,_,rfl,by omega⟩
  ·exact⟨dn,_,rfl,by omega⟩
 cases s:M0 d with
 | false=>exact same dn [] (by omega) (by unfold T7;rw [yn (.inr s)])
 | true=>
 have f:T7 (Hd H dn) d 1=if (A1K H.k.b d.req).2=true then toldL (Hd H dn) d.req (A1K H.k.b d.req).1 else if H.k.pend.any (fun x=>x.req==d.req)=true then (Hd H dn,[]) else if (A2M H d).2≠0 then ({ Hd H dn with H:=(A2M H d).1 },[]) else onL { Hd H dn with H:=(A2M H d).1 } H.k.seq:=by unfold T7;rw [yo (fun h=>h.elim (by show ¬ (3:Int)=0;decide) (by rw [s];decide)),yn (B4d H dn),A3n (by show (3:Int)≠7;decide) (by show (3:Int)≠10;decide) (by show (3:Int)≠9;decide) rfl (by show (3:Int)≠0;decide) (B7R k u (by decide)),yn (show (H5 (Hd H dn) d).kind=3 from rfl)];unfold A3f;rw [yo (fun h=>h (B4d H dn))];rfl
 by_cases E:(A1K H.k.b d.req).2=true
 ·rw [yn E] at f;obtain⟨n,ws,I,l⟩:=told H d.req (A1K H.k.b d.req).1;exact same n ws l (f.trans I)
 rw [yo E,yo (by rw [v];exact fun h=>by cases h)] at f;rcases k.add (by omega) B with ⟨_,A,e⟩ | ⟨_,A,e⟩ | ⟨C,e⟩;rotate_left
 ·rw [e,yn (by show (5:Int)≠0;decide)] at f;exact same dn [] (by omega) f
 ·rw [s] at C;cases C
 have p:=A03 H d true;have o:=k.write (by omega) (r:=.add d) ⟨s,B⟩ A true;rw [e,yo (fun h=>h rfl)] at f;obtain⟨a,L⟩:∃ a,a=H.write (.add d) true:=⟨_,rfl⟩;rw [<-L] at p o f;rw [v] at p;have N:=o.seq;have Q:G5=1099511627776:=rfl;obtain⟨c,F,z,G,_⟩:=A8X (id:=1) (r:=R1) (til:=50) (dn:=dn) o (by omega) (m:=a.k.seq) (by unfold B9;omega) (Int.le_refl _);have w:a.k.pend=[d]:=by rw [p];rfl
 have O:(a.k.seq-a.k.b.seq).toNat=1:=by have:=N.2.2.1;rw [w] at this;have P:((([d]:List D).length:Nat):Int)=1:=rfl;omega
 rw [O] at F;obtain⟨_,_,g,i,_⟩:=B54 o.ok.k 1;rw [<-F] at g i;have i:c.k.ep=3:=by rw [i,p];exact u
 have g:c.k.pend=[]:=by rw [g,w];rfl
 have y:T7 (Hd H dn) d 1=H6 (Hd a dn):=by rw [f];show onL (Hd a dn) H.k.seq=_;unfold onL;rw [yn (B4c a dn)]
 have J:E3 (Hd a dn) (Hd a dn).k.seq=Hd c dn:=G;have j:H6 (Hd a dn)=C7 (Hd c dn) (((Hd a dn).k.pend.map fun d=>d.req).zip (F9 (Hd a dn).H (Hd a dn).k.seq).2.1):=by show C7 (E3 (Hd a dn) (Hd a dn).k.seq) _=_;rw [J]
 rw [show (Hd a dn).k.pend=[d] from w] at j;obtain⟨rs,M⟩:∃ rs,rs=(F9 (Hd a dn).H (Hd a dn).k.seq).2.1:=⟨_,rfl⟩;rw [<-M] at j;cases rs with
 | nil=>exact⟨c,dn,[],y.trans j,z,g,i,by omega⟩
 | cons r S=>
  obtain⟨n,ws,K,l⟩:=told c d.req r;refine⟨c,n,ws++[],(y.trans j).trans ?_,z,g,i,l⟩;show ((C7 (toldL (Hd c dn) d.req r).1 []).1,(toldL (Hd c dn) d.req r).2++_)=_;rw [K];rfl
def Hd4 (H:Sh) (dn:List Wd):Lk:=lk 1 H R4 60 dn
def Nb (H:Sh):Lk:=lk 2 H R4 60 []
def A06 (b:Stt):Wd:=⟨10,1,2,4,b.seq,0,0,r00,Ros0,[],b⟩
theorem A57 (H:Sh) (d:List Wd):A2V (Hd4 H d)=2:=(by kernel_rfl:A5Y [1,2] 1=2)
theorem A58 (H:Sh):A0V (Nb H)=1:=(by kernel_rfl:A2J [1,2] 2=1)
theorem B9F (H:Sh):Z0 (Nb H)=true:=(by kernel_rfl:(A3W [1,2]==2)=true)
theorem A8p {H:Sh} {n:Nat} {d:List Wd} (f:Fit H n) (h:H.k.ep=4):E5 (Hd4 H d) 52=true:=A7H f (by show (1:Int)∈[(1:Int),2];decide) (by show (2:Int)≠1;decide) h (by decide)
theorem B7S {H:Sh} {n:Nat} {d:List Wd} (h:Fit H n):(Hd4 H d).Ok:=B8d (by decide) h A2Q (by unfold B9;decide)
theorem B9G {H:Sh} {n:Nat} (h:Fit H n):(Nb H).Ok:=B8d (by decide) h A2Q (by unfold B9;decide)
theorem B4e {H:Sh} {n:Nat} {dn:List Wd} (c:Fit H n) (d:n<=400) (p:H.k.pend=[]) (h:H.k.ep=3):
  ∃ a,Fit a (n+1)/\a.k.pend=[]/\a.k.ep=4/\V2 (Hd H dn) (I4 1 R4 60) 51=(Hd4 a dn,[]):=by
 obtain⟨b,k,f,s⟩:=B3r (id:=1) (r0:=R1) (til0:=50) (now:=51) (dn:=dn) (til:=60) (r:=R4) c d (by decide) A2Q (by show (1:Int)∈[(1:Int),2];decide) B57 (by decide) (by rw [h];show (3:Int)<4;decide);exact⟨b,f,by rw [k];exact p,by rw [k];rfl,s⟩
theorem B4f {H:Sh} (h:H.k.ln=0):L7 (Nb H)=false:=by show (!((2:Int)==2)||H.k.ln==4)=false;rw [h];rfl
theorem A59 {H:Sh} (h:H.k.ln=0) (n:Int):E5 (Nb H) n=false:=by unfold E5;rw [B4f h,Bool.false_and,Bool.and_false]
theorem B6s {H:Sh} {n:Nat} (d:Fit H n) (g:n<=400) (e:H.k.ep=0) (l:H.k.ln=0):
  ∃ a,Fit a (n+1)/\a.k.ep=4/\a.k.ln=0/\V2 (lk 2 H Ros0 0 []) (I4 2 R4 60) 51=(Nb a,[]):=by
 obtain⟨b,_,k,f,s⟩:=A5n (id:=2) (r0:=Ros0) (til0:=0) (now:=51) (dn:=[]) (til:=60) (r:=R4) d g (by decide) A2Q (by show (2:Int)∈[(1:Int),2];decide) (by decide) (by rw [e];show (0:Int)<4;decide);have h:b.k.ln=0:=by rw [k];exact l
 refine⟨b,f,by rw [k];rfl,h,?_⟩;rw [s,yo (fun c=>by have:=c.1;rw [show E5 (lk 2 b R4 60 []) 51=false from A59 h 51] at this;cases this)];rfl
theorem B9H {H:Sh} {n:Nat} (f:Fit H n) (h:H.k.ln=0):B3h (Nb H) 52=[wd 1 2 0 4 0 0 [],wd 5 2 1 4 0 1 []]:=by unfold B3h;rw [yo (by show ¬ H.down=true;rw [f.down];decide),yn ⟨by show (decide ((2:Int)∈[(1:Int),2])&&decide ((52:Int)<=60))=true;decide,B4f h⟩,yn (A59 h 52),zx];unfold D9;rw [A58,yo (by decide)];rfl
theorem B6t {H:Sh} {n:Nat} (h:Fit H n) (p:H.k.pend=[]):A64 (A06 H.k.b)=true:=by obtain⟨a,e,b,s,_⟩:=h.seq;have z:(0:Int)<=0/\(0:Int)<=G5:=⟨Int.le_refl 0,by show (0:Int)<=1099511627776;decide⟩;exact X3.2 ⟨O4.2 ⟨⟨by show (1:Int)<=10;decide,by show (10:Int)<=11;decide⟩,⟨by show (0:Int)<=1;decide,by show (1:Int)<=5;decide⟩,⟨by show (0:Int)<=2;decide,by show (2:Int)<=5;decide⟩,(by show (1:Int)≠2;decide),⟨by show (0:Int)<=4;decide,by show (4:Int)<=1099511627776;decide⟩,⟨a,by show H.k.b.seq<=G5;rw [b,p] at s;exact Int.le_trans (by show H.k.b.seq<=H.k.b.seq+(0:Nat);omega) s⟩,z,z,z,⟨Int.le_refl 0,by show (0:Int)<=13;decide⟩⟩,.inl rfl,by show 0<=60;decide,(fun c d=>by cases d),h.ok.k.may⟩
theorem A8q {k:Known} (h:k.pend=[]):k.seq=k.b.seq:=by show k.b.seq+(k.pend.length:Int)=_;rw [h];show k.b.seq+(0:Int)=_;omega
theorem B6u {H:Sh} {n:Nat} {d:List Wd} (f:Fit H n) (p:H.k.pend=[]) (e:H.k.ep=4):V2 (Hd4 H d) (wd 5 2 1 4 0 1 []) 52=(Hd4 H d,[A06 H.k.b]):=by have z:(0:Int)<=0/\(0:Int)<=G5:=⟨Int.le_refl 0,by show (0:Int)<=1099511627776;decide⟩;have m:A64 (wd 5 2 1 4 0 1 [])=true:=B3q (by decide) (by decide) (by decide) (by decide) (by decide) z (by decide) (by decide) (fun b a=>by cases a);rw [A15 rfl m (by show (5:Int)≠2;decide),A3n (by show (5:Int)≠7;decide) (by show (5:Int)≠10;decide) (by show (5:Int)≠9;decide) rfl (by show (4:Int)≠0;decide) (A8p f e),yo (by show ¬ (5:Int)=3;decide),yo (by show ¬ (5:Int)=4;decide),yn (show (wd 5 2 1 4 0 1 []).kind=5 from rfl)];unfold B0m;rw [A57,yo (fun h=>h.elim (by decide) fun h=>h rfl),yn ⟨rfl,rfl⟩];unfold A2N;rw [A57,show (Hd4 H d).k.seq=H.k.seq from rfl,A8q p,show (Hd4 H d).k.pend=[] from p];rfl
theorem B4g {H b:Sh} {t g:Nat} (a:Fit H t) (c:Fit b g) (m:g<=400) (r:H.k.pend=[]) (n:b.k.ep=4) (q:b.k.ln=0):
  V2 (Nb b) (A06 H.k.b) 52=(Nb (b.lay ⟨H.k.b,[],4,4⟩),[wd 11 2 0 4 0 0 [],wd 6 2 1 4 H.k.b.seq 0 []])/\Fit (b.lay ⟨H.k.b,[],4,4⟩) 0:=by
 have o:B55 H.k.b []=true:=by unfold B55;rw [show P6 H.k.b=true from a.ok.k.may,zz (by have:=a.seq;show H.k.b.seq<=G5-((0:Nat):Int);omega)];rfl
 obtain⟨e,d⟩:=B03 c m (s:=H.k.b) (p:=[]) a.ok.k.lows (fun u l=>by cases l) (zb _) o;rw [n] at e d;have f:=c.lay m d;refine⟨?_,f⟩;rw [A15 rfl (B6t a r) (by show (10:Int)≠2;decide)];unfold H9;rw [yo (by show ¬ (10:Int)=7;decide),yo (fun h=>h.elim (fun h=>h rfl) (by show ¬ (4:Int)=0;decide)),yn (show (A06 H.k.b).kind=10 from rfl)];unfold A10;rw [yo (fun h=>by
  obtain h|h|h|h:=h
  ·exact h rfl
  ·exact h (A58 b).symm
  ·rw [B4f q] at h;cases h
  ·exact absurd h (by show ¬ (60:Int)<52;decide))]
 have i:T6 (Nb b).H (A06 H.k.b).st (A06 H.k.b).deeds=(b.lay ⟨H.k.b,[],4,4⟩,0):=e;rw [i];show (if (0:Int)≠0 then _ else _)=_;rw [yo (fun h=>h rfl)];have j:E3 (Nb (b.lay ⟨H.k.b,[],4,4⟩)) (Nb (b.lay ⟨H.k.b,[],4,4⟩)).k.seq=Nb (b.lay ⟨H.k.b,[],4,4⟩):=A34 f.down rfl (Int.le_refl _);show (E3 (Nb (b.lay ⟨H.k.b,[],4,4⟩)) (Nb (b.lay ⟨H.k.b,[],4,4⟩)).k.seq,N7 (E3 (Nb (b.lay ⟨H.k.b,[],4,4⟩)) (Nb (b.lay ⟨H.k.b,[],4,4⟩)).k.seq) V1::D9 (E3 (Nb (b.lay ⟨H.k.b,[],4,4⟩)) (Nb (b.lay ⟨H.k.b,[],4,4⟩)).k.seq) (A3g (E3 (Nb (b.lay ⟨H.k.b,[],4,4⟩)) (Nb (b.lay ⟨H.k.b,[],4,4⟩)).k.seq).k.seq))=_;rw [j];unfold D9;rw [A58,yo (by decide),show (Nb (b.lay ⟨H.k.b,[],4,4⟩)).k.seq=H.k.b.seq from A8q (k:=⟨H.k.b,[],4,4⟩) rfl];rfl
theorem B9I {H:Sh} {n:Nat} {dn:List Wd} (f:Fit H n) (p:H.k.pend=[]) (a:H.k.ep=4):V2 (Hd4 H dn) (wd 6 2 1 4 H.k.b.seq 0 []) 52=(Hd4 H dn,[]):=by obtain⟨s,g,i,j,_⟩:=f.seq;have c:=A8q p;have m:A64 (wd 6 2 1 4 H.k.b.seq 0 [])=true:=B3q (by decide) (by decide) (by decide) (by decide) (by decide) ⟨s,by omega⟩ (by decide) (by decide) (fun b d=>by cases d);rw [A15 rfl m (by show (6:Int)≠2;decide),A3n (by show (6:Int)≠7;decide) (by show (6:Int)≠10;decide) (by show (6:Int)≠9;decide) rfl (by show (4:Int)≠0;decide) (A8p f a),yo (by show ¬ (6:Int)=3;decide),yo (by show ¬ (6:Int)=4;decide),yo (by show ¬ (6:Int)=5;decide),yn (show (wd 6 2 1 4 H.k.b.seq 0 []).kind=6 from rfl)];unfold B8b;rw [A57,yo (fun h=>h.elim (by decide) fun h=>h rfl)];have e:E3 (Hd4 H dn) (min (wd 6 2 1 4 H.k.b.seq 0 []).seq (Hd4 H dn).k.seq)=Hd4 H dn:=A34 f.down p (Int.min_le_right _ _);show (E3 (Hd4 H dn) (min (wd 6 2 1 4 H.k.b.seq 0 []).seq (Hd4 H dn).k.seq),if (Hd4 H dn).k.b.seq<(E3 (Hd4 H dn) (min (wd 6 2 1 4 H.k.b.seq 0 []).seq (Hd4 H dn).k.seq)).k.b.seq then _ else _)=_;rw [e,yo (Int.lt_irrefl _)]
theorem B6v {H:Sh} {n:Nat} (f:Fit H n) (p:H.k.pend=[]) (b:H.k.ep=4) (l:H.k.ln=4):V2 (lk 2 H Ros0 0 []) (I4 2 R4 60) 53=(Nb H,[]):=by
 have e:V2 (lk 2 H Ros0 0 []) (I4 2 R4 60) 53=A1d (lk 2 H Ros0 0 []) (I4 2 R4 60) 53:=by unfold V2;rw [yo (fun h=>h.elim (fun h=>h rfl) (by rw [A4r (by decide) A2Q (by decide)];decide)),yn (show (I4 2 R4 60).kind=2 from rfl)]
 rw [e];unfold A1d;rw [yo (fun h=>by
  obtain h|h|h:=h
  ·exact h rfl
  ·exact h (by show (2:Int)∈[(1:Int),2];decide)
  ·exact absurd (show (4:Int)<H.k.ep from h) (by omega)),yo (by show ¬ H.k.ep<4;omega)]
 unfold A3h;have a:E5 (Nb H) 53=true:=by unfold E5 L7 Nb lk;simp [f.down,b,l,R4]
 show (if E5 (Nb H) 53=true/\Z0 (Nb H)=true then H6 (Nb H) else _)=_;rw [yn ⟨a,B9F H⟩];exact A97 f.down p
theorem B7T {H:Sh} {b:Nat} (f:Fit H b) (h:H.k.ep=4) (l:H.k.ln=4) {n:Int} (a:n<=60):E5 (Nb H) n=true:=by unfold E5 L7 Nb lk;simp [f.down,h,l,R4,a]
end Go.Proofs.YtefdfaeieekioaaGreatDoor
