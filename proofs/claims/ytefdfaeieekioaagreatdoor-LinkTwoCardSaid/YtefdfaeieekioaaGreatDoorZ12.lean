import Derived.Test.YtefdfaeieekioaaGreatDoorZ11
import Derived.Lib.Builder
import Derived.Laws.StructEq
import Derived.Laws.Cover3
import Derived.ChangeKeysEq
set_option maxRecDepth 100000
set_option maxHeartbeats 40000000
set_option linter.unusedVariables false
set_option linter.unusedSimpArgs false
namespace Go.Proofs.YtefdfaeieekioaaGreatDoor
open Go.Vc Go.RowKit Go.Fl Go.ChangeShapes Go.WideShapes Go.ChangeAt
theorem A9J (w:World):Calls Tryz.prog 70 #[.string ⟨#[]⟩] w (B65 Known0 w):=by refine vE Tryz.func70 ?_;have hc:=CtxF.start w no (fun _ h=>h.elim) (R:=fun _ _=>True) trivial Stab.true;refine hc.n fun g2 wg2 hg2 hc=>?_;refine hc.s 0 rfl fun wS hS hc=>?_;refine hc.a 0 rfl rfl ?_;exact⟨SX0,none,0,rfl,hc.below,A15 _ _,A28 _ _⟩
theorem B18 (gc b:Nat) (tot:Int) (ht:11<=tot/\tot<=1048576) (Sx:Nat->Prop) (w:World) (hlt:∀ x,Sx x->x<w.heap.size) (he:EnvFree Sx w) (hK:ChestK gc b (c0 tot) Sx w):
  Calls Tryz.prog 30 #[.pointer (some ⟨gc,0,none⟩)] w (fun en w'=>∃ gs gj,RetOb Sx w (.tuple #[.pointer (some ⟨gs,0,none⟩),.int .i64 0]) (ShelfK gs gj gc b (H0 tot)) en w'):=by
 have hj:∀ (Sa:Nat->Prop) (w:World),(∀ x,Sa x->x<w.heap.size)->EnvFree Sa w->ChestK gc b (c0 tot) Sa w->Calls Tryz.prog 69 #[.pointer (some ⟨gc,0,none⟩)] w (fun en w'=>∃ gj,RetOb Sa w (.tuple #[.pointer (some ⟨gj,0,none⟩),.int .i64 0]) (JourK gj gc b (H0 tot).jour) en w'):=fun Sa w hlt he hK=>by have h:=A8g gc b tot (by omega) Sa w hlt he hK;rw [H0.jour] at h;exact h
 have hc:=ChestK.start hlt hK;refine vE Tryz.func30 ?_;obtain⟨S1,Sa,h1,h2,h3,hO⟩:=hc.row;refine⟨(hj Sa _ (fun x hx=>hc.ctx.lt x (h2 x hx).1) (he.kept fun x hx hg=>⟨(h1 x (h3 x hx hg).1).2,(h3 x hx hg).2⟩) hO).mono fun en wq hq=>?_⟩;obtain⟨gj,e1,hT,Sn,hSn,hO⟩:=hq;have hc:=hc.turnO y8 h1 h2 h3 hT hSn hO yd;refine⟨_,e1,?_⟩;have hc:CtxF _ _ _ _ _ _ (Sep 0 (Sep 0 (Keep w Sx) (fun _ _=>True)) (JourK gj gc b (H0 tot).jour)):=hc.now (fun h=>by obtain⟨S1,So,h1,h2,h3,h4⟩:=h;exact⟨S1,So,h1,h2,⟨S1,no,fun x hx=>⟨hx,id⟩,(fun x hx=>hx.elim),h3,trivial⟩,h4⟩) (Sep.stab (Sep.stab y8 Stab.true) yd);refine hc.n fun g6 wg6 hg6 hc=>?_;refine hc.q (B03 gj gc b (H0 tot).jour _ _ (hc.row.right yd)) fun wQ hQ hc=>?_;obtain⟨Sr,_,hSr,hmid⟩:=hc.mid (zb _) y8 Stab.true yd;refine⟨(A9J _).mono fun en wq hq=>?_⟩;obtain⟨x0,A0,cap0,e1,hb,hR⟩:=hq;have hc:=(hmid (hc.call hb) yc (KnR.stab _ _ _ _ _ _ _ _ hR ⟨fun y hy=>hy.elim (fun h=>h.elim) .inr,fun _ _=>rfl⟩)).midNow (fun S w h=>h.2) y8 yc yd;refine⟨_,e1,?_⟩;refine hc.s 0 rfl fun wS hS hc=>?_;refine⟨(A6V gj gc b (H0 tot).jour (zb _) _ _ (hc.row.right yd)).mono fun en wq hq=>?_⟩;obtain⟨A2,c2,e1,hb,ho⟩:=hq;have hc:=hc.fresh hb ho;refine⟨_,e1,?_⟩;refine⟨Unit,fun _=>[(6,.pointer (some ⟨g6,0,none⟩)),(33,.slice A2 0 c2),(34,.int .i64 0),(35,.int .i64 0)],
  fun _ w'=>∃ S,CtxF no (bare w) S w' [(g6,92,shC gj Known0 x0 A0 cap0 false)] [⟨9,1,A2,0,c2,[]⟩] (Sep 0 (Sep 0 (Keep w Sx) (KnR Known0 x0 A0 cap0)) (JourK gj gc b (H0 tot).jour)),fun _ _=>0,(),⟨rfl,rfl,rfl,rfl,trivial⟩,⟨_,hc⟩,?_⟩
 clear hc;rintro⟨⟩ w1 u ⟨S,hc⟩;obtain⟨k1,k2,Sn,k3,k4⟩:=ObjK.leave hc.rest (.tuple #[.pointer (some ⟨g6,0,none⟩),.int .i64 0]);exact⟨g6,gj,k1,k2,Sn,k3,x0,A0,cap0,k4⟩
end Go.Proofs.YtefdfaeieekioaaGreatDoor
section
namespace Go.Proofs.YtefdfaeieekioaaGreatDoor
open Go.Vc Go.RowKit Go.Fl Go.ChangeShapes Go.WideShapes Go.ChangeAt
open Go.Vc (Sep)
theorem B5p {v:Wd} {x y:WX} (h:wdC v x=wdC v y):x=y:=by obtain⟨A,cA,B,cB,⟨a1,a2,a3,a4,a5,a6,a7,a8,a9⟩⟩:=x;obtain⟨A',cA',B',cB',⟨b1,b2,b3,b4,b5,b6,b7,b8,b9⟩⟩:=y;unfold wdC at h;simp only [List.cons.injEq,Value.slice.injEq,Value.int.injEq,true_and,and_true] at h;obtain⟨⟨h1,h2⟩,⟨h3,h4⟩,⟨h5,h6⟩,⟨h7,h8⟩,h9,h10,h11,h12,h13⟩:=h;subst h1 h2 h3 h4 h5 h6 h7 h8 h9 h10 h11 h12 h13;rfl
section
variable {w0 w w':World} {S:Nat->Prop} {l:List LB} {os:List OR} {R:Kn} {g:Lg} {L L':Lk} {ws:List Wd} {f:Nat} {args:Array Value}
end
theorem C1B:A2q [1,2]≠1:=by rw [(by kernel_rfl:A2q [1,2]=2)];decide
theorem B1Q (id:Int) (w:World) (hw:Env w):Calls Tryz.prog 16 #[.int .i64 id] w (fun en w'=>∃ g:Lg,en=.returned (.tuple #[.pointer (some ⟨g.gl,0,none⟩),.pointer (some ⟨g.gc,0,none⟩)])/\Below w.heap.size w w'/\LinkK g (lk id (H0 1048576) Ros0 0 []) (ext no w w') w'):=by refine vE Tryz.func16 ?_;have hc:=CtxF.start w no (fun _ h=>h.elim) (R:=fun _ _=>True) trivial Stab.true;refine⟨(B5Q 1048576 _).mono fun en wq hq=>?_⟩;rw [B5h (by decide)] at hq;obtain⟨gc,b,e1,hq,hO⟩:=hq;have hc:=hc.sepNew hq hO y9;refine⟨_,e1,?_⟩;obtain⟨S1,Sa,h1,h2,h3,hO⟩:=hc.row;refine⟨(B18 gc b 1048576 (by decide) Sa _ (fun x hx=>hc.ctx.lt x (h2 x hx).1) (hw.free hc.below h2) hO).mono fun en wq hq=>?_⟩;obtain⟨gs,gj,e1,hT,Sn,hSn,hO⟩:=hq;have hc:=hc.turnO Stab.true h1 h2 h3 hT hSn hO ye;refine⟨_,e1,?_⟩;refine⟨(B3R id (H0 1048576) gs _).mono fun en wq hq=>?_⟩;obtain⟨gl,e1,hN⟩:=hq;have hc:=(hc.loc hN).1;refine⟨_,e1,?_⟩;obtain⟨S1,Sa,h1,h2,h3,hO⟩:=hc.row;have hl:=hc.ctx.locs;exact⟨⟨gl,gs,gj,gc,b⟩,rfl,hc.below,none,0,none,0,[],.inr ⟨hl.1,(hc.blk 0 rfl).lt⟩,hc.blk 0 rfl,no,Sa,fun x h=>h.elim,fun x hx=>⟨⟨.inr ⟨(h2 x hx).2,hc.ctx.lt x (h2 x hx).1⟩,fun e=>by have e:x=gl:=e;subst e;exact hl.2.1 (h2 _ hx).1⟩,zb _⟩,⟨no,no,fun x h=>h.elim,fun x h=>h.elim,⟨Ros0.rep _ _,rfl⟩,OwnK.nil _ _ _ _⟩,hO⟩
theorem A6Y (id til ep new:Int) (l:List Int) (A:Option Addr) (cA:Nat):wdC (O2 id ⟨ep,l,new⟩ til) ⟨A,cA,none,0,SX0⟩=[.int .i64 2,.int .i64 0,.int .i64 id,.int .i64 0,.int .i64 0,.int .i64 0,.int .i64 til,.int .i64 0,.int .i64 0,.int .i64 ep,.slice A l.length cA,.int .i64 new,.slice none 0 0,.int .i64 0,.slice none 0 0,.slice none 0 0,.int .i64 0,.int .i64 0,.int .i64 0,.int .i64 0,.int .i64 0]:=rfl
theorem B1R {id til:Int} {r:Ros} {A:Option Addr} {cA:Nat} {S:Nat->Prop} {w:World} (h:Row S w A r.l.length cA (A1F r.l)):WdR (O2 id r til) ⟨A,cA,none,0,SX0⟩ S w:=⟨⟨h,A28 _ _⟩,A15 _ _⟩
theorem B5q {v:Wd} (h:A51 v=true):0<=v.seq:=(J7.1 (Q5.1 h).1).2.2.2.2.2.1.1
theorem A2t (g:Lg) (L:Lk) (hL:L.Ok) (hd:L.done.length<=900000) (id til now:Int) (r:Ros) (hr:A6R r=true) (x:WX) (hcm0:C4C g now { L with r:=r }):A5a g L 17 (O2 id r til) x now (B9Y L (O2 id r til) now):=
 A2P g L hL _ (fun d hd=>by cases hd) (fun e he=>by cases he) x now (fun _ _ h=>absurd rfl h) (fun _ _ _=>A8u g L hL hd _ (B0q hr) (by have:=(Q4.1 hr).2.1.2;show r.l.length<=1000;omega) x now hcm0)
theorem A39 (g:Lg) (L:Lk) (hL:L.Ok) (hd:L.done.length<=900000) (f t e s q:Int) (hs:B3 s) (ds:List D) (hdk:∀ d∈ds,d.Ok) (x:WX) (now:Int) (hcm0:C4C g now L):A5a g L 17 (wd 4 f t e s q ds) x now (B9Y L (wd 4 f t e s q ds) now):=
 A2P g L hL _ hdk (fun e he=>by cases he) x now (fun _ hm _=>A8t g L hL hd _ rfl hs (B5q hm) hdk x now hcm0) (fun _ _ h=>by cases h)
theorem B9l (g:Lg) (L:Lk) (hL:L.Ok) (f t e s q:Int) (x:WX) (now:Int):A5a g L 17 (wd 5 f t e s q []) x now (B9Y L (wd 5 f t e s q []) now):=
 A2P g L hL _ (fun d hd=>by cases hd) (fun e he=>by cases he) x now (fun _ hm _ Sx w hlt he hK Sv hvd hR=>C0b g L hL _ rfl x now Sx w hlt he hK) (fun _ _ h=>by cases h)
theorem A5d (g:Lg) (L:Lk) (hL:L.Ok) (f t e s q:Int) (hs:B3 s) (x:WX) (now:Int):A5a g L 17 (wd 6 f t e s q []) x now (B9Y L (wd 6 f t e s q []) now):=
 A2P g L hL _ (fun d hd=>by cases hd) (fun e he=>by cases he) x now (fun _ hm _ Sx w hlt he hK Sv hvd hR=>A8q g L hL _ rfl hs x now Sx w hlt he hK) (fun _ _ h=>by cases h)
end Go.Proofs.YtefdfaeieekioaaGreatDoor
end
section
namespace Go.Vx
open Go Go.Vc Go.RowKit
inductive Tr (α:Type) where
 | e
 | n (v:Option α) (l r:Tr α)
section
variable {α:Type}
noncomputable def Tr.get (t:Tr α):Nat->Option α:=
 Tr.rec (motive:=fun _=>Nat->Option α) (fun _=>none) (fun v _ _ il ir k=>Nat.rec v (fun k' _=>cond (Nat.beq (Nat.mod k' 2) 0) (il (Nat.div k' 2)) (ir (Nat.div k' 2))) k) t
noncomputable def Tr.mkK (f:Nat):Nat->α->(Tr α->Bool)->Bool:=
 Nat.rec (motive:=fun _=>Nat->α->(Tr α->Bool)->Bool) (fun _ _ _=>false)
  (fun _ ih k x K=>Nat.rec (K (.n (some x) .e .e)) (fun k' _=>cond (Nat.beq (Nat.mod k' 2) 0) (ih (Nat.div k' 2) x fun l=>K (.n none l .e)) (ih (Nat.div k' 2) x fun r=>K (.n none .e r))) k) f
noncomputable def Tr.setK (t:Tr α):Nat->α->(Tr α->Bool)->Bool:=
 Tr.rec (motive:=fun _=>Nat->α->(Tr α->Bool)->Bool) (fun k x K=>Tr.mkK 40 k x K)
  (fun v l r il ir k x K=>Nat.rec (K (.n (some x) l r)) (fun k' _=>cond (Nat.beq (Nat.mod k' 2) 0) (il (Nat.div k' 2) x fun l'=>K (.n v l' r)) (ir (Nat.div k' 2) x fun r'=>K (.n v l r'))) k) t
theorem Tr.mkK_ok:∀ (f k:Nat) (x:α) (K:Tr α->Bool),Tr.mkK f k x K=true->∃ t',K t'=true/\∀ j,t'.get j=if j=k then some x else none
 | 0,_,_,_,h=>by cases h
 | f+1,k,x,K,h=>by
  cases k with
  | zero=>
   refine⟨_,h,fun j=>?_⟩;cases j with
   | zero=>rfl
   | succ j=>rw [y7 (Nat.succ_ne_zero j)];show cond (Nat.beq (j % 2) 0) none none=none;cases Nat.beq (j % 2) 0<;>rfl
  | succ k=>
   have h:cond (Nat.beq (k % 2) 0) (Tr.mkK f (k / 2) x fun l=>K (.n none l .e)) (Tr.mkK f (k / 2) x fun r=>K (.n none .e r))=true:=h;have key:∀ (j:Nat) (l r:Tr α),(Tr.n none l r).get (j+1)=cond (Nat.beq (j % 2) 0) (l.get (j / 2)) (r.get (j / 2)):=fun _ _ _=>rfl;have e9:∀ j:Nat,(Tr.e:Tr α).get j=none:=fun _=>rfl;cases hb:Nat.beq (k % 2) 0 with
   | true=>
    rw [hb] at h;obtain⟨l',h1,h2⟩:=mkK_ok f _ _ _ h;have e0:k % 2=0:=z8 hb;refine⟨_,h1,fun j=>?_⟩;cases j with
    | zero=>rw [y7 (fun e=>by cases e)];rfl
    | succ j=>
     rw [key,h2,e9];cases hj:Nat.beq (j % 2) 0 with
     | true=>
      have e1:j % 2=0:=z8 hj;show (if j / 2=k / 2 then some x else none)=_;by_cases e:j=k
      ·subst e;rw [y6 rfl,y6 rfl]
      ·rw [y7 (by omega),y7 (by omega)]
     | false=>
      have e1:j % 2≠0:=fun e=>by rw [e] at hj;cases hj
      rw [y7 (show ¬ j+1=k+1 from fun e=>e1 (by omega))];rfl
   | false=>
    rw [hb] at h;obtain⟨r',h1,h2⟩:=mkK_ok f _ _ _ h;have e0:k % 2≠0:=fun e=>by rw [e] at hb;cases hb
    refine⟨_,h1,fun j=>?_⟩;cases j with
    | zero=>rw [y7 (fun e=>by cases e)];rfl
    | succ j=>
     rw [key,h2,e9];cases hj:Nat.beq (j % 2) 0 with
     | true=>
      have e1:j % 2=0:=z8 hj;rw [y7 (show ¬ j+1=k+1 from fun e=>e0 (by omega))];rfl
     | false=>
      have e1:j % 2≠0:=fun e=>by rw [e] at hj;cases hj
      show (if j / 2=k / 2 then some x else none)=_;by_cases e:j=k
      ·subst e;rw [y6 rfl,y6 rfl]
      ·rw [y7 (by omega),y7 (by omega)]
theorem Tr.setK_ok:∀ (t:Tr α) (k:Nat) (x:α) (K:Tr α->Bool),t.setK k x K=true->∃ t',K t'=true/\∀ j,t'.get j=if j=k then some x else t.get j
 | .e,k,x,K,h=>Tr.mkK_ok 40 k x K h
 | .n v l r,k,x,K,h=>by
  cases k with
  | zero=>
   refine⟨.n (some x) l r,h,fun j=>?_⟩;cases j with
   | zero=>rfl
   | succ j=>rw [y7 (Nat.succ_ne_zero j)];rfl
  | succ k=>
   have h:cond (Nat.beq (k % 2) 0) (l.setK (k / 2) x fun l'=>K (.n v l' r)) (r.setK (k / 2) x fun r'=>K (.n v l r'))=true:=h;have key:∀ (j:Nat) (l r:Tr α),(Tr.n v l r).get (j+1)=cond (Nat.beq (j % 2) 0) (l.get (j / 2)) (r.get (j / 2)):=fun _ _ _=>rfl;cases hb:Nat.beq (k % 2) 0 with
   | true=>
    rw [hb] at h;obtain⟨l',h1,h2⟩:=setK_ok l _ _ _ h;have e0:k % 2=0:=z8 hb;refine⟨_,h1,fun j=>?_⟩;cases j with
    | zero=>rw [y7 (fun e=>by cases e)];rfl
    | succ j=>
     rw [key,key,h2];cases hj:Nat.beq (j % 2) 0 with
     | true=>
      have e1:j % 2=0:=z8 hj;by_cases e:j=k
      ·subst e;rw [y6 rfl,y6 rfl];rfl
      ·rw [y7 (by omega),y7 (by omega)]
     | false=>
      have e1:j % 2≠0:=fun e=>by rw [e] at hj;cases hj
      rw [y7 (show ¬ j+1=k+1 from fun e=>e1 (by omega))];rfl
   | false=>
    rw [hb] at h;obtain⟨r',h1,h2⟩:=setK_ok r _ _ _ h;have e0:k % 2≠0:=fun e=>by rw [e] at hb;cases hb
    refine⟨_,h1,fun j=>?_⟩;cases j with
    | zero=>rw [y7 (fun e=>by cases e)];rfl
    | succ j=>
     rw [key,key,h2];cases hj:Nat.beq (j % 2) 0 with
     | true=>
      have e1:j % 2=0:=z8 hj;rw [y7 (show ¬ j+1=k+1 from fun e=>e0 (by omega))];rfl
     | false=>
      have e1:j % 2≠0:=fun e=>by rw [e] at hj;cases hj
      by_cases e:j=k
      ·subst e;rw [y6 rfl,y6 rfl];rfl
      ·rw [y7 (by omega),y7 (by omega)]
theorem Tr.keys:∀ (t:Tr α),∃ ks:List Nat,∀ k x,t.get k=some x->k∈ks
 | .e=>⟨[],fun _ _ h=>by cases h⟩
 | .n v l r=>by
  obtain⟨a,ha⟩:=keys l;obtain⟨b,hb⟩:=keys r;refine⟨0::(a.map (2*·+1)++b.map (2*·+2)),fun k x h=>?_⟩;cases k with
  | zero=>exact zu ..
  | succ k=>
   have h:cond (Nat.beq (k % 2) 0) (l.get (k / 2)) (r.get (k / 2))=some x:=h;refine zt _ (List.mem_append.2 ?_);cases hb':Nat.beq (k % 2) 0 with
   | true=>
    rw [hb'] at h;have:=z8 hb';exact .inl (List.mem_map.2 ⟨k / 2,ha _ _ h,by omega⟩)
   | false=>
    rw [hb'] at h;have:k % 2≠0:=fun e=>by rw [e] at hb';cases hb'
    exact .inr (List.mem_map.2 ⟨k / 2,hb _ _ h,by omega⟩)
end
noncomputable def fN (n:Nat) (K:Nat->Bool):Bool:=Nat.rec (K 0) (fun k _=>K (Nat.succ k)) n
noncomputable def fI (n:Int) (K:Int->Bool):Bool:=Int.rec (fun a=>fN a fun a=>K (.ofNat a)) (fun a=>fN a fun a=>K (.negSucc a)) n
noncomputable def fL {α:Type} (l:List α) (K:List α->Bool):Bool:=List.rec (motive:=fun _=>(List α->Bool)->Bool) (fun K=>K []) (fun x _ ih K=>ih fun r=>K (x::r)) l K
theorem V8 (n:Nat) (K:Nat->Bool):fN n K=K n:=by cases n<;>rfl
theorem B5r (n:Int) (K:Int->Bool):fI n K=K n:=by
 cases n with
 | ofNat a=>exact V8 a fun a=>K (.ofNat a)
 | negSucc a=>exact V8 a fun a=>K (.negSucc a)
theorem X9 {α:Type}:∀ (l:List α) (K:List α->Bool),fL l K=K l
 | [],_=>rfl
 | x::r,K=>X9 r fun r=>K (x::r)
noncomputable def eqI (a b:Int):Bool:=Int.rec (fun a=>Int.rec (fun b=>Nat.beq a b) (fun _=>false) b) (fun a=>Int.rec (fun _=>false) (fun b=>Nat.beq a b) b) a
noncomputable def leI (a b:Int):Bool:=Int.rec (fun a=>Int.rec (fun b=>Nat.ble a b) (fun _=>false) b) (fun a=>Int.rec (fun _=>true) (fun b=>Nat.ble b a) b) a
theorem A2S (a b:Int):eqI a b=(a==b):=by
 rw [Bool.eq_iff_iff,beq_iff_eq];cases a<;>cases b
 ·exact⟨fun h=>y5 _ (z8 h),fun h=>by cases h;exact Nat.beq_refl _⟩
 ·exact⟨fun h=>(by cases h),fun h=>(by cases h)⟩
 ·exact⟨fun h=>(by cases h),fun h=>(by cases h)⟩
 ·exact⟨fun h=>y5 _ (z8 h),fun h=>by cases h;exact Nat.beq_refl _⟩
theorem O3 (a b:Int):leI a b=decide (a<=b):=by
 have e1:∀ a:Nat,Int.ofNat a=(a:Int):=fun _=>rfl;have e2:∀ a:Nat,Int.negSucc a = -((a:Int)+1):=fun a=>Int.negSucc_eq a;rw [Bool.eq_iff_iff,decide_eq_true_iff];cases a<;>cases b
 ·exact⟨fun h=>Int.ofNat_le.2 (ze h),fun h=>Nat.ble_eq_true_of_le (Int.ofNat_le.1 h)⟩
 ·rw [e1,e2];exact⟨fun h=>(by cases h),fun h=>by omega⟩
 ·rw [e1,e2];exact⟨fun _=>by omega,fun _=>rfl⟩
 ·rename_i a b;rw [e2,e2];exact⟨fun h=>by have:=ze (show Nat.ble b a=true from h);omega,fun h=>show Nat.ble b a=true from Nat.ble_eq_true_of_le (by omega)⟩
inductive EC where
 | k (c:Nat)
 | j (d b:Nat)
 | z (d:Nat)
inductive EB where
 | l (v:Value)
 | p (N o:Nat)
 | s (N o n:Nat) (c:EC)
 | m (N:Nat)
 | f (g:Nat) (cs:List (Nat × Nat))
 | rg (k:IntKind) (lo hi:Int)
 | bo
inductive EV where
 | o (x:EB)
 | a (xs:List EB)
 | t (xs:List (Bool × List EB))
structure Pl where
 b:Nat
 o:Nat
 c:Nat
abbrev Sg:=Nat->Option Pl
def Ex (σ τ:Sg):Prop:=∀ N q,σ N=some q->τ N=some q
theorem Ex.refl (σ:Sg):Ex σ σ:=fun _ _ h=>h
theorem Ex.trans {σ τ υ:Sg} (h:Ex σ τ) (k:Ex τ υ):Ex σ υ:=fun N q e=>k N q (h N q e)
def All2 {α β:Type} (R:α->β->Prop):List α->List β->Prop
 | [],[]=>True
 | a::al,b::bs=>R a b/\All2 R al bs
 | _,_=>False
section
variable {α β:Type} {R R':α->β->Prop}
theorem All2.len:∀ {al:List α} {bs:List β},All2 R al bs->bs.length=al.length
 | [],[],_=>rfl
 | a::al,b::bs,h=>y5 (·+1) (All2.len h.2)
theorem All2.mono (k:∀ a b,R a b->R' a b):∀ {al:List α} {bs:List β},All2 R al bs->All2 R' al bs
 | [],[],_=>trivial
 | a::al,b::bs,h=>⟨k _ _ h.1,All2.mono k h.2⟩
theorem All2.get:∀ {al:List α} {bs:List β},All2 R al bs->∀ {i:Nat} {a:α},al[i]?=some a->∃ b,bs[i]?=some b/\R a b
 | a::al,b::bs,h,0,x,e=>by cases e;exact⟨b,rfl,h.1⟩
 | a::al,b::bs,h,i+1,x,e=>All2.get h.2 (i:=i) (by simpa using e)
theorem All2.append:∀ {al al':List α} {bs bs':List β},All2 R al bs->All2 R al' bs'->All2 R (al++al') (bs++bs')
 | [],_,[],_,_,k=>k
 | a::al,_,b::bs,_,h,k=>⟨h.1,All2.append h.2 k⟩
theorem All2.take:∀ {al:List α} {bs:List β},All2 R al bs->∀ n,All2 R (al.take n) (bs.take n)
 | [],[],_,n=>by rw [List.take_nil,List.take_nil];trivial
 | a::al,b::bs,h,0=>trivial
 | a::al,b::bs,h,n+1=>⟨h.1,All2.take h.2 n⟩
theorem All2.drop:∀ {al:List α} {bs:List β},All2 R al bs->∀ n,All2 R (al.drop n) (bs.drop n)
 | [],[],_,n=>by rw [List.drop_nil,List.drop_nil];trivial
 | a::al,b::bs,h,0=>h
 | a::al,b::bs,h,n+1=>All2.drop h.2 n
theorem All2.set:∀ {al:List α} {bs:List β} {a:α} {b:β},All2 R al bs->R a b->∀ i,All2 R (al.set i a) (bs.set i b)
 | [],[],_,_,_,_,_=>trivial
 | a::al,b::bs,_,_,h,k,0=>⟨k,h.2⟩
 | a::al,b::bs,_,_,h,k,i+1=>⟨h.1,All2.set h.2 k i⟩
theorem All2.map {γ:Type} (f:γ->α) (g:γ->β) (h:∀ c,R (f c) (g c)):∀ l:List γ,All2 R (l.map f) (l.map g)
 | []=>trivial
 | c::l=>⟨h c,All2.map f g h l⟩
end
def CR:EC->Pl->Nat->Nat->Addr->Nat->Prop
 | .k c,q,o,n,a,cp=>a=⟨q.b,q.o+o,none⟩/\cp=c/\n<=c
 | .j d b,q,o,n,a,cp=>a=⟨q.b,q.o+o,none⟩/\cp+d=q.c/\n<=b/\b<=cp
 | .z d,q,o,n,a,cp=>n=0/\a.spot=none/\(cp=0\/a=⟨q.b,q.o+o,none⟩/\cp+d=q.c)
def PR (σ:Sg) (c:Nat × Nat) (v:Value):Prop:=∃ q,σ c.1=some q/\v=.pointer (some ⟨q.b,q.o+c.2,none⟩)
def BR (σ:Sg):EB->Value->Prop
 | .l v,u=>u=v
 | .p N o,u=>PR σ (N,o) u
 | .s N o n c,u=>∃ q a cp,σ N=some q/\CR c q o n a cp/\u=.slice (some a) n cp
 | .m N,u=>∃ q,σ N=some q/\u=.map (some q.b)
 | .f g cs,u=>∃ vs,All2 (PR σ) cs vs/\u=.func (.func g) #[] vs.toArray
 | .rg k lo hi,u=>∃ a,u=.int k a/\lo<=a/\a<=hi
 | .bo,u=>∃ b,u=.bool b
def TR (σ:Sg) (x:Bool × List EB) (u:Value):Prop:=∃ cs,All2 (BR σ) x.2 cs/\(x.1=true/\u=.agg cs.toArray\/x.1=false/\cs=[u])
def VR (σ:Sg):EV->Value->Prop
 | .o x,u=>BR σ x u
 | .a xs,u=>∃ cs,All2 (BR σ) xs cs/\u=.agg cs.toArray
 | .t ys,u=>∃ vs,All2 (TR σ) ys vs/\u=.tuple vs.toArray
section
variable {σ τ:Sg}
theorem PR.ex (h:Ex σ τ) (c:Nat × Nat) (v:Value) (k:PR σ c v):PR τ c v:=by obtain⟨q,k1,k2⟩:=k;exact⟨q,h _ _ k1,k2⟩
theorem BR.ex (h:Ex σ τ) (x:EB) (v:Value) (k:BR σ x v):BR τ x v:=by
 cases x with
 | l u=>exact k
 | p N o=>exact PR.ex h _ _ k
 | s N o n c=>obtain⟨q,a,cp,k1,k2⟩:=k;exact⟨q,a,cp,h _ _ k1,k2⟩
 | m N=>obtain⟨q,k1,k2⟩:=k;exact⟨q,h _ _ k1,k2⟩
 | f g cs=>obtain⟨vs,k1,k2⟩:=k;exact⟨vs,k1.mono (PR.ex h),k2⟩
 | rg k lo hi=>exact k
 | bo=>exact k
theorem TR.ex (h:Ex σ τ) (x:Bool × List EB) (v:Value) (k:TR σ x v):TR τ x v:=by obtain⟨cs,k1,k2⟩:=k;exact⟨cs,k1.mono (BR.ex h),k2⟩
theorem VR.ex (h:Ex σ τ) {x:EV} {v:Value} (k:VR σ x v):VR τ x v:=by
 cases x with
 | o x=>exact BR.ex h _ _ k
 | a xs=>obtain⟨cs,k1,k2⟩:=k;exact⟨cs,k1.mono (BR.ex h),k2⟩
 | t ys=>obtain⟨vs,k1,k2⟩:=k;exact⟨vs,k1.mono (TR.ex h),k2⟩
end
def FR (σ:Sg) (F:Tr EV) (f:Fr):Prop:=∀ t v,F.get t=some v->VR σ v (f t)
theorem FR.ex {σ τ:Sg} (h:Ex σ τ) {F:Tr EV} {f:Fr} (k:FR σ F f):FR τ F f:=fun t v e=>(k t v e).ex h
theorem FR.upd {σ:Sg} {F F':Tr EV} {f:Fr} {t:Nat} {x:EV} {u:Value} (k:FR σ F f) (hx:VR σ x u) (h:∀ j,F'.get j=if j=t then some x else F.get j):FR σ F' (upd f t u):=fun j v e=>by
 rw [h] at e;show VR σ v (bif Nat.beq j t then u else f j);by_cases ej:j=t
 ·subst ej;rw [y6 rfl] at e;cases e;rw [show Nat.beq j j=true from Nat.beq_refl j];exact hx
 ·rw [y7 ej] at e;rw [show Nat.beq j t=false from Bool.eq_false_iff.2 fun h=>ej (z8 h)];exact k _ _ e
def ofV:Value->EV
 | .agg cs=>.a (cs.toList.map .l)
 | v=>.o (.l v)
theorem B7K (σ:Sg) (v:Value):VR σ (ofV v) v:=by
 cases v
 case agg cs=>exact⟨cs.toList,by have:=All2.map (R:=BR σ) EB.l id (fun _=>rfl) cs.toList;rwa [List.map_id] at this,by simp⟩
 all_goals exact rfl
noncomputable def xEv (F:Tr EV) (x:Operand):Option EV:=
 match x with
 | .tmp t=>F.get t
 | .const v=>some (ofV v)
 | .global g=>some (.o (.l (.pointer (some ⟨g,0,none⟩))))
 | .func n=>some (.o (.f n []))
theorem B9 {σ:Sg} {F:Tr EV} {f:Fr} (h:FR σ F f) {x:Operand} {v:EV} (e:xEv F x=some v):VR σ v (ev f x):=by
 cases x with
 | tmp t=>exact h _ _ e
 | const u=>cases e;exact B7K _ _
 | «global» g=>cases e;rfl
 | func n=>cases e;exact⟨[],trivial,rfl⟩
end Go.Vx
end
section
namespace Go.Vx
open Go Go.Vc Go.RowKit
inductive Ent where
 | d
 | c (T sz:Nat) (xs:List EB)
 | m (es:List (Value × EV × Nat)) (clock:Nat)
 | i (M since:Nat) (seen:List Nat) (c0:Nat)
 | r (xs:List EB)
structure Hp where
 t:Tr Ent
 n:Nat
def Ent.live:Ent->Bool
 | .d=>false
 | _=>true
theorem cell_of_heap {w w':World} {a:Addr} (h:w'.heap[a.block]?=w.heap[a.block]?):w'.cell? a=w.cell? a:=by unfold World.cell?;rw [h]
theorem heap_lt {w w':World} {b:Nat} (h:w'.heap[b]?=w.heap[b]?) (hb:b<w.heap.size):b<w'.heap.size:=by
 rcases zl b w'.heap.size with h1 | h1
 ·exact h1
 ·rw [Array.getElem?_eq_none h1,Array.getElem?_eq_getElem hb] at h;cases h
theorem B7L {w:World} {b:Nat} {o:Obj} (h:w.heap[b]?=some o):b<w.heap.size:=by
 rcases zl b w.heap.size with hl | hg
 ·exact hl
 ·rw [Array.getElem?_eq_none hg] at h;cases h
def MR (σ:Sg) (x:Value × EV × Nat) (e:MapEntry):Prop:=e.key=x.1/\VR σ x.2.1 e.val/\e.born=x.2.2
def EntR (w0:World) (σ:Sg) (w:World) (N:Nat):Ent->Prop
 | .d=>True
 | .c T sz xs=>∃ q cur cs,σ N=some q/\w0.heap.size<=q.b/\Blk w q.b T cur/\(sz=0->q.o=0/\cur.length=xs.length)/\(sz≠0->cur.length=q.o+q.c*sz/\q.c<=maxLen)/\All2 (BR σ) xs cs/\∀ j v,cs[j]?=some v->cur[q.o+j]?=some v
 | .m es clock=>∃ q ents,σ N=some q/\w0.heap.size<=q.b/\w.heap[q.b]?=some (.map ents clock)/\All2 (MR σ) es ents.toList
 | .i M since seen c0=>∃ q r,σ N=some q/\σ M=some r/\w0.heap.size<=q.b/\q.o=0/\w.heap[q.b]?=some (.mapIter (some r.b) since seen.toArray c0)
 | .r xs=>∃ q cs,σ N=some q/\w0.heap.size<=q.b/\(q.b<w.heap.size/\q.c<=maxLen)/\All2 (BR σ) xs cs/\∀ j v,cs[j]?=some v->w.cell? ⟨q.b,q.o+j,none⟩=some v
structure Rep (w0:World) (σ:Sg) (H:Hp) (w:World):Prop where
 below:Below w0.heap.size w0 w
 none:∀ N,H.t.get N=none->σ N=none
 ent:∀ N E,H.t.get N=some E->EntR w0 σ w N E
 sep:∀ N M E E' q r,N≠M->H.t.get N=some E->H.t.get M=some E'->E.live=true->E'.live=true->σ N=some q->σ M=some r->q.b≠r.b
section
variable {w0 w w':World} {σ τ:Sg} {H H':Hp} {N:Nat}
theorem EntR.place {E:Ent} (h:EntR w0 σ w N E) (hl:E.live=true):∃ q,σ N=some q/\w0.heap.size<=q.b/\q.b<w.heap.size:=by
 cases E with
 | d=>cases hl
 | c T sz xs=>
  obtain⟨q,cur,cs,h1,h2,h3,_⟩:=h;exact⟨q,h1,h2,h3.lt⟩
 | m es clock=>
  obtain⟨q,ents,h1,h2,h3,_⟩:=h;exact⟨q,h1,h2,B7L h3⟩
 | i M since seen c0=>
  obtain⟨q,r,h1,_,h2,_,h3⟩:=h;exact⟨q,h1,h2,B7L h3⟩
 | r xs=>
  obtain⟨q,cs,h1,h2,h3,_⟩:=h;exact⟨q,h1,h2,h3.1⟩
theorem EntR.of {E:Ent} (h:EntR w0 σ w N E) (he:Ex σ τ) (hb:E.live=true->∀ q,σ N=some q->w'.heap[q.b]?=w.heap[q.b]?):EntR w0 τ w' N E:=by
 cases E with
 | d=>trivial
 | c T sz xs=>
  obtain⟨q,cur,cs,h1,h2,h3,h4,h5,h6,h7⟩:=h;exact⟨q,cur,cs,he _ _ h1,h2,h3.of_eq (hb rfl q h1),h4,h5,h6.mono (BR.ex he),h7⟩
 | m es clock=>
  obtain⟨q,ents,h1,h2,h3,h4⟩:=h;exact⟨q,ents,he _ _ h1,h2,(hb rfl q h1).trans h3,h4.mono (fun a b k=>⟨k.1,k.2.1.ex he,k.2.2⟩)⟩
 | i M since seen c0=>
  obtain⟨q,r,h1,h2,h3,h4,h5⟩:=h;exact⟨q,r,he _ _ h1,he _ _ h2,h3,h4,(hb rfl q h1).trans h5⟩
 | r xs=>
  obtain⟨q,cs,h1,h2,h3,h4,h5⟩:=h;refine⟨q,cs,he _ _ h1,h2,⟨heap_lt (hb rfl q h1) h3.1,h3.2⟩,h4.mono (BR.ex he),fun j v hj=>?_⟩;rw [<-h5 j v hj];exact cell_of_heap (hb rfl q h1)
theorem Rep.keep (h:Rep w0 σ H w) (hb:Below w.heap.size w w'):Rep w0 σ H w':=
 ⟨h.below.trans (hb.mono h.below.size),h.none,fun N E e=>(h.ent N E e).of (Ex.refl _) fun hl q hq=>by obtain⟨r,h1,h2,h3⟩:=(h.ent N E e).place hl;rw [hq] at h1;cases h1;exact hb.block _ h3,h.sep⟩
theorem Rep.drew (h:Rep w0 σ H w):Rep w0 σ H w.drew:=h.keep (Below.refl _ _).drew
theorem Rep.turn (h:Rep w0 σ H w) {E E':Ent} (he:H.t.get N=some E) (hl:E.live=true) {q:Pl} (hq:σ N=some q) (hsz:w.heap.size<=w'.heap.size) (ho:w'.os=w.os/\w'.tape=w.tape/\w'.output=w.output) (hb:∀ b,b≠q.b->b<w.heap.size->w'.heap[b]?=w.heap[b]?)
  (ht:∀ j,H'.t.get j=if j=N then some E' else H.t.get j) (hE:EntR w0 σ w' N E'):Rep w0 σ H' w':=by
 obtain⟨r,h1,h2,h3⟩:=(h.ent N E he).place hl;rw [hq] at h1;cases h1;have hlow:∀ b,b<w0.heap.size->w'.heap[b]?=w0.heap[b]?:=fun b hb'=>by have h4:=h.below.size;exact (hb b (by omega) (by omega)).trans (h.below.block b hb')
 refine⟨⟨ho.1.trans h.below.os,ho.2.1.trans h.below.tape,ho.2.2.trans h.below.output,zo h.below.size hsz,hlow⟩,fun M hM=>h.none M (by
  rw [ht] at hM;by_cases e:M=N
  ·rw [y6 e] at hM;cases hM
  ·rwa [y7 e] at hM),fun M F hF=>?_,fun M M' F F' r s hne hF hF' hl1 hl2 hr hs=>?_⟩
 ·rw [ht] at hF;by_cases e:M=N
  ·subst e;rw [y6 rfl] at hF;cases hF;exact hE
  ·rw [y7 e] at hF;refine (h.ent M F hF).of (Ex.refl _) fun hl' r hr=>?_;obtain⟨s,k1,k2,k3⟩:=(h.ent M F hF).place hl';rw [hr] at k1;cases k1;exact hb _ (h.sep M N F E _ _ e hF he hl' hl hr hq) k3
 ·rw [ht] at hF hF';by_cases e:M=N
  ·subst e;rw [y7 (fun e=>hne e.symm)] at hF';rw [hq] at hr;cases hr;exact h.sep M M' E F' _ _ hne he hF' hl hl2 hq hs
  ·rw [y7 e] at hF;by_cases e':M'=N
   ·subst e';rw [hq] at hs;cases hs;exact h.sep M M' F E _ _ hne hF he hl1 hl hr hq
   ·rw [y7 e'] at hF';exact h.sep M M' F F' _ _ hne hF hF' hl1 hl2 hr hs
theorem Rep.lose (h:Rep w0 σ H w) (ht:∀ j,H'.t.get j=if j=N then some .d else H.t.get j):Rep w0 σ H' w:=
 ⟨h.below,fun M hM=>h.none M (by
  rw [ht] at hM;by_cases e:M=N
  ·rw [y6 e] at hM;cases hM
  ·rwa [y7 e] at hM),fun M F hF=>by
  rw [ht] at hF;by_cases e:M=N
  ·rw [y6 e] at hF;cases hF;trivial
  ·rw [y7 e] at hF;exact h.ent M F hF,fun M M' F F' r s hne hF hF' hl1 hl2 hr hs=>by
  rw [ht] at hF hF';by_cases e:M=N
  ·rw [y6 e] at hF;cases hF;cases hl1
  ·rw [y7 e] at hF;by_cases e':M'=N
   ·rw [y6 e'] at hF';cases hF';cases hl2
   ·rw [y7 e'] at hF';exact h.sep M M' F F' r s hne hF hF' hl1 hl2 hr hs⟩
def A3H (σ:Sg) (N:Nat) (q:Pl):Sg:=fun M=>if M=N then some q else σ M
theorem O9 (h:Rep w0 σ H w) (hN:H.t.get N=Option.none) (q:Pl):Ex σ (A3H σ N q):=fun M r hr=>by
 unfold A3H;by_cases e:M=N
 ·rw [e,h.none _ hN] at hr;cases hr
 ·rw [y7 e];exact hr
theorem Rep.newG (h:Rep w0 σ H w) (q:Pl) {E:Ent} (hb:Below w0.heap.size w0 w') (hblk:∀ b,b≠q.b->b<w.heap.size->w'.heap[b]?=w.heap[b]?) (hfree:∀ M F r,H.t.get M=some F->F.live=true->σ M=some r->r.b≠q.b) (hN:H.t.get N=Option.none) (ht:∀ j,H'.t.get j=if j=N then some E else H.t.get j)
  (hE:EntR w0 (A3H σ N q) w' N E):Rep w0 (A3H σ N q) H' w':=by
 have hx:=O9 h hN q;have ho:∀ M,M≠N->A3H σ N q M=σ M:=fun M e=>y7 e;have hs:A3H σ N q N=some q:=y6 rfl;have old:∀ M F r,H.t.get M=some F->F.live=true->σ M=some r->r.b<w.heap.size:=fun M F r hF hl hr=>by obtain⟨s,k1,k2,k3⟩:=(h.ent M F hF).place hl;rw [hr] at k1;cases k1;exact k3
 refine⟨hb,fun M hM=>?_,fun M F hF=>?_,fun M M' F F' r s hne hF hF' hl1 hl2 hr hs'=>?_⟩
 ·rw [ht] at hM;by_cases e:M=N
  ·rw [y6 e] at hM;cases hM
  ·rw [y7 e] at hM;rw [ho M e];exact h.none M hM
 ·rw [ht] at hF;by_cases e:M=N
  ·subst e;rw [y6 rfl] at hF;cases hF;exact hE
  ·rw [y7 e] at hF;refine (h.ent M F hF).of hx fun hl' r hr=>?_;exact hblk _ (hfree M F r hF hl' hr) (old M F r hF hl' hr)
 ·rw [ht] at hF hF';by_cases e:M=N
  ·have e':M'≠N:=fun e'=>hne (e.trans e'.symm);rw [y7 e'] at hF';rw [ho M' e'] at hs';have:=hfree M' F' s hF' hl2 hs';rw [e,hs] at hr;cases hr;exact this.symm
  ·rw [y7 e] at hF;rw [ho M e] at hr;have h1:=hfree M F r hF hl1 hr;by_cases e':M'=N
   ·rw [e',hs] at hs';cases hs';exact h1
   ·rw [y7 e'] at hF';rw [ho M' e'] at hs';exact h.sep M M' F F' _ _ hne hF hF' hl1 hl2 hr hs'
theorem Rep.new (h:Rep w0 σ H w) (q:Pl) {E:Ent} (hb:Below w.heap.size w w') (hq:w.heap.size<=q.b) (hN:H.t.get N=Option.none) (ht:∀ j,H'.t.get j=if j=N then some E else H.t.get j)
  (hE:EntR w0 (A3H σ N q) w' N E):Rep w0 (A3H σ N q) H' w':=
 h.newG q (h.below.trans (hb.mono h.below.size)) (fun b _ hl=>hb.block b hl) (fun M F r hF hl hr=>by obtain⟨s,k1,k2,k3⟩:=(h.ent M F hF).place hl;rw [hr] at k1;cases k1;omega) hN ht hE
theorem Rep.row (h:Rep w0 σ H w) {T sz:Nat} {xs:List EB} (e:H.t.get N=some (.c T sz xs)) (i n:Nat) (hi:i+n<=xs.length):
  ∃ q cs,σ N=some q/\All2 (BR σ) ((xs.drop i).take n) cs/\cs.length=n/\cellsAt w ⟨q.b,q.o+i,Option.none⟩ cs 0:=by
 obtain⟨q,cur,cs,h1,h2,h3,h4,h5,h6,h7⟩:=h.ent N _ e;have hl:=h6.len;have hk:=(h6.drop i).take n;refine⟨q,_,h1,hk,by rw [zf,zg];omega,B5 h3 (q.o+i) _ 0 fun j v hj=>?_⟩;rw [List.getElem?_take] at hj;split at hj
 ·rw [List.getElem?_drop] at hj;have:=h7 _ _ hj;rwa [show q.o+(i+j)=q.o+i+0+j by omega] at this
 ·cases hj
theorem Rep.cell (h:Rep w0 σ H w) {T sz:Nat} {xs:List EB} (e:H.t.get N=some (.c T sz xs)) {i:Nat} {x:EB} (hx:xs[i]?=some x):∃ q v,σ N=some q/\BR σ x v/\w.cell? ⟨q.b,q.o+i,Option.none⟩=some v:=by obtain⟨q,cur,cs,h1,h2,h3,h4,h5,h6,h7⟩:=h.ent N _ e;obtain⟨v,hv,hr⟩:=h6.get hx;exact⟨q,v,h1,hr,(h3.cell _).trans (h7 _ _ hv)⟩
def A7l:List EB->Nat->List EB->List EB
 | xs,_,[]=>xs
 | xs,i,y::ys=>A7l (xs.set i y) (i+1) ys
theorem A4A:∀ (ys xs:List EB) (i:Nat),(A7l xs i ys).length=xs.length
 | [],_,_=>rfl
 | y::ys,xs,i=>by rw [A7l,A4A ys,List.length_set]
theorem putAt_len:∀ (ys xs:List Value) (i:Nat),(C0 xs i ys).length=xs.length
 | [],_,_=>rfl
 | y::ys,xs,i=>by rw [C0,putAt_len ys,List.length_set]
theorem A2T {R:EB->Value->Prop}:∀ {ys:List EB} {us:List Value} {xs:List EB} {cs:List Value} (i:Nat),All2 R xs cs->All2 R ys us->All2 R (A7l xs i ys) (C0 cs i us)
 | [],[],_,_,_,h,_=>h
 | y::ys,u::us,xs,cs,i,h,k=>A2T (i+1) (h.set k.1 i) k.2
theorem A6Z (o:Nat):∀ (us cs cur:List Value) (i:Nat),i+us.length<=cs.length->(∀ j v,cs[j]?=some v->cur[o+j]?=some v)->∀ j v,(C0 cs i us)[j]?=some v->(C0 cur (o+i) us)[o+j]?=some v
 | [],_,_,_,_,h=>h
 | u::us,cs,cur,i,hi,h=>by
  rw [zi] at hi;refine A6Z o us (cs.set i u) (cur.set (o+i) u) (i+1) (by rw [List.length_set];omega) fun j v hj=>?_;rw [List.getElem?_set] at hj ⊢;by_cases e:i=j
  ·subst e;rw [y6 rfl,y6 (by omega)] at hj;cases hj;have hlt:i<cs.length:=by omega
   have:=h i _ (List.getElem?_eq_getElem hlt);rw [y6 rfl,y6 (by
    rcases zl (o+i) cur.length with hh | hh
    ·exact hh
    ·rw [List.getElem?_eq_none hh] at this;cases this)]
  ·rw [y7 e] at hj;rw [y7 (by omega)];exact h j v hj
theorem Rep.store (h:Rep w0 σ H w) {T sz:Nat} {xs:List EB} (e:H.t.get N=some (.c T sz xs)) {i:Nat} {ys:List EB} {us:List Value} (hy:All2 (BR σ) ys us) (h1:∀ u∈us,u.oneCell'=true) (hi:i+ys.length<=xs.length)
  (ht:∀ j,H'.t.get j=if j=N then some (.c T sz (A7l xs i ys)) else H.t.get j):∃ q,σ N=some q/\C7 w ⟨q.b,q.o+i,Option.none⟩ us 0/\∀ w',D0 w ⟨q.b,q.o+i,Option.none⟩ us w'->Rep w0 σ H' w':=by
 obtain⟨q,cur,cs,k1,k2,k3,k4,k5,k6,k7⟩:=h.ent N _ e;have hlu:=hy.len;have hlc:=k6.len;have hcl:∀ j,j<cs.length->q.o+j<cur.length:=fun j hj=>by
  have:=k7 j _ (List.getElem?_eq_getElem hj);rcases zl (q.o+j) cur.length with hh | hh
  ·exact hh
  ·rw [List.getElem?_eq_none hh] at this;cases this
 have hfit:q.o+i+us.length<=cur.length:=by
  rcases Nat.eq_zero_or_pos us.length with h0 | h0
  ·rw [h0];rcases Nat.eq_zero_or_pos i with hi0 | hi0
   ·rw [hi0];rcases Classical.em (sz=0) with hs | hs
    ·have:=k4 hs;omega
    ·have:=k5 hs;omega
   ·have:=hcl (i-1) (by omega);omega
  ·have:=hcl (i+us.length-1) (by omega);omega
 refine⟨q,k1,U5 k3 _ us 0 (by omega) h1,fun w' hS=>?_⟩;obtain⟨s1,s2,s3,s4,s5,s6⟩:=H8 (q.o+i) us w 0 cur k3;rw [<-(show w'=_ from hS)] at s1 s2 s3 s4 s5 s6;rw [Nat.add_zero] at s1;refine h.turn e rfl k1 (by omega) ⟨s4,s5,s6⟩ (fun b hb _=>s2 b hb) ht ⟨q,_,_,k1,k2,s1,fun hs=>⟨(k4 hs).1,?_⟩,fun hs=>⟨?_,(k5 hs).2⟩,A2T i k6 hy,A6Z q.o us cs cur i (by omega) k7⟩
 ·rw [putAt_len,A4A];exact (k4 hs).2
 ·rw [putAt_len];exact (k5 hs).1
theorem Rep.alloc (h:Rep w0 σ H w) {T g:Nat} {xs:List EB} {cs:List Value} (hx:All2 (BR σ) xs cs) (hG:New w cs T g w') (hN:H.t.get N=Option.none) (ht:∀ j,H'.t.get j=if j=N then some (.c T 0 xs) else H.t.get j):
  Ex σ (A3H σ N ⟨g,0,0⟩)/\A3H σ N ⟨g,0,0⟩ N=some ⟨g,0,0⟩/\Rep w0 (A3H σ N ⟨g,0,0⟩) H' w':=by
 refine⟨O9 h hN _,y6 rfl,h.new ⟨g,0,0⟩ hG.below (by rw [hG.1];exact zc _) hN ht ⟨⟨g,0,0⟩,cs,cs,y6 rfl,?_,hG.blk,fun _=>⟨rfl,hx.len⟩,fun h=>absurd rfl h,hx.mono (BR.ex (O9 h hN _)),fun j v hj=>?_⟩⟩
 ·rw [hG.1];exact h.below.size
 ·rw [zm];exact hj
end
end Go.Vx
end
section
namespace Go.Vx
open Go Go.Vc Go.RowKit
def lit (v:Value):EV:=.o (.l v)
noncomputable def A2U (n:Int):Bool:=Int.rec (fun a=>Nat.ble a 9223372036854775807) (fun a=>Nat.ble a 9223372036854775807) n
noncomputable def wr (k:IntKind) (n:Int):Int:=match k with
 | .i64=>cond (A2U n) n (k.wrap n)
 | k=>k.wrap n
theorem A6a (k:IntKind) (n:Int):wr k n=k.wrap n:=by
 cases k
 case i64=>
  show cond (A2U n) n _=_;cases h:A2U n with
  | false=>rfl
  | true=>
   refine (IntWalk.i64_in n ?_).symm;have e1:∀ a:Nat,Int.ofNat a=(a:Int):=fun _=>rfl;have e2:∀ a:Nat,Int.negSucc a = -((a:Int)+1):=fun a=>Int.negSucc_eq a;cases n with
   | ofNat a=>have:=ze (show Nat.ble a 9223372036854775807=true from h);rw [e1];omega
   | negSucc a=>have:=ze (show Nat.ble a 9223372036854775807=true from h);rw [e2];omega
 all_goals rfl
noncomputable def B80 (op:BinOp) (k:IntKind) (a b:Int):Option Value:=
 match op with
 | .add=>some (.int k (wr k (Int.add a b)))
 | .sub=>some (.int k (wr k (Int.sub a b)))
 | .mul=>some (.int k (wr k (Int.mul a b)))
 | .eql=>some (.bool (eqI a b))
 | .neq=>some (.bool (not (eqI a b)))
 | .lss=>some (.bool (not (leI b a)))
 | .leq=>some (.bool (leI a b))
 | .gtr=>some (.bool (not (leI a b)))
 | .geq=>some (.bool (leI b a))
 | .quo=>cond (eqI b 0) none (some (.int k (wr k (Int.tdiv a b))))
 | .rem=>cond (eqI b 0) none (some (.int k (Int.tmod a b)))
 | .and=>some (.int k (bits .and k a b))
 | .or=>some (.int k (bits .or k a b))
 | .xor=>some (.int k (bits .xor k a b))
 | _=>none
theorem B4Z (a b:Int):decide (a<b)=!decide (b<=a):=by
 by_cases h:a<b
 ·rw [zy h,zz (by omega)];rfl
 ·rw [zz h,zy (by omega)];rfl
theorem A5e {a b:Int} (h:eqI a b=false):a≠b:=by rw [A2S] at h;exact beq_eq_false_iff_ne.1 h
theorem B5s {P:Program} {op:BinOp} {T:Nat} {k:IntKind} {a b:Int} {v:Value} {K:Value->Prop} (h:B80 op k a b=some v) (hK:K v):B6Q P op T k a b K:=by
 cases op
 case quo=>
  have h:cond (eqI b 0) none (some (Value.int k (wr k (Int.tdiv a b))))=some v:=h;cases hb:eqI b 0 with
  | true=>rw [hb] at h;cases h
  | false=>rw [hb] at h;cases h;exact⟨A5e hb,by rw [A6a] at hK;exact hK⟩
 case rem=>
  have h:cond (eqI b 0) none (some (Value.int k (Int.tmod a b)))=some v:=h;cases hb:eqI b 0 with
  | true=>rw [hb] at h;cases h
  | false=>rw [hb] at h;cases h;exact⟨A5e hb,hK⟩
 case add=>cases h;rw [A6a] at hK;exact hK
 case sub=>cases h;rw [A6a] at hK;exact hK
 case mul=>cases h;rw [A6a] at hK;exact hK
 case eql=>cases h;rw [A2S] at hK;exact hK
 case neq=>cases h;rw [A2S] at hK;exact hK
 case lss=>cases h;rw [O3] at hK;show K (.bool (decide (a<b)));rw [B4Z];exact hK
 case leq=>cases h;rw [O3] at hK;exact hK
 case gtr=>cases h;rw [O3] at hK;show K (.bool (decide (b<a)));rw [B4Z];exact hK
 case geq=>cases h;rw [O3] at hK;exact hK
 case and=>cases h;exact hK
 case or=>cases h;exact hK
 case xor=>cases h;exact hK
 all_goals cases h
noncomputable def B1S (op:BinOp) (k:IntKind) (a b:Int):Option Value:=
 cond (and (leI 0 b) (leI b k.bits)) (match op with
  | .shl=>some (.int k (wr k (a*2 ^ b.toNat)))
  | .shr=>some (.int k (a / 2 ^ b.toNat))
  | _=>none) none
theorem B1T {P:Program} {op:BinOp} {T:Nat} {k k':IntKind} {a b:Int} {v:Value} {K:Value->Prop} (h:B1S op k a b=some v) (hK:K v):A4W P op T k k' a b K:=by
 unfold B1S at h;cases hb:and (leI 0 b) (leI b k.bits) with
 | false=>rw [hb] at h;cases h
 | true=>
  rw [hb] at h;rw [z7,O3,O3,decide_eq_true_iff,decide_eq_true_iff] at hb;cases op
  case shl=>cases h;rw [A6a] at hK;exact⟨hb,hK⟩
  case shr=>cases h;exact⟨hb,hK⟩
  all_goals cases h
noncomputable def eqL (a:List UInt8):List UInt8->Bool:=List.rec (motive:=fun _=>List UInt8->Bool) (fun b=>A1X b) (fun x _ ih b=>match b with
 | []=>false
 | y::r=>and (Nat.beq x.toNat y.toNat) (ih r)) a
theorem A2V:∀ a b:List UInt8,eqL a b=(a==b)
 | [],[]=>rfl
 | [],_::_=>rfl
 | _::_,[]=>rfl
 | x::a,y::b=>by show and (Nat.beq x.toNat y.toNat) (eqL a b)=_;rw [A2V a b,List.cons_beq_cons];congr 1;rw [Bool.eq_iff_iff,beq_iff_eq];exact⟨fun h=>UInt8.toNat_inj.1 (z8 h),fun h=>by rw [h];exact Nat.beq_refl _⟩
def bytes (l:List UInt8):ByteArray:=⟨⟨l⟩⟩
theorem A1S (s:ByteArray):bytes s.data.toList=s:=rfl
theorem B1U (a b:ByteArray):bytes (a.data.toList++b.data.toList)=a++b:=by apply ByteArray.ext;apply Array.ext';simp [bytes]
noncomputable def B81 (op:BinOp) (a b:ByteArray):Option Value:=
 match op with
 | .add=>cond (Nat.ble (Nat.add a.data.toList.length b.data.toList.length) 1000000) (some (.string (bytes (a.data.toList++b.data.toList)))) none
 | .eql=>some (.bool (eqL a.data.toList b.data.toList))
 | .neq=>some (.bool (not (eqL a.data.toList b.data.toList)))
 | .lss=>some (.bool (C6 a b))
 | .leq=>some (.bool (or (C6 a b) (eqL a.data.toList b.data.toList)))
 | .gtr=>some (.bool (not (or (C6 a b) (eqL a.data.toList b.data.toList))))
 | .geq=>some (.bool (not (C6 a b)))
 | _=>none
theorem B5t {P:Program} {op:BinOp} {T:Nat} {a b:ByteArray} {v:Value} {K:Value->Prop} (h:B81 op a b=some v) (hK:K v):vStr P op T a b K:=by
 cases op
 case add=>
  have h:cond (Nat.ble (Nat.add a.data.toList.length b.data.toList.length) 1000000) (some (Value.string (bytes (a.data.toList++b.data.toList)))) none=some v:=h;cases hb:Nat.ble (Nat.add a.data.toList.length b.data.toList.length) 1000000 with
  | false=>rw [hb] at h;cases h
  | true=>
   rw [hb] at h;cases h;have:=ze hb;rw [B1U] at hK;have e:∀ s:ByteArray,s.size=s.data.toList.length:=fun s=>rfl;exact⟨by rw [e,e];have this:a.data.toList.length+b.data.toList.length<=1000000:=this;omega,hK⟩
 case eql=>cases h;rw [A2V] at hK;exact hK
 case neq=>cases h;rw [A2V] at hK;exact hK
 case lss=>cases h;exact hK
 case leq=>cases h;rw [A2V] at hK;exact hK
 case gtr=>cases h;rw [A2V] at hK;exact hK
 case geq=>cases h;exact hK
 all_goals cases h
structure Eqs (P:Program) where
 eq:Nat->List EB->List EB->Option Bool
 ok:∀ T xs ys r,eq T xs ys=some r->∀ (σ:Sg) cs ds,All2 (BR σ) xs cs->All2 (BR σ) ys ds->∀ (ox oy:Operand) w,
  (do eqGuard .eql T ox oy (.agg cs.toArray) (.agg ds.toArray);binOp .eql T (.agg cs.toArray) (.agg ds.toArray):Sem Value).run P w=.ok (.bool r) w/\
  (do eqGuard .neq T ox oy (.agg cs.toArray) (.agg ds.toArray);binOp .neq T (.agg cs.toArray) (.agg ds.toArray):Sem Value).run P w=.ok (.bool (!r)) w
def A6b (P:Program) (T:Nat):Bool:=match P.underlying T with
 | some (.pointer e)=>(P.info? e).isSome
 | _=>false
def B4a (P:Program) (T:Nat):Bool:=match P.underlying T with
 | some (.slice _)=>true
 | _=>false
def B8O (P:Program) (T:Nat):Bool:=match P.underlying T with
 | some (.interface _)=>true
 | _=>false
def isC:Operand->Bool
 | .const _=>true
 | _=>false
def eqv (op:BinOp) (r:Bool):Option EV:=match op with
 | .eql=>some (lit (.bool r))
 | .neq=>some (lit (.bool (!r)))
 | _=>none
def B6U (P:Program) (T:Nat) (ox oy:Operand) (x y:Value) (r:Bool):Prop:=∀ w,
 (do eqGuard .eql T ox oy x y;binOp .eql T x y:Sem Value).run P w=.ok (.bool r) w/\(do eqGuard .neq T ox oy x y;binOp .neq T x y:Sem Value).run P w=.ok (.bool (!r)) w
theorem A08 {P:Program} {op:BinOp} {T:Nat} {ox oy:Operand} {x y:Value} {r:Bool} {v:EV} {σ:Sg} {K:Value->Prop} (h:eqv op r=some v) (hs:B6U P T ox oy x y r) (hK:∀ u,VR σ v u->K u):Pure P (do eqGuard op T ox oy x y;binOp op T x y) K:=by
 cases op
 case eql=>cases h;exact⟨_,fun w=>(hs w).1,hK _ rfl⟩
 case neq=>cases h;exact⟨_,fun w=>(hs w).2,hK _ rfl⟩
 all_goals cases h
section
variable {P:Program} {T:Nat} {ox oy:Operand}
theorem A7m (h:A6b P T=true) (p:Option Addr):B6U P T ox oy (.pointer p) (.pointer none) p.isNone:=fun w=>by
 unfold A6b at h;cases hu:P.underlying T with
 | none=>rw [hu] at h;cases h
 | some d=>
  rw [hu] at h;cases d
  case pointer e=>
   have h:∀ d:Nat,(Op.equalIn (d+1) T (.pointer p) (.pointer none)).run P w=.ok p.isNone w:=fun d=>by cases p<;>simp [Op.equalIn,run_underlying hu]
   simp only [binOp];constructor<;>simp [Op.equal,Op.maxDepth,h 9999,eqGuard]
  all_goals cases h
theorem B1V (h:A6b P T=true) (a:Addr):B6U P T ox oy (.pointer (some a)) (.pointer (some a)) true:=fun w=>by
 unfold A6b at h;cases hu:P.underlying T with
 | none=>rw [hu] at h;cases h
 | some d=>
  rw [hu] at h;cases d
  case pointer e=>
   obtain⟨j,hj⟩:=Option.isSome_iff_exists.1 h;have h1:=run_eql_ptr_same (P:=P) (w:=w) a hu hj;have h2:=Lib.run_neq_ptr_same (P:=P) w a hu hj;constructor
   ·simp [eqGuard,h1]
   ·simp [eqGuard,h2]
  all_goals cases h
theorem B1W (h:B4a P T=true) (a:Option Addr) (n c n' c':Nat):B6U P T ox oy (.slice a n c) (.slice none n' c') a.isNone:=fun w=>by
 unfold B4a at h;cases hu:P.underlying T with
 | none=>rw [hu] at h;cases h
 | some d=>
  rw [hu] at h;cases d
  case slice e=>
   have h:∀ d:Nat,(Op.equalIn (d+1) T (.slice a n c) (.slice none n' c')).run P w=.ok a.isNone w:=fun d=>by cases a<;>simp [Op.equalIn,run_underlying hu]
   simp only [binOp];constructor<;>simp [Op.equal,Op.maxDepth,h 9999,eqGuard]
  all_goals cases h
theorem B5u (h:B8O P T=true) (hc:(isC ox||isC oy)=true):B6U P T ox oy .nilIface .nilIface true:=fun w=>by
 unfold B8O at h;cases hu:P.underlying T with
 | none=>rw [hu] at h;cases h
 | some d=>
  rw [hu] at h;cases d
  case interface ms=>
   have h:∀ d:Nat,(Op.equalIn (d+1) T .nilIface .nilIface).run P w=.ok true w:=fun d=>by simp [Op.equalIn,run_underlying hu]
   simp only [binOp];cases ox<;>cases oy<;>first | (simp [isC] at hc;done) | (constructor<;>simp [Op.equal,Op.maxDepth,h 9999,eqGuard])
  all_goals cases h
theorem B5v (a b c d:Nat):B6U P T ox oy (.complex .f64 a b) (.complex .f64 c d) ((FloatKind.f64.format.order a c==some .eq)&&(FloatKind.f64.format.order b d==some .eq)):=fun w=>
 ⟨by simp only [eqGuard];simp [run_eql_complex],by simp only [eqGuard];simp [run_neq_complex]⟩
end
theorem B9W {α:Type} {b:Bool} {x:Option α} {v:α} (h:cond b x none=some v):b=true/\x=some v:=by
 cases b
 ·cases h
 ·exact⟨rfl,h⟩
noncomputable def xRg (op:BinOp) (lo hi b:Int):Option EV:=match op with
 | .add=>cond (A2U (Int.add lo b)&&A2U (Int.add hi b)) (some (.o (.rg .i64 (Int.add lo b) (Int.add hi b)))) none
 | .rem=>cond (leI 1 b) (some (.o (.rg .i64 (cond (leI 0 lo) 0 (Int.sub 1 b)) (Int.sub b 1)))) none
 | .and=>cond (eqI b 15||eqI b 31) (some (.o (.rg .i64 0 b))) none
 | .lss=>cond (not (leI b hi)) (some (lit (.bool true))) (cond (leI b lo) (some (lit (.bool false))) none)
 | .gtr=>cond (not (leI lo b)) (some (lit (.bool true))) (cond (leI hi b) (some (lit (.bool false))) none)
 | _=>none
theorem A7n {n:Int} (h:A2U n=true) : -9223372036854775808<=n/\n<=9223372036854775807:=by
 unfold A2U at h;cases n with
 | ofNat a=>
  have:=ze (show Nat.ble a 9223372036854775807=true from h);show -9223372036854775808<=(a:Int)/\(a:Int)<=9223372036854775807;exact⟨by omega,by omega⟩
 | negSucc a=>
  have:=ze (show Nat.ble a 9223372036854775807=true from h);exact⟨by omega,by omega⟩
theorem B7M (n:Int):bits .and .i64 n 15=n % 16:=by
 have h15:(BitVec.ofInt 64 15).toNat=2 ^ 4-1:=by decide
 have key:(BitVec.ofInt 64 n &&& BitVec.ofInt 64 15).toNat=(n % ((2 ^ 64:Nat):Int)).toNat % 2 ^ 4:=by rw [BitVec.toNat_and,BitVec.toNat_ofInt,h15,Nat.and_two_pow_sub_one_eq_mod]
 show IntKind.i64.wrap ((BitVec.ofInt 64 n &&& BitVec.ofInt 64 15).toNat:Nat)=n % 16;rw [key,IntKind.wrap_i64];omega
theorem B7N (n:Int):bits .and .i64 n 31=n % 32:=by
 have h15:(BitVec.ofInt 64 31).toNat=2 ^ 5-1:=by decide
 have key:(BitVec.ofInt 64 n &&& BitVec.ofInt 64 31).toNat=(n % ((2 ^ 64:Nat):Int)).toNat % 2 ^ 5:=by rw [BitVec.toNat_and,BitVec.toNat_ofInt,h15,Nat.and_two_pow_sub_one_eq_mod]
 show IntKind.i64.wrap ((BitVec.ofInt 64 n &&& BitVec.ofInt 64 31).toNat:Nat)=n % 32;rw [key,IntKind.wrap_i64];omega
theorem B1X {a b:Int} (h:(!leI a b)=true):b<a:=by rw [O3,Bool.not_eq_true',decide_eq_false_iff_not] at h;omega
theorem A4B {a b:Int} (h:leI a b=true):a<=b:=by rw [O3] at h;exact of_decide_eq_true h
theorem B4b {P:Program} {op:BinOp} {T:Nat} {lo hi a b:Int} {v:EV} {σ:Sg} {K:Value->Prop} (h:xRg op lo hi b=some v) (h0:lo<=a) (h1:a<=hi) (hK:∀ u,VR σ v u->K u):Y5 op=false/\B6Q P op T .i64 a b K:=by
 cases op
 case add=>
  obtain⟨h2,h3⟩:=B9W h;cases h3;obtain⟨h4,h5⟩:=Bool.and_eq_true_iff.1 h2;have h4:=(A7n h4).1;have h5:=(A7n h5).2;have h4 : -9223372036854775808<=lo+b:=h4;have h5:hi+b<=9223372036854775807:=h5;refine⟨rfl,hK _ ⟨a+b,?_,?_,?_⟩⟩
  ·rw [IntWalk.i64_in (a+b) ⟨by omega,by omega⟩]
  ·show lo+b<=a+b;omega
  ·show a+b<=hi+b;omega
 case rem=>
  obtain⟨h2,h3⟩:=B9W h;cases h3;have h2:=A4B h2;have h4:(a.tmod b).natAbs=a.natAbs % b.natAbs:=Int.natAbs_tmod a b;have h5:a.natAbs % b.natAbs<b.natAbs:=Nat.mod_lt _ (by omega);refine⟨rfl,by omega,hK _ ⟨a.tmod b,rfl,?_,?_⟩⟩
  ·cases hl:leI 0 lo with
   | true=>
    show (0:Int)<=_;exact Int.tmod_nonneg b (by have:=A4B hl;omega)
   | false=>show (1-b:Int)<=_;omega
  ·show _<=(b-1:Int);omega
 case and=>
  obtain⟨h2,h3⟩:=B9W h;cases h3;rw [Bool.or_eq_true,A2S,A2S,beq_iff_eq,beq_iff_eq] at h2;refine⟨rfl,hK _ ⟨_,rfl,?_,?_⟩⟩
  ·rcases h2 with rfl | rfl
   ·rw [B7M];omega
   ·rw [B7N];omega
  ·rcases h2 with rfl | rfl
   ·rw [B7M];omega
   ·rw [B7N];omega
 case lss=>
  refine⟨rfl,?_⟩;show K (.bool (decide (a<b)));replace h:cond (not (leI b hi)) (some (lit (.bool true))) (cond (leI b lo) (some (lit (.bool false))) none)=some v:=h;cases hb:leI b hi with
  | false=>
   rw [hb] at h;cases h;have:=B1X (show (!leI b hi)=true by rw [hb];rfl);rw [zy (by omega)];exact hK _ rfl
  | true=>
   rw [hb] at h;obtain⟨h2,h3⟩:=B9W (show cond (leI b lo) (some (lit (.bool false))) none=some v from h);cases h3;have:=A4B h2;rw [zz (by omega)];exact hK _ rfl
 case gtr=>
  refine⟨rfl,?_⟩;show K (.bool (decide (b<a)));replace h:cond (not (leI lo b)) (some (lit (.bool true))) (cond (leI hi b) (some (lit (.bool false))) none)=some v:=h;cases hb:leI lo b with
  | false=>
   rw [hb] at h;cases h;have:=B1X (show (!leI lo b)=true by rw [hb];rfl);rw [zy (by omega)];exact hK _ rfl
  | true=>
   rw [hb] at h;obtain⟨h2,h3⟩:=B9W (show cond (leI hi b) (some (lit (.bool false))) none=some v from h);cases h3;have:=A4B h2;rw [zz (by omega)];exact hK _ rfl
 all_goals cases h
noncomputable def B7r (P:Program) (Q:Eqs P) (isB:Bool) (op:BinOp) (T:Nat) (ox oy:Operand) (x y:EV):Option EV:=
 match x,y with
 | .o (.l (.int k a)),.o (.l (.int k' b))=>(cond (Y5 op) (B1S op k a b) (cond (G7 k k') (B80 op k a b) none)).map lit
 | .o (.rg k lo hi),.o (.l (.int k' b))=>cond (G7 k .i64&&G7 k' .i64) (xRg op lo hi b) none
 | .o (.l (.int k b)),.o (.rg k' lo hi)=>cond (G7 k .i64&&G7 k' .i64) (match op with
  | .add=>xRg .add lo hi b
  | _=>none) none
 | .o (.l (.string a)),.o (.l (.string b))=>(B81 op a b).map lit
 | .o (.l (.bool a)),.o (.l (.bool b))=>cond isB (match op with
  | .eql=>some (lit (.bool (a==b)))
  | .neq=>some (lit (.bool (!(a==b))))
  | _=>none) none
 | .o (.p N o),.o (.l (.pointer none))=>cond (A6b P T) (eqv op false) none
 | .o (.l (.pointer none)),.o (.l (.pointer none))=>cond (A6b P T) (eqv op true) none
 | .o (.p N o),.o (.p M o')=>cond (Nat.beq N M&&Nat.beq o o'&&A6b P T) (eqv op true) none
 | .o (.s N o n c),.o (.l (.slice none n' c'))=>cond (B4a P T) (eqv op false) none
 | .o (.l (.slice none n c)),.o (.l (.slice none n' c'))=>cond (B4a P T) (eqv op true) none
 | .o (.l .nilIface),.o (.l .nilIface)=>cond (B8O P T&&(isC ox||isC oy)) (eqv op true) none
 | .o (.l (.complex .f64 a b)),.o (.l (.complex .f64 c d))=>eqv op ((FloatKind.f64.format.order a c==some .eq)&&(FloatKind.f64.format.order b d==some .eq))
 | .a xs,.a ys=>match Q.eq T xs ys with
  | some r=>eqv op r
  | none=>none
 | _,_=>none
theorem B5w {P:Program} {Q:Eqs P} {isB:Bool} {op:BinOp} {T:Nat} {ox oy:Operand} {x y:EV} {v:EV} (h:B7r P Q isB op T ox oy x y=some v) {σ:Sg} {u u':Value} (hx:VR σ x u) (hy:VR σ y u') {K:Value->Prop} (hK:∀ u,VR σ v u->K u):B7n P isB op T ox oy u u' K:=by
 unfold B7r at h;split at h
 ·cases hx;cases hy;rename_i k a k' b;rw [Option.map_eq_some_iff] at h;obtain⟨z,h,rfl⟩:=h;show cond (Y5 op) (A4W P op T k k' a b K) (cond (G7 k k') (B6Q P op T k a b K) False);cases hs:Y5 op with
  | true=>rw [hs] at h;exact B1T h (hK _ rfl)
  | false=>
   rw [hs] at h;obtain⟨h1,h2⟩:=B9W h;rw [h1];exact B5s h2 (hK _ rfl)
 ·obtain⟨a,rfl,ha1,ha2⟩:=hx;cases hy;obtain⟨h1,h2⟩:=B9W h;obtain⟨k1,k2⟩:=Bool.and_eq_true_iff.1 h1;rename_i k lo hi k' b;have e1:k=.i64:=by cases k<;>first | rfl | cases k1
  have e2:k'=.i64:=by cases k'<;>first | rfl | cases k2
  subst e1;subst e2;obtain⟨m1,m2⟩:=B4b (P:=P) (T:=T) h2 ha1 ha2 hK;show cond (Y5 op) (A4W P op T .i64 .i64 a b K) (cond (G7 .i64 .i64) (B6Q P op T .i64 a b K) False);rw [m1];exact m2
 ·obtain⟨a,rfl,ha1,ha2⟩:=hy;cases hx;obtain⟨h1,h2⟩:=B9W h;obtain⟨k1,k2⟩:=Bool.and_eq_true_iff.1 h1;rename_i k b k' lo hi;have e1:k=.i64:=by cases k<;>first | rfl | cases k1
  have e2:k'=.i64:=by cases k'<;>first | rfl | cases k2
  subst e1;subst e2;split at h2
  ·obtain⟨m1,m2⟩:=B4b (P:=P) (T:=T) h2 ha1 ha2 hK;have m2:K (.int .i64 (IntKind.i64.wrap (a+b))):=m2;show K (.int .i64 (IntKind.i64.wrap (b+a)));rw [Int.add_comm b a];exact m2
  ·cases h2
 ·cases hx;cases hy;rw [Option.map_eq_some_iff] at h;obtain⟨z,h,rfl⟩:=h;exact B5t h (hK _ rfl)
 ·cases hx;cases hy;obtain⟨h1,h2⟩:=B9W h;subst h1;cases op
  case eql=>cases h2;exact hK _ rfl
  case neq=>cases h2;exact hK _ rfl
  all_goals cases h2
 ·obtain⟨q,_,rfl⟩:=hx;cases hy;obtain⟨h1,h2⟩:=B9W h;exact A08 h2 (A7m h1 _) hK
 ·cases hx;cases hy;obtain⟨h1,h2⟩:=B9W h;exact A08 h2 (A7m h1 _) hK
 ·obtain⟨q,hq,rfl⟩:=hx;obtain⟨r,hr,rfl⟩:=hy;obtain⟨h1,h2⟩:=B9W h;rw [z7,z7] at h1;obtain⟨⟨h1,h3⟩,h4⟩:=h1;have e1:=z8 h1;have e2:=z8 h3;have hq:σ _=some q:=hq;rw [e1] at hq;rw [show σ _=some r from hr] at hq;cases hq;rw [e2];exact A08 h2 (B1V h4 _) hK
 ·obtain⟨q,a,cp,_,_,rfl⟩:=hx;cases hy;obtain⟨h1,h2⟩:=B9W h;exact A08 h2 (B1W h1 _ _ _ _ _) hK
 ·cases hx;cases hy;obtain⟨h1,h2⟩:=B9W h;exact A08 h2 (B1W h1 _ _ _ _ _) hK
 ·cases hx;cases hy;obtain⟨h1,h2⟩:=B9W h;rw [z7] at h1;exact A08 h2 (B5u h1.1 h1.2) hK
 ·cases hx;cases hy;exact A08 h (B5v _ _ _ _) hK
 ·obtain⟨cs,k1,rfl⟩:=hx;obtain⟨ds,k2,rfl⟩:=hy;split at h
  ·rename_i r hr;exact A08 h (fun w=>Q.ok _ _ _ _ hr _ _ _ k1 k2 _ _ w) hK
  ·cases h
 ·cases h
end Go.Vx
end
section
namespace Go.Vx
open Go Go.Vc Go.RowKit
def B7s (x:EB):Bool:=match x with
 | .l v=>v.oneCell'
 | _=>true
theorem A5f {v:Value} (h:v.oneCell'=true):v.cells=#[v]:=by cases v<;>first | rfl | cases h
theorem B1Y {σ:Sg} {x:EB} {u:Value} (h:B7s x=true) (k:BR σ x u):u.oneCell'=true:=by
 cases x with
 | l v=>cases k;exact h
 | p N o=>obtain⟨q,_,rfl⟩:=k;rfl
 | s N o n c=>obtain⟨q,a,cp,_,_,rfl⟩:=k;rfl
 | m N=>obtain⟨q,_,rfl⟩:=k;rfl
 | f g cs=>obtain⟨vs,_,rfl⟩:=k;rfl
 | rg k lo hi=>obtain⟨a,rfl,_⟩:=k;rfl
 | bo=>obtain⟨b,rfl⟩:=k;rfl
noncomputable def B4c (xs:List EB):Bool:=List.rec (motive:=fun _=>Bool) true (fun x _ ih=>and (B7s x) ih) xs
theorem A6c {σ:Sg}:∀ {xs:List EB} {us:List Value},B4c xs=true->All2 (BR σ) xs us->∀ u∈us,u.oneCell'=true
 | [],[],_,_=>fun _ h=>by cases h
 | x::xs,u::us,h,k=>fun v hv=>by
  have h:and (B7s x) (B4c xs)=true:=h;rw [z7] at h;cases hv with
  | head=>exact B1Y h.1 k.1
  | tail _ hv=>exact A6c h.2 k.2 v hv
def A3I (v:EV):Option (List EB):=match v with
 | .o x=>cond (B7s x) (some [x]) none
 | .a xs=>some xs
 | .t _=>none
theorem A2W {σ:Sg} {v:EV} {xs:List EB} {u:Value} (h:A3I v=some xs) (k:VR σ v u):All2 (BR σ) xs u.cells.toList:=by
 cases v with
 | o x=>
  obtain⟨h1,h2⟩:=B9W h;cases h2;rw [A5f (B1Y h1 k)];exact⟨k,trivial⟩
 | a ys=>
  cases h;obtain⟨cs,k1,rfl⟩:=k;exact k1
 | t ys=>cases h
noncomputable def A5g (F:Tr EV) (d:Nat) (o:Option Operand):Option Int:=match o with
 | none=>some d
 | some x=>match xEv F x with
  | some (.o (.l (.int _ n)))=>some n
  | _=>none
section
variable {σ:Sg} {F:Tr EV} {f:Fr}
theorem T0 (hF:FR σ F f) {d:Nat} {o:Option Operand} {n:Int} (h:A5g F d o=some n):E6 f d o=some n:=by
 cases o with
 | none=>exact h
 | some x=>
  unfold A5g at h;simp only at h;split at h
  ·rename_i he;cases h;have e:ev f x=.int _ _:=B9 hF he;show (match ev f x with | .int _ n=>some n | _=>none)=_;rw [e]
  ·cases h
end
noncomputable def xPs (F:Tr EV) (l:List (Nat × Operand)):Option (List (Nat × List EB)):=
 List.rec (motive:=fun _=>Option (List (Nat × List EB))) (some []) (fun p _ ih=>match xEv F p.2 with
  | some v=>match A3I v with
   | some xs=>match ih with
    | some r=>some ((p.1,xs)::r)
    | none=>none
   | none=>none
  | none=>none) l
def PsR (σ:Sg) (x:Nat × List EB) (p:Nat × Value):Prop:=p.1=x.1/\All2 (BR σ) x.2 p.2.cells.toList
theorem B1Z {σ:Sg} {F:Tr EV} {f:Fr} (hF:FR σ F f):∀ {l:List (Nat × Operand)} {ys:List (Nat × List EB)},xPs F l=some ys->All2 (PsR σ) ys (l.map fun p=>(p.1,ev f p.2))
 | [],_,h=>by cases h;trivial
 | p::l,ys,h=>by
  have h:(match xEv F p.2 with
   | some v=>match A3I v with
    | some xs=>match xPs F l with
     | some r=>some ((p.1,xs)::r)
     | none=>none
    | none=>none
   | none=>none)=some ys:=h
  split at h
  ·rename_i v hv;split at h
   ·rename_i xs hxs;split at h
    ·rename_i r hr;cases h;exact⟨⟨rfl,A2W hxs (B9 hF hv)⟩,B1Z hF hr⟩
    ·cases h
   ·cases h
  ·cases h
noncomputable def A7o (fs:List (Nat × Nat × Bool)) (l:List (Nat × List EB)):List EB->Option (List EB):=
 List.rec (motive:=fun _=>List EB->Option (List EB)) (fun xs=>some xs) (fun p _ ih xs=>match fs[p.1]? with
  | some (off,size,_)=>cond (Nat.beq p.2.length size&&Nat.ble (Nat.add off size) xs.length) (ih (A7l xs off p.2)) none
  | none=>none) l
theorem A5h {σ:Sg} {fs:List (Nat × Nat × Bool)}:∀ {l:List (Nat × List EB)} {ps:List (Nat × Value)} {xs ys:List EB} {cs:List Value},A7o fs l xs=some ys->All2 (PsR σ) l ps->All2 (BR σ) xs cs->∃ ds,A4X fs cs ps=some ds/\All2 (BR σ) ys ds
 | [],[],_,_,cs,h,_,k=>by cases h;exact⟨cs,rfl,k⟩
 | p::l,(i,v)::ps,xs,ys,cs,h,hp,k=>by
  obtain⟨⟨e1,e2⟩,h3⟩:=hp;have e1:i=p.1:=e1;subst e1;have e2:All2 (BR σ) p.2 v.cells.toList:=e2;have h:(match fs[p.1]? with
   | some (off,size,_)=>cond (Nat.beq p.2.length size&&Nat.ble (Nat.add off size) xs.length) (A7o fs l (A7l xs off p.2)) none
   | none=>none)=some ys:=h
  unfold A4X;split at h
  ·rename_i off size g hf;obtain⟨h1,h2⟩:=B9W h;rw [hf];simp only;rw [show v.cells.size=p.2.length from by rw [<-Array.length_toList];exact e2.len,show cs.length=xs.length from k.len];rw [show (Nat.beq p.2.length size&&Nat.ble (off+size) xs.length)=true from h1];exact A5h h2 h3 (A2T off k e2)
  ·cases h
noncomputable def A3J (esz:Nat) (l:List (Nat × List EB)):List EB->Option (List EB):=
 List.rec (motive:=fun _=>List EB->Option (List EB)) (fun xs=>some xs) (fun p _ ih xs=>
  cond (Nat.beq p.2.length esz&&Nat.ble (Nat.add (Nat.mul p.1 esz) esz) xs.length) (ih (A7l xs (Nat.mul p.1 esz) p.2)) none) l
theorem A2X {σ:Sg} {esz:Nat}:∀ {l:List (Nat × List EB)} {ps:List (Nat × Value)} {xs ys:List EB} {cs:List Value},A3J esz l xs=some ys->All2 (PsR σ) l ps->All2 (BR σ) xs cs->∃ ds,X2 esz cs ps=some ds/\All2 (BR σ) ys ds
 | [],[],_,_,cs,h,_,k=>by cases h;exact⟨cs,rfl,k⟩
 | p::l,(i,v)::ps,xs,ys,cs,h,hp,k=>by obtain⟨⟨e1,e2⟩,h3⟩:=hp;have e1:i=p.1:=e1;subst e1;have e2:All2 (BR σ) p.2 v.cells.toList:=e2;have h:cond (Nat.beq p.2.length esz&&Nat.ble (Nat.add (Nat.mul p.1 esz) esz) xs.length) (A3J esz l (A7l xs (Nat.mul p.1 esz) p.2)) none=some ys:=h;obtain⟨h1,h2⟩:=B9W h;unfold X2;rw [show v.cells.size=p.2.length from by rw [<-Array.length_toList];exact e2.len,show cs.length=xs.length from k.len];rw [show (Nat.beq p.2.length esz&&Nat.ble (p.1*esz+esz) xs.length)=true from h1];exact A2X h2 h3 (A2T _ k e2)
theorem V9 (σ:Sg) (z:List Value):All2 (BR σ) (z.map EB.l) z:=by have:=All2.map (R:=BR σ) EB.l id (fun _=>rfl) z;rwa [List.map_id] at this
theorem eqI_iff {a b:Int} (h:eqI a b=true):a=b:=by rw [A2S] at h;exact beq_iff_eq.1 h
theorem J8 {a b:Int} (h:leI a b=true):a<=b:=by rw [O3] at h;exact of_decide_eq_true h
noncomputable def B82 (N o n:Nat) (c:EC) (esz:Nat) (l h:Int):Option EB:=match c with
 | .k c=>cond (leI h c) (cond (eqI l c) (some (.s N o 0 (.k 0))) (some (.s N (Nat.add o (Nat.mul l.toNat esz)) (Int.sub h l).toNat (.k (Nat.sub c l.toNat))))) none
 | .j d b=>cond (leI h b) (cond (eqI l b) (some (.s N (Nat.add o (Nat.mul l.toNat esz)) 0 (.z (Nat.add d b)))) (some (.s N (Nat.add o (Nat.mul l.toNat esz)) (Int.sub h l).toNat (.j (Nat.add d l.toNat) (Nat.sub b l.toNat))))) none
 | .z d=>cond (eqI h 0) (some (.s N o 0 (.z d))) none
noncomputable def B83 (N o:Nat) (c:EC) (esz:Nat) (l h m:Int):Option EB:=cond (leI h m) (match c with
 | .z d=>cond (eqI m 0) (some (.s N o 0 (.z d))) none
 | .k c=>cond (leI m c) (cond (eqI l m) (some (.s N o 0 (.k 0))) (some (.s N (Nat.add o (Nat.mul l.toNat esz)) (Int.sub h l).toNat (.k (Int.sub m l).toNat)))) none
 | .j _ c=>cond (leI m c) (cond (eqI l m) (some (.s N o 0 (.k 0))) (some (.s N (Nat.add o (Nat.mul l.toNat esz)) (Int.sub h l).toNat (.k (Int.sub m l).toNat)))) none) none
noncomputable def xSl (x:EB) (esz:Nat) (l h:Int) (m:Option Int):Option EB:=
 cond (leI 0 l&&leI l h) (match x with
  | .l (.slice none n c)=>cond (eqI h 0&&Nat.beq c 0&&eqI (m.getD 0) 0) (some (.l (.slice none 0 0))) none
  | .s N o n c=>match m with
   | none=>B82 N o n c esz l h
   | some m=>B83 N o c esz l h m
  | _=>none) none
section
variable {σ:Sg} {K:Value->Prop} {N o n cap esz:Nat} {c:EC} {y:EB} {a:Option Addr} {l h:Int}
theorem B5x (h0:0<=l) (h1:l<=h) (e:B82 N o n c esz l h=some y) (hx:BR σ (.s N o n c) (.slice a n cap)) (hK:∀ u,BR σ y u->K u):G8 a cap esz (some l) (some h) (some (cap:Int)) K:=by
 obtain⟨q,b,cp,k1,k2,k4⟩:=hx;cases k4;cases c with
 | k c=>
  obtain⟨ka,k2,k3⟩:=k2;obtain⟨e2,e⟩:=B9W e;have e2:=J8 e2;subst k2;subst ka;refine⟨⟨h0,h1,e2,Int.le_refl _⟩,?_⟩;cases he:eqI l cap with
  | true=>
   rw [he] at e;cases e;have he:=eqI_iff he;rw [y6 he.symm,show (h-l).toNat=0 by omega,show ((cap:Int)-l).toNat=0 by omega];exact hK _ ⟨q,_,0,k1,⟨rfl,rfl,zc _⟩,rfl⟩
  | false=>
   rw [he] at e;cases e;have he:=A5e he;rw [y7 (fun e=>he e.symm)];refine hK _ ⟨q,_,_,k1,⟨rfl,rfl,?_⟩,?_⟩
   ·show (h-l).toNat<=cap-l.toNat;omega
   ·rw [Option.map_some,Addr.add_lit,show ((cap:Int)-l).toNat=cap-l.toNat by omega,Nat.add_assoc];rfl
 | j d b=>
  obtain⟨ka,k2,k3,k5⟩:=k2;obtain⟨e2,e⟩:=B9W e;have e2:=J8 e2;subst ka;refine⟨⟨h0,h1,by omega,Int.le_refl _⟩,?_⟩;cases he:eqI l b with
  | true=>
   rw [he] at e;cases e;have he:=eqI_iff he;rw [show (h-l).toNat=0 by omega];by_cases hc:(cap:Int)=l
   ·rw [y6 hc,show ((cap:Int)-l).toNat=0 by omega];exact hK _ ⟨q,_,0,k1,⟨rfl,rfl,.inl rfl⟩,rfl⟩
   ·rw [y7 hc];refine hK _ ⟨q,_,_,k1,⟨rfl,?_,.inr ⟨?_,?_⟩⟩,rfl⟩
    ·show ((⟨q.b,q.o+o,none⟩:Addr).add (l.toNat*esz)).spot=none;rw [Addr.add_lit]
    ·show ((⟨q.b,q.o+o,none⟩:Addr).add (l.toNat*esz))=_;rw [Addr.add_lit,Nat.add_assoc];rfl
    ·show ((cap:Int)-l).toNat+(d+b)=q.c;omega
  | false=>
   rw [he] at e;cases e;have he:=A5e he;rw [y7 (by omega)];refine hK _ ⟨q,_,_,k1,⟨?_,?_,?_,?_⟩,rfl⟩
   ·show ((⟨q.b,q.o+o,none⟩:Addr).add (l.toNat*esz))=_;rw [Addr.add_lit,Nat.add_assoc];rfl
   ·show ((cap:Int)-l).toNat+(d+l.toNat)=q.c;omega
   ·show (h-l).toNat<=b-l.toNat;omega
   ·show b-l.toNat<=((cap:Int)-l).toNat;omega
 | z d=>
  obtain⟨ka,k2,k3⟩:=k2;obtain⟨e2,e⟩:=B9W e;have e2:=eqI_iff e2;cases e;subst ka;obtain rfl:l=0:=by omega
  subst e2;refine⟨⟨by omega,by omega,by omega,Int.le_refl _⟩,?_⟩;have ea:∀ b:Addr,b.add ((0:Int).toNat*esz)=b:=fun b=>by rw [show (0:Int).toNat=0 from rfl,Nat.zero_mul];rfl
  rw [Option.map_some,ea,ite_self,show ((cap:Int)-0).toNat=cap by omega];exact hK _ ⟨q,_,cap,k1,⟨rfl,k2,k3⟩,rfl⟩
theorem B5y {m:Int} (h0:0<=l) (h1:l<=h) (e:B83 N o c esz l h m=some y) (hx:BR σ (.s N o n c) (.slice a n cap)) (hK:∀ u,BR σ y u->K u):G8 a cap esz (some l) (some h) (some m) K:=by
 obtain⟨q,b,cp,k1,k2,k4⟩:=hx;cases k4;obtain⟨e2,e⟩:=B9W e;have h2:=J8 e2;have key:∀ (c:Nat),c<=cap->b=⟨q.b,q.o+o,none⟩->cond (leI m c) (cond (eqI l m) (some (EB.s N o 0 (.k 0))) (some (.s N (Nat.add o (Nat.mul l.toNat esz)) (Int.sub h l).toNat (.k (Int.sub m l).toNat)))) none=some y->G8 (some b) cap esz (some l) (some h) (some m) K:=fun c hc hb e=>by
  obtain⟨e3,e⟩:=B9W e;have h3:=J8 e3;refine⟨⟨h0,h1,h2,by omega⟩,?_⟩;subst hb;cases he:eqI l m with
  | true=>
   rw [he] at e;cases e;have he:=eqI_iff he;rw [y6 he.symm,show (h-l).toNat=0 by omega,show (m-l).toNat=0 by omega];exact hK _ ⟨q,_,0,k1,⟨rfl,rfl,zc _⟩,rfl⟩
  | false=>
   rw [he] at e;cases e;have he:=A5e he;rw [y7 (fun e=>he e.symm)];refine hK _ ⟨q,_,_,k1,⟨?_,rfl,?_⟩,rfl⟩
   ·show ((⟨q.b,q.o+o,none⟩:Addr).add (l.toNat*esz))=_;rw [Addr.add_lit,Nat.add_assoc];rfl
   ·show (h-l).toNat<=(m-l).toNat;omega
 cases c with
 | k c=>exact key c (by rw [k2.2.1];exact zc _) k2.1 e
 | j d c=>exact key c k2.2.2.2 k2.1 e
 | z d=>
  obtain⟨e3,e⟩:=B9W e;obtain rfl:=eqI_iff e3;cases e;obtain rfl:l=0:=by omega
  obtain rfl:h=0:=by omega
  refine⟨⟨by omega,by omega,by omega,by omega⟩,?_⟩;rw [y6 rfl];exact hK _ ⟨q,_,0,k1,⟨rfl,k2.2.1,.inl rfl⟩,rfl⟩
theorem B1a {x:EB} {m:Option Int} (e:xSl x esz l h m=some y) (hx:BR σ x (.slice a n cap)) (hK:∀ u,BR σ y u->K u):G8 a cap esz (some l) (some h) (some (m.getD cap)) K:=by
 obtain⟨e1,e0⟩:=B9W e;rw [z7] at e1;have h0:=J8 e1.1;have h1:=J8 e1.2;cases x with
 | l v=>
  cases hx;cases a with
  | some a=>cases e0
  | none=>
   obtain⟨e2,e3⟩:=B9W e0;rw [z7,z7] at e2;have e4:=eqI_iff e2.1.1;have e5:=z8 e2.1.2;have e6:m.getD 0=0:=eqI_iff e2.2;cases e3;obtain rfl:l=0:=by omega
   subst e4;subst e5;have e7:m.getD ((0:Nat):Int)=0:=e6;rw [e7];exact⟨⟨by omega,by omega,by omega,by omega⟩,hK _ rfl⟩
 | s N o n' c=>
  obtain rfl:n'=n:=by obtain⟨q,b,cp,k1,k2,k4⟩:=hx;cases k4;rfl
  cases m with
  | none=>exact B5x h0 h1 e0 hx hK
  | some m=>exact B5y h0 h1 e0 hx hK
 | p N o=>cases e0
 | m N=>cases e0
 | f g cs=>cases e0
 | rg k lo hi=>cases e0
 | bo=>cases e0
end
end Go.Vx
end
section
namespace Go.Vx
open Go Go.Vc Go.RowKit
def B8P (d:TD) (x:EV):Option EV:=match d,x with
 | .str,.o (.l (.string s))=>some (lit (.int .i64 (Int.ofNat s.data.toList.length)))
 | .slice _ _,.o (.l (.slice none n _))=>some (lit (.int .i64 (Int.ofNat n)))
 | .slice _ _,.o (.s _ _ n _)=>some (lit (.int .i64 (Int.ofNat n)))
 | .array n _ _ _,_=>some (lit (.int .i64 (Int.ofNat n)))
 | _,_=>none
theorem B5z {P:Program} {d:TD} {x v:EV} {σ:Sg} {u:Value} {t T:Nat} {K:Value->Prop} (h:B8P d x=some v) (hx:VR σ x u) (hK:∀ u,VR σ v u->K u):(match (generalizing:=false) d,u with
  | .str,.string s=>K (.int .i64 s.size)
  | .slice ..,.slice _ n _=>K (.int .i64 n)
  | .array n ..,_=>K (.int .i64 n)
  | _,x=>Pure P (Builtin.len_ #[t] T #[x]) K:Prop):=by
 unfold B8P at h;split at h
 ·cases hx;cases h;exact hK _ rfl
 ·cases hx;cases h;exact hK _ rfl
 ·obtain⟨q,a,cp,_,_,rfl⟩:=hx;cases h;exact hK _ rfl
 ·cases h;exact hK _ rfl
 ·cases h
noncomputable def A2Y (L:Lay) (b:Builtin) (ats:List Nat) (xs:List EV):Option EV:=
 match b,ats,xs with
 | .len,[t],[x]=>B8P (L.ty t) x
 | .min,_,[.o (.l (.int k x)),.o (.l (.int _ y))]=>some (lit (.int k (cond (leI x y) x y)))
 | .max,_,[.o (.l (.int k x)),.o (.l (.int _ y))]=>some (lit (.int k (cond (leI y x) x y)))
 | .real,_,[.o (.l (.complex k re _))]=>some (lit (.float k re))
 | .imag,_,[.o (.l (.complex k _ im))]=>some (lit (.float k im))
 | .complex,_,[.o (.l (.float .f64 re)),.o (.l (.float .f64 im))]=>some (lit (.complex .f64 re im))
 | _,_,_=>none
noncomputable def B6V (F:Tr EV) (l:List Operand):Option (List EV):=
 List.rec (motive:=fun _=>Option (List EV)) (some []) (fun x _ ih=>match xEv F x with
  | some v=>match ih with
   | some r=>some (v::r)
   | none=>none
  | none=>none) l
theorem A2Z {σ:Sg} {F:Tr EV} {f:Fr} (hF:FR σ F f):∀ {l:List Operand} {ys:List EV},B6V F l=some ys->All2 (VR σ) ys (l.map (ev f))
 | [],_,h=>by cases h;trivial
 | p::l,ys,h=>by
  replace h:(match xEv F p with
   | some v=>match B6V F l with
    | some r=>some (v::r)
    | none=>none
   | none=>none)=some ys:=h
  split at h
  ·rename_i v hv;split at h
   ·rename_i r hr;cases h;exact⟨B9 hF hv,A2Z hF hr⟩
   ·cases h
  ·cases h
noncomputable def B7t (F:Tr EV) (l:List Operand):Option (List (Nat × Nat)):=
 List.rec (motive:=fun _=>Option (List (Nat × Nat))) (some []) (fun x _ ih=>match xEv F x with
  | some (.o (.p N o))=>match ih with
   | some r=>some ((N,o)::r)
   | none=>none
  | _=>none) l
theorem B1b {σ:Sg} {F:Tr EV} {f:Fr} (hF:FR σ F f):∀ {l:List Operand} {ys:List (Nat × Nat)},B7t F l=some ys->All2 (PR σ) ys (l.map (ev f))
 | [],_,h=>by cases h;trivial
 | p::l,ys,h=>by
  replace h:(match xEv F p with
   | some (.o (.p N o))=>match B7t F l with
    | some r=>some ((N,o)::r)
    | none=>none
   | _=>none)=some ys:=h
  split at h
  ·rename_i N o hv;split at h
   ·rename_i r hr;cases h;exact⟨B9 hF hv,B1b hF hr⟩
   ·cases h
  ·cases h
section
variable {P:Program} {L:Lay} {Q:Eqs P} {σ:Sg} {F:Tr EV} {f:Fr} {T:Nat} {K:Value->Prop}
theorem All2.one {α β:Type} {R:α->β->Prop} {x:α} {us:List β} (h:All2 R [x] us):∃ u,us=[u]/\R x u:=by
 match us,h with
 | [u],h=>exact⟨u,rfl,h.1⟩
theorem All2.two {α β:Type} {R:α->β->Prop} {x y:α} {us:List β} (h:All2 R [x,y] us):∃ u u',us=[u,u']/\R x u/\R y u':=by
 match us,h with
 | [u,u'],h=>exact⟨u,u',rfl,h.1,h.2.1⟩
theorem A5i {b:Builtin} {ats:List Nat} {xs:List EV} {us:List Value} {v:EV} {cs:Array Bool} (h:A2Y L b ats xs=some v) (hx:All2 (VR σ) xs us) (hK:∀ u,VR σ v u->K u):cond (L6 b) (A0u P L b ats.toArray T cs us K) False:=by
 unfold A2Y at h;split at h
 ·rename_i t x;obtain⟨u,rfl,hy⟩:=hx.one;show A0u P L .len [t].toArray T cs [u] K;exact B5z h hy hK
 ·rename_i ats k x k' y;obtain⟨u,u',rfl,hx,hy⟩:=hx.two;cases hx;cases hy;cases h;have e:(if y<x then y else x)=cond (leI x y) x y:=by
   rw [O3];by_cases c:x<=y
   ·rw [zy c,y7 (by omega)];rfl
   ·rw [zz c,y6 (by omega)];rfl
  have:K (.int k (if y<x then y else x)):=by rw [e];exact hK _ rfl
  cases hl:ats.toArray.toList<;>exact this
 ·rename_i ats k x k' y;obtain⟨u,u',rfl,hx,hy⟩:=hx.two;cases hx;cases hy;cases h;have e:(if y > x then y else x)=cond (leI y x) x y:=by
   rw [O3];by_cases c:y<=x
   ·rw [zy c,y7 (by omega)];rfl
   ·rw [zz c,y6 (by omega)];rfl
  have:K (.int k (if y > x then y else x)):=by rw [e];exact hK _ rfl
  cases hl:ats.toArray.toList<;>exact this
 ·rename_i ats k re im;obtain⟨u,rfl,hy⟩:=hx.one;have e:u=.complex k re im:=hy;subst e;cases h;have:K (.float k re):=hK _ rfl;cases hl:ats.toArray.toList<;>exact this
 ·rename_i ats k re im;obtain⟨u,rfl,hy⟩:=hx.one;have e:u=.complex k re im:=hy;subst e;cases h;have:K (.float k im):=hK _ rfl;cases hl:ats.toArray.toList<;>exact this
 ·rename_i ats re im;obtain⟨u,u',rfl,hx,hy⟩:=hx.two;cases hx;cases hy;cases h;have:K (.complex .f64 re im):=hK _ rfl;cases hl:ats.toArray.toList<;>exact this
 ·cases h
end
theorem B1c (s:ByteArray) (a b:Nat):s.extract a b=bytes ((s.data.toList.drop a).take (Nat.sub b a)):=by apply ByteArray.ext;apply Array.ext';simp [bytes,ByteArray.data_extract]
def B7u (x:EB):Option Nat:=match x with
 | .l (.slice _ n _)=>some n
 | .s _ _ n _=>some n
 | _=>none
theorem B50 {σ:Sg} {x:EB} {n:Nat} {u:Value} (h:B7u x=some n) (k:BR σ x u):∃ a cap,u=.slice a n cap:=by
 unfold B7u at h;split at h
 ·cases h;cases k;exact⟨_,_,rfl⟩
 ·cases h;obtain⟨q,a,cp,_,_,rfl⟩:=k;exact⟨_,_,rfl⟩
 ·cases h
noncomputable def B7v (F:Tr EV) (x:EB) (esz n:Nat) (lo hi mx:Option Operand):Option EV:=match mx with
 | none=>match A5g F 0 lo,A5g F n hi with
  | some l,some h=>(xSl x esz l h none).map .o
  | _,_=>none
 | some m=>match lo,hi with
  | some lo,some hi=>match A5g F 0 (some lo),A5g F 0 (some hi),A5g F 0 (some m) with
   | some l,some h,some m=>(xSl x esz l h (some m)).map .o
   | _,_,_=>none
  | _,_=>none
theorem A7p {F:Tr EV} {d d':Nat} {x:Operand}:A5g F d (some x)=A5g F d' (some x):=rfl
theorem B51 {σ:Sg} {F:Tr EV} {f:Fr} {K:Value->Prop} (hF:FR σ F f) {x:EB} {v:EV} {esz n cap:Nat} {a:Option Addr} {lo hi mx:Option Operand} (h:B7v F x esz n lo hi mx=some v) (hx:BR σ x (.slice a n cap)) (hK:∀ u,VR σ v u->K u):(match (generalizing:=false) mx with
  | none=>G8 a cap esz (E6 f 0 lo) (E6 f n hi) (some cap) K
  | some m=>match (generalizing:=false) lo,hi with
   | some l,some h=>G8 a cap esz (E6 f 0 (some l)) (E6 f n (some h)) (E6 f cap (some m)) K
   | _,_=>False:Prop):=by
 unfold B7v at h;cases mx with
 | none=>
  simp only at h ⊢;split at h
  ·rename_i l m hl hh;rw [T0 hF hl,T0 hF hh];rw [Option.map_eq_some_iff] at h;obtain⟨y,h1,rfl⟩:=h;exact B1a h1 hx hK
  ·cases h
 | some m=>
  cases lo with
  | none=>cases h
  | some lo=>
   cases hi with
   | none=>cases h
   | some hi=>
    simp only at h ⊢;split at h
    ·rename_i l m' k hl hh hm;rw [A7p (d':=n)] at hh;rw [A7p (d':=cap)] at hm;rw [T0 hF hl,T0 hF hh,T0 hF hm];rw [Option.map_eq_some_iff] at h;obtain⟨y,h1,rfl⟩:=h;exact B1a h1 hx hK
    ·cases h
noncomputable def B7w (P:Program) (t:Nat) (xs:List EB) (n:Int):Option EV:=match P.underlying t with
 | some (.array len e)=>match P.info? e with
  | some i=>cond (P.plainKey e&&Nat.beq i.size 1&&leI 0 n&&not (leI len n)) (match xs[n.toNat]? with
   | some x=>some (.o x)
   | none=>none) none
  | none=>none
 | _=>none
theorem B52 {P:Program} {t:Nat} {xs:List EB} {n:Int} {v:EV} {σ:Sg} {u:Value} {k:IntKind} {K:Value->Prop} (h:B7w P t xs n=some v) (hx:VR σ (.a xs) u) (hK:∀ u,VR σ v u->K u):Pure P (Instr.index t u (.int k n)) K:=by
 unfold B7w at h;split at h
 ·rename_i len e hu;split at h
  ·rename_i i hi;obtain⟨h1,h2⟩:=B9W h;simp only [z7,Bool.not_eq_true'] at h1;obtain⟨⟨⟨b1,b2⟩,b3⟩,b4⟩:=h1;split at h2
   ·rename_i x hxn;cases h2;obtain⟨cs,hc,rfl⟩:=hx;obtain⟨c,hcn,hcx⟩:=hc.get hxn;have hs:=z8 b2;have h0:=J8 b3;have h4:¬ (len:Int)<=n:=by rw [O3] at b4;exact of_decide_eq_false b4
    refine⟨c,fun w=>?_,hK c hcx⟩;have hp:=run_part_plain (w:=w) b1 (xs:=cs.toArray) (off:=n.toNat) (v:=c) (by simpa using hcn);unfold Instr.index;simp only [Sem.run_bind,asIntOf,Sem.run_pure,Result.andThen_ok,run_underlying hu];rw [y6 ⟨h0,by omega⟩];simp only [Sem.run_bind,sizeOf,typeInfo,run_program,hi,Sem.run_pure,Result.andThen_ok,hs,Nat.mul_one];exact hp
   ·cases h2
  ·cases h
 ·cases h
noncomputable def B53 (P:Program) (L:Lay) (Q:Eqs P) (T:Nat) (F:Tr EV) (c:Operand) (x:Operand) (y:Operand):Option EV:=match xEv F c with
  | some (.o (.l (.bool b)))=>Bool.rec (xEv F y) (xEv F x) b
  | _=>none
noncomputable def B3X (P:Program) (L:Lay) (Q:Eqs P) (T:Nat) (F:Tr EV) (op:BinOp) (t:Nat) (x:Operand) (y:Operand):Option EV:=match xEv F x with
  | some u=>match xEv F y with
   | some v=>B7r P Q (L.ty t).isBool op t x y u v
   | none=>none
  | none=>none
noncomputable def B54 (P:Program) (L:Lay) (Q:Eqs P) (T:Nat) (F:Tr EV) (op:UnOp) (x:Operand):Option EV:=match op,xEv F x with
  | .not,some (.o (.l (.bool b)))=>some (lit (.bool (not b)))
  | .neg,some (.o (.l (.int k n)))=>some (lit (.int k (wr k (Int.sub 0 n))))
  | _,_=>none
noncomputable def A81 (P:Program) (L:Lay) (Q:Eqs P) (T:Nat) (F:Tr EV) (s:Nat) (d:Nat) (x:Operand):Option EV:=match L.ty s,L.ty d,xEv F x with
  | .int _,.int k',some (.o (.l (.int _ n)))=>some (lit (.int k' (wr k' n)))
  | .str,.str,some (.o (.l (.string s)))=>some (lit (.string s))
  | _,_,_=>none
noncomputable def A5j (P:Program) (L:Lay) (Q:Eqs P) (T:Nat) (F:Tr EV) (t:Nat) (x:Operand) (i:Nat):Option EV:=match L.ty t,xEv F x with
  | .struct fs _,some (.o (.p N o))=>match fs[i]? with
   | some (off,size,_)=>cond (Nat.beq size 0) none (some (.o (.p N (Nat.add o off))))
   | none=>none
  | _,_=>none
noncomputable def B3Y (P:Program) (L:Lay) (Q:Eqs P) (T:Nat) (F:Tr EV) (t:Nat) (x:Operand) (i:Nat):Option EV:=match L.ty t,xEv F x with
  | .struct fs _,some (.a xs)=>match fs[i]? with
   | some (off,size,g)=>cond g (some (.a ((xs.drop off).take size))) (match xs[off]? with
    | some x=>some (.o x)
    | none=>none)
   | none=>none
  | _,_=>none
noncomputable def B3Z (P:Program) (L:Lay) (Q:Eqs P) (T:Nat) (F:Tr EV) (t:Nat) (ps:Array (Nat × Operand)):Option EV:=match xPs F ps.toList with
  | some l=>match L.ty t with
   | .struct fs z=>(A7o fs l (z.map .l)).map .a
   | .array _ _ esz z=>(A3J esz l (z.map .l)).map .a
   | _=>none
  | none=>none
noncomputable def B3a (P:Program) (L:Lay) (Q:Eqs P) (T:Nat) (F:Tr EV) (t:Nat) (x:Operand) (i:Operand):Option EV:=match L.ty t,xEv F x,xEv F i with
  | .str,some (.o (.l (.string s))),some (.o (.l (.int _ n)))=>cond (leI 0 n) (match s.data.toList[n.toNat]? with
   | some c=>some (lit (.int .u8 (Int.ofNat c.toNat)))
   | none=>none) none
  | _,some (.a xs),some (.o (.l (.int _ n)))=>B7w P t xs n
  | _,_,_=>none
noncomputable def A5k (P:Program) (L:Lay) (Q:Eqs P) (T:Nat) (F:Tr EV) (t:Nat) (x:Operand) (i:Operand):Option EV:=match L.ty t,xEv F x,xEv F i with
  | .slice _ esz,some (.o (.s N o len (.k _))),some (.o (.l (.int _ n)))=>cond (leI 0 n&&not (leI len n)) (some (.o (.p N (Nat.add o (Nat.mul n.toNat esz))))) none
  | .slice _ esz,some (.o (.s N o len (.j _ _))),some (.o (.l (.int _ n)))=>cond (leI 0 n&&not (leI len n)) (some (.o (.p N (Nat.add o (Nat.mul n.toNat esz))))) none
  | .array len _ esz _,some (.o (.p N o)),some (.o (.l (.int _ n)))=>cond (leI 0 n&&not (leI len n)) (some (.o (.p N (Nat.add o (Nat.mul n.toNat esz))))) none
  | _,_,_=>none
noncomputable def B3b (P:Program) (L:Lay) (Q:Eqs P) (T:Nat) (F:Tr EV) (t:Nat) (x:Operand) (lo:Option Operand) (hi:Option Operand) (mx:Option Operand):Option EV:=match L.ty t,xEv F x with
  | .str,some (.o (.l (.string s)))=>match mx,A5g F 0 lo,A5g F s.data.toList.length hi with
   | none,some l,some h=>cond (leI 0 l&&leI l h&&leI h s.data.toList.length) (some (lit (.string (bytes ((s.data.toList.drop l.toNat).take (Nat.sub h.toNat l.toNat)))))) none
   | _,_,_=>none
  | .slice _ esz,some (.o x)=>match B7u x with
   | some n=>B7v F x esz n lo hi mx
   | none=>none
  | .array n _ esz _,some (.o (.p N o))=>match mx,A5g F 0 lo,A5g F n hi with
   | none,some l,some h=>(xSl (.s N o n (.k n)) esz l h none).map .o
   | _,_,_=>none
  | _,_=>none
noncomputable def A82 (P:Program) (L:Lay) (Q:Eqs P) (T:Nat) (F:Tr EV) (x:Operand) (i:Nat):Option EV:=match xEv F x with
  | some (.t ys)=>match ys[i]? with
   | some (true,xs)=>some (.a xs)
   | some (false,[x])=>some (.o x)
   | _=>none
  | _=>none
noncomputable def A6d (P:Program) (L:Lay) (Q:Eqs P) (T:Nat) (F:Tr EV) (fn:Fn) (fs:Array Operand) (cs:Array Operand):Option EV:=match fn,fs.toList with
  | .func g,[]=>match B7t F cs.toList with
   | some l=>some (.o (.f g l))
   | none=>none
  | _,_=>none
noncomputable def A6e (P:Program) (L:Lay) (Q:Eqs P) (T:Nat) (F:Tr EV) (x:Operand):Option EV:=match xEv F x with
  | some (.o (.p N o))=>some (.o (.p N o))
  | some (.o (.f g cs))=>some (.o (.f g cs))
  | _=>none
noncomputable def B55 (P:Program) (L:Lay) (Q:Eqs P) (T:Nat) (F:Tr EV) (c:Go.Call):Option EV:=match c.callee with
  | .builtin b=>match B6V F c.args.toList with
   | some xs=>A2Y L b c.argTypes.toList xs
   | none=>none
  | _=>none
noncomputable def xP (P:Program) (L:Lay) (Q:Eqs P) (T:Nat) (op:Op) (F:Tr EV):Option EV:=
 match op with
 | .move x=>xEv F x
 | .assign x=>xEv F x
 | .pick c x y=>B53 P L Q T F c x y
 | .binOp op t x y _=>B3X P L Q T F op t x y
 | .unOp op _ x=>B54 P L Q T F op x
 | .convert s d x=>A81 P L Q T F s d x
 | .fieldAddr t x i=>A5j P L Q T F t x i
 | .field t x i=>B3Y P L Q T F t x i
 | .build t ps=>B3Z P L Q T F t ps
 | .index t x i=>B3a P L Q T F t x i
 | .indexAddr t x i=>A5k P L Q T F t x i
 | .slice t x lo hi mx=>B3b P L Q T F t x lo hi mx
 | .extract x i=>A82 P L Q T F x i
 | .makeFunc fn fs cs=>A6d P L Q T F fn fs cs
 | .nilCheck x=>A6e P L Q T F x
 | .call c=>B55 P L Q T F c
 | _=>none
section
variable {P:Program} {L:Lay} {Q:Eqs P} {σ:Sg} {F:Tr EV} {f:Fr} {T:Nat} {K:Value->Prop}
theorem B7O (hF:FR σ F f) {op:Op} {v:EV} (h:xP P L Q T op F=some v) (hK:∀ u,VR σ v u->K u):pOp P L T op f K:=by
 cases op
 case move x=>show P1 (ev f x) K;rw [G6];exact hK _ (B9 hF h)
 case assign x=>show P1 (ev f x) K;rw [G6];exact hK _ (B9 hF h)
 case pick c x y=>
  replace h:(match xEv F c with
   | some (.o (.l (.bool b)))=>(Bool.rec (xEv F y) (xEv F x) b:Option EV)
   | _=>none)=some v:=h
  split at h
  ·rename_i b hb;have e:ev f c=.bool b:=B9 hF hb;show (match ev f c with
    | .bool b=>Bool.rec (motive:=fun _=>Prop) (P1 (ev f y) K) (P1 (ev f x) K) b
    | _=>False)
   rw [e,G6,G6];cases b
   ·exact hK _ (B9 hF h)
   ·exact hK _ (B9 hF h)
  ·cases h
 case binOp op t x y yt=>
  replace h:(match xEv F x with
   | some u=>match xEv F y with
    | some v=>B7r P Q (L.ty t).isBool op t x y u v
    | none=>none
   | none=>none)=some v:=h
  split at h
  ·rename_i u hu;split at h
   ·rename_i u' hu';exact B5w h (B9 hF hu) (B9 hF hu') hK
   ·cases h
  ·cases h
 case unOp op t x=>
  replace h:(match (generalizing:=false) op,xEv F x with
   | .not,some (.o (.l (.bool b)))=>some (lit (.bool (not b)))
   | .neg,some (.o (.l (.int k n)))=>some (lit (.int k (wr k (Int.sub 0 n))))
   | _,_=>none)=some v:=h
  split at h
  ·rename_i b hb;have e:ev f x=.bool b:=B9 hF hb;cases h;show vUn P .not (ev f x) K;rw [e];exact hK _ rfl
  ·rename_i k n hb;have e:ev f x=.int k n:=B9 hF hb;cases h;show vUn P .neg (ev f x) K;rw [e];rw [A6a] at hK;exact hK _ rfl
  ·cases h
 case convert s d x=>
  replace h:(match L.ty s,L.ty d,xEv F x with
   | .int _,.int k',some (.o (.l (.int _ n)))=>some (lit (.int k' (wr k' n)))
   | .str,.str,some (.o (.l (.string s)))=>some (lit (.string s))
   | _,_,_=>none)=some v:=h
  split at h
  ·rename_i k k' k2 n e1 e2 hb;have e:ev f x=.int k2 n:=B9 hF hb;cases h;show (match L.ty s,L.ty d,ev f x with
    | .int _,.int k',.int _ n=>K (.int k' (k'.wrap n))
    | .str,.str,.string s=>K (.string s)
    | _,_,x=>Pure P (convert s d x) K)
   rw [e1,e2,e];rw [A6a] at hK;exact hK _ rfl
  ·rename_i s' e1 e2 hb;have e:ev f x=.string s':=B9 hF hb;cases h;show (match L.ty s,L.ty d,ev f x with
    | .int _,.int k',.int _ n=>K (.int k' (k'.wrap n))
    | .str,.str,.string s=>K (.string s)
    | _,_,x=>Pure P (convert s d x) K)
   rw [e1,e2,e];exact hK _ rfl
  ·cases h
 case fieldAddr t x i=>
  replace h:(match L.ty t,xEv F x with
   | .struct fs _,some (.o (.p N o))=>match fs[i]? with
    | some (off,size,_)=>cond (Nat.beq size 0) none (some (EV.o (.p N (Nat.add o off))))
    | none=>none
   | _,_=>none)=some v:=h
  split at h
  ·rename_i fs z N o e1 hb;obtain⟨q,hq,e⟩:=B9 hF hb;split at h
   ·rename_i off size g hf;show (match L.ty t,ev f x with
     | .struct fs _,.pointer (some a)=>match fs[i]? with
      | some (off,size,_)=>cond (Nat.beq size 0) False (B6R a off K)
      | none=>False
     | _,_=>False)
    rw [e1,e];simp only;rw [hf];simp only;cases hs:Nat.beq size 0 with
    | true=>rw [hs] at h;cases h
    | false=>
     rw [hs] at h;cases h;show B6R _ off K;rw [A9P,Addr.add_lit];exact hK _ ⟨q,hq,by rw [show (Nat.add o off)=o+off from rfl,Nat.add_assoc]⟩
   ·cases h
  ·cases h
 case field t x i=>
  replace h:(match L.ty t,xEv F x with
   | .struct fs _,some (.a xs)=>match fs[i]? with
    | some (off,size,g)=>cond g (some (EV.a ((xs.drop off).take size))) (match xs[off]? with
     | some x=>some (.o x)
     | none=>none)
    | none=>none
   | _,_=>none)=some v:=h
  split at h
  ·rename_i fs z xs e1 hb;obtain⟨cs,hcs,e⟩:=B9 hF hb;split at h
   ·rename_i off size g hf;show (match L.ty t,ev f x with
     | .struct fs _,.agg cs=>match fs[i]? with
      | some (off,size,g)=>cond g (K (.agg (cs.extract off (off+size)))) (match cs[off]? with
       | some v=>P1 v K
       | none=>False)
      | none=>False
     | _,_=>False)
    rw [e1,e];simp only;rw [hf];simp only;cases g with
    | true=>
     cases h;refine hK _ ⟨(cs.drop off).take size,(hcs.drop off).take size,?_⟩;congr 1;apply Array.ext';simp
    | false=>
     replace h:(match xs[off]? with
      | some x=>some (EV.o x)
      | none=>none)=some v:=h
     split at h
     ·rename_i y hy;cases h;obtain⟨u,hu,hr⟩:=hcs.get hy;rw [show cs.toArray[off]?=some u from by rw [List.getElem?_toArray];exact hu];show P1 u K;rw [G6];exact hK _ hr
     ·cases h
   ·cases h
  ·cases h
 case build t ps=>
  replace h:(match xPs F ps.toList with
   | some l=>match L.ty t with
    | .struct fs z=>(A7o fs l (z.map .l)).map EV.a
    | .array _ _ esz z=>(A3J esz l (z.map .l)).map .a
    | _=>none
   | none=>none)=some v:=h
  split at h
  ·rename_i l hl;have hp:=B1Z hF hl;show (match L.ty t with
    | .struct fs z=>B4H f ps.toList fun l=>match A4X fs z l with
     | some cs=>K (.agg cs.toArray)
     | none=>False
    | .array _ _ esz z=>B4H f ps.toList fun l=>match X2 esz z l with
     | some cs=>K (.agg cs.toArray)
     | none=>False
    | _=>False)
   split at h
   ·rename_i fs z e1;rw [Option.map_eq_some_iff] at h;obtain⟨ys,h3,rfl⟩:=h;rw [A0Y];obtain⟨ds,h1,h2⟩:=A5h h3 hp (V9 σ z);rw [h1];exact hK _ ⟨ds,h2,rfl⟩
   ·rename_i n e esz z e1;rw [Option.map_eq_some_iff] at h;obtain⟨ys,h3,rfl⟩:=h;rw [A0Y];obtain⟨ds,h1,h2⟩:=A2X h3 hp (V9 σ z);rw [h1];exact hK _ ⟨ds,h2,rfl⟩
   ·cases h
  ·cases h
 case index t x i=>
  replace h:(match L.ty t,xEv F x,xEv F i with
   | .str,some (.o (.l (.string s))),some (.o (.l (.int _ n)))=>cond (leI 0 n) (match s.data.toList[n.toNat]? with
    | some c=>some (lit (.int .u8 (Int.ofNat c.toNat)))
    | none=>none) none
   | _,some (.a xs),some (.o (.l (.int _ n)))=>B7w P t xs n
   | _,_,_=>none)=some v:=h
  split at h
  ·rename_i s k n e1 hb hn;have e2:ev f x=.string s:=B9 hF hb;have e3:ev f i=.int k n:=B9 hF hn;obtain⟨h0,h⟩:=B9W h;have h0:=J8 h0;split at h
   ·rename_i c hc;cases h;show (match L.ty t,ev f x,ev f i with
     | .str,.string s,.int _ n=>(0<=n/\n<s.size)/\K (.int .u8 ((s.data.toList.getD n.toNat 0).toNat:Int))
     | _,x,i=>Pure P (Instr.index t x i) K)
    rw [e1,e2,e3];simp only;have hlt:n.toNat<s.data.toList.length:=by
     rcases zl n.toNat s.data.toList.length with h | h
     ·exact h
     ·rw [List.getElem?_eq_none h] at hc;cases hc
    refine⟨⟨h0,?_⟩,?_⟩
    ·show n<(s.data.toList.length:Int);omega
    ·rw [List.getD_eq_getElem?_getD,hc];exact hK _ rfl
   ·cases h
  ·rename_i xs k n hb hn;have e2:=B9 hF hb;have e3:ev f i=.int k n:=B9 hF hn;obtain⟨cs,_,e4⟩:=e2;have:=B52 (k:=k) h (B9 hF hb) hK;show (match L.ty t,ev f x,ev f i with
    | .str,.string s,.int _ n=>(0<=n/\n<s.size)/\K (.int .u8 ((s.data.toList.getD n.toNat 0).toNat:Int))
    | _,x,i=>Pure P (Instr.index t x i) K)
   rw [e4] at this ⊢;rw [e3];cases L.ty t<;>exact this
  ·cases h
 case indexAddr t x i=>
  have key:∀ {N o len esz:Nat} {n:Int} {a:Addr} {q:Pl},σ N=some q->a=⟨q.b,q.o+o,none⟩->cond (leI 0 n&&not (leI len n)) (some (EV.o (.p N (Nat.add o (Nat.mul n.toNat esz))))) none=some v->(0<=n/\n<len)/\K (.pointer (some (a.add (n.toNat*esz)))):=fun hq ha h=>by obtain⟨h0,h⟩:=B9W h;rw [z7,Bool.not_eq_true',O3,O3,decide_eq_true_iff,decide_eq_false_iff_not] at h0;cases h;subst ha;refine⟨⟨h0.1,by omega⟩,?_⟩;rw [Addr.add_lit];refine hK _ ⟨_,hq,?_⟩;rw [Nat.add_assoc];rfl
  replace h:(match L.ty t,xEv F x,xEv F i with
   | .slice _ esz,some (.o (.s N o len (.k _))),some (.o (.l (.int _ n)))=>cond (leI 0 n&&not (leI len n)) (some (EV.o (.p N (Nat.add o (Nat.mul n.toNat esz))))) none
   | .slice _ esz,some (.o (.s N o len (.j _ _))),some (.o (.l (.int _ n)))=>cond (leI 0 n&&not (leI len n)) (some (.o (.p N (Nat.add o (Nat.mul n.toNat esz))))) none
   | .array len _ esz _,some (.o (.p N o)),some (.o (.l (.int _ n)))=>cond (leI 0 n&&not (leI len n)) (some (.o (.p N (Nat.add o (Nat.mul n.toNat esz))))) none
   | _,_,_=>none)=some v:=h
  show (match L.ty t,ev f x,ev f i with
   | .slice _ esz,.slice (some a) len _,.int _ n=>(0<=n/\n<len)/\K (.pointer (some (a.add (n.toNat*esz))))
   | .array len _ esz _,.pointer (some a),.int _ n=>(0<=n/\n<len)/\K (.pointer (some (a.add (n.toNat*esz))))
   | _,_,_=>False)
  split at h
  ·rename_i e esz N o len c k n e1 hb hn;have e3:ev f i=.int k n:=B9 hF hn;obtain⟨q,a,cp,hq,hc,e2⟩:=B9 hF hb;rw [e1,e2,e3];exact key hq hc.1 h
  ·rename_i e esz N o len c c' k n e1 hb hn;have e3:ev f i=.int k n:=B9 hF hn;obtain⟨q,a,cp,hq,hc,e2⟩:=B9 hF hb;rw [e1,e2,e3];exact key hq hc.1 h
  ·rename_i len e esz z N o k n e1 hb hn;have e3:ev f i=.int k n:=B9 hF hn;obtain⟨q,hq,e2⟩:=B9 hF hb;rw [e1,e2,e3];exact key hq rfl h
  ·cases h
 case slice t x lo hi mx=>
  replace h:(match (generalizing:=false) L.ty t,xEv F x with
   | .str,some (.o (.l (.string s)))=>match (generalizing:=false) mx,A5g F 0 lo,A5g F s.data.toList.length hi with
    | none,some l,some h=>cond (leI 0 l&&leI l h&&leI h s.data.toList.length) (some (lit (.string (bytes ((s.data.toList.drop l.toNat).take (Nat.sub h.toNat l.toNat)))))) none
    | _,_,_=>none
   | .slice _ esz,some (.o x)=>match B7u x with
    | some n=>B7v F x esz n lo hi mx
    | none=>none
   | .array n _ esz _,some (.o (.p N o))=>match (generalizing:=false) mx,A5g F 0 lo,A5g F n hi with
    | none,some l,some h=>(xSl (.s N o n (.k n)) esz l h none).map EV.o
    | _,_,_=>none
   | _,_=>none)=some v:=h
  show (match L.ty t,ev f x with
   | .str,.string s=>match (generalizing:=false) mx with
    | none=>A3P s (E6 f 0 lo) (E6 f s.size hi) K
    | some _=>False
   | .slice _ esz,.slice a len cap=>match (generalizing:=false) mx with
    | none=>G8 a cap esz (E6 f 0 lo) (E6 f len hi) (some cap) K
    | some m=>match (generalizing:=false) lo,hi with
     | some l,some h=>G8 a cap esz (E6 f 0 (some l)) (E6 f len (some h)) (E6 f cap (some m)) K
     | _,_=>False
   | .array n _ esz _,.pointer (some a)=>match (generalizing:=false) mx with
    | none=>G8 (some a) n esz (E6 f 0 lo) (E6 f n hi) (some n) K
    | some _=>False
   | _,_=>False)
  split at h
  ·rename_i s e1 hb;have e2:ev f x=.string s:=B9 hF hb;rw [e1,e2];split at h
   ·rename_i l m hl hh;have hl:=T0 hF hl;have hh:E6 f s.size hi=some m:=T0 hF hh;obtain⟨h0,h⟩:=B9W h;rw [z7,z7] at h0;have h1:=J8 h0.1.1;have h2:=J8 h0.1.2;have h3:=J8 h0.2;cases h;show A3P s (E6 f 0 lo) (E6 f s.size hi) K;rw [hl,hh];refine⟨⟨h1,h2,h3⟩,?_⟩;rw [B1c];exact hK _ rfl
   ·cases h
  ·rename_i e esz y e1 hb;have e2:BR σ y (ev f x):=B9 hF hb;split at h
   ·rename_i n hn;obtain⟨a,cap,e3⟩:=B50 hn e2;rw [e1,e3];rw [e3] at e2;exact B51 hF h e2 hK
   ·cases h
  ·rename_i n e esz z N o e1 hb;obtain⟨q,hq,e2⟩:=B9 hF hb;rw [e1,e2];split at h
   ·rename_i l m hl hh;have hl:=T0 hF hl;have hh:=T0 hF hh;rw [Option.map_eq_some_iff] at h;obtain⟨y,h1,rfl⟩:=h;show G8 _ n esz (E6 f 0 lo) (E6 f n hi) (some n) K;rw [hl,hh];exact B1a (cap:=n) (n:=n) h1 ⟨q,_,n,hq,⟨rfl,rfl,zc _⟩,rfl⟩ hK
   ·cases h
  ·cases h
 case extract x i=>
  replace h:(match xEv F x with
   | some (.t ys)=>match ys[i]? with
    | some (true,xs)=>some (EV.a xs)
    | some (false,[x])=>some (.o x)
    | _=>none
   | _=>none)=some v:=h
  split at h
  ·rename_i ys hb;obtain⟨vs,hv,e⟩:=B9 hF hb;show (match ev f x with
    | .tuple vs=>match vs.toList[i]? with
     | some v=>P1 v K
     | none=>False
    | _=>False)
   rw [e];simp only;split at h
   ·rename_i xs hi;cases h;obtain⟨u,hu,cs,h1,h2⟩:=hv.get hi;rw [hu];show P1 u K;rw [G6];rcases h2 with ⟨_,rfl⟩ | ⟨h2,_⟩
    ·exact hK _ ⟨cs,h1,rfl⟩
    ·cases h2
   ·rename_i y hi;cases h;obtain⟨u,hu,cs,h1,h2⟩:=hv.get hi;rw [hu];show P1 u K;rw [G6];rcases h2 with ⟨h2,_⟩ | ⟨_,rfl⟩
    ·cases h2
    ·exact hK _ h1.1
   ·cases h
  ·cases h
 case makeFunc fn fs cs=>
  replace h:(match (generalizing:=false) fn,fs.toList with
   | .func g,[]=>match B7t F cs.toList with
    | some l=>some (EV.o (.f g l))
    | none=>none
   | _,_=>none)=some v:=h
  split at h
  ·rename_i g hfs;split at h
   ·rename_i l hl;cases h;show A9K f fs.toList fun fs=>A9K f cs.toList fun cs=>K (.func (.func g) fs.toArray cs.toArray);rw [U3,U3,hfs];exact hK _ ⟨_,B1b hF hl,rfl⟩
   ·cases h
  ·cases h
 case nilCheck x=>
  replace h:(match xEv F x with
   | some (.o (.p N o))=>some (EV.o (.p N o))
   | some (.o (.f g cs))=>some (.o (.f g cs))
   | _=>none)=some v:=h
  show (match ev f x with
   | .pointer (some a)=>K (.pointer (some a))
   | .func (.func n) fs cs=>K (.func (.func n) fs cs)
   | _=>False)
  split at h
  ·rename_i N o hb;have hb:=B9 hF hb;have hb0:=hb;obtain⟨q,hq,e⟩:=hb0;cases h;rw [e] at hb ⊢;exact hK _ hb
  ·rename_i g cs hb;have hb:=B9 hF hb;have hb0:=hb;obtain⟨vs,hq,e⟩:=hb0;cases h;rw [e] at hb ⊢;exact hK _ hb
  ·cases h
 case call c=>
  replace h:(match c.callee with
   | .builtin b=>match B6V F c.args.toList with
    | some xs=>A2Y L b c.argTypes.toList xs
    | none=>none
   | _=>none)=some v:=h
  show (match c.callee with
   | .builtin b=>cond (L6 b) (A9K f c.args.toList fun xs=>A0u P L b c.argTypes T (c.args.map fun | .const _=>true | _=>false) xs K) False
   | _=>False)
  split at h
  ·rename_i b hb;rw [U3];split at h
   ·rename_i xs hx;exact A5i h (A2Z hF hx) hK
   ·cases h
  ·cases h
 all_goals cases h
end
end Go.Vx
end
