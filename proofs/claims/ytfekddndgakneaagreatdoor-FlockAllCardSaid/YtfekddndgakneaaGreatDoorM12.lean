import Derived.Test.YtfekddndgakneaaGreatDoorM11
set_option maxRecDepth 100000
set_option maxHeartbeats 40000000
set_option linter.unusedVariables false
set_option linter.unusedSimpArgs false
section
namespace Go.Vc
open Go Go.RowKit
open Go.Proofs.YtfekddndgakneaaGreatDoor (no)
section
variable {w0 w w' w1:World} {S Sa:Nat->Prop} {l:List LB} {os:List OR} {R O K X Y:Kn} {g T n0 n1 e sz n cap:Nat} {cs cs' xs:List Value} {A:Option Addr}
theorem CtxF.turnLO (hc:CtxF no w0 S w l os R) (k:Nat) (hk:l[k]?=some (g,T,cs)) (hT:Turn (fun x=>x=g) w w') (hB:Blk w' g T cs') (ho:w'.ownsRow w.heap.size e sz (.slice A n cap) n xs):
  CtxF no w0 (fun x=>ext S w w' x/\∀ a,A=some a->x≠a.block) w' (J6 l k cs') (⟨e,sz,A,n,cap,xs⟩::os) R/\Fut S w (fun x=>ext S w w' x/\∀ a,A=some a->x≠a.block) w':=by
 obtain⟨h1,h2⟩:=hc.turnL k hk hT hB
 have hal:∀ a,A=some a->w.heap.size<=a.block/\a.block<w'.heap.size:=fun a ha=>by
  subst ha
  exact ho.lt a.block rfl
 have hf:Fut S w (fun x=>ext S w w' x/\∀ a,A=some a->x≠a.block) w':=⟨fun x hx=>⟨.inl hx,fun a ha e=>by
  have:=(hal a ha).1
  have:=hc.ctx.lt x hx
  omega⟩,h2.2⟩
 have hlow:∀ x∈J6 l k cs',x.1<w.heap.size:=fun x hx=>by
  obtain⟨y,hy,e⟩:=O5 hx
  rw [<-e]
  exact hc.ctx.locs.lt y hy
 have hc2:CtxF no w0 (fun x=>ext S w w' x/\∀ a,A=some a->x≠a.block) w' (J6 l k cs') os R:=
  ⟨⟨h1.ctx.below,fun _ h=>h.elim,fun x hx=>h1.ctx.new x hx.1,fun x hx=>h1.ctx.lt x hx.1,h1.ctx.locs.mono (fun _ _=>rfl) (fun x hx hs=>hs.1)⟩,h1.own.step fun o ho2 a ha=>⟨rfl,fun hs=>((h1.own.mem o ho2).out a ha).1 hs.1,((h1.own.mem o ho2).out a ha).2⟩,hc.stab _ _ _ _ hc.row hf,hc.stab⟩
 refine⟨hc2.hold ⟨⟨ho.1,?_⟩,fun a ha=>⟨fun hs=>hs.2 a ha rfl,fun x hx=>?_⟩⟩ (fun p hp a b ha hb e=>?_),hf⟩
 ·rcases ho.2 with h | ⟨g',cp,cur,e1,hge,h5⟩
  ·exact .inl h
  ·exact .inr ⟨g',cp,cur,e1,Nat.le_trans hc.ctx.below.size hge,h5⟩
 ·have:=hlow x hx
  have:=(hal a ha).1
  omega
 ·have:=((hc.own.mem p hp).lt hb).2
  have:=(hal a ha).1
  omega
theorem CtxF.mid2 (hc:CtxF no w0 S w l os (Sep w0.heap.size (Sep n0 K R) O)) (hn:n0<=w0.heap.size) (hK:Stab K) (hR:Stab R) (hO:Stab O):
  ∃ Sr:Nat->Prop,R Sr w/\(∀ x,Sr x->S x)/\∀ {w':World} {l':List LB} {os':List OR} {R':Kn} {E:Nat->Prop},CtxF no w0 E w' l' os' R'/\Fut S w E w'->(∀ x,E x->ext S w w' x)->∀ {X:Kn},Stab X->X (fun x=>ext Sr w w' x/\E x) w'->CtxF no w0 E w' l' os' (Sep w0.heap.size (Sep n0 K (fun S w=>R S w/\X S w)) O):=by
 obtain⟨S1,So,h1,h2,⟨Sk,Sr,k1,k2,k3,k4⟩,h4⟩:=hc.row
 have hlt:∀ x,S x->x<w.heap.size:=hc.ctx.lt
 have hrS:∀ x,Sr x->S x:=fun x hx=>(h1 x (k2 x hx).1).1
 refine⟨Sr,k4,hrS,fun {w' l' os' R' E} hh hE {X} hX hx=>?_⟩
 obtain⟨hc',hf⟩:=hh
 have hnew:∀ x,w.heap.size<=x->S x->False:=fun x h1 h2=>absurd (hlt x h2) (by omega)
 refine hc'.now (fun _=>⟨fun x=>ext S1 w w' x/\E x,So,fun x hx=>⟨hx.2,?_⟩,fun x hx=>⟨hf.1 x (h2 x hx).1,(h2 x hx).2⟩,⟨Sk,fun x=>ext Sr w w' x/\E x,fun x hx=>⟨⟨.inl (k1 x hx).1,hf.1 x (h1 x (k1 x hx).1).1⟩,fun h=>?_⟩,fun x hx=>⟨⟨?_,hx.2⟩,?_⟩,?_,?_,hx⟩,?_⟩) (Sep.stab (Sep.stab hK (hR.and hX)) hO)
 ·rcases hx.1 with hx | hx
  ·exact (h1 x hx).2
  ·exact fun h=>hnew x hx.1 (h2 x h).1
 ·rcases h.1 with h | h
  ·exact (k1 x hx).2 h
  ·exact hnew x h.1 (h1 x (k1 x hx).1).1
 ·rcases hx.1 with hx | hx
  ·exact .inl (k2 x hx).1
  ·exact .inr hx
 ·rcases hx.1 with hx | hx
  ·exact (k2 x hx).2
  ·exact Nat.le_trans hn (Nat.le_trans hc.ctx.below.size hx.1)
 ·exact hK _ _ _ _ k3 ⟨fun _ h=>h,fun x hx=>hf.2 x (h1 x (k1 x hx).1).1⟩
 ·exact hR _ _ _ _ k4 ⟨fun x hx=>⟨.inl hx,hf.1 x (hrS x hx)⟩,fun x hx=>hf.2 x (hrS x hx)⟩
 ·exact hO _ _ _ _ h4 ⟨fun _ h=>h,fun x hx=>hf.2 x (h2 x hx).1⟩
end
end Go.Vc
namespace Go.Proofs.YtfekddndgakneaaGreatDoor
open Go.Vc Go.RowKit Go.Fl Go.ChangeShapes Go.WideShapes Go.ChangeAt
def A4q (H:Sh) (n:Int):Sh × Int:=if H.down then (H,7) else if n<=H.k.ep then (H,12) else (A7G H (.enter n) true,B7B H (.enter n))
theorem A4r (gs gj gc b:Nat) (H:Sh) (h:H.Ok) (n:Int) (hn:B9 n) (Sx:Nat->Prop) (w:World) (hlt:∀ x,Sx x->x<w.heap.size) (he:EnvFree Sx w) (hK:ShelfK gs gj gc b H Sx w):
  Calls Tryz.prog 90 #[.pointer (some ⟨gs,0,none⟩),.int .i64 n] w (RetOb Sx w (.int .i64 (A4q H n).2) (ShelfK gs gj gc b (A4q H n).1)):=by
 obtain⟨x,A,cap,hO⟩:=hK
 have hc:=hO.enter hlt (KnR.stab _ _ _ _) (JourK.stab _ _ _ _)
 obtain⟨q,hq9⟩:∃ q,q=A4q H n:=⟨_,rfl⟩
 rw [<-hq9]
 unfold A4q at hq9
 refine vE Tryz.func90 ?_
 refine hc.q (A5l gs gj H.k x A cap H.down _ (hc.blk 0 rfl)) fun wQ hQ hc=>?_
 cases hd:H.down with
 | true=>
  rw [hd] at hc hq9
  rw [if_pos rfl] at hq9
  subst hq9
  exact RetOb.sh (H:=H) (dn:=true) hc rfl rfl hd rfl _
 | false=>
 rw [hd] at hc hq9
 rw [if_neg (by decide)] at hq9
 refine hc.c 0 rfl rfl ?_
 by_cases h0:n<=H.k.ep
 ·rw [if_pos h0] at hq9
  subst hq9
  refine dt h0 ?_
  exact RetOb.sh (H:=H) (dn:=false) hc rfl rfl hd rfl _
 rw [if_neg h0] at hq9
 subst hq9
 refine df h0 ?_
 refine⟨knC H.k x A cap,rfl,hc.cellsAt 0 rfl 1 (knC H.k x A cap) rfl,?_⟩
 refine hc.n fun g5 wg5 hg5 hc=>?_
 refine hc.s 0 rfl fun wS hS hc=>?_
 refine hc.s 0 rfl fun wS hS hc=>?_
 have hrc:(Rc.enter n).Ok:=hn
 have hmx:max H.k.ep n=n:=by omega
 have hc:=(hc.midNow (R':=fun S w=>KnR H.k x A cap S w/\KnR (Y6 H.k (.enter n)) x A cap S w) (fun S w h=>⟨h,h⟩) (Keep.stab _ _) ((KnR.stab _ _ _ _).and (KnR.stab _ _ _ _)) (JourK.stab _ _ _ _)).castL (cs':=knC (Y6 H.k (.enter n)) x A cap) (by
  show D3 (knC H.k x A cap) 9 [.int .i64 n]=knC ⟨H.k.b,H.k.pend,max H.k.ep n,H.k.ln⟩ x A cap
  rw [hmx]
  rfl)
 refine vD (.Q [0,2] (.n 1 (.n 3 (.n 4 (.q 5 .fin) .stop) .stop) (.n 3 (.n 1 (.n 4 (.q 5 .fin) .stop) .stop) .stop))) (fun _=>True) trivial ?_
 have hc:=hc.drew
 refine⟨?_,?_⟩
 ·skip
  refine hc.a' 0 rfl rfl ?_
  refine⟨hc.q' (O2 n _) fun wQ hQ hc=>?_,trivial⟩
  refine⟨?_,trivial⟩
  have hc:=hc.drop
  obtain⟨Sm,hm0,hkp,hm1,hmS,hag⟩:=hc.againK (fun _ _ h=>h) (Keep.stab _ _)
  refine⟨(M2 gs gj gc b H h hd (.enter n) hrc true 3 (I4 n) rfl x x A A cap cap Sm _ hm0 (he.kept hkp) hm1 no none 0 (RepC.leaf _ _ 1 n ⟨#[]⟩) (fun y hy=>hy.elim)).mono fun en wr hq=>?_⟩
  obtain⟨e1,hT,Sn,hSn,x2,A2,cap2,hO⟩:=hq
  obtain⟨S2,hc⟩:=hag hT hSn hO (KnR.stab _ _ _ _) (JourK.stab _ _ _ _)
  refine⟨_,e1,trivial,?_⟩
  exact RetOb.sh (H:=A7G H (.enter n) true) hc rfl rfl rfl rfl _
 refine⟨hc.q' (O2 n _) fun wQ hQ hc=>?_,trivial⟩
 refine⟨hc.a' 0 rfl rfl ?_,trivial⟩
 refine⟨?_,trivial⟩
 have hc:=hc.drop
 obtain⟨Sm,hm0,hkp,hm1,hmS,hag⟩:=hc.againK (fun _ _ h=>h) (Keep.stab _ _)
 refine⟨(M2 gs gj gc b H h hd (.enter n) hrc true 3 (I4 n) rfl x x A A cap cap Sm _ hm0 (he.kept hkp) hm1 no none 0 (RepC.leaf _ _ 1 n ⟨#[]⟩) (fun y hy=>hy.elim)).mono fun en wr hq=>?_⟩
 obtain⟨e1,hT,Sn,hSn,x2,A2,cap2,hO⟩:=hq
 obtain⟨S2,hc⟩:=hag hT hSn hO (KnR.stab _ _ _ _) (JourK.stab _ _ _ _)
 refine⟨_,e1,trivial,?_⟩
 exact RetOb.sh (H:=A7G H (.enter n) true) hc rfl rfl rfl rfl _
def RetSc (Sx:Nat->Prop) (w:World) (O:Kn) (l:List Res) (e:Int) (en:Ending) (w':World):Prop:=∃ A c,en=.returned (.tuple #[.slice A l.length c,.int .i64 e])/\Turn Sx w w'/\∃ Sn Sl:Nat->Prop,(∀ x,Sn x->(Sx x\/w.heap.size<=x)/\x<w'.heap.size)/\O Sn w'/\(∀ y,Sl y->w.heap.size<=y/\y<w'.heap.size/\¬ Sn y)/\Row Sl w' A l.length c (l.map A1C).flatten
theorem RetSc.nil {Sx:Nat->Prop} {w w':World} {O:Kn} {e:Int} {v:Value} {en:Ending} (h:RetOb Sx w v O en w') (e2:v=.tuple #[.slice none 0 0,.int .i64 e]):RetSc Sx w O [] e en w':=by
 obtain⟨h1,h2,Sn,h3,h4⟩:=h
 subst e2
 exact⟨none,0,h1,h2,Sn,no,h3,h4,fun y hy=>hy.elim,B0Z _ _⟩
def A09 (H:Sh) (n:Int):Sh × List Res × Int:=
 if H.down then (H,[],7) else if H.k.seq<n then (H,[],4) else if (K2 H.k n).2.length=0 then (H,[],0)
 else if H.room<E9 (P9 (.done n)) then (H.fell,[],7) else (H.write (.done n) false,(K2 H.k n).2,0)
theorem A3t (gs gj gc b:Nat) (H:Sh) (h:H.Ok) (n:Int) (hn:B9 n) (Sx:Nat->Prop) (w:World) (hlt:∀ x,Sx x->x<w.heap.size) (he:EnvFree Sx w) (hK:ShelfK gs gj gc b H Sx w):
  Calls Tryz.prog 92 #[.pointer (some ⟨gs,0,none⟩),.int .i64 n] w (RetSc Sx w (ShelfK gs gj gc b (A09 H n).1) (A09 H n).2.1 (A09 H n).2.2):=by
 have hko:=h.k
 obtain⟨x,A,cap,hO⟩:=hK
 have hc:=hO.enter hlt (KnR.stab _ _ _ _) (JourK.stab _ _ _ _)
 obtain⟨q,hq9⟩:∃ q,q=A09 H n:=⟨_,rfl⟩
 rw [<-hq9]
 unfold A09 at hq9
 refine vE Tryz.func92 ?_
 refine hc.q (A5l gs gj H.k x A cap H.down _ (hc.blk 0 rfl)) fun wQ hQ hc=>?_
 cases hd:H.down with
 | true=>
  rw [hd] at hc hq9
  rw [if_pos rfl] at hq9
  subst hq9
  exact RetSc.nil (RetOb.sh (H:=H) (dn:=true) hc rfl rfl hd rfl _) rfl
 | false=>
 rw [hd] at hc hq9
 rw [if_neg (by decide)] at hq9
 refine⟨knC H.k x A cap,rfl,hc.cellsAt 0 rfl 1 (knC H.k x A cap) rfl,?_⟩
 refine hc.n fun g6 wg6 hg6 hc=>?_
 refine hc.s 0 rfl fun wS hS hc=>?_
 have hg6s:=(hc.blk 0 rfl).lt
 have hg6w:=hg6.1
 have hQs:=hQ.size
 obtain⟨Sr,hR,hSr,hmid⟩:=hc.mid2 (Nat.zero_le _) (Keep.stab _ _) (KnR.stab _ _ _ _) (JourK.stab _ _ _ _)
 have hkc:=A6q H.k hko n hn x A cap g6 Sr _ (hc.blk 0 rfl) (fun y hy=>⟨hc.ctx.lt y (hSr y hy),fun e=>(hc.ctx.locs.notS (k:=0) rfl).1 (e▸hSr y hy)⟩) hR
 obtain⟨q2,hq2⟩:∃ q2,q2=U9 H.k n:=⟨_,rfl⟩
 rw [<-hq2] at hkc
 unfold U9 at hq2
 refine⟨hkc.mono fun en wq hq=>?_⟩
 obtain⟨A2,c2,e1,hT,x',A',cap',Sk,hB',hSk,hR',ho⟩:=hq
 have hc:=hmid (hc.turnLO 0 rfl hT hB' ho) (fun y hy=>hy.1) (KnR.stab _ _ _ _) (KnR.stab _ _ _ _ _ _ _ _ hR' ⟨fun y hy=>⟨(hSk y hy).1,(hSk y hy).1.elim (fun h=>.inl (hSr y h)) .inr,(hSk y hy).2⟩,fun _ _=>rfl⟩)
 refine⟨_,e1,?_⟩
 by_cases hgt:H.k.seq<n
 ·rw [if_pos hgt] at hq9 hq2
  subst hq9 hq2
  exact RetSc.nil (RetOb.sh (H:=H) (dn:=false) (hc.rest.drop.midNow (fun S w h=>h.1) (Keep.stab _ _) (KnR.stab _ _ _ _) (JourK.stab _ _ _ _)) rfl rfl hd rfl _) rfl
 rw [if_neg hgt] at hq9 hq2
 subst hq2
 by_cases hl0:(K2 H.k n).2.length=0
 ·rw [if_pos hl0] at hq9
  subst hq9
  refine B6 (by show (((K2 H.k n).2.length:Int)==0)=true;rw [hl0];rfl) ?_
  exact RetSc.nil (RetOb.sh (H:=H) (dn:=false) (hc.rest.drop.midNow (fun S w h=>h.1) (Keep.stab _ _) (KnR.stab _ _ _ _) (JourK.stab _ _ _ _)) rfl rfl hd rfl _) rfl
 rw [if_neg hl0] at hq9
 refine B4 (by show (((K2 H.k n).2.length:Int)==0)=false;rw [beq_eq_false_iff_ne];omega) ?_
 have hrc:(Rc.done n).Ok:=hn
 have hSa2:∀ a,A2=some a->¬ Sx a.block:=fun a ha hs=>by
  subst ha
  have h1:=(ho.lt a.block rfl).1
  have h2:=hlt _ hs
  omega
 refine Drawn.join (α:=Unit) (fun _=>[(0,.pointer (some ⟨gs,0,none⟩)),(7,.slice A2 (K2 H.k n).2.length c2),(9,.int .i64 (B7B H (.done n)))])
  (fun _ wS=>∃ S2 x2 A3 cap2,CtxF no (bare w) S2 wS [(gs,183,shC gj (A7G H (.done n) false).k x2 A3 cap2 (A7G H (.done n) false).down)] [] (Sep 0 (Sep 0 (fun S w1=>Keep w Sx S w1/\RowF w A2 (K2 H.k n).2.length c2 ((K2 H.k n).2.map A1C).flatten S w1) (KnR (A7G H (.done n) false).k x2 A3 cap2)) (JourK gj gc b (A7G H (.done n) false).jour))) ?_ ?_
 ·refine vD (.Q [0,2] (.n 1 (.n 3 (.n 4 (.q 5 .fin) .stop) .stop) (.n 3 (.n 1 (.n 4 (.q 5 .fin) .stop) .stop) .stop))) (fun _=>True) trivial ?_
  have hc:=hc.drew
  refine⟨?_,?_⟩
  ·skip
   refine hc.a' 0 rfl rfl ?_
   refine⟨hc.q' (O2 n _) fun wQ hQ hc=>?_,trivial⟩
   refine⟨?_,trivial⟩
   obtain⟨S3,hc⟩:=hc.drop.toldK (fun _ _ h=>h) hSa2 (Keep.stab _ _) ((KnR.stab _ _ _ _).and (KnR.stab _ _ _ _)) (JourK.stab _ _ _ _)
   obtain⟨Sm,hm0,hkp,hm1,hmS,hag⟩:=hc.againK (fun _ _ h=>h.1) ((Keep.stab _ _).and (RowF.stab _ _ _ _ _))
   refine⟨(M2 gs gj gc b H h hd (.done n) hrc false 2 (I4 n) rfl x x' A A' cap cap' Sm _ hm0 (he.kept hkp) hm1 no none 0 (RepC.leaf _ _ 1 n ⟨#[]⟩) (fun y hy=>hy.elim)).mono fun en wr hq=>?_⟩
   obtain⟨e1,hT,Sn,hSn,x2,A3,cap2,hO⟩:=hq
   obtain⟨S2,hc⟩:=hag hT hSn hO (KnR.stab _ _ _ _) (JourK.stab _ _ _ _)
   refine⟨_,e1,trivial,?_⟩
   exact⟨(),⟨rfl,rfl,rfl,trivial⟩,_,_,_,_,hc⟩
  refine⟨hc.q' (O2 n _) fun wQ hQ hc=>?_,trivial⟩
  refine⟨hc.a' 0 rfl rfl ?_,trivial⟩
  refine⟨?_,trivial⟩
  obtain⟨S3,hc⟩:=hc.drop.toldK (fun _ _ h=>h) hSa2 (Keep.stab _ _) ((KnR.stab _ _ _ _).and (KnR.stab _ _ _ _)) (JourK.stab _ _ _ _)
  obtain⟨Sm,hm0,hkp,hm1,hmS,hag⟩:=hc.againK (fun _ _ h=>h.1) ((Keep.stab _ _).and (RowF.stab _ _ _ _ _))
  refine⟨(M2 gs gj gc b H h hd (.done n) hrc false 2 (I4 n) rfl x x' A A' cap cap' Sm _ hm0 (he.kept hkp) hm1 no none 0 (RepC.leaf _ _ 1 n ⟨#[]⟩) (fun y hy=>hy.elim)).mono fun en wr hq=>?_⟩
  obtain⟨e1,hT,Sn,hSn,x2,A3,cap2,hO⟩:=hq
  obtain⟨S2,hc⟩:=hag hT hSn hO (KnR.stab _ _ _ _) (JourK.stab _ _ _ _)
  refine⟨_,e1,trivial,?_⟩
  exact⟨(),⟨rfl,rfl,rfl,trivial⟩,_,_,_,_,hc⟩
 clear hc
 rintro⟨⟩ u wS ⟨S2,x2,A3,cap2,hc⟩
 have hrow:∀ (H':Sh),H'=A7G H (.done n) false->Turn Sx w wS/\∃ Sn Sl:Nat->Prop,(∀ x,Sn x->(Sx x\/w.heap.size<=x)/\x<wS.heap.size)/\ShelfK gs gj gc b H' Sn wS/\(∀ y,Sl y->w.heap.size<=y/\y<wS.heap.size/\¬ Sn y)/\Row Sl wS A2 (K2 H.k n).2.length c2 ((K2 H.k n).2.map A1C).flatten:=fun H' eH=>by
  subst eH
  obtain⟨k1,Sn,Sk,k2,k3,⟨_,Sl,k4,k5⟩,k6⟩:=ObjK.leaveK hc (fun _ _ h=>h.1)
  exact⟨k1,Sn,Sl,k2,⟨x2,A3,cap2,k3⟩,fun y hy=>⟨(k4 y hy).2,(k6 y (k4 y hy).1).1,(k6 y (k4 y hy).1).2⟩,k5⟩
 unfold B7B
 by_cases hroom:H.room<E9 (P9 (.done n))
 ·rw [if_pos hroom] at hq9 ⊢
  subst hq9
  obtain⟨k1,Sn,Sl,k2,k3,k4,k5⟩:=hrow H.fell (by unfold A7G;rw [if_pos hroom])
  exact⟨none,0,rfl,k1,Sn,no,k2,k3,fun y hy=>hy.elim,B0Z _ _⟩
 ·rw [if_neg hroom] at hq9 ⊢
  subst hq9
  obtain⟨k1,Sn,Sl,k2,k3,k4,k5⟩:=hrow (H.write (.done n) false) (by unfold A7G;rw [if_neg hroom])
  exact⟨A2,c2,rfl,k1,Sn,Sl,k2,k3,k4,k5⟩
end Go.Proofs.YtfekddndgakneaaGreatDoor
end
namespace Go.Proofs.YtfekddndgakneaaGreatDoor
open Go.Vc Go.RowKit Go.Fl Go.ChangeShapes Go.WideShapes Go.ChangeAt
theorem B6f (done css:List (List Value)) (hd:Flat 2 done) (k s v:Value) (rest:List (List Value)) (i:Nat) (hi:done.length=i) (hcss:css=[k,s]::rest):((done++css).flatten).set (i*2+1) v=((done++[[k,v]])++rest).flatten:=by
 subst hcss
 have hl:done.flatten.length=i*2:=by rw [hd.len,hi]
 rw [List.flatten_append,List.set_append_right _ _ (by omega),hl,show i*2+1-i*2=1 from by omega]
 simp
theorem B2l (s:Stt) (h1:s.l.length<=100000) (h2:s.ms.length<=100000) (h3:∀ e∈s.l,e.vs.length<=100000) (cs:List Value) (S0:Nat->Prop) (w:World) (hs:RepS S0 w s cs):
  Calls Tryz.prog 150 #[.agg cs.toArray] w (B6G s no w):=by
 obtain⟨A,cap,css,B,cap',l0,l1,l2,l3,l4,rfl,el,hE,hR,hM⟩:=hs.shape
 have hFE:=hE.flat
 have hlE:=hE.len
 refine vE Tryz.func150 ?_
 have hc:=CtxF.start w no (fun _ h=>h.elim) (R:=fun _ _=>True) trivial Stab.true
 refine hc.n fun g1 wg1 hg1 hc=>?_
 refine hc.n fun g2 wg2 hg2 hc=>?_
 refine Drawn.join (α:=Option Addr × Nat × Option Addr × Nat) (fun _=>[(1,.pointer (some ⟨g1,0,none⟩)),(2,.pointer (some ⟨g2,0,none⟩))])
  (fun z wS=>CtxF no w no wS [(g2,33,(lay.ty 33).zero),(g1,33,[.int .i64 s.seq,.slice z.1 s.l.length z.2.1,.slice z.2.2.1 s.ms.length z.2.2.2,.int .i64 l0,.int .i64 l1,.int .i64 l2,.int .i64 l3,.int .i64 l4])] [⟨104,3,z.2.2.1,s.ms.length,z.2.2.2,(s.ms.map F5).flatten⟩,⟨90,2,z.1,s.l.length,z.2.1,css.flatten⟩] (fun _ _=>True)) ?_ ?_
 ·refine vD (.Q [0,3] (.n 1 (.n 2 (.n 4 (.q 6 (.n 5 (.n 7 (.q 8 (.z 9)) .stop) .stop)) .stop) (.n 4 (.n 2 (.q 6 (.n 5 (.n 7 (.q 8 (.z 9)) .stop) .stop)) .stop) .stop)) (.n 4 (.n 1 (.n 2 (.q 6 (.n 5 (.n 7 (.q 8 (.z 9)) .stop) .stop)) .stop) .stop) .stop))) (fun _=>True) trivial ?_
  have hc:=hc.drew
  refine⟨?_,?_⟩
  ·skip
   refine⟨_,hc.cell 1 rfl _ rfl,trivial,?_⟩
   refine⟨?_,?_⟩
   ·skip
    refine⟨(K6 A s.l.length cap css hFE hlE (by omega) S0 _ (hR.below hc.below)).mono fun en wq hq=>?_⟩
    obtain⟨A1,c1,e1,hb,ho⟩:=hq
    have hc:=hc.fresh hb ho
    refine⟨_,e1,trivial,?_⟩
    refine⟨⟨_,hc.cell 1 rfl _ rfl,trivial,?_⟩,trivial⟩
    refine⟨⟨(W4 B s.ms.length cap' (s.ms.map F5) (H8 _) (List.length_map _) (by omega) S0 _ (hM.below hc.below)).mono fun en wq hq=>?_⟩,trivial⟩
    obtain⟨A2,c2,e1,hb,ho⟩:=hq
    have hc:=hc.fresh hb ho
    refine⟨_,e1,trivial,?_⟩
    refine⟨hc.s' 1 rfl fun wS hS hc=>?_,trivial⟩
    refine hc.s 1 rfl fun wS hS hc=>?_
    exact⟨(A1,c1,A2,c2),⟨rfl,rfl,trivial⟩,hc⟩
   refine⟨⟨_,hc.cell 1 rfl _ rfl,trivial,?_⟩,trivial⟩
   refine⟨⟨(K6 A s.l.length cap css hFE hlE (by omega) S0 _ (hR.below hc.below)).mono fun en wq hq=>?_⟩,trivial⟩
   obtain⟨A1,c1,e1,hb,ho⟩:=hq
   have hc:=hc.fresh hb ho
   refine⟨_,e1,trivial,?_⟩
   refine⟨⟨(W4 B s.ms.length cap' (s.ms.map F5) (H8 _) (List.length_map _) (by omega) S0 _ (hM.below hc.below)).mono fun en wq hq=>?_⟩,trivial⟩
   obtain⟨A2,c2,e1,hb,ho⟩:=hq
   have hc:=hc.fresh hb ho
   refine⟨_,e1,trivial,?_⟩
   refine⟨hc.s' 1 rfl fun wS hS hc=>?_,trivial⟩
   refine hc.s 1 rfl fun wS hS hc=>?_
   exact⟨(A1,c1,A2,c2),⟨rfl,rfl,trivial⟩,hc⟩
  refine⟨⟨_,hc.cell 1 rfl _ rfl,trivial,?_⟩,trivial⟩
  refine⟨⟨_,hc.cell 1 rfl _ rfl,trivial,?_⟩,trivial⟩
  refine⟨⟨(K6 A s.l.length cap css hFE hlE (by omega) S0 _ (hR.below hc.below)).mono fun en wq hq=>?_⟩,trivial⟩
  obtain⟨A1,c1,e1,hb,ho⟩:=hq
  have hc:=hc.fresh hb ho
  refine⟨_,e1,trivial,?_⟩
  refine⟨⟨(W4 B s.ms.length cap' (s.ms.map F5) (H8 _) (List.length_map _) (by omega) S0 _ (hM.below hc.below)).mono fun en wq hq=>?_⟩,trivial⟩
  obtain⟨A2,c2,e1,hb,ho⟩:=hq
  have hc:=hc.fresh hb ho
  refine⟨_,e1,trivial,?_⟩
  refine⟨hc.s' 1 rfl fun wS hS hc=>?_,trivial⟩
  refine hc.s 1 rfl fun wS hS hc=>?_
  exact⟨(A1,c1,A2,c2),⟨rfl,rfl,trivial⟩,hc⟩
 clear hc
 rintro⟨A1,c1,A2,c2⟩ u wS hc
 simp only at hc
 obtain⟨S1,_,hc⟩:=hc.told
 have hc:=hc.now (X:=fun S w=>RepEs S w (s.l.take 0) []/\Row S w A2 s.ms.length c2 (s.ms.map F5).flatten) (fun h=>⟨rfl,h.2⟩) (Stab.and (fun _ _ _ _ h f=>h.map fun h=>h.fut f) (fun _ _ _ _ h f=>h.fut f))
 refine hc.c 1 rfl rfl ?_
 cases hA:A1 with
 | none=>
  have h0:s.l.length=0:=(hc.fst.none' hA).1
  refine⟨Unit,fun _=>[(1,.pointer (some ⟨g1,0,none⟩)),(2,.pointer (some ⟨g2,0,none⟩)),(14,.int .i64 s.l.length),(15,.int .i64 0)],fun _ w'=>w'=_,fun _ _=>0,(),⟨rfl,rfl,rfl,rfl,trivial⟩,rfl,?_⟩
  rintro _ _ u rfl
  refine df (show ¬ (0:Int)<(s.l.length:Int) by omega) ?_
  refine hc.a 1 rfl rfl ?_
  refine hc.s 0 rfl fun wS hS hc=>?_
  refine hc.a 0 rfl rfl ?_
  refine⟨_,rfl,hc.below,?_⟩
  have hl:s.l=[]:=List.eq_nil_of_length_eq_zero h0
  have hu:=hc.out
  subst hA
  obtain⟨seq,l,ms,lows⟩:=s
  simp only at hl el hu
  subst hl
  exact RepS.mk' el (css:=[]) rfl ⟨hc.fst.fit.1,hc.fst.fit.2,fun h=>absurd rfl h⟩ hu.2
 | some a=>
 obtain⟨g,cur,ea,hco,hcl,hct,hcn,hcm⟩:=hc.opened hA
 clear hc
 subst hA
 cases ea
 have hc:=hco
 have hcl:cur.length=c1*2:=hcl
 have hct:cur.take (s.l.length*2)=css.flatten:=hct
 have hcn:s.l.length<=c1:=hcn
 refine⟨Nat × List Value × List (List Value),fun y=>[(1,.pointer (some ⟨g1,0,none⟩)),(2,.pointer (some ⟨g2,0,none⟩)),(14,.int .i64 s.l.length),(15,.int .i64 y.1)],
  fun y w'=>y.1<=s.l.length/\y.2.1.length=c1*2/\y.2.2.length=y.1/\Flat 2 y.2.2/\y.2.1.take (s.l.length*2)=(y.2.2++css.drop y.1).flatten/\∃ S,CtxF no w S w' [(g,90,y.2.1),(g2,33,(lay.ty 33).zero),(g1,33,[.int .i64 s.seq,.slice (some ⟨g,0,none⟩) s.l.length c1,.slice A2 s.ms.length c2,.int .i64 l0,.int .i64 l1,.int .i64 l2,.int .i64 l3,.int .i64 l4])] [] (fun S w=>RepEs S w (s.l.take y.1) y.2.2/\Row S w A2 s.ms.length c2 (s.ms.map F5).flatten),
  fun y _=>s.l.length-y.1,(0,cur,[]),⟨rfl,rfl,rfl,rfl,trivial⟩,⟨Nat.zero_le _,hcl,rfl,(fun c hc=>by cases hc),hct,_,hc⟩,?_⟩
 clear hc hco hcl hct
 rintro⟨i,cur,done⟩ w4 u ⟨hi,hcl,hdl,hdf,hct,S,hc⟩
 simp only at hi hcl hdl hdf hct hc
 by_cases hlt:i<s.l.length
 ·refine dt (by show (i:Int)<(s.l.length:Int);omega) ?_
  have hrep:=hE.get i hlt (by omega)
  obtain⟨AV,cv,ecs,hV⟩:=hrep
  have hvl:=h3 s.l[i] (List.getElem_mem hlt)
  have hdr:css.drop i=[.string s.l[i].key,.slice AV s.l[i].vs.length cv]::css.drop (i+1):=by rw [<-ecs];exact List.drop_eq_getElem_cons (by omega)
  have hcell:cur[i*2+1]?=some (.slice AV s.l[i].vs.length cv):=by
   have e1:(cur.take (s.l.length*2))[i*2+1]?=some (.slice AV s.l[i].vs.length cv):=by
    have hl:done.flatten.length=i*2:=by rw [hdf.len,hdl]
    rw [hct,hdr,List.flatten_append,List.getElem?_append_right (by omega),hl,show i*2+1-i*2=1 from by omega]
    rfl
   rw [List.getElem?_take] at e1
   split at e1
   ·exact e1
   ·cases e1
  generalize hx:s.l[i]=e at*
  refine Drawn.join (α:=Option Addr × Nat) (fun _=>[(1,.pointer (some ⟨g1,0,none⟩)),(2,.pointer (some ⟨g2,0,none⟩)),(14,.int .i64 s.l.length),(15,.int .i64 i)])
   (fun z wS=>CtxF no w S wS [(g,90,D3 cur (i*2+1) [.slice z.1 e.vs.length z.2]),(g2,33,(lay.ty 33).zero),(g1,33,[.int .i64 s.seq,.slice (some ⟨g,0,none⟩) s.l.length c1,.slice A2 s.ms.length c2,.int .i64 l0,.int .i64 l1,.int .i64 l2,.int .i64 l3,.int .i64 l4])] [⟨102,3,z.1,e.vs.length,z.2,(e.vs.map F3).flatten⟩] (fun S w=>RepEs S w (s.l.take i) done/\Row S w A2 s.ms.length c2 (s.ms.map F5).flatten)) ?_ ?_
  ·refine vD (.Q [0,2,3,5] (.n 1 (.n 4 (.Q [6,7] (.n 8 (.n 9 (.Q [10,11] (.n 12 .fin .stop)) .stop) .stop)) .stop) (.n 4 (.Q [6,7] (.n 1 (.n 8 (.n 9 (.Q [10,11] (.n 12 .fin .stop)) .stop) .stop) (.n 8 (.n 1 (.n 9 (.Q [10,11] (.n 12 .fin .stop)) .stop) (.n 9 (.n 1 (.Q [10,11] (.n 12 .fin .stop)) .stop) .stop)) .stop))) .stop))) (fun _=>True) trivial ?_
   have hc:=hc.drew
   refine⟨?_,?_⟩
   ·skip
    refine⟨_,hc.cell 2 rfl _ rfl,trivial,?_⟩
    refine⟨⟨_,hc.cell 2 rfl _ rfl,trivial,?_⟩,trivial⟩
    refine⟨⟨by omega,by omega⟩,?_⟩
    generalize hae:((⟨g,0,none⟩:Addr).add ((i:Int).toNat*2))=ae
    have hae:(⟨g,i*2,none⟩:Addr)=ae:=by rw [<-hae,Addr.add_lit,Nat.zero_add,Int.toNat_natCast]
    subst hae
    refine⟨⟨_,(hc.blk 0 rfl).cell (i*2+1) |>.trans hcell,trivial,?_⟩,trivial⟩
    refine⟨⟨(M9 AV e.vs.length cv (e.vs.map F3) (F0 _) (List.length_map _) (by omega) S0 _ (hV.below hc.below)).mono fun en wq hq=>?_⟩,trivial⟩
    obtain⟨A3,c3,e1,hb,ho⟩:=hq
    have hc:=hc.fresh hb ho
    refine⟨_,e1,trivial,?_⟩
    refine⟨⟨by omega,by omega⟩,?_⟩
    generalize hae:((⟨g,0,none⟩:Addr).add ((i:Int).toNat*2))=ae
    have hae:(⟨g,i*2,none⟩:Addr)=ae:=by rw [<-hae,Addr.add_lit,Nat.zero_add,Int.toNat_natCast]
    subst hae
    refine⟨⟨hc.may 0 rfl (i*2+1) [.slice A3 e.vs.length c3] (by show i*2+1+1<=cur.length;omega) rfl,?_⟩,trivial⟩
    intro wS hS
    have hS:E2 _ ⟨g,i*2+1,none⟩ [.slice A3 e.vs.length c3] wS:=hS
    have hc:=(hc.set 0 rfl hS).1
    refine⟨trivial,?_⟩
    exact⟨(A3,c3),⟨rfl,rfl,rfl,rfl,trivial⟩,hc⟩
   refine⟨⟨_,hc.cell 2 rfl _ rfl,trivial,?_⟩,trivial⟩
   refine⟨⟨by omega,by omega⟩,?_⟩
   generalize hae:((⟨g,0,none⟩:Addr).add ((i:Int).toNat*2))=ae
   have hae:(⟨g,i*2,none⟩:Addr)=ae:=by rw [<-hae,Addr.add_lit,Nat.zero_add,Int.toNat_natCast]
   subst hae
   refine⟨?_,?_⟩
   ·skip
    refine⟨_,hc.cell 2 rfl _ rfl,trivial,?_⟩
    refine⟨⟨_,(hc.blk 0 rfl).cell (i*2+1) |>.trans hcell,trivial,?_⟩,trivial⟩
    refine⟨⟨(M9 AV e.vs.length cv (e.vs.map F3) (F0 _) (List.length_map _) (by omega) S0 _ (hV.below hc.below)).mono fun en wq hq=>?_⟩,trivial⟩
    obtain⟨A3,c3,e1,hb,ho⟩:=hq
    have hc:=hc.fresh hb ho
    refine⟨_,e1,trivial,?_⟩
    refine⟨⟨by omega,by omega⟩,?_⟩
    generalize hae:((⟨g,0,none⟩:Addr).add ((i:Int).toNat*2))=ae
    have hae:(⟨g,i*2,none⟩:Addr)=ae:=by rw [<-hae,Addr.add_lit,Nat.zero_add,Int.toNat_natCast]
    subst hae
    refine⟨⟨hc.may 0 rfl (i*2+1) [.slice A3 e.vs.length c3] (by show i*2+1+1<=cur.length;omega) rfl,?_⟩,trivial⟩
    intro wS hS
    have hS:E2 _ ⟨g,i*2+1,none⟩ [.slice A3 e.vs.length c3] wS:=hS
    have hc:=(hc.set 0 rfl hS).1
    refine⟨trivial,?_⟩
    exact⟨(A3,c3),⟨rfl,rfl,rfl,rfl,trivial⟩,hc⟩
   refine⟨⟨_,(hc.blk 0 rfl).cell (i*2+1) |>.trans hcell,trivial,?_⟩,trivial⟩
   refine⟨?_,?_⟩
   ·skip
    refine⟨_,hc.cell 2 rfl _ rfl,trivial,?_⟩
    refine⟨⟨(M9 AV e.vs.length cv (e.vs.map F3) (F0 _) (List.length_map _) (by omega) S0 _ (hV.below hc.below)).mono fun en wq hq=>?_⟩,trivial⟩
    obtain⟨A3,c3,e1,hb,ho⟩:=hq
    have hc:=hc.fresh hb ho
    refine⟨_,e1,trivial,?_⟩
    refine⟨⟨by omega,by omega⟩,?_⟩
    generalize hae:((⟨g,0,none⟩:Addr).add ((i:Int).toNat*2))=ae
    have hae:(⟨g,i*2,none⟩:Addr)=ae:=by rw [<-hae,Addr.add_lit,Nat.zero_add,Int.toNat_natCast]
    subst hae
    refine⟨⟨hc.may 0 rfl (i*2+1) [.slice A3 e.vs.length c3] (by show i*2+1+1<=cur.length;omega) rfl,?_⟩,trivial⟩
    intro wS hS
    have hS:E2 _ ⟨g,i*2+1,none⟩ [.slice A3 e.vs.length c3] wS:=hS
    have hc:=(hc.set 0 rfl hS).1
    refine⟨trivial,?_⟩
    exact⟨(A3,c3),⟨rfl,rfl,rfl,rfl,trivial⟩,hc⟩
   refine⟨⟨(M9 AV e.vs.length cv (e.vs.map F3) (F0 _) (List.length_map _) (by omega) S0 _ (hV.below hc.below)).mono fun en wq hq=>?_⟩,trivial⟩
   obtain⟨A3,c3,e1,hb,ho⟩:=hq
   have hc:=hc.fresh hb ho
   refine⟨_,e1,trivial,?_⟩
   refine⟨⟨_,hc.cell 2 rfl _ rfl,trivial,?_⟩,trivial⟩
   refine⟨⟨by omega,by omega⟩,?_⟩
   generalize hae:((⟨g,0,none⟩:Addr).add ((i:Int).toNat*2))=ae
   have hae:(⟨g,i*2,none⟩:Addr)=ae:=by rw [<-hae,Addr.add_lit,Nat.zero_add,Int.toNat_natCast]
   subst hae
   refine⟨⟨hc.may 0 rfl (i*2+1) [.slice A3 e.vs.length c3] (by show i*2+1+1<=cur.length;omega) rfl,?_⟩,trivial⟩
   intro wS hS
   have hS:E2 _ ⟨g,i*2+1,none⟩ [.slice A3 e.vs.length c3] wS:=hS
   have hc:=(hc.set 0 rfl hS).1
   refine⟨trivial,?_⟩
   exact⟨(A3,c3),⟨rfl,rfl,rfl,rfl,trivial⟩,hc⟩
  clear hc
  rintro⟨A3,c3⟩ u2 w5 hc
  simp only at hc
  obtain⟨S2,_,hc⟩:=hc.told
  have et:s.l.take (i+1)=s.l.take i++[e]:=by rw [List.take_add_one,List.getElem?_eq_getElem hlt,hx];rfl
  refine⟨(i+1,D3 cur (i*2+1) [.slice A3 e.vs.length c3],done++[[Value.string e.key,Value.slice A3 e.vs.length c3]]),⟨rfl,rfl,rfl,congrArg _ (C1 (by omega)),trivial⟩,⟨hlt,?_,?_,?_,?_,S2,?_⟩,by show s.l.length-(i+1)<s.l.length-i;omega⟩
  ·show (D3 cur (i*2+1) [.slice A3 e.vs.length c3]).length=c1*2
   rw [D4,hcl]
  ·show (done++[_]).length=i+1
   rw [List.length_append,hdl]
   rfl
  ·exact hdf.append (fun c hc=>by rw [List.mem_singleton.1 hc];exact⟨rfl,rfl⟩)
  ·show (cur.set (i*2+1) (.slice A3 e.vs.length c3)).take (s.l.length*2)=((done++[[Value.string e.key,Value.slice A3 e.vs.length c3]])++css.drop (i+1)).flatten
   rw [List.take_set,hct]
   exact B6f done (css.drop i) hdf _ _ _ _ i hdl hdr
  ·show CtxF no w S2 w5 _ [] (fun S w=>RepEs S w (s.l.take (i+1)) (done++[_])/\_)
   rw [et]
   exact hc.now (fun h=>⟨h.1.1.append ⟨_,_,rfl,⟨A3,c3,rfl,h.2⟩,rfl⟩,h.1.2⟩) (Stab.and (fun _ _ _ _ h f=>h.map fun h=>h.fut f) (fun _ _ _ _ h f=>h.fut f))
 ·refine df (by show ¬ (i:Int)<(s.l.length:Int);omega) ?_
  have hi:i=s.l.length:=by omega
  subst hi
  have hcd:css.drop s.l.length=[]:=List.drop_of_length_le (by omega)
  rw [hcd,List.append_nil] at hct
  rw [List.take_length] at hc
  refine hc.a 2 rfl rfl ?_
  refine hc.s 1 rfl fun wS hS hc=>?_
  refine hc.a 1 rfl rfl ?_
  have hc:=hc.closed 2 s.l.length c1 hcn hcm hcl
  rw [hct] at hc
  obtain⟨S2,_,hc⟩:=hc.told
  have hu:=hc.out
  refine⟨_,rfl,hc.below,?_⟩
  exact RepS.mk' el hu.1.1 hu.2 hu.1.2
theorem B4f {s:Stt} (h:Q1 s=true):s.l.length<=100000/\s.ms.length<=100000/\∀ e∈s.l,e.vs.length<=100000:=by
 obtain⟨_,⟨a3,a4⟩,a5,_,_⟩:=E5.1 h
 have he:=((L8 _ _ _).1 a5).1
 exact⟨by omega,by omega,fun e hm=>by have:=(F4.1 (he e hm).1).2.2.2;omega⟩
theorem B4g (gs gj gc b:Nat) (H:Sh) (h:H.Ok) (S:Nat->Prop) (w:World) (hK:ShelfK gs gj gc b H S w):Calls Tryz.prog 96 #[.pointer (some ⟨gs,0,none⟩)] w (B6G H.k.b no w):=by
 obtain⟨x,A,cap,hO⟩:=hK
 have hR:=(hO.left (KnR.stab _ _ _ _)).1
 obtain⟨f1,f2,f3⟩:=B4f h.k.may
 have hB:=hO.2.1
 refine vE Tryz.func96 ?_
 have hc:=CtxF.start w no (fun _ h=>h.elim) (R:=fun _ _=>True) trivial Stab.true
 refine hc.n fun g2 wg2 hg2 hc=>?_
 refine⟨.bool false,fun w=>A75 gs _ _ w,?_⟩
 refine⟨stX H.k.b x,rfl,C3 (hB.of_eq (hc.below.block _ hB.lt)) 1 _ 0 (fun j v hj=>?_),?_⟩
 ·match j,hj with
  | 0,hj=>exact hj
  | 1,hj=>exact hj
  | 2,hj=>exact hj
  | 3,hj=>exact hj
  | 4,hj=>exact hj
  | 5,hj=>exact hj
  | 6,hj=>exact hj
  | 7,hj=>exact hj
 refine⟨(B2l H.k.b f1 f2 f3 (stX H.k.b x) S _ (hR.below hc.below)).mono fun en wq hq=>?_⟩
 obtain⟨cs,e1,hb,hrep⟩:=hq
 obtain⟨xS,rfl⟩:=hrep.stX
 have hc:=(hc.call hb).1.know (X:=fun S w=>RepS S w H.k.b (stX H.k.b xS)) (hrep.map fun h=>h.sub fun b hb2=>hb2.elim (fun h=>h.elim) .inr) (P8 _ _)
 refine⟨_,e1,?_⟩
 refine hc.s 0 rfl fun wS hS hc=>?_
 refine hc.a 0 rfl rfl ?_
 exact⟨_,rfl,hc.below,hc.out.2⟩
def B8d (d:D):Bool:=!J4 d
theorem B4h {P:Program} {L:Lay} {f:Nat} {xs:List Value} {w:World} {K:Value->World->Prop} (h:L.fns f=true) (k:CallVc P f xs w K):A9L P L f xs w K:=by
 unfold A9L
 rw [h]
 exact k
theorem B2m (p:D->Bool) (f:Nat) (hfn:lay.fns f=true) (hf:∀ (d:D),d.Ok->∀ w,Calls Tryz.prog f #[.agg (dC d).toArray] w (C7 (.bool (p d)) w)) (l:List D) (hl:∀ d∈l,d.Ok) (A:Option Addr) (cap:Nat) (S:Nat->Prop) (w:World) (hR:Row S w A l.length cap (l.map dC).flatten):
  Calls Tryz.prog 61 #[.slice A l.length cap,.func (.func f) #[] #[]] w (C7 (.int .i64 (B3Q (l.findIdx? p))) w):=by
 refine vE Tryz.func61 ?_
 have hM:l.length<=9223372036854775807:=Nat.le_trans hR.1 hR.2.1
 refine⟨Nat,fun i=>[(0,.slice A l.length cap),(1,.func (.func f) #[] #[]),(7,.int .i64 l.length),(8,.int .i64 i)],
  fun i w'=>i<=l.length/\(∀ j (hj:j<l.length),j<i->p l[j]=false)/\Below w.heap.size w w',fun i _=>l.length-i,0,
  ⟨rfl,rfl,rfl,rfl,trivial⟩,⟨Nat.zero_le _,fun j hj h=>absurd h (Nat.not_lt_zero _),Below.refl _ _⟩,?_⟩
 rintro i w' u ⟨hi,he,hb⟩
 by_cases hlt:i<l.length
 ·refine dt (by omega) ?_
  obtain⟨ad,rfl,hcell⟩:=Row.elemF (hR.below hb) (by decide) (O1 _) i (by rw [List.length_map];exact hlt)
  rw [List.getElem_map] at hcell
  refine⟨⟨by omega,by omega⟩,?_⟩
  refine⟨dC l[i],rfl,hcell,?_⟩
  refine B4h (L:=lay) hfn ?_
  refine C2 (hf l[i] (hl _ (List.getElem_mem hlt)) w') ?_
  intro w2 h2
  have hb2:=hb.trans (h2.mono hb.size)
  rcases Bool.eq_false_or_eq_true (p l[i]) with hv | hv
  ·refine B6 hv ?_
   refine⟨?_,hb2⟩
   rw [A3f p l i hlt hv he]
   rfl
  ·refine B4 hv ?_
   refine⟨i+1,⟨rfl,rfl,rfl,congrArg _ (C1 (by omega)),trivial⟩,⟨hlt,fun j hj h=>?_,hb2⟩,by show l.length-(i+1)<l.length-i;omega⟩
   rcases Nat.lt_succ_iff_lt_or_eq.1 h with h | h
   ·exact he j hj h
   ·subst h;exact hv
 ·refine df (by omega) ?_
  refine⟨?_,hb⟩
  rw [A3g p l (fun j hj=>he j hj (by omega))]
  rfl
theorem A6u (p:D->Bool) (f:Nat) (hfn:lay.fns f=true) (hf:∀ (d:D),d.Ok->∀ w,Calls Tryz.prog f #[.agg (dC d).toArray] w (C7 (.bool (p d)) w)) (l:List D) (hl:∀ d∈l,d.Ok) (A:Option Addr) (cap:Nat) (S:Nat->Prop) (w:World) (hR:Row S w A l.length cap (l.map dC).flatten):
  Calls Tryz.prog 35 #[.slice A l.length cap,.func (.func f) #[] #[]] w (C7 (.bool (l.any p)) w):=by
 refine vE Tryz.func35 ?_
 refine C2 (B2m p f hfn hf l hl A cap S w hR) ?_
 intro w2 h2
 exact⟨B7 (A5Z p l),h2⟩
theorem A86 {w w':World} {e sz n cap:Nat} {A:Option Addr} {xs:List Value} (ho:w'.ownsRow w.heap.size e sz (.slice A n cap) n xs):Row (ext no w w') w' A n cap xs:=by
 have ho0:=ho
 obtain⟨e0,h3⟩:=ho
 rcases h3 with ⟨h3,h4⟩ | ⟨g,cp,cur,e1,_,_,h5,h6,_,_⟩
 ·cases h3
  rw [Nat.zero_mul] at e0
  exact⟨Nat.le_refl _,Nat.zero_le _,fun h=>absurd (List.eq_nil_of_length_eq_zero e0) h⟩
 ·cases e1
  exact⟨h5,h6,fun _=>⟨_,rfl,.inr (ho0.lt g rfl),ho0.cells rfl⟩⟩
theorem A92 (s:ByteArray) (h:s.size<=400000):11<=(H9 s).length:=by
 rw [Q9 s h,List.length_append,D5]
 have h1:=D8 (vStr s)
 have h2:=List.length_pos_iff.2 (O7 (G6 (vStr s)).length).1
 omega
theorem A2e:∀ (l:List ByteArray),(∀ x∈l,x.size<=400000)->11*l.length<=(C6 l).length
 | [],_=>Nat.zero_le _
 | s::r,h=>by
  have h1:=A92 s (h s (List.mem_cons_self ..))
  have h2:=A2e r fun x hx=>h x (List.mem_cons_of_mem _ hx)
  rw [C6,List.length_append,List.length_cons]
  omega
theorem Sh.Ok.len9 {H:Sh} (h:H.Ok):H.l.length<=99000:=by
 have h1:=A2e H.texts h.sizes
 have h2:=h.size
 have e:H.texts.length=H.l.length+1:=by
  show (H.first::H.l.map P9).length=_
  rw [List.length_cons,List.length_map]
 unfold Sh.txt at h2
 omega
def H0 (tot:Int):Sh:=⟨tot,bE,Known0,[],0,true,false⟩
theorem H0.txt (tot:Int):(H0 tot).txt=H9 bE:=by
 show H9 bE++[]=_
 rw [List.append_nil]
theorem H0.room (tot:Int):(H0 tot).room=tot-11:=by
 unfold Sh.room
 rw [H0.txt]
 show tot-E9 bE=_
 rw [A0b]
theorem H0.ok {tot:Int} (h:11<=tot/\tot<=1048576):(H0 tot).Ok:=
 ⟨.inl ⟨rfl,rfl⟩,trivial,Nat.le_refl _,h.2,by rw [H0.room];omega⟩
theorem H0.jour (tot:Int):A4E (tot-E9 bE) ⟨G8 bE,E9 bE,true⟩ bE [] 11=(H0 tot).jour:=by
 have hs:=W8 bE
 rw [A0b] at hs
 have e1:(H0 tot).scr=⟨G8 bE,E9 bE,true⟩:=by
  have e3:(H0 tot).texts.take (1+(H0 tot).np)=(H0 tot).texts:=rfl
  show Scroll.mk ⟨(H0 tot).txt.toArray⟩ ((C6 ((H0 tot).texts.take (1+(H0 tot).np))).length:Nat) true=_
  rw [e3,show C6 (H0 tot).texts=(H0 tot).txt from rfl,H0.txt]
  rfl
 unfold A4E
 rw [if_neg (by show ¬ ((11:Nat):Int)<((G8 bE).size:Int);omega)]
 unfold Sh.jour
 rw [e1,H0.room,A0b]
 rfl
theorem B4i (gc b:Nat) (tot:Int) (ht:11<=tot/\tot<=1048576) (Sx:Nat->Prop) (w:World) (hlt:∀ x,Sx x->x<w.heap.size) (he:EnvFree Sx w) (hK:ChestK gc b (c0 tot) Sx w):
  Calls Tryz.prog 89 #[.pointer (some ⟨gc,0,none⟩)] w (fun en w'=>∃ gs gj,RetOb Sx w (.tuple #[.pointer (some ⟨gs,0,none⟩),.int .i64 0]) (ShelfK gs gj gc b (H0 tot)) en w'):=
 A6t gc b (c0 tot) (H0 tot) (H0.ok ht) rfl (fun Sa w hlt he hK=>by
  have h:=A4o gc b tot (by omega) Sa w hlt he hK
  rw [H0.jour] at h
  exact h) Sx w hlt he hK
theorem B6g {n:Int} (h:0<=n/\n<=1048576):B74 n=c0 n:=by
 unfold B74 c0
 congr 1
 split<;>split<;>omega
def B2n (H:Sh) (L:Nat):Chest:=chL (H.tot-L) ⟨⟨(H.txt.take L).toArray⟩,L,true⟩
theorem B6h {H:Sh} (h:H.Ok):0<H.scr.pressed:=by
 have h1:=A1n H.first (by have:=h.first.size;omega)
 show (0:Int)<((C6 (H.texts.take (1+H.np))).length:Nat)
 rw [show 1+H.np=H.np+1 from by omega]
 show (0:Int)<((H9 H.first++C6 ((H.l.map P9).take H.np)).length:Nat)
 rw [List.length_append]
 omega
theorem B8C {H:Sh} (h:H.Ok) (n:Int):∃ L:Nat,H.scr.pressed<=L/\L<=H.txt.length/\F7 (chL H.room H.scr) L6 H.scr n=B2n H L:=by
 have hp:=Sh.scr_le (H:=H)
 have hz:=A20 H
 have ht:=A82 (s:=H.scr) ⟨hp.1,by omega⟩ n
 have h0:=B6h h
 refine⟨(F6 H.scr n).toNat,by omega,by omega,?_⟩
 have e1:((F6 H.scr n).toNat:Int)=F6 H.scr n:=Int.toNat_of_nonneg (by omega)
 unfold F7 B2n
 rw [if_pos (.inl (by omega)),if_pos (.inl (by omega)),e1]
 have e2:H.scr.s.extract 0 (F6 H.scr n).toNat=⟨(H.txt.take (F6 H.scr n).toNat).toArray⟩:=A74 ⟨H.txt.toArray⟩ _
 rw [e2]
 show Chest.mk (H.room+((H.scr.s.size:Int)-F6 H.scr n)) _ 1=_
 have e3:H.room+((H.scr.s.size:Int)-F6 H.scr n)=H.tot-F6 H.scr n:=by
  rw [hz]
  unfold Sh.room
  omega
 rw [e3]
 rfl
theorem B2o (gs gj gc b:Nat) (H:Sh) (h:H.Ok) (n:Int) (S:Nat->Prop) (w:World) (hK:ShelfK gs gj gc b H S w):
  Calls Tryz.prog 93 #[.pointer (some ⟨gc,0,none⟩),.int .i64 n] w (fun en w'=>∃ g2 b2 L,en=.returned (.pointer (some ⟨g2,0,none⟩))/\Below w.heap.size w w'/\ChestK g2 b2 (B2n H L) (ext no w w') w'/\H.scr.pressed<=(L:Nat)/\L<=H.txt.length):=by
 have hp:=Sh.scr_le (H:=H)
 have hz:=A20 H
 have hs:=h.size
 have hr:=h.room
 have ht:=h.tot
 have hrm:H.room=H.tot-H.txt.length:=rfl
 obtain⟨L,h1,h2,h3⟩:=B8C h n
 have hte:=Y5 gc b (chL H.room H.scr) L6 H.scr (by decide) (Q5 _ _) rfl ⟨hp.1,by omega⟩ (by omega) ⟨by show _<=H.room;omega,by show H.room<=_;omega⟩ n S w hK.chest
 rw [h3] at hte
 exact hte.mono fun en w' hq=>by
  obtain⟨g2,b2,e1,hb,hO⟩:=hq
  exact⟨g2,b2,L,e1,hb,hO,h1,h2⟩
theorem B2p {H:Sh} (h:H.Ok) (L i:Nat) (hi:i<=H.l.length) (hL:L<=H.txt.length) (e1:(H.cut i).txt=(H.txt.take L).take (H.cut i).txt.length) (e2:(H.cut i).txt.length<=(H.txt.take L).length):
  A4E (H.tot-L) ⟨⟨(H.txt.take L).toArray⟩,L,true⟩ H.first ((H.cut i).l.map P9) (H.cut i).txt.length=(H.cut i).jour:=by
 have hll:(H.txt.take L).length=L:=by rw [List.length_take];omega
 have hsz:((⟨(H.txt.take L).toArray⟩:ByteArray).size:Int)=L:=by
  show ((H.txt.take L).toArray.size:Int)=_
  rw [List.size_toArray,hll]
 have et:(H.cut i).texts.take (1+(H.cut i).np)=(H.cut i).texts:=by
  rw [List.take_of_length_le]
  show (H.first::(H.l.take i).map P9).length<=1+i
  rw [List.length_cons,List.length_map,List.length_take]
  omega
 have es:(H.cut i).scr=⟨⟨(H.cut i).txt.toArray⟩,((H.cut i).txt.length:Nat),true⟩:=by
  show Scroll.mk ⟨(H.cut i).txt.toArray⟩ ((C6 ((H.cut i).texts.take (1+(H.cut i).np))).length:Nat) true=_
  rw [et]
  rfl
 have er:(H.cut i).room=H.tot-(H.cut i).txt.length:=rfl
 unfold A4E
 rw [hsz]
 unfold Sh.jour
 rw [es,er]
 by_cases hlt:((H.cut i).txt.length:Int)<L
 ·rw [if_pos hlt,if_pos hlt]
  have e3:(⟨(H.txt.take L).toArray⟩:ByteArray).extract 0 (H.cut i).txt.length=⟨(H.cut i).txt.toArray⟩:=by
   rw [A74]
   show (⟨((H.txt.take L).take (H.cut i).txt.length).toArray⟩:ByteArray)=_
   rw [<-e1]
  have e4:∀ n:Nat,H.tot-(L:Int)+((L:Int)-(n:Int))=H.tot-n:=fun n=>by omega
  show JL (H.tot-L+((L:Int)-((H.cut i).txt.length:Nat))) _ _ _ _=_
  rw [e3,e4]
  rfl
 ·rw [if_neg hlt]
  have hn:(H.cut i).txt.length=L:=by omega
  have e3:H.txt.take L=(H.cut i).txt:=by rw [e1,hn,List.take_of_length_le (Nat.le_of_eq hll)]
  rw [e3,<-hn]
  rfl
theorem A93 {H:Sh} (h:H.Ok) {L:Nat} (hp:H.scr.pressed<=L) (hL:L<=H.txt.length):∃ i,H.np<=i/\i<=H.l.length/\∀ (gc b:Nat) (Sx:Nat->Prop) (w:World),(∀ x,Sx x->x<w.heap.size)->EnvFree Sx w->ChestK gc b (B2n H L) Sx w->
  Calls Tryz.prog 89 #[.pointer (some ⟨gc,0,none⟩)] w (fun en w'=>∃ gs gj,RetOb Sx w (.tuple #[.pointer (some ⟨gs,0,none⟩),.int .i64 0]) (ShelfK gs gj gc b (H.cut i)) en w'):=by
 obtain⟨i,h1,h2,h3,h4,h5⟩:=Sh.tear h L hp
 refine⟨i,h1,h2,fun gc b Sx w hlt he hK=>A6t gc b (B2n H L) (H.cut i) (h.cut i h2) rfl (fun Sa w hlt he hK=>?_) Sx w hlt he hK⟩
 have hlen:=h.len9
 have ht:=h.tot
 have hr:=h.room
 have hrm:H.room=H.tot-H.txt.length:=rfl
 have hs:=h.size
 have hj:=A1s gc b (H.tot-L) ⟨⟨(H.txt.take L).toArray⟩,L,true⟩ H.first ((H.cut i).l.map P9) (H.cut i).txt.length h3 (by
  show (H.txt.take L).toArray.size<=_
  rw [List.size_toArray,List.length_take]
  omega) ⟨by omega,by omega⟩ (by rw [List.length_map];show (H.l.take i).length<=_;rw [List.length_take];omega) Sa w hlt he hK
 rw [B2p h L i h2 hL h4 h5] at hj
 exact hj
theorem B2q (l:List ByteArray) (hl:l.length<=100000) (A B:Option Addr) (ca cb:Nat) (S S':Nat->Prop) (w:World) (hA:Row S w A l.length ca (l.map Value.string)) (hB:Row S' w B l.length cb (l.map Value.string)):Calls Tryz.prog 183 #[.slice A l.length ca,.slice B l.length cb] w (C7 (.bool true) w):=by
 refine vE Tryz.func183 ?_
 refine B4 (by show ((l.length:Int) != (l.length:Int))=false;simp) ?_
 refine⟨Nat,fun i=>[(0,.slice A l.length ca),(1,.slice B l.length cb),(5,.int .i64 i)],fun i w'=>i<=l.length/\Below w.heap.size w w',fun i _=>l.length-i,0,⟨rfl,rfl,rfl,trivial⟩,⟨Nat.zero_le _,Below.refl _ _⟩,?_⟩
 rintro i w' u ⟨hi,hb⟩
 by_cases hlt:i<l.length
 ·refine dt (by omega) ?_
  have hv:(l.map Value.string)[i]?=some (.string l[i]):=by simp [hlt]
  obtain⟨ad,rfl,hcell⟩:=(hA.below hb).at hv
  obtain⟨bd,rfl,hcell'⟩:=(hB.below hb).at hv
  refine vD (.Q [0,1,2,3,4,5,6,7,8] .fin) (Keeps (fun b=>b<w'.heap.size) w') (Keeps.start _ _) ?_
  refine⟨⟨by omega,by omega⟩,?_⟩
  refine⟨_,fun z hz=>hz.look (by rw [Nat.mul_one,Int.toNat_natCast];exact hcell),?_⟩
  refine⟨⟨by omega,by omega⟩,?_⟩
  refine⟨_,fun z hz=>hz.look (by rw [Nat.mul_one,Int.toNat_natCast];exact hcell'),?_⟩
  have hb:=hb.drew
  refine B4 (by show (!C8 l[i] l[i])=false;rw [C5.2 rfl];rfl) ?_
  refine⟨i+1,⟨rfl,rfl,congrArg _ (C1 (by omega)),trivial⟩,⟨hlt,hb⟩,by show l.length-(i+1)<l.length-i;omega⟩
 ·refine df (by omega) ?_
  exact⟨rfl,hb⟩
def A1A:ByteArray:=⟨#[111,110,101]⟩
def B4j:ByteArray:=⟨#[116,119,111]⟩
def U4:ByteArray:=⟨#[115,116,97,116,101]⟩
def sAb:ByteArray:=⟨#[97,98]⟩
def q0:Scroll:=⟨G8 bE,11,true⟩
def q1:Scroll:=⟨G8 bE++G8 A1A,25,true⟩
def q2:Scroll:=⟨(G8 bE++G8 A1A)++G8 B4j,25,true⟩
def q3:Scroll:=⟨q2.s.extract 0 25,25,true⟩
def q4:Scroll:=⟨q2.s.extract 0 30,30,true⟩
def q5:Scroll:=⟨G8 U4,16,true⟩
def q6:Scroll:=⟨q5.s.extract 0 16,16,true⟩
theorem B9Z:B74 10000=c0 10000:=by kernel_rfl
theorem B9a:A4E (10000-E9 bE) ⟨G8 bE,E9 bE,true⟩ bE [] 11=JL 9989 q0 bE [] false:=by kernel_rfl
theorem B9b:B5T 9989 q0 bE [] false A1A true=(JL 9975 q1 bE [A1A] false,0):=by kernel_rfl
theorem B9c:B5T 9975 q1 bE [A1A] false B4j false=(JL 9961 q2 bE [A1A,B4j] false,0):=by kernel_rfl
theorem B9d:F7 (chL 9961 q2) L6 q2 0=chL 9975 q3:=by kernel_rfl
theorem B9e:F7 (chL 9961 q2) L6 q2 5=chL 9970 q4:=by kernel_rfl
theorem B9f:A4E 9975 q3 bE [A1A] 25=JL 9975 q3 bE [A1A] false:=by kernel_rfl
theorem B9g:A4E 9970 q4 bE [A1A] 25=JL 9975 ⟨q4.s.extract 0 25,25,true⟩ bE [A1A] false:=by kernel_rfl
theorem B9h:B8A 9961 q2 bE [A1A,B4j] false U4=(JL 9984 q5 U4 [] false,0):=by kernel_rfl
theorem B9i:F7 (chL 9984 q5) L6 q5 0=chL 9984 q6:=by kernel_rfl
theorem B9j:A4E 9984 q6 U4 [] 16=JL 9984 q6 U4 [] false:=by kernel_rfl
theorem B9k:Splits q3.s.data.toList [bE,A1A] 25:=by
 have h:=Splits.leaves [bE,A1A] [] (fun x hx=>by
  rcases List.mem_cons.1 hx with rfl | hx
  ·decide
  ·rw [List.mem_singleton.1 hx];decide) (.inl rfl)
 rw [List.append_nil,show C6 [bE,A1A]=q3.s.data.toList by kernel_rfl,show (q3.s.data.toList).length=25 by kernel_rfl] at h
 exact h
theorem B9l:Splits q4.s.data.toList [bE,A1A] 25:=by
 have h:=Splits.leaves [bE,A1A] ((H9 B4j).take 5) (fun x hx=>by
  rcases List.mem_cons.1 hx with rfl | hx
  ·decide
  ·rw [List.mem_singleton.1 hx];decide) (.inr (A3l B4j (by decide) 5 (by decide +kernel)))
 rw [show C6 [bE,A1A]++(H9 B4j).take 5=q4.s.data.toList by kernel_rfl,show (C6 [bE,A1A]).length=25 by kernel_rfl] at h
 exact h
theorem B9m:Splits q6.s.data.toList [U4] 16:=by
 have h:=Splits.leaves [U4] [] (fun x hx=>by rw [List.mem_singleton.1 hx];decide) (.inl rfl)
 rw [List.append_nil,show C6 [U4]=q6.s.data.toList by kernel_rfl,show (q6.s.data.toList).length=16 by kernel_rfl] at h
 exact h
theorem B9n:A0Y (G8 sAb++⟨#[122]⟩:ByteArray).data.toList=(sAb,13,0):=by
 have h:=A4i sAb (by decide) [122]
 rw [show H9 sAb++[122]=(G8 sAb++⟨#[122]⟩:ByteArray).data.toList by kernel_rfl,show (H9 sAb).length=13 by kernel_rfl] at h
 exact h
theorem A94 (w:World) (hw:Env w):Calls Tryz.prog 148 #[] w (C7 (.bool true) w):=by
 refine vE Tryz.func148 ?_
 have hc:=CtxF.start w no (fun _ h=>h.elim) (R:=fun _ _=>True) trivial Stab.true
 refine⟨(A7z 10000 _).mono fun en wq hq=>?_⟩
 rw [B9Z] at hq
 obtain⟨gc,b,e1,hq,hO⟩:=hq
 have hc:=hc.sepNew hq hO (ChestK.stab _ _ _)
 refine⟨_,e1,?_⟩
 have ho:=fun Sa w hlt he hK=>A4o gc b 10000 (by decide) Sa w hlt he hK
 rw [B9a] at ho
 obtain⟨S1,Sa,h1,h2,h3,hO⟩:=hc.row
 refine⟨(ho Sa _ (fun x hx=>hc.ctx.lt x (h2 x hx).1) (hw.free hc.below h2) hO).mono fun en wq hq=>?_⟩
 obtain⟨gj,e1,hT,Sn,hSn,hO⟩:=hq
 have hc:=hc.turnO (Stab.true) h1 h2 h3 hT hSn hO (JourK.stab _ _ _ _)
 refine⟨_,e1,?_⟩
 refine⟨.bool false,fun w=>A72 gj _ _ w,?_⟩
 have ha:=fun Sa w hlt he hK=>A5j gj gc b 9989 q0 bE [] false A1A true (by decide) (by decide) (by decide +kernel) (by decide) Sa w hlt he hK
 rw [B9b] at ha
 obtain⟨S1,Sa,h1,h2,h3,hO⟩:=hc.row
 refine⟨(ha Sa _ (fun x hx=>hc.ctx.lt x (h2 x hx).1) (hw.free hc.below h2) hO).mono fun en wq hq=>?_⟩
 obtain⟨e1,hT,Sn,hSn,hO⟩:=hq
 have hc:=hc.turnO (Stab.true) h1 h2 h3 hT hSn hO (JourK.stab _ _ _ _)
 refine⟨_,e1,?_⟩
 have ha:=fun Sa w hlt he hK=>A5j gj gc b 9975 q1 bE [A1A] false B4j false (by decide) (by decide) (by decide +kernel) (by decide) Sa w hlt he hK
 rw [B9c] at ha
 obtain⟨S1,Sa,h1,h2,h3,hO⟩:=hc.row
 refine⟨(ha Sa _ (fun x hx=>hc.ctx.lt x (h2 x hx).1) (hw.free hc.below h2) hO).mono fun en wq hq=>?_⟩
 obtain⟨e1,hT,Sn,hSn,hO⟩:=hq
 have hc:=hc.turnO (Stab.true) h1 h2 h3 hT hSn hO (JourK.stab _ _ _ _)
 refine⟨_,e1,?_⟩
 have hte:=Y5 gc b (chL 9961 q2) L6 q2 (by decide) (Q5 _ _) rfl (by decide +kernel) (by decide +kernel) (by decide) 0 _ _ (hc.row.right (JourK.stab _ _ _ _)).chest
 rw [B9d] at hte
 refine⟨hte.mono fun en wq hq=>?_⟩
 obtain⟨g2,b2,e1,hq,hO2⟩:=hq
 have hc:=hc.sepNew hq hO2 (ChestK.stab _ _ _)
 refine⟨_,e1,?_⟩
 have ho:=fun Sa w hlt he hK=>A1s g2 b2 9975 q3 bE [A1A] 25 B9k (by decide +kernel) (by decide) (by decide) Sa w hlt he hK
 rw [B9f] at ho
 obtain⟨S1,Sa,h1,h2,h3,hO⟩:=hc.row
 refine⟨(ho Sa _ (fun x hx=>hc.ctx.lt x (h2 x hx).1) (hw.free hc.below h2) hO).mono fun en wq hq=>?_⟩
 obtain⟨gk,e1,hT,Sn,hSn,hO⟩:=hq
 have hc:=hc.turnO (Sep.stab Stab.true (JourK.stab _ _ _ _)) h1 h2 h3 hT hSn hO (JourK.stab _ _ _ _)
 refine⟨_,e1,?_⟩
 have hc:=hc.now Sep.swap (Sep.stab (Sep.stab Stab.true (JourK.stab _ _ _ _)) (JourK.stab _ _ _ _))
 have hte:=Y5 gc b (chL 9961 q2) L6 q2 (by decide) (Q5 _ _) rfl (by decide +kernel) (by decide +kernel) (by decide) 5 _ _ (hc.row.right (JourK.stab _ _ _ _)).chest
 rw [B9e] at hte
 refine⟨hte.mono fun en wq hq=>?_⟩
 obtain⟨g3,b3,e1,hq,hO2⟩:=hq
 have hc:=hc.sepNew hq hO2 (ChestK.stab _ _ _)
 refine⟨_,e1,?_⟩
 have ho:=fun Sa w hlt he hK=>A1s g3 b3 9970 q4 bE [A1A] 25 B9l (by decide +kernel) (by decide) (by decide) Sa w hlt he hK
 rw [B9g] at ho
 obtain⟨S1,Sa,h1,h2,h3,hO⟩:=hc.row
 refine⟨(ho Sa _ (fun x hx=>hc.ctx.lt x (h2 x hx).1) (hw.free hc.below h2) hO).mono fun en wq hq=>?_⟩
 obtain⟨gl,e1,hT,Sn,hSn,hO⟩:=hq
 have hc:=hc.turnO (Sep.stab (Sep.stab Stab.true (JourK.stab _ _ _ _)) (JourK.stab _ _ _ _)) h1 h2 h3 hT hSn hO (JourK.stab _ _ _ _)
 refine⟨_,e1,?_⟩
 have hc:=hc.now Sep.swap (Sep.stab (Sep.stab (Sep.stab Stab.true (JourK.stab _ _ _ _)) (JourK.stab _ _ _ _)) (JourK.stab _ _ _ _))
 have ha:=fun Sa w hlt he hK=>B4b gj gc b 9961 q2 bE [A1A,B4j] false U4 (by decide) (by decide) (by decide +kernel) Sa w hlt he hK
 rw [B9h] at ha
 obtain⟨S1,Sa,h1,h2,h3,hO⟩:=hc.row
 refine⟨(ha Sa _ (fun x hx=>hc.ctx.lt x (h2 x hx).1) (hw.free hc.below h2) hO).mono fun en wq hq=>?_⟩
 obtain⟨e1,hT,Sn,hSn,hO⟩:=hq
 have hc:=hc.turnO (Sep.stab (Sep.stab Stab.true (JourK.stab _ _ _ _)) (JourK.stab _ _ _ _)) h1 h2 h3 hT hSn hO (JourK.stab _ _ _ _)
 refine⟨_,e1,?_⟩
 have hte:=Y5 gc b (chL 9984 q5) L6 q5 (by decide) (Q5 _ _) rfl (by decide +kernel) (by decide +kernel) (by decide) 0 _ _ (hc.row.right (JourK.stab _ _ _ _)).chest
 rw [B9i] at hte
 refine⟨hte.mono fun en wq hq=>?_⟩
 obtain⟨g4,b4,e1,hq,hO2⟩:=hq
 have hc:=hc.sepNew hq hO2 (ChestK.stab _ _ _)
 refine⟨_,e1,?_⟩
 have ho:=fun Sa w hlt he hK=>A1s g4 b4 9984 q6 U4 [] 16 B9m (by decide +kernel) (by decide) (by decide) Sa w hlt he hK
 rw [B9j] at ho
 obtain⟨S1,Sa,h1,h2,h3,hO⟩:=hc.row
 refine⟨(ho Sa _ (fun x hx=>hc.ctx.lt x (h2 x hx).1) (hw.free hc.below h2) hO).mono fun en wq hq=>?_⟩
 obtain⟨gm,e1,hT,Sn,hSn,hO⟩:=hq
 have hc:=hc.turnO (Sep.stab (Sep.stab (Sep.stab Stab.true (JourK.stab _ _ _ _)) (JourK.stab _ _ _ _)) (JourK.stab _ _ _ _)) h1 h2 h3 hT hSn hO (JourK.stab _ _ _ _)
 refine⟨_,e1,?_⟩
 refine hc.q (A1l sAb (by decide) _ (hw.below hc.below)) fun wQ hQ hc=>?_
 refine⟨by decide +kernel,?_⟩
 have htu:=A1r (G8 sAb++⟨#[122]⟩) (by decide +kernel) _ (hw.below hc.below)
 rw [B9n] at htu
 refine hc.q (htu) fun wQ hQ hc=>?_
 refine hc.q (A9u _ (hw.below hc.below)) fun wQ hQ hc=>?_
 have hc:=hc.now (X:=fun S w=>JourK gk g2 b2 (JL 9975 q3 bE [A1A] false) S w/\JourK gl g3 b3 (JL 9975 ⟨q4.s.extract 0 25,25,true⟩ bE [A1A] false) S w/\JourK gj gc b (JL 9984 q5 U4 [] false) S w/\JourK gm g4 b4 (JL 9984 q6 U4 [] false) S w) (fun h=>by
  have sK:=Sep.stab (n0:=w.heap.size) Stab.true (JourK.stab gk g2 b2 (JL 9975 q3 bE [A1A] false))
  have sL:=Sep.stab (n0:=w.heap.size) sK (JourK.stab gl g3 b3 (JL 9975 ⟨q4.s.extract 0 25,25,true⟩ bE [A1A] false))
  have sJ:=Sep.stab (n0:=w.heap.size) sL (JourK.stab gj gc b (JL 9984 q5 U4 [] false))
  have h1:=h.left sJ
  have h2:=h1.left sL
  exact⟨(h2.left sK).right (JourK.stab _ _ _ _),h2.right (JourK.stab _ _ _ _),h1.right (JourK.stab _ _ _ _),h.right (JourK.stab _ _ _ _)⟩) ((JourK.stab _ _ _ _).and ((JourK.stab _ _ _ _).and ((JourK.stab _ _ _ _).and (JourK.stab _ _ _ _))))
 refine⟨(Z1 gk g2 b2 _ (by decide) _ _ hc.row.1).mono fun en wq hq=>?_⟩
 obtain⟨A1,c1,e1,hb,ho⟩:=hq
 have hc:=(hc.call hb).1.know (X:=fun S w=>Row S w A1 1 c1 [.string A1A]) ((A86 ho).sub fun b hb2=>hb2.elim (fun h=>h.elim) .inr) (fun _ _ _ _ h f=>h.fut f)
 refine⟨_,e1,?_⟩
 refine hc.n fun gv wgv hgv hc=>?_
 refine hc.q (B2q [A1A] (by decide) A1 (some ⟨gv,0,none⟩) c1 1 _ (fun y=>y=gv) _ hc.row.2 (A1t (S:=fun y=>y=gv) (hc.blk 0 rfl) rfl 1 (by decide))) fun wQ hQ hc=>?_
 refine⟨(Z1 gl g3 b3 _ (by decide) _ _ hc.row.1.2.1).mono fun en wq hq=>?_⟩
 obtain⟨A2,c2,e1,hb,ho⟩:=hq
 have hc:=(hc.call hb).1.know (X:=fun S w=>Row S w A2 1 c2 [.string A1A]) ((A86 ho).sub fun b hb2=>hb2.elim (fun h=>h.elim) .inr) (fun _ _ _ _ h f=>h.fut f)
 refine⟨_,e1,?_⟩
 refine hc.n fun gu wgu hgu hc=>?_
 refine hc.q (B2q [A1A] (by decide) A2 (some ⟨gu,0,none⟩) c2 1 _ (fun y=>y=gu) _ hc.row.2 (A1t (S:=fun y=>y=gu) (hc.blk 0 rfl) rfl 1 (by decide))) fun wQ hQ hc=>?_
 refine hc.q (A3s gm g4 b4 _ _ _ hc.row.1.1.2.2.2) fun wQ hQ hc=>?_
 refine⟨(Z1 gm g4 b4 _ (by decide) _ _ hc.row.1.1.2.2.2).mono fun en wq hq=>?_⟩
 obtain⟨A3,c3,e1,hb,ho⟩:=hq
 have hc:=(hc.quiet hb).1
 refine⟨_,e1,?_⟩
 refine hc.q (A3s gj gc b _ _ _ hc.row.1.1.2.2.1) fun wQ hQ hc=>?_
 refine hc.q (B4c gj gc b 9984 q5 U4 [] false _ _ hc.row.1.1.2.2.1) fun wQ hQ hc=>?_
 refine⟨?_,hc.below⟩
 show Ending.returned (.bool (decide ((8:Int)<(q5.s.size:Int))))=_
 rw [show q5.s.size=16 by kernel_rfl]
 rfl
theorem A95 (w:World) (hw:Env w):Calls Tryz.prog 94 #[] w (C7 (.bool true) w):=by
 refine vE Tryz.func94 ?_
 refine C2 (A94 w hw) ?_
 intro w1 h1
 exact⟨rfl,h1⟩
theorem A76 (l m:List D) (A B:Option Addr) (ca cb:Nat) (S S':Nat->Prop) (w:World) (hA:Row S w A l.length ca (l.map dC).flatten) (hB:Row S' w B m.length cb (m.map dC).flatten):Calls Tryz.prog 47 #[.slice A l.length ca,.slice B m.length cb] w (C7 (.bool (D7 eqD l m)) w):=by
 have hMA:l.length<=9223372036854775807:=Nat.le_trans hA.1 hA.2.1
 refine vE Tryz.func47 ?_
 by_cases hl:l.length=m.length
 rotate_left
 ·refine B6 (by show ((l.length:Int) != (m.length:Int))=true;rw [bne_iff_ne];omega) ?_
  rw [L4 _ _ _ hl]
  exact⟨rfl,Below.refl _ _⟩
 refine B4 (by show ((l.length:Int) != (m.length:Int))=false;rw [hl];simp) ?_
 refine⟨Nat,fun i=>[(0,.slice A l.length ca),(1,.slice B m.length cb),(5,.int .i64 i)],fun i w'=>i<=l.length/\D7 eqD (l.drop i) (m.drop i)=D7 eqD l m/\Below w.heap.size w w',fun i _=>l.length-i,0,⟨rfl,rfl,rfl,trivial⟩,⟨Nat.zero_le _,rfl,Below.refl _ _⟩,?_⟩
 rintro i w' u ⟨hi,he,hb⟩
 by_cases hlt:i<l.length
 ·refine dt (by omega) ?_
  obtain⟨ad,rfl,hcell⟩:=Row.elemF (hA.below hb) (by decide) (O1 _) i (by rw [List.length_map];exact hlt)
  obtain⟨bd,rfl,hcell'⟩:=Row.elemF (hB.below hb) (by decide) (O1 _) i (by rw [List.length_map];omega)
  rw [List.getElem_map] at hcell hcell'
  rw [List.drop_eq_getElem_cons hlt,List.drop_eq_getElem_cons (show i<m.length by omega),D7] at he
  generalize l[i]=x at*
  generalize m[i]'(by omega)=y at*
  refine vD (.Q [0,1,2,3,4,5,6,7,8] .fin) (Keeps (fun b=>b<w'.heap.size) w') (Keeps.start _ _) ?_
  refine⟨⟨by omega,by omega⟩,?_⟩
  refine⟨dC x,rfl,fun z hz=>hz.looks _ _ hcell,?_⟩
  refine⟨⟨by omega,by omega⟩,?_⟩
  refine⟨dC y,rfl,fun z hz=>hz.looks _ _ hcell',?_⟩
  refine⟨_,fun w=>A05 A7e (B1W 9998 · x y) _ _ w,?_⟩
  have hb:=hb.drew
  cases hv:eqD x y
  ·rw [hv] at he
   refine⟨?_,hb⟩
   rw [<-he]
   rfl
  ·rw [hv] at he
   refine⟨i+1,⟨rfl,rfl,congrArg _ (C1 (by omega)),trivial⟩,⟨hlt,he,hb⟩,by show l.length-(i+1)<l.length-i;omega⟩
 ·refine df (by omega) ?_
  rw [List.drop_of_length_le (by omega),List.drop_of_length_le (by omega),D7] at he
  rw [<-he]
  exact⟨rfl,hb⟩
theorem _root_.Go.Vc.CtxF.turnR {w0 w w':World} {S:Nat->Prop} {l:List LB} {os:List OR} {R O O' X:Kn} (hc:CtxF no w0 S w l os (Sep w0.heap.size R O)) (hR:Stab R) {S1 Sa Sn Sl:Nat->Prop} (h1:∀ x,S1 x->S x/\¬ Sa x) (h2:∀ x,Sa x->S x/\w0.heap.size<=x) (h3:R S1 w) (hT:Turn Sa w w')
  (hSn:∀ x,Sn x->(Sa x\/w.heap.size<=x)/\x<w'.heap.size) (hO:O' Sn w') (hSl:∀ y,Sl y->w.heap.size<=y/\y<w'.heap.size/\¬ Sn y) (hX:X Sl w') (hs:Stab O') (hsX:Stab X):
  ∃ S2,CtxF no w0 S2 w' l os (Sep w0.heap.size (fun S w=>R S w/\X S w) O'):=by
 refine⟨_,hc.turn h2 hT (Sn:=fun x=>Sn x\/Sl x) (fun x hx=>hx.elim (hSn x) (fun h=>⟨.inr (hSl x h).1,(hSl x h).2.1⟩)) ⟨fun x=>S1 x\/Sl x,Sn,fun x hx=>?_,fun x hx=>⟨.inr (.inl hx),?_⟩,⟨hR _ _ _ _ h3 ⟨fun _ h=>.inl h,fun x hx=>?_⟩,hsX _ _ _ _ hX ⟨fun _ h=>.inr h,fun _ _=>rfl⟩⟩,hO⟩ (Sep.stab (hR.and hsX) hs)⟩
 ·rcases hx with hx | hx
  ·refine⟨.inl (h1 x hx),fun hn=>?_⟩
   rcases (hSn x hn).1 with h | h
   ·exact (h1 x hx).2 h
   ·have:=hc.ctx.lt x (h1 x hx).1
    omega
  ·exact⟨.inr (.inr hx),(hSl x hx).2.2⟩
 ·rcases (hSn x hx).1 with h | h
  ·exact (h2 x h).2
  ·have:=hc.ctx.below.size
   omega
 ·exact hT.block x (hc.ctx.lt x (h1 x hx).1) (h1 x hx).2
def b8d:D:=⟨1,⟨#[107]⟩,⟨#[118]⟩,0,0,⟨#[]⟩,4294967297,0⟩
def b8x:D:=⟨2,⟨#[107]⟩,⟨#[]⟩,0,0,⟨#[]⟩,4294967298,0⟩
def G0:Sh:=H0 1048576
def G1:Sh:=G0.write (.enter 3) true
def G2:Sh:=G1.write (.add b8d) true
def G3:Sh:=G2.write (.add b8x) true
def G4:Sh:=G3.write (.done 1) false
theorem en8:A4q G0 3=(G1,0):=by kernel_rfl
theorem ad8:B6e G1 b8d=(G2,0):=by kernel_rfl
theorem ax8:B6e G2 b8x=(G3,0):=by kernel_rfl
theorem cm8:A09 G3 1=(G4,[⟨0,1⟩],0):=by kernel_rfl
theorem cn8:A09 G4 9=(G4,[],4):=by kernel_rfl
theorem eo8:A4q G4 3=(G4,12):=by kernel_rfl
theorem az8:B6e G4 D0=(G4,1):=by kernel_rfl
theorem B5U:b8d.Ok:=⟨by unfold B9;decide,by unfold G7;decide,by unfold G7;decide,by unfold B9;decide,by unfold B9;decide,by unfold G7;decide,by unfold B9;decide,by unfold B9;decide⟩
theorem B5V:b8x.Ok:=⟨by unfold B9;decide,by unfold G7;decide,by unfold G7;decide,by unfold B9;decide,by unfold B9;decide,by unfold G7;decide,by unfold B9;decide,by unfold B9;decide⟩
theorem B8D:D0.Ok:=⟨by unfold B9;decide,by unfold G7;decide,by unfold G7;decide,by unfold B9;decide,by unfold B9;decide,by unfold G7;decide,by unfold B9;decide,by unfold B9;decide⟩
theorem G0ok:G0.Ok:=H0.ok (by decide)
theorem G1ok:G1.Ok:=G0ok.write (r:=.enter 3) (show B9 3 by unfold B9;decide) trivial true (by decide +kernel)
theorem G2ok:G2.Ok:=G1ok.write (r:=.add b8d) ⟨by kernel_rfl,B5U⟩ ⟨by decide +kernel,by decide +kernel⟩ true (by decide +kernel)
theorem G3ok:G3.Ok:=G2ok.write (r:=.add b8x) ⟨by kernel_rfl,B5V⟩ ⟨by decide +kernel,by decide +kernel⟩ true (by decide +kernel)
theorem G4ok:G4.Ok:=G3ok.write (r:=.done 1) (show B9 1 by unfold B9;decide) (show (1:Int)<=G3.k.seq by decide +kernel) false (by decide +kernel)
theorem A96 (w:World) (hw:Env w):Calls Tryz.prog 95 #[] w (C7 (.bool true) w):=by
 refine vE Tryz.func95 ?_
 refine C2 (A9q w hw) ?_
 intro w1 h1
 exact⟨rfl,h1⟩
theorem A97 (w:World) (hw:Env w):Calls Tryz.prog 56 #[] w (C7 (.bool true) w):=by
 refine vE Tryz.func56 ?_
 have hc:=CtxF.start w no (fun _ h=>h.elim) (R:=fun _ _=>True) trivial Stab.true
 refine⟨(A7z 1048576 _).mono fun en wq hq=>?_⟩
 rw [B6g (by decide)] at hq
 obtain⟨gc,b,e1,hq,hO⟩:=hq
 have hc:=hc.sepNew hq hO (ChestK.stab _ _ _)
 refine⟨_,e1,?_⟩
 obtain⟨S1,Sa,h1,h2,h3,hO⟩:=hc.row
 refine⟨(B4i gc b 1048576 (by decide) Sa _ (fun x hx=>hc.ctx.lt x (h2 x hx).1) (hw.free hc.below h2) hO).mono fun en wq hq=>?_⟩
 obtain⟨gs,gj,e1,hT,Sn,hSn,hO⟩:=hq
 have hc:=hc.turnO Stab.true h1 h2 h3 hT hSn hO (ShelfK.stab _ _ _ _ _)
 refine⟨_,e1,?_⟩
 refine⟨.bool false,fun w=>A75 gs _ _ w,?_⟩
 refine hc.n fun g4 wg4 hg4 hc=>?_
 refine hc.s 0 rfl fun wS hS hc=>?_
 refine hc.n fun g5 wg5 hg5 hc=>?_
 refine hc.s 0 rfl fun wS hS hc=>?_
 have he:=fun Sa w hlt he hK=>A4r gs gj gc b G0 G0ok 3 (by unfold B9;decide) Sa w hlt he hK
 rw [en8] at he
 have hd:=fun Sa w hlt he hK=>A5m gs gj gc b G1 G1ok b8d B5U Sa w hlt he hK
 rw [ad8] at hd
 have hx:=fun Sa w hlt he hK=>A5m gs gj gc b G2 G2ok b8x B5V Sa w hlt he hK
 rw [ax8] at hx
 refine Drawn.join (α:=Unit) (fun _=>[(1,.pointer (some ⟨gc,0,none⟩)),(2,.pointer (some ⟨gs,0,none⟩)),(6,.int .i64 0),(7,.int .i64 0),(8,.int .i64 0)])
  (fun _ wS=>∃ S2,CtxF no w S2 wS [(g5,60,dC b8x),(g4,60,dC b8d)] [] (Sep w.heap.size (fun _ _=>True) (ShelfK gs gj gc b G3))) ?_ ?_
 ·refine vD (.Q [0,2,5] (.n 1 (.n 3 (.n 4 (.n 6 (.n 7 (.Q [8,9,10] .fin) .stop) .stop) (.n 6 (.n 4 (.n 7 (.Q [8,9,10] .fin) .stop) .stop) .stop)) (.n 6 (.n 3 (.n 4 (.n 7 (.Q [8,9,10] .fin) .stop) .stop) .stop) .stop)) (.n 3 (.n 1 (.n 4 (.n 6 (.n 7 (.Q [8,9,10] .fin) .stop) .stop) (.n 6 (.n 4 (.n 7 (.Q [8,9,10] .fin) .stop) .stop) .stop)) (.n 6 (.n 1 (.n 4 (.n 7 (.Q [8,9,10] .fin) .stop) .stop) .stop) .stop)) (.n 6 (.n 1 (.n 3 (.n 4 (.n 7 (.Q [8,9,10] .fin) .stop) .stop) .stop) (.n 3 (.n 1 (.n 4 (.n 7 (.Q [8,9,10] .fin) .stop) .stop) .stop) .stop)) .stop)))) (fun _=>True) trivial ?_
  have hc:=hc.drew
  refine⟨?_,?_⟩
  ·skip
   obtain⟨S1,Sa,h1,h2,h3,hO⟩:=hc.row
   refine⟨(he Sa _ (fun x hx=>hc.ctx.lt x (h2 x hx).1) (hw.free hc.below h2) hO).mono fun en wq hq=>?_⟩
   obtain⟨e1,hT,Sn,hSn,hO⟩:=hq
   have hc:=hc.turnO Stab.true h1 h2 h3 hT hSn hO (ShelfK.stab _ _ _ _ _)
   refine⟨_,e1,trivial,?_⟩
   refine⟨?_,?_⟩
   ·skip
    refine hc.a' 1 rfl rfl ?_
    refine⟨?_,?_⟩
    ·skip
     obtain⟨S1,Sa,h1,h2,h3,hO⟩:=hc.row
     refine⟨(hd Sa _ (fun x hx=>hc.ctx.lt x (h2 x hx).1) (hw.free hc.below h2) hO).mono fun en wq hq=>?_⟩
     obtain⟨e1,hT,Sn,hSn,hO⟩:=hq
     have hc:=hc.turnO Stab.true h1 h2 h3 hT hSn hO (ShelfK.stab _ _ _ _ _)
     refine⟨_,e1,trivial,?_⟩
     refine⟨hc.a' 0 rfl rfl ?_,trivial⟩
     refine⟨?_,trivial⟩
     obtain⟨S1,Sa,h1,h2,h3,hO⟩:=hc.row
     refine⟨(hx Sa _ (fun x hx=>hc.ctx.lt x (h2 x hx).1) (hw.free hc.below h2) hO).mono fun en wq hq=>?_⟩
     obtain⟨e1,hT,Sn,hSn,hO⟩:=hq
     have hc:=hc.turnO Stab.true h1 h2 h3 hT hSn hO (ShelfK.stab _ _ _ _ _)
     refine⟨_,e1,trivial,?_⟩
     exact⟨(),⟨rfl,rfl,rfl,rfl,rfl,trivial⟩,_,hc⟩
    refine⟨hc.a' 0 rfl rfl ?_,trivial⟩
    refine⟨?_,trivial⟩
    obtain⟨S1,Sa,h1,h2,h3,hO⟩:=hc.row
    refine⟨(hd Sa _ (fun x hx=>hc.ctx.lt x (h2 x hx).1) (hw.free hc.below h2) hO).mono fun en wq hq=>?_⟩
    obtain⟨e1,hT,Sn,hSn,hO⟩:=hq
    have hc:=hc.turnO Stab.true h1 h2 h3 hT hSn hO (ShelfK.stab _ _ _ _ _)
    refine⟨_,e1,trivial,?_⟩
    refine⟨?_,trivial⟩
    obtain⟨S1,Sa,h1,h2,h3,hO⟩:=hc.row
    refine⟨(hx Sa _ (fun x hx=>hc.ctx.lt x (h2 x hx).1) (hw.free hc.below h2) hO).mono fun en wq hq=>?_⟩
    obtain⟨e1,hT,Sn,hSn,hO⟩:=hq
    have hc:=hc.turnO Stab.true h1 h2 h3 hT hSn hO (ShelfK.stab _ _ _ _ _)
    refine⟨_,e1,trivial,?_⟩
    exact⟨(),⟨rfl,rfl,rfl,rfl,rfl,trivial⟩,_,hc⟩
   refine⟨hc.a' 0 rfl rfl ?_,trivial⟩
   refine⟨hc.a' 1 rfl rfl ?_,trivial⟩
   refine⟨?_,trivial⟩
   obtain⟨S1,Sa,h1,h2,h3,hO⟩:=hc.row
   refine⟨(hd Sa _ (fun x hx=>hc.ctx.lt x (h2 x hx).1) (hw.free hc.below h2) hO).mono fun en wq hq=>?_⟩
   obtain⟨e1,hT,Sn,hSn,hO⟩:=hq
   have hc:=hc.turnO Stab.true h1 h2 h3 hT hSn hO (ShelfK.stab _ _ _ _ _)
   refine⟨_,e1,trivial,?_⟩
   refine⟨?_,trivial⟩
   obtain⟨S1,Sa,h1,h2,h3,hO⟩:=hc.row
   refine⟨(hx Sa _ (fun x hx=>hc.ctx.lt x (h2 x hx).1) (hw.free hc.below h2) hO).mono fun en wq hq=>?_⟩
   obtain⟨e1,hT,Sn,hSn,hO⟩:=hq
   have hc:=hc.turnO Stab.true h1 h2 h3 hT hSn hO (ShelfK.stab _ _ _ _ _)
   refine⟨_,e1,trivial,?_⟩
   exact⟨(),⟨rfl,rfl,rfl,rfl,rfl,trivial⟩,_,hc⟩
  refine⟨?_,?_⟩
  ·skip
   refine hc.a' 1 rfl rfl ?_
   refine⟨?_,?_⟩
   ·skip
    obtain⟨S1,Sa,h1,h2,h3,hO⟩:=hc.row
    refine⟨(he Sa _ (fun x hx=>hc.ctx.lt x (h2 x hx).1) (hw.free hc.below h2) hO).mono fun en wq hq=>?_⟩
    obtain⟨e1,hT,Sn,hSn,hO⟩:=hq
    have hc:=hc.turnO Stab.true h1 h2 h3 hT hSn hO (ShelfK.stab _ _ _ _ _)
    refine⟨_,e1,trivial,?_⟩
    refine⟨?_,?_⟩
    ·skip
     obtain⟨S1,Sa,h1,h2,h3,hO⟩:=hc.row
     refine⟨(hd Sa _ (fun x hx=>hc.ctx.lt x (h2 x hx).1) (hw.free hc.below h2) hO).mono fun en wq hq=>?_⟩
     obtain⟨e1,hT,Sn,hSn,hO⟩:=hq
     have hc:=hc.turnO Stab.true h1 h2 h3 hT hSn hO (ShelfK.stab _ _ _ _ _)
     refine⟨_,e1,trivial,?_⟩
     refine⟨hc.a' 0 rfl rfl ?_,trivial⟩
     refine⟨?_,trivial⟩
     obtain⟨S1,Sa,h1,h2,h3,hO⟩:=hc.row
     refine⟨(hx Sa _ (fun x hx=>hc.ctx.lt x (h2 x hx).1) (hw.free hc.below h2) hO).mono fun en wq hq=>?_⟩
     obtain⟨e1,hT,Sn,hSn,hO⟩:=hq
     have hc:=hc.turnO Stab.true h1 h2 h3 hT hSn hO (ShelfK.stab _ _ _ _ _)
     refine⟨_,e1,trivial,?_⟩
     exact⟨(),⟨rfl,rfl,rfl,rfl,rfl,trivial⟩,_,hc⟩
    refine⟨hc.a' 0 rfl rfl ?_,trivial⟩
    refine⟨?_,trivial⟩
    obtain⟨S1,Sa,h1,h2,h3,hO⟩:=hc.row
    refine⟨(hd Sa _ (fun x hx=>hc.ctx.lt x (h2 x hx).1) (hw.free hc.below h2) hO).mono fun en wq hq=>?_⟩
    obtain⟨e1,hT,Sn,hSn,hO⟩:=hq
    have hc:=hc.turnO Stab.true h1 h2 h3 hT hSn hO (ShelfK.stab _ _ _ _ _)
    refine⟨_,e1,trivial,?_⟩
    refine⟨?_,trivial⟩
    obtain⟨S1,Sa,h1,h2,h3,hO⟩:=hc.row
    refine⟨(hx Sa _ (fun x hx=>hc.ctx.lt x (h2 x hx).1) (hw.free hc.below h2) hO).mono fun en wq hq=>?_⟩
    obtain⟨e1,hT,Sn,hSn,hO⟩:=hq
    have hc:=hc.turnO Stab.true h1 h2 h3 hT hSn hO (ShelfK.stab _ _ _ _ _)
    refine⟨_,e1,trivial,?_⟩
    exact⟨(),⟨rfl,rfl,rfl,rfl,rfl,trivial⟩,_,hc⟩
   refine⟨hc.a' 0 rfl rfl ?_,trivial⟩
   refine⟨?_,trivial⟩
   obtain⟨S1,Sa,h1,h2,h3,hO⟩:=hc.row
   refine⟨(he Sa _ (fun x hx=>hc.ctx.lt x (h2 x hx).1) (hw.free hc.below h2) hO).mono fun en wq hq=>?_⟩
   obtain⟨e1,hT,Sn,hSn,hO⟩:=hq
   have hc:=hc.turnO Stab.true h1 h2 h3 hT hSn hO (ShelfK.stab _ _ _ _ _)
   refine⟨_,e1,trivial,?_⟩
   refine⟨?_,trivial⟩
   obtain⟨S1,Sa,h1,h2,h3,hO⟩:=hc.row
   refine⟨(hd Sa _ (fun x hx=>hc.ctx.lt x (h2 x hx).1) (hw.free hc.below h2) hO).mono fun en wq hq=>?_⟩
   obtain⟨e1,hT,Sn,hSn,hO⟩:=hq
   have hc:=hc.turnO Stab.true h1 h2 h3 hT hSn hO (ShelfK.stab _ _ _ _ _)
   refine⟨_,e1,trivial,?_⟩
   refine⟨?_,trivial⟩
   obtain⟨S1,Sa,h1,h2,h3,hO⟩:=hc.row
   refine⟨(hx Sa _ (fun x hx=>hc.ctx.lt x (h2 x hx).1) (hw.free hc.below h2) hO).mono fun en wq hq=>?_⟩
   obtain⟨e1,hT,Sn,hSn,hO⟩:=hq
   have hc:=hc.turnO Stab.true h1 h2 h3 hT hSn hO (ShelfK.stab _ _ _ _ _)
   refine⟨_,e1,trivial,?_⟩
   exact⟨(),⟨rfl,rfl,rfl,rfl,rfl,trivial⟩,_,hc⟩
  refine⟨hc.a' 0 rfl rfl ?_,trivial⟩
  refine⟨?_,?_⟩
  ·skip
   obtain⟨S1,Sa,h1,h2,h3,hO⟩:=hc.row
   refine⟨(he Sa _ (fun x hx=>hc.ctx.lt x (h2 x hx).1) (hw.free hc.below h2) hO).mono fun en wq hq=>?_⟩
   obtain⟨e1,hT,Sn,hSn,hO⟩:=hq
   have hc:=hc.turnO Stab.true h1 h2 h3 hT hSn hO (ShelfK.stab _ _ _ _ _)
   refine⟨_,e1,trivial,?_⟩
   refine⟨hc.a' 1 rfl rfl ?_,trivial⟩
   refine⟨?_,trivial⟩
   obtain⟨S1,Sa,h1,h2,h3,hO⟩:=hc.row
   refine⟨(hd Sa _ (fun x hx=>hc.ctx.lt x (h2 x hx).1) (hw.free hc.below h2) hO).mono fun en wq hq=>?_⟩
   obtain⟨e1,hT,Sn,hSn,hO⟩:=hq
   have hc:=hc.turnO Stab.true h1 h2 h3 hT hSn hO (ShelfK.stab _ _ _ _ _)
   refine⟨_,e1,trivial,?_⟩
   refine⟨?_,trivial⟩
   obtain⟨S1,Sa,h1,h2,h3,hO⟩:=hc.row
   refine⟨(hx Sa _ (fun x hx=>hc.ctx.lt x (h2 x hx).1) (hw.free hc.below h2) hO).mono fun en wq hq=>?_⟩
   obtain⟨e1,hT,Sn,hSn,hO⟩:=hq
   have hc:=hc.turnO Stab.true h1 h2 h3 hT hSn hO (ShelfK.stab _ _ _ _ _)
   refine⟨_,e1,trivial,?_⟩
   exact⟨(),⟨rfl,rfl,rfl,rfl,rfl,trivial⟩,_,hc⟩
  refine⟨hc.a' 1 rfl rfl ?_,trivial⟩
  refine⟨?_,trivial⟩
  obtain⟨S1,Sa,h1,h2,h3,hO⟩:=hc.row
  refine⟨(he Sa _ (fun x hx=>hc.ctx.lt x (h2 x hx).1) (hw.free hc.below h2) hO).mono fun en wq hq=>?_⟩
  obtain⟨e1,hT,Sn,hSn,hO⟩:=hq
  have hc:=hc.turnO Stab.true h1 h2 h3 hT hSn hO (ShelfK.stab _ _ _ _ _)
  refine⟨_,e1,trivial,?_⟩
  refine⟨?_,trivial⟩
  obtain⟨S1,Sa,h1,h2,h3,hO⟩:=hc.row
  refine⟨(hd Sa _ (fun x hx=>hc.ctx.lt x (h2 x hx).1) (hw.free hc.below h2) hO).mono fun en wq hq=>?_⟩
  obtain⟨e1,hT,Sn,hSn,hO⟩:=hq
  have hc:=hc.turnO Stab.true h1 h2 h3 hT hSn hO (ShelfK.stab _ _ _ _ _)
  refine⟨_,e1,trivial,?_⟩
  refine⟨?_,trivial⟩
  obtain⟨S1,Sa,h1,h2,h3,hO⟩:=hc.row
  refine⟨(hx Sa _ (fun x hx=>hc.ctx.lt x (h2 x hx).1) (hw.free hc.below h2) hO).mono fun en wq hq=>?_⟩
  obtain⟨e1,hT,Sn,hSn,hO⟩:=hq
  have hc:=hc.turnO Stab.true h1 h2 h3 hT hSn hO (ShelfK.stab _ _ _ _ _)
  refine⟨_,e1,trivial,?_⟩
  exact⟨(),⟨rfl,rfl,rfl,rfl,rfl,trivial⟩,_,hc⟩
 clear hc
 rintro⟨⟩ u wS ⟨S2,hc⟩
 have hcm:=fun Sa w hlt he hK=>A3t gs gj gc b G3 G3ok 1 (by unfold B9;decide) Sa w hlt he hK
 rw [cm8] at hcm
 obtain⟨S1,Sa,h1,h2,h3,hO⟩:=hc.row
 refine⟨(hcm Sa _ (fun x hx=>hc.ctx.lt x (h2 x hx).1) (hw.free hc.below h2) hO).mono fun en wq hq=>?_⟩
 obtain⟨A1,c1,e1,hT,Sn,Sl,hSn,hO,hSl,hX⟩:=hq
 obtain⟨S3,hc⟩:=hc.turnR Stab.true h1 h2 h3 hT hSn hO hSl (X:=fun S w=>Row S w A1 1 c1 ([(⟨0,1⟩:Res)].map A1C).flatten) hX (ShelfK.stab _ _ _ _ _) (fun _ _ _ _ h f=>h.fut f)
 refine⟨_,e1,?_⟩
 refine⟨(B2o gs gj gc b G4 G4ok 0 _ _ (hc.row.right (ShelfK.stab _ _ _ _ _))).mono fun en wq hq=>?_⟩
 obtain⟨g2,b2,L,e1,hq,hO2,hL1,hL2⟩:=hq
 have hc:=hc.sepNew hq hO2 (ChestK.stab _ _ _)
 refine⟨_,e1,?_⟩
 obtain⟨i,hi1,hi2,hop⟩:=A93 G4ok hL1 hL2
 have hi1:3<=i:=hi1
 have hi2:i<=4:=hi2
 have sX:Stab (fun S w=>True/\Row S w A1 1 c1 ([(⟨0,1⟩:Res)].map A1C).flatten):=Stab.true.and (fun _ _ _ _ h f=>h.fut f)
 obtain⟨S1,Sa,h1,h2,h3,hO⟩:=hc.row
 refine⟨(hop g2 b2 Sa _ (fun x hx=>hc.ctx.lt x (h2 x hx).1) (hw.free hc.below h2) hO).mono fun en wq hq=>?_⟩
 obtain⟨gt,gk,e1,hT,Sn,hSn,hO⟩:=hq
 have hc:=(hc.turnO (Sep.stab sX (ShelfK.stab _ _ _ _ _)) h1 h2 h3 hT hSn hO (ShelfK.stab _ _ _ _ _)).now Sep.swap (Sep.stab (Sep.stab sX (ShelfK.stab _ _ _ _ _)) (ShelfK.stab _ _ _ _ _))
 refine⟨_,e1,?_⟩
 have sT:Stab (Sep w.heap.size (fun S w=>True/\Row S w A1 1 c1 ([(⟨0,1⟩:Res)].map A1C).flatten) (ShelfK gt gk g2 b2 (G4.cut i))):=Sep.stab sX (ShelfK.stab _ _ _ _ _)
 have hcm:=fun Sa w hlt he hK=>A3t gs gj gc b G4 G4ok 9 (by unfold B9;decide) Sa w hlt he hK
 rw [cn8] at hcm
 obtain⟨S1,Sa,h1,h2,h3,hO⟩:=hc.row
 refine⟨(hcm Sa _ (fun x hx=>hc.ctx.lt x (h2 x hx).1) (hw.free hc.below h2) hO).mono fun en wq hq=>?_⟩
 obtain⟨A2,c2,e1,hT,Sn,Sl,hSn,hO,hSl,hX⟩:=hq
 have hc:=hc.turnO sT h1 h2 h3 hT hSn hO (ShelfK.stab _ _ _ _ _)
 refine⟨_,e1,?_⟩
 refine hc.q (A95 _ (hw.below hc.below)) fun wQ hQ hc=>?_
 refine hc.q (A96 _ (hw.below hc.below)) fun wQ hQ hc=>?_
 obtain⟨ad,rfl,_,hcell⟩:=((hc.row.left sT).left sX).2.2.2 (by simp [A1C])
 refine⟨⟨by decide,by decide⟩,?_⟩
 refine⟨_,hcell 1 _ rfl,?_⟩
 refine⟨(B4g gs gj gc b G4 G4ok _ _ (hc.row.right (ShelfK.stab _ _ _ _ _))).mono fun en wq hq=>?_⟩
 obtain⟨cB,e1,hq,hrB⟩:=hq
 obtain⟨xB,rfl⟩:=hrB.stX
 have hc:=(hc.quiet hq).1
 refine⟨_,e1,?_⟩
 refine⟨(B4d gs gj gc b G4 G4ok _ _ (hc.row.right (ShelfK.stab _ _ _ _ _))).mono fun en wq hq=>?_⟩
 obtain⟨A3,c3,e1,hq,_⟩:=hq
 have hc:=(hc.quiet hq).1
 refine⟨_,e1,?_⟩
 have hq4:G4.k.seq=2:=by kernel_rfl
 have hqT:(G4.cut i).k.seq=2:=by
  rcases (by omega:i=3\/i=4) with rfl | rfl
  ·kernel_rfl
  ·kernel_rfl
 have heT:(G4.cut i).k.ep=3:=by
  rcases (by omega:i=3\/i=4) with rfl | rfl
  ·kernel_rfl
  ·kernel_rfl
 have hlT:G4.k.ln=0:=by kernel_rfl
 have hsq:=B2j gs gj gc b G4 G4ok _ _ (hc.row.right (ShelfK.stab _ _ _ _ _))
 rw [hq4] at hsq
 refine hc.q (hsq) fun wQ hQ hc=>?_
 have hsq:=B2j gt gk g2 b2 (G4.cut i) (G4ok.cut i hi2) _ _ ((hc.row.left sT).right (ShelfK.stab _ _ _ _ _))
 rw [hqT] at hsq
 refine hc.q (hsq) fun wQ hQ hc=>?_
 have hep:=B2k gt gk g2 b2 (G4.cut i) _ _ ((hc.row.left sT).right (ShelfK.stab _ _ _ _ _))
 rw [heT] at hep
 refine hc.q (hep) fun wQ hQ hc=>?_
 have he:=fun Sa w hlt he hK=>A4r gs gj gc b G4 G4ok 3 (by unfold B9;decide) Sa w hlt he hK
 rw [eo8] at he
 obtain⟨S1,Sa,h1,h2,h3,hO⟩:=hc.row
 refine⟨(he Sa _ (fun x hx=>hc.ctx.lt x (h2 x hx).1) (hw.free hc.below h2) hO).mono fun en wq hq=>?_⟩
 obtain⟨e1,hT,Sn,hSn,hO⟩:=hq
 have hc:=hc.turnO (sT) h1 h2 h3 hT hSn hO (ShelfK.stab _ _ _ _ _)
 refine⟨_,e1,?_⟩
 have hd:=fun Sa w hlt he hK=>A5m gs gj gc b G4 G4ok D0 B8D Sa w hlt he hK
 rw [az8] at hd
 obtain⟨S1,Sa,h1,h2,h3,hO⟩:=hc.row
 refine⟨(hd Sa _ (fun x hx=>hc.ctx.lt x (h2 x hx).1) (hw.free hc.below h2) hO).mono fun en wq hq=>?_⟩
 obtain⟨e1,hT,Sn,hSn,hO⟩:=hq
 have hc:=hc.turnO (sT) h1 h2 h3 hT hSn hO (ShelfK.stab _ _ _ _ _)
 refine⟨_,e1,?_⟩
 have hln:=A91 gs gj gc b G4 _ _ (hc.row.right (ShelfK.stab _ _ _ _ _))
 rw [hlT] at hln
 refine hc.q (hln) fun wQ hQ hc=>?_
 exact⟨rfl,hc.below⟩
end Go.Proofs.YtfekddndgakneaaGreatDoor
namespace Go.Proofs.YtfekddndgakneaaGreatDoor
open Go.Vc Go.RowKit Go.Fl
structure Fit (H:Sh) (n:Nat):Prop where
 ok:H.Ok
 down:H.down=false
 tot:H.tot=1048576
 len:H.txt.length<=271000+1200*n
theorem Fit.mono {H:Sh} {n m:Nat} (h:Fit H n) (hm:n<=m):Fit H m:=⟨h.ok,h.down,h.tot,Nat.le_trans h.len (by omega)⟩
theorem Fit.h0:Fit (H0 1048576) 0:=⟨H0.ok (by decide),rfl,rfl,by rw [H0.txt];have h1:=A0b;unfold E9 at h1;omega⟩
end Go.Proofs.YtfekddndgakneaaGreatDoor
section
namespace Go.Vc
open Go.RowKit
def SemC (P:Program) (n:Nat) (c:Code) (f:Fr) (w:World) (K:Exit->Fr->World->Prop):Prop:=R2 n c=true->∀ a,Agree n a f->c.wp P (B8j n K) a w
def B8E {α:Type} (l:α->List (Nat × Value)) (R:α->World->Prop) (K:Exit->Fr->World->Prop) (e:Exit) (f:Fr) (w:World):Prop:=
 match e with
 | .normal=>∃ x,B5B f (l x)/\R x w
 | e=>K e f w
def B80:Nat->Code->Code
 | 0,.seq a _=>a
 | k+1,.seq a b=>.seq a (B80 k b)
 | _,c=>c
def B8F:Nat->Code->Code
 | 0,.seq _ b=>b
 | k+1,.seq _ b=>B8F k b
 | _,_=>.skip
def B8G:Nat->Code->Bool
 | 0,.seq _ _=>true
 | k+1,.seq _ b=>B8G k b
 | _,_=>false
section
variable {P:Program} {L:Lay} {n:Nat}
theorem SemC.vc (hL:L.Ok P) {c:Code} {f:Fr} {w:World} {K:Exit->Fr->World->Prop} (h:A27 P L c f w K):SemC P n c f w K:=fun hc a hA=>X5 hL n c K a f w hA hc h
theorem SemC.cut (hL:L.Ok P) {α:Type} (l:α->List (Nat × Value)) (R:α->World->Prop) {K:Exit->Fr->World->Prop}:∀ (k:Nat) {c:Code},B8G k c=true->∀ {f:Fr} {w:World},A27 P L (B80 k c) f w (B8E l R K)->
  (∀ (x:α) (u:Fr) (w':World),R x w'->SemC P n (B8F k c) (mk (l x) u) w' K)->SemC P n c f w K
 | 0,.seq x y,_,f,w,h,hr=>fun hc a hA=>by
  simp only [R2,Bool.and_eq_true] at hc
  refine wp_seq (wp_mono (X5 hL n x _ a f w hA hc.1 h) fun e a1 w1 ⟨f1,h1,h2⟩=>?_)
  cases e with
  | normal=>
   obtain⟨x,hf,hR⟩:=h2
   have h3:=hr x f1 w1 hR hc.2 a1
   rw [A7O hf] at h3
   exact h3 h1
  | _=>exact⟨f1,h1,h2⟩
 | k+1,.seq x y,hk,f,w,h,hr=>fun hc a hA=>by
  simp only [R2,Bool.and_eq_true] at hc
  have h':A27 P L x f w (B8h (A27 P L (B80 k y)) (B8E l R K)):=h
  refine wp_seq (wp_mono (X5 hL n x _ a f w hA hc.1 h') fun e a1 w1 ⟨f1,h1,h2⟩=>?_)
  cases e with
  | normal=>exact SemC.cut hL l R k hk h2 hr hc.2 a1 h1
  | _=>exact⟨f1,h1,h2⟩
theorem A0c (hL:L.Ok P) {k:Nat} {fn:Func} {c:Code} {args:List Value} {w:World} {R:Ending->World->Prop}
  (hf:P.funcs[k]?=some fn) (hb:fn.body=some c) (ha:Nat.ble args.length fn.ntmps=true) (hc:R2 fn.ntmps c=true)
  (h:SemC P fn.ntmps c (A7J args) w (fnK L fn.results R)):Calls P k args.toArray w R:=by
 refine calls_of_wp hf hb ?_
 have hn:=Nat.le_of_ble_eq_true ha
 have hA:Agree fn.ntmps { tmps:=args.toArray++Array.replicate (fn.ntmps-args.toArray.size) undef,defers:=[] } (A7J args):=by
  refine⟨rfl,by simp;omega,fun t=>?_⟩
  unfold A7J
  rw [Array.getD_eq_getD_getElem?,List.getD_eq_getElem?_getD]
  rcases Nat.lt_or_ge t args.length with h1 | h1
  ·rw [Array.getElem?_append_left (by simpa using h1)]
   simp
  ·rw [Array.getElem?_append_right (by simpa using h1),List.getElem?_eq_none h1]
   simp only [Array.getElem?_replicate]
   split<;>rfl
 refine wp_mono (h hc _ hA) fun e a w ⟨f,h1,h2⟩=>?_
 cases e with
 | normal=>exact⟨h1.1,Q7 hL _ a f w h1 fn R h2⟩
 | ret=>exact⟨h1.1,Q7 hL _ a f w h1 fn R h2⟩
 | _=>exact h2.elim
end
end Go.Vc
end
section
namespace Go.Proofs.YtfekddndgakneaaGreatDoor
open Go.Vc Go.RowKit Go.Fl Go.ChangeShapes Go.WideShapes Go.ChangeAt
theorem RowD8.elem {S:Nat->Prop} {w:World} {A:Option Addr} {n cap:Nat} {l:List D} (hR:Row S w A n cap (l.map dC).flatten) (i:Nat) (hi:i<l.length):∃ ad,A=some ad/\Go.Vc.cellsAt w (ad.add (i*8)) (dC l[i]) 0:=by
 obtain⟨ad,e,h⟩:=Row.elemF hR (k:=8) (by decide) (Flat.map dC (fun d=>⟨rfl,rfl⟩) l) i (by rw [List.length_map];exact hi)
 rw [List.getElem_map] at h
 exact⟨ad,e,h⟩
section
variable {H:Type} {enc:TypeId × Value->H} {W:World} {sp:Nat->Bool} {hd:Bool} {v:Value} {d:DataW H} {p:List MemPlace} {base:Nat}
end
end Go.Proofs.YtfekddndgakneaaGreatDoor
end
namespace Go.Proofs.YtfekddndgakneaaGreatDoor
theorem T0:mapsRowed Tryz.prog=true:=by kernel_rfl
theorem T1:Tryz.prog.stopsHeard=true:=by kernel_rfl
theorem T2:Tryz.prog.mayEnter=true:=by kernel_rfl
theorem B4k:(Rows.flockNoneRow.plainKeys==Tryz.prog.plainKeys)=true:=by kernel_rfl
theorem A98:(Rows.flockNoneRow.lifted==Tryz.prog.liftsFinal)=true:=by kernel_rfl
theorem B4l:(Tryz.prog.make==some Rows.flockNoneRow.make)=true:=by kernel_rfl
theorem T3 (c:OpenClaim) (h:c.plainKeys=Rows.flockNoneRow.plainKeys):(c.plainKeys==Tryz.prog.plainKeys)=true:=h▸B4k
theorem M3 (c:OpenClaim) (h:c.lifted=Rows.flockNoneRow.lifted):(c.lifted==Tryz.prog.liftsFinal)=true:=h▸A98
theorem T4 (c:OpenClaim) (h:c.make=Rows.flockNoneRow.make):(Tryz.prog.make==some c.make)=true:=h▸B4l
end Go.Proofs.YtfekddndgakneaaGreatDoor
namespace Go.Proofs.YtfekddndgakneaaGreatDoor
open Go.Vc Go.RowKit Go.Fl
theorem A4s:(Tryz.prog.info? 3).map (fun i=>(i.zero,i.size,i.bytes))=some (some (.int .i64 0),1,8):=by kernel_rfl
theorem B6i (a:Option Addr) (n c:Nat) (ox oy:Operand) (w:World):(do eqGuard .eql 25 ox oy (.slice a n c) (.slice none 0 0);Go.binOp .eql 25 (.slice a n c) (.slice none 0 0):Sem Value).run Tryz.prog w=.ok (.bool a.isNone) w:=by
 have h:=Lib.run_eql_slice_nil (P:=Tryz.prog) w 25 3 a n c 0 0 Tryz.underlying25
 simp only [eqGuard]
 simpa using h
theorem A0n (A:Option Addr) (n cap:Nat) (css:List (List Value)) (hF:Flat 1 css) (hn:css.length=n) (hb:n<=1000000) (S:Nat->Prop) (w:World) (hR:Row S w A n cap css.flatten):
  Calls Tryz.prog 154 #[.slice A n cap] w (B3R 3 1 n css.flatten w):=by
 refine vE Tryz.func154 ?_
 refine⟨_,fun w=>B6i A n cap _ _ w,?_⟩
 cases A with
 | none=>
  obtain⟨h0,h1⟩:=Row.cut hR hF (by decide) hn rfl
  subst h0
  rw [h1]
  exact⟨none,0,rfl,Below.refl _ _,World.ownsRow_nil _ _ _ _⟩
 | some ad=>
  intro g w1 h1
  have hc:=Ctx.start w no (fun _ h=>h.elim)
  obtain⟨hc,hf,ho⟩:=Own.made hc h1 1 0 rfl (Nat.zero_le _)
  refine A02 Tryz.underlying25 A4s rfl (by decide) hc ho (hR.below h1.below) (by rw [hF.len,hn]) hF.ones (by omega) (by decide) ?_
  intro A' cap' w2 hc hf ho _
  rw [Nat.zero_add] at ho ⊢
  rw [List.nil_append] at ho
  exact⟨A',cap',rfl,hc.below,ho.row⟩
theorem A77 {S0 S:Nat->Prop} {w0 w:World} {l:List LB} (hc:Ctx S0 w0 S w l) (css:List (List Value)) (hF:Flat 1 css) {A:Option Addr} {cap:Nat} (ho:Own S w0.heap.size w l 3 1 A css.length cap css.flatten) (i:Nat) (hi:i<css.length) (j:Int) (hj:j=i+1):
  Calls Tryz.prog 156 #[.slice A css.length cap,.int .i64 i,.int .i64 j] w (fun en w'=>∃ A',en=.returned (.slice A' (css.length-1) cap)/\Ctx S0 w0 S w' l/\Fut S w S w'/\Own S w0.heap.size w' l 3 1 A' (css.length-1) cap (css.take i++css.drop (i+1)).flatten):=by
 cases hA:A with
 | none=>
  obtain⟨h0,_⟩:=ho.none' hA
  omega
 | some a=>
 obtain⟨g,cur,e1,hc,hcl,hct,hnc,hcm⟩:=ho.opened hc hA
 rw [hA] at e1
 cases e1
 have hM:cap<=9223372036854775807:=Nat.le_trans hcm (by decide)
 generalize hn:css.length=n at*
 refine vE Tryz.func156 ?_
 refine⟨⟨by omega,by omega,by omega,by omega⟩,?_⟩
 refine B4 (by show ((i:Int)==j)=false;rw [beq_eq_false_iff_ne];omega) ?_
 refine vD (.Q [0,1,2,3,4,5] (.n 6 (.q 7 .fin) .stop)) (fun _=>True) trivial ?_
 have hc:=hc.drew
 refine⟨⟨by omega,by omega,by omega,by omega⟩,?_⟩
 refine⟨⟨by omega,by omega,by omega,by omega⟩,?_⟩
 refine⟨?_,trivial⟩
 have hjn:j.toNat=i+1:=by omega
 have hyl:((css.drop (i+1)).flatten).length=(n-(i+1))*1:=by rw [(hF.drop _).len,List.length_drop,hn]
 have hcd:(cur.drop ((i+1)*1)).take ((css.drop (i+1)).flatten).length=(css.drop (i+1)).flatten:=by
  rw [hF.flat_drop,<-hct,List.drop_take,List.length_take,List.length_drop,hcl]
  congr 1
  omega
 have hcells:∀ ad:Addr,ad=(if (cap:Int)=j then (⟨g,0,none⟩:Addr) else (⟨g,0,none⟩:Addr).add (j.toNat*1))->Go.Vc.cellsAt w.drew ad (css.drop (i+1)).flatten 0:=by
  intro ad had
  by_cases hcj:(cap:Int)=j
  ·have:(css.drop (i+1)).flatten=[]:=List.eq_nil_of_length_eq_zero (by rw [hyl];omega)
   rw [this];trivial
  ·rw [if_neg hcj,Addr.add_lit,Nat.zero_add,hjn] at had
   rw [had]
   exact hc.cellsAt 0 rfl _ _ hcd
 refine A2p Tryz.underlying25 A4s hc hcl (n:=i) (m:=n-(i+1)) (c:=((cap:Int)-j).toNat) (by omega) hyl (hcells _ rfl) (hF.drop _).ones ?_ ?_ ?_
 ·have e0:(if (cap:Int)=0 then some (⟨g,0,none⟩:Addr) else (some (⟨g,0,none⟩:Addr)).map (·.add ((0:Int).toNat*1)))=some ⟨g,0,none⟩:=by split<;>rfl
  show Value.slice (if (cap:Int)=0 then some (⟨g,0,none⟩:Addr) else (some (⟨g,0,none⟩:Addr)).map (·.add ((0:Int).toNat*1))) ((i:Int)-0).toNat ((cap:Int)-0).toNat=_
  rw [e0]
  congr 1<;>omega
 ·show Value.slice (if (cap:Int)=j then some (⟨g,0,none⟩:Addr) else (some (⟨g,0,none⟩:Addr)).map (·.add (j.toNat*1))) ((n:Int)-j).toNat ((cap:Int)-j).toNat=_
  have e0:(if (cap:Int)=j then some (⟨g,0,none⟩:Addr) else (some (⟨g,0,none⟩:Addr)).map (·.add (j.toNat*1)))=some (if (cap:Int)=j then (⟨g,0,none⟩:Addr) else (⟨g,0,none⟩:Addr).add (j.toNat*1)):=by split<;>rfl
  rw [e0]
  congr 1
  omega
 intro w2 hc hf2
 refine⟨trivial,?_⟩
 have hn1:i+(n-(i+1))=n-1:=by omega
 rw [hn1]
 have hcur2:(cur.take (i*1)++(css.drop (i+1)).flatten++cur.drop ((i+(n-(i+1)))*1)).length=cap*1:=by
  rw [List.length_append,List.length_append,List.length_take,List.length_drop,hyl,hcl]
  omega
 have htk2:(cur.take (i*1)++(css.drop (i+1)).flatten++cur.drop ((i+(n-(i+1)))*1)).take ((n-1)*1)=(css.take i++css.drop (i+1)).flatten:=by
  have e1:(cur.take (i*1)++(css.drop (i+1)).flatten).length=(n-1)*1:=by rw [List.length_append,List.length_take,hyl,hcl];omega
  rw [List.take_left' e1,List.flatten_append,hF.flat_take,<-hct,List.take_take]
  congr 2
  omega
 generalize cur.take (i*1)++(css.drop (i+1)).flatten++cur.drop ((i+(n-(i+1)))*1)=cur2 at*
 refine⟨⟨by omega,by omega,by omega,by omega⟩,?_⟩
 refine A0F Tryz.underlying25 (z:=.int .i64 0) (fun w=>by kernel_rfl) (a:=⟨g,(n-1)*1,none⟩) (n:=1) (c:=cap-(n-1)) (by decide) ?_ (zs:=[.int .i64 0]) (by kernel_rfl) (hc.may 0 rfl ((n-1)*1) [.int .i64 0] (by rw [hcur2];show (n-1)*1+1<=_;omega) rfl) ?_
 ·show Value.slice (if (cap:Int)=((n-1:Nat):Int) then some (⟨g,0,none⟩:Addr) else (some (⟨g,0,none⟩:Addr)).map (·.add (((n-1:Nat):Int).toNat*1))) ((n:Int)-((n-1:Nat):Int)).toNat ((cap:Int)-((n-1:Nat):Int)).toNat=_
  rw [if_neg (by omega),Option.map_some,Addr.add_lit,Nat.zero_add,Int.toNat_natCast]
  congr 1<;>omega
 intro w3 h3
 have hC:=hc.set 0 rfl h3
 have hc:=hC.1
 have hlen3:(D3 cur2 ((n-1)*1) [.int .i64 0]).length=cap*1:=by rw [D4,hcur2]
 obtain⟨hc,ho⟩:=Ctx.closed hc 1 (n-1) cap (by omega) hcm hlen3
 refine⟨some ⟨g,0,none⟩,rfl,hc,hf2.trans hC.2,?_⟩
 rw [<-htk2]
 have e3:(D3 cur2 ((n-1)*1) [.int .i64 0]).take ((n-1)*1)=cur2.take ((n-1)*1):=by
  rw [H5 _ _ _ (by rw [hcur2];show (n-1)*1+1<=_;omega),List.append_assoc,List.take_left' (by rw [List.length_take,hcur2];omega)]
 rw [<-e3]
 exact ho
theorem A78 {S0 S:Nat->Prop} {w0 w:World} {l:List LB} (hc:Ctx S0 w0 S w l) (css:List (List Value)) (hF:Flat 1 css) {A:Option Addr} {cap:Nat} (ho:Own S w0.heap.size w l 9 1 A css.length cap css.flatten) (i:Nat) (hi:i<css.length) (j:Int) (hj:j=i+1):
  Calls Tryz.prog 54 #[.slice A css.length cap,.int .i64 i,.int .i64 j] w (fun en w'=>∃ A',en=.returned (.slice A' (css.length-1) cap)/\Ctx S0 w0 S w' l/\Fut S w S w'/\Own S w0.heap.size w' l 9 1 A' (css.length-1) cap (css.take i++css.drop (i+1)).flatten):=by
 cases hA:A with
 | none=>
  obtain⟨h0,_⟩:=ho.none' hA
  omega
 | some a=>
 obtain⟨g,cur,e1,hc,hcl,hct,hnc,hcm⟩:=ho.opened hc hA
 rw [hA] at e1
 cases e1
 have hM:cap<=9223372036854775807:=Nat.le_trans hcm (by decide)
 generalize hn:css.length=n at*
 refine vE Tryz.func54 ?_
 refine⟨⟨by omega,by omega,by omega,by omega⟩,?_⟩
 refine B4 (by show ((i:Int)==j)=false;rw [beq_eq_false_iff_ne];omega) ?_
 refine vD (.Q [0,1,2,3,4,5] (.n 6 (.q 7 .fin) .stop)) (fun _=>True) trivial ?_
 have hc:=hc.drew
 refine⟨⟨by omega,by omega,by omega,by omega⟩,?_⟩
 refine⟨⟨by omega,by omega,by omega,by omega⟩,?_⟩
 refine⟨?_,trivial⟩
 have hjn:j.toNat=i+1:=by omega
 have hyl:((css.drop (i+1)).flatten).length=(n-(i+1))*1:=by rw [(hF.drop _).len,List.length_drop,hn]
 have hcd:(cur.drop ((i+1)*1)).take ((css.drop (i+1)).flatten).length=(css.drop (i+1)).flatten:=by
  rw [hF.flat_drop,<-hct,List.drop_take,List.length_take,List.length_drop,hcl]
  congr 1
  omega
 have hcells:∀ ad:Addr,ad=(if (cap:Int)=j then (⟨g,0,none⟩:Addr) else (⟨g,0,none⟩:Addr).add (j.toNat*1))->Go.Vc.cellsAt w.drew ad (css.drop (i+1)).flatten 0:=by
  intro ad had
  by_cases hcj:(cap:Int)=j
  ·have:(css.drop (i+1)).flatten=[]:=List.eq_nil_of_length_eq_zero (by rw [hyl];omega)
   rw [this];trivial
  ·rw [if_neg hcj,Addr.add_lit,Nat.zero_add,hjn] at had
   rw [had]
   exact hc.cellsAt 0 rfl _ _ hcd
 refine A2p Tryz.underlying83 A4e hc hcl (n:=i) (m:=n-(i+1)) (c:=((cap:Int)-j).toNat) (by omega) hyl (hcells _ rfl) (hF.drop _).ones ?_ ?_ ?_
 ·have e0:(if (cap:Int)=0 then some (⟨g,0,none⟩:Addr) else (some (⟨g,0,none⟩:Addr)).map (·.add ((0:Int).toNat*1)))=some ⟨g,0,none⟩:=by split<;>rfl
  show Value.slice (if (cap:Int)=0 then some (⟨g,0,none⟩:Addr) else (some (⟨g,0,none⟩:Addr)).map (·.add ((0:Int).toNat*1))) ((i:Int)-0).toNat ((cap:Int)-0).toNat=_
  rw [e0]
  congr 1<;>omega
 ·show Value.slice (if (cap:Int)=j then some (⟨g,0,none⟩:Addr) else (some (⟨g,0,none⟩:Addr)).map (·.add (j.toNat*1))) ((n:Int)-j).toNat ((cap:Int)-j).toNat=_
  have e0:(if (cap:Int)=j then some (⟨g,0,none⟩:Addr) else (some (⟨g,0,none⟩:Addr)).map (·.add (j.toNat*1)))=some (if (cap:Int)=j then (⟨g,0,none⟩:Addr) else (⟨g,0,none⟩:Addr).add (j.toNat*1)):=by split<;>rfl
  rw [e0]
  congr 1
  omega
 intro w2 hc hf2
 refine⟨trivial,?_⟩
 have hn1:i+(n-(i+1))=n-1:=by omega
 rw [hn1]
 have hcur2:(cur.take (i*1)++(css.drop (i+1)).flatten++cur.drop ((i+(n-(i+1)))*1)).length=cap*1:=by
  rw [List.length_append,List.length_append,List.length_take,List.length_drop,hyl,hcl]
  omega
 have htk2:(cur.take (i*1)++(css.drop (i+1)).flatten++cur.drop ((i+(n-(i+1)))*1)).take ((n-1)*1)=(css.take i++css.drop (i+1)).flatten:=by
  have e1:(cur.take (i*1)++(css.drop (i+1)).flatten).length=(n-1)*1:=by rw [List.length_append,List.length_take,hyl,hcl];omega
  rw [List.take_left' e1,List.flatten_append,hF.flat_take,<-hct,List.take_take]
  congr 2
  omega
 generalize cur.take (i*1)++(css.drop (i+1)).flatten++cur.drop ((i+(n-(i+1)))*1)=cur2 at*
 refine⟨⟨by omega,by omega,by omega,by omega⟩,?_⟩
 refine A0F Tryz.underlying83 (z:=.string ⟨#[]⟩) (fun w=>by kernel_rfl) (a:=⟨g,(n-1)*1,none⟩) (n:=1) (c:=cap-(n-1)) (by decide) ?_ (zs:=[.string ⟨#[]⟩]) (by kernel_rfl) (hc.may 0 rfl ((n-1)*1) [.string ⟨#[]⟩] (by rw [hcur2];show (n-1)*1+1<=_;omega) rfl) ?_
 ·show Value.slice (if (cap:Int)=((n-1:Nat):Int) then some (⟨g,0,none⟩:Addr) else (some (⟨g,0,none⟩:Addr)).map (·.add (((n-1:Nat):Int).toNat*1))) ((n:Int)-((n-1:Nat):Int)).toNat ((cap:Int)-((n-1:Nat):Int)).toNat=_
  rw [if_neg (by omega),Option.map_some,Addr.add_lit,Nat.zero_add,Int.toNat_natCast]
  congr 1<;>omega
 intro w3 h3
 have hC:=hc.set 0 rfl h3
 have hc:=hC.1
 have hlen3:(D3 cur2 ((n-1)*1) [.string ⟨#[]⟩]).length=cap*1:=by rw [D4,hcur2]
 obtain⟨hc,ho⟩:=Ctx.closed hc 1 (n-1) cap (by omega) hcm hlen3
 refine⟨some ⟨g,0,none⟩,rfl,hc,hf2.trans hC.2,?_⟩
 rw [<-htk2]
 have e3:(D3 cur2 ((n-1)*1) [.string ⟨#[]⟩]).take ((n-1)*1)=cur2.take ((n-1)*1):=by
  rw [H5 _ _ _ (by rw [hcur2];show (n-1)*1+1<=_;omega),List.append_assoc,List.take_left' (by rw [List.length_take,hcur2];omega)]
 rw [<-e3]
 exact ho
structure Ros where
 ep:Int
 l:List Int
 new:Int
def Ros0:Ros:=⟨0,[],0⟩
structure Ros.Ok (r:Ros):Prop where
 ep:B9 r.ep
 l:∀ n∈r.l,B9 n
 new:B9 r.new
def eqI (a b:Int):Bool:=a==b
theorem Q3 (a b:Int):eqI a b=true↔a=b:=beq_iff_eq
def eqR (a b:Ros):Bool:=a.ep==b.ep&&(a.new==b.new&&D7 eqI a.l b.l)
theorem A2P {a b:Ros}:eqR a b=true↔a=b:=by
 constructor
 ·intro h
  unfold eqR at h
  rw [Bool.and_eq_true,Bool.and_eq_true,beq_iff_eq,beq_iff_eq,N5 Q3] at h
  obtain⟨e1,l1,n1⟩:=a
  obtain⟨e2,l2,n2⟩:=b
  obtain⟨h1,h2,h3⟩:=h
  simp only at h1 h2 h3
  rw [h1,h2,h3]
 ·rintro rfl
  unfold eqR
  rw [beq_self_eq_true,beq_self_eq_true,(N5 Q3).2 rfl]
  rfl
def inR (n:Int):Bool:=decide (1<=n)&&decide (n<=5)
def A31 (r:Ros):Bool:=decide (1<=r.ep)&&(decide (r.ep<=J9)&&(decide (1<=r.l.length)&&(decide (r.l.length<=5)&&(r.l.all inR&&(decide r.l.Nodup&&(r.new==0||(decide (1<r.l.length)&&r.l.getLastD 0==r.new)))))))
theorem A0o {r:Ros}:A31 r=true↔(1<=r.ep/\r.ep<=J9)/\(1<=r.l.length/\r.l.length<=5)/\(∀ n∈r.l,1<=n/\n<=5)/\r.l.Nodup/\(r.new=0\/(1<r.l.length/\r.l.getLastD 0=r.new)):=by
 unfold A31
 rw [Bool.and_eq_true,Bool.and_eq_true,Bool.and_eq_true,Bool.and_eq_true,Bool.and_eq_true,Bool.and_eq_true,Bool.or_eq_true,Bool.and_eq_true,decide_eq_true_eq,decide_eq_true_eq,decide_eq_true_eq,decide_eq_true_eq,decide_eq_true_eq,decide_eq_true_eq,beq_iff_eq,beq_iff_eq,List.all_eq_true]
 have:∀ n,inR n=true↔1<=n/\n<=5:=fun n=>by unfold inR;rw [Bool.and_eq_true,decide_eq_true_eq,decide_eq_true_eq]
 constructor
 ·rintro⟨a,b,c,d,e,f,g⟩
  exact⟨⟨a,b⟩,⟨c,d⟩,fun n hn=>(this n).1 (e n hn),f,g⟩
 ·rintro⟨⟨a,b⟩,⟨c,d⟩,e,f,g⟩
  exact⟨a,b,c,d,fun n hn=>(this n).2 (e n hn),f,g⟩
theorem A6v {l:List Int} (h:1<=l.length):l.getLastD 0∈l:=by
 cases l with
 | nil=>exact absurd h (by decide)
 | cons a r=>rw [List.getLastD_cons,List.getLastD_eq_getLast?];cases r with
  | nil=>simp
  | cons b t=>simp [List.getLast?_eq_some_getLast]
theorem B6j {r:Ros} (h:A31 r=true):r.Ok:=by
 obtain⟨⟨a,b⟩,⟨c,d⟩,e,f,g⟩:=A0o.1 h
 have hm:J9=1099511627776:=rfl
 refine⟨by unfold B9;omega,fun n hn=>by have:=e n hn;unfold B9;omega,?_⟩
 rcases g with g | ⟨_,g⟩
 ·rw [g];unfold B9;decide
 ·rw [<-g]
  have:=e _ (A6v c)
  unfold B9
  omega
structure Wd where
 kind:Int
 frm:Int
 to:Int
 ep:Int
 seq:Int
 req:Int
 til:Int
 res:Res
 ros:Ros
 deeds:List D
 st:Stt
def Wd0:Wd:=⟨0,0,0,0,0,0,0,⟨0,0⟩,Ros0,[],Stt0⟩
structure Wd.Ok (w:Wd):Prop where
 kind:B9 w.kind
 frm:B9 w.frm
 to:B9 w.to
 ep:B9 w.ep
 seq:B9 w.seq
 req:B9 w.req
 til:B9 w.til
 err:B9 w.res.err
 ver:B9 w.res.ver
 ros:w.ros.Ok
 deeds:∀ d∈w.deeds,d.Ok
 st:w.st.Ok
 five:w.st.lows.length=5
def A2f (n:Int):Bool:=decide (0<=n)&&decide (n<=J9)
def A6w (n:Int):Bool:=decide (0<=n)&&decide (n<=5)
theorem E4 {n:Int}:A2f n=true↔0<=n/\n<=J9:=by unfold A2f;rw [Bool.and_eq_true,decide_eq_true_eq,decide_eq_true_eq]
theorem A0d {n:Int}:A6w n=true↔0<=n/\n<=5:=by unfold A6w;rw [Bool.and_eq_true,decide_eq_true_eq,decide_eq_true_eq]
def A99 (w:Wd):Bool:=(decide (1<=w.kind)&&decide (w.kind<=11))&&(A6w w.frm&&(A6w w.to&&(!(w.frm==w.to)&&(A2f w.ep&&(A2f w.seq&&(A2f w.req&&(A2f w.til&&(A2f w.res.ver&&(decide (0<=w.res.err)&&decide (w.res.err<=13))))))))))
def J5 (w:Wd):Bool:=A99 w&&((eqR w.ros Ros0||A31 w.ros)&&(decide (w.deeds.length<=60)&&(w.deeds.all J4&&Q1 w.st)))
theorem T5 {w:Wd}:A99 w=true↔(1<=w.kind/\w.kind<=11)/\(0<=w.frm/\w.frm<=5)/\(0<=w.to/\w.to<=5)/\w.frm≠w.to/\(0<=w.ep/\w.ep<=J9)/\(0<=w.seq/\w.seq<=J9)/\(0<=w.req/\w.req<=J9)/\(0<=w.til/\w.til<=J9)/\(0<=w.res.ver/\w.res.ver<=J9)/\(0<=w.res.err/\w.res.err<=13):=by
 unfold A99
 simp only [Bool.and_eq_true,decide_eq_true_eq,E4,A0d,Bool.not_eq_true',beq_eq_false_iff_ne,ne_eq]
theorem I9 {w:Wd}:J5 w=true↔A99 w=true/\(w.ros=Ros0\/A31 w.ros=true)/\w.deeds.length<=60/\(∀ d∈w.deeds,J4 d=true)/\Q1 w.st=true:=by
 unfold J5
 simp only [Bool.and_eq_true,Bool.or_eq_true,decide_eq_true_eq,List.all_eq_true,A2P]
def eqW (a b:Wd):Bool:=(a.kind==b.kind&&(a.frm==b.frm&&(a.to==b.to&&(a.ep==b.ep&&a.seq==b.seq))))&&((a.req==b.req&&(a.til==b.til&&((a.res.err==b.res.err&&a.res.ver==b.res.ver)&&eqR a.ros b.ros)))&&(D7 eqD a.deeds b.deeds&&eqS a.st b.st))
theorem M4 {a b:Wd}:eqW a b=true↔a=b:=by
 constructor
 ·intro h
  unfold eqW at h
  simp only [Bool.and_eq_true,beq_iff_eq,A2P,N5 (fun _ _=>A5L),A7Y] at h
  obtain⟨k1,f1,t1,e1,s1,q1,u1,⟨r1,v1⟩,o1,d1,b1⟩:=a
  obtain⟨k2,f2,t2,e2,s2,q2,u2,⟨r2,v2⟩,o2,d2,b2⟩:=b
  obtain⟨⟨h1,h2,h3,h4,h5⟩,⟨h6,h7,⟨h8,h9⟩,h10⟩,h11,h12⟩:=h
  simp only at h1 h2 h3 h4 h5 h6 h7 h8 h9 h10 h11 h12
  subst h1 h2 h3 h4 h5 h6 h7 h8 h9 h10 h11 h12
  rfl
 ·rintro rfl
  unfold eqW
  rw [A2P.2 rfl,(N5 (fun _ _=>A5L)).2 rfl,A7Y.2 rfl]
  simp
def A4F (w:Wd):List Int:=[w.kind,w.frm,w.to,w.ep,w.seq,w.req,w.til,w.res.err,w.res.ver,w.ros.ep,w.ros.new]
def A0B (w:Wd):V:=J3 ((A4F w).map I4++[J3 (w.ros.l.map I4),J3 (w.deeds.map E3),vStr ⟨(E1 w.st).toArray⟩])
def O3 (w:Wd):List UInt8:=A2W (A0B w)
def Z6 (w:Wd):List UInt8:=if J5 w then U0 (O3 w)++O3 w else []
theorem Wd.ok_of {w:Wd} (h:J5 w=true) (hd:∀ d∈w.deeds,d.Ok) (h5:w.st.lows.length=5):w.Ok:=by
 obtain⟨h1,h2,h3,h4,h6⟩:=I9.1 h
 obtain⟨⟨a1,a2⟩,⟨b1,b2⟩,⟨c1,c2⟩,_,⟨d1,d2⟩,⟨e1,e2⟩,⟨f1,f2⟩,⟨g1,g2⟩,⟨i1,i2⟩,⟨j1,j2⟩⟩:=T5.1 h1
 have hm:J9=1099511627776:=rfl
 have hr:w.ros.Ok:=by
  rcases h2 with h2 | h2
  ·rw [h2];exact⟨by unfold B9 Ros0;decide,(fun n hn=>by cases hn),by unfold B9 Ros0;decide⟩
  ·exact B6j h2
 exact⟨by unfold B9;omega,by unfold B9;omega,by unfold B9;omega,by unfold B9;omega,by unfold B9;omega,by unfold B9;omega,by unfold B9;omega,by unfold B9;omega,by unfold B9;omega,hr,hd,A2F h5 h6,h5⟩
theorem A6x (f:Nat):∀ (l:List Int) (r:List V) (n:Int),n+l.length<=6000->A03 (cnt (f+1)) (l.map I4++r) n=A03 (cnt (f+1)) r (n+l.length)
 | [],r,n,_=>by simp
 | a::l,r,n,h=>by
  simp only [List.length_cons] at h
  rw [List.map_cons,List.cons_append,D6,O0,if_neg (by omega),A6x f l r (n+1) (by omega)]
  exact congrArg _ (by simp only [List.length_cons];omega)
theorem A87 (l:List Int) (h:∀ n∈l,B9 n):okL (l.map I4):=A04 I4 l fun n hn=>L1 n (h n hn)
theorem A4t:∀ {a b:List V},okL a->okL b->okL (a++b)
 | [],b,_,h=>h
 | x::a,b,ha,hb=>by rw [okL] at ha;rw [List.cons_append,okL];exact⟨ha.1,A4t ha.2 hb⟩
theorem Wd.Ok.nums_ok {w:Wd} (h:w.Ok):∀ n∈A4F w,B9 n:=fun n hn=>by
 unfold A4F at hn
 simp only [List.mem_cons,List.not_mem_nil,or_false] at hn
 rcases hn with rfl | rfl | rfl | rfl | rfl | rfl | rfl | rfl | rfl | rfl | rfl
 ·exact h.kind
 ·exact h.frm
 ·exact h.to
 ·exact h.ep
 ·exact h.seq
 ·exact h.req
 ·exact h.til
 ·exact h.err
 ·exact h.ver
 ·exact h.ros.ep
 ·exact h.ros.new
theorem A5n {w:Wd} (h:J5 w=true):w.ros.l.length<=5:=by
 obtain⟨_,h2,_⟩:=I9.1 h
 rcases h2 with h2 | h2
 ·rw [h2];exact Nat.zero_le _
 ·exact (A0o.1 h2).2.1.2
theorem A6y {w:Wd} (h:J5 w=true):A0t (A0B w)=true:=by
 obtain⟨h1,h2,h3,h4,h6⟩:=I9.1 h
 have hr:=A5n h
 have e1:cnt (4+1) (J3 (w.ros.l.map I4))<=6:=by
  rw [K0]
  have:=M8 (cnt 4) (fun v=>(H6 4 v).1) 1 (w.ros.l.map I4) 1 (fun x hx=>by
   obtain⟨n,_,rfl⟩:=List.mem_map.1 hx
   rw [O0];decide) (by rw [List.length_map];omega)
  rw [List.length_map] at this
  omega
 have e2:cnt (4+1) (J3 (w.deeds.map E3))<=541:=by
  rw [K0]
  have:=M8 (cnt 4) (fun v=>(H6 4 v).1) 9 (w.deeds.map E3) 1 (fun x hx=>by
   obtain⟨d,hd,rfl⟩:=List.mem_map.1 hx
   rw [L9 (h4 d hd),A5b];decide) (by rw [List.length_map];omega)
  rw [List.length_map] at this
  omega
 have r1:=(H6 (4+1) (J3 (w.ros.l.map I4))).1
 have r2:=(H6 (4+1) (J3 (w.deeds.map E3))).1
 have e:cnt 6 (A0B w)<=6000:=by
  unfold A0B
  rw [K0,A6x 4 _ _ _ (by unfold A4F;simp)]
  have e11:((A4F w).length:Int)=11:=rfl
  rw [e11]
  simp only [show (4:Nat)+1=5 from rfl] at e1 e2 r1 r2 ⊢
  rw [D6,if_neg (by omega),D6,if_neg (by omega),D6,A3Q,if_neg (by omega)]
  simp only [A03]
  omega
 unfold A0t
 exact decide_eq_true e
theorem A3u:∀ a b:List V,L3 (a++b)=L3 a++L3 b
 | [],b=>by simp [L3]
 | x::a,b=>by rw [List.cons_append,L3,L3,A3u a b,List.append_assoc]
theorem A88 {w:Wd} (hk:w.Ok) (h:J5 w=true):okV (A0B w):=by
 obtain⟨h1,h2,h3,h4,h6⟩:=I9.1 h
 refine K1 _ (A4t (A87 _ hk.nums_ok) ?_)
 rw [okL,okL,okL,okL]
 exact⟨K1 _ (A87 _ hk.ros.l),K1 _ (A04 E3 _ fun d hd=>A5c (hk.deeds d hd) (h4 d hd)),A3R _,trivial⟩
theorem A5o {w:Wd} (hk:w.Ok) (h:J5 w=true):(G6 (A0B w)).length<=270000:=by
 obtain⟨h1,h2,h3,h4,h6⟩:=I9.1 h
 have hr:=A5n h
 unfold A0B
 rw [A0R,A3u,List.length_append]
 have b1:=K5 30 ((A4F w).map I4) (fun x hx=>by
  obtain⟨n,hn,rfl⟩:=List.mem_map.1 hx
  exact E7 n (hk.nums_ok n hn))
 have b2:=K5 30 (w.ros.l.map I4) (fun x hx=>by
  obtain⟨n,hn,rfl⟩:=List.mem_map.1 hx
  exact E7 n (hk.ros.l n hn))
 have b3:=K5 1009 (w.deeds.map E3) (fun x hx=>by
  obtain⟨d,hd,rfl⟩:=List.mem_map.1 hx
  rw [L9 (h4 d hd)]
  exact A3n (hk.deeds d hd) (h4 d hd))
 rw [List.length_map] at b1 b2 b3
 have e11:(A4F w).length=11:=rfl
 rw [e11] at b1
 have c2:=P4 (w.ros.l.map I4) 150 (by omega) (by omega)
 have c3:=P4 (w.deeds.map E3) 60540 (by omega) (by omega)
 have c4:=P3 ⟨(E1 w.st).toArray⟩ (by rw [H2];have:=A07 hk.five h6;omega)
 rw [H2] at c4
 have c5:=A07 hk.five h6
 rw [L3,L3,L3,L3,List.length_append,List.length_append,List.length_append]
 simp only [List.length_nil]
 omega
theorem A21 {w:Wd} (hk:w.Ok) (h:J5 w=true):O3 w=I8 (A0B w):=A5d (A6y h) (by have:=A5o hk h;omega)
theorem A3v {w:Wd} (hk:w.Ok) (h:J5 w=true):(O3 w).length<=270009:=by
 rw [A21 hk h]
 have h1:=A5o hk h
 have h2:=F2 (u:=(G6 (A0B w)).length) (by omega)
 rw [D8]
 omega
theorem B0A {w:Wd} (hk:w.Ok) (h:J5 w=true):M7 (O3 w)=(A0B w,0):=by
 rw [A21 hk h]
 exact A1T _ (A6y h) (A88 hk h) (by have:=A5o hk h;omega)
theorem B4m {w:Wd} (hk:w.Ok):(Z6 w).length<=270017:=by
 unfold Z6
 cases h:J5 w with
 | false=>exact Nat.zero_le _
 | true=>
  have:=A3v hk h
  rw [if_pos rfl,List.length_append,D5]
  omega
theorem A0p {w:Wd} (h:J5 w=true):Z6 w=U0 (O3 w)++O3 w:=by unfold Z6;rw [if_pos h]
theorem A5p {w:Wd} (h:J5 w=false):Z6 w=[]:=by unfold Z6;rw [h];rfl
theorem A79 {w:Wd} (h:J5 w=true):Z6 w≠[]:=fun e=>by
 have:=congrArg List.length e
 rw [A0p h,List.length_append,D5] at this
 simp only [List.length_nil] at this
 omega
def B0B (v:V):Wd:=⟨vN (atV v 0),vN (atV v 1),vN (atV v 2),vN (atV v 3),vN (atV v 4),vN (atV v 5),vN (atV v 6),⟨vN (atV v 7),vN (atV v 8)⟩,⟨vN (atV v 9),(vL (atV v 11)).map vN,vN (atV v 10)⟩,(vL (atV v 12)).map fun x=>(ofD x).1,(Q2 (vS (atV v 13)).data.toList).1⟩
def A1u (v:V):Option Wd:=if (vL v).length≠14 then none else if (vL (atV v 12)).all (fun x=>(ofD x).2)=false then none else if (Q2 (vS (atV v 13)).data.toList).2≠0 then none else some (B0B v)
def A56 (s:List UInt8):Option Wd:=
 if s.length<8 then none else if (M7 (s.drop 8)).2≠0 then none else match A1u (M7 (s.drop 8)).1 with
 | none=>none
 | some w=>if Z6 w=s then some w else none
theorem B0C {w:Wd} (hk:w.Ok) (h:J5 w=true):A1u (A0B w)=some w:=by
 obtain⟨h1,h2,h3,h4,h6⟩:=I9.1 h
 have e1:(vL (A0B w)).length=14:=rfl
 have e2:vL (atV (A0B w) 12)=w.deeds.map E3:=rfl
 have e3:vL (atV (A0B w) 11)=w.ros.l.map I4:=rfl
 have e4:(vS (atV (A0B w) 13)).data.toList=E1 w.st:=rfl
 have e5:∀ d∈w.deeds,ofD (E3 d)=(d,true):=fun d hd=>by rw [L9 (h4 d hd)];exact A1Y d (h4 d hd)
 unfold A1u
 rw [if_neg (by rw [e1];decide),e2,e4,Y1 w.st hk.five h6,if_neg,if_neg (fun h=>h rfl)]
 ·unfold B0B
  rw [e2,e3,e4,Y1 w.st hk.five h6]
  have d1:(w.deeds.map E3).map (fun x=>(ofD x).1)=w.deeds:=by
   rw [List.map_map]
   conv=>rhs;rw [<-List.map_id w.deeds]
   exact List.map_congr_left fun d hd=>by show (ofD (E3 d)).1=d;rw [e5 d hd]
  have d2:(w.ros.l.map I4).map vN=w.ros.l:=by
   rw [List.map_map]
   conv=>rhs;rw [<-List.map_id w.ros.l]
   exact List.map_congr_left fun n _=>rfl
  rw [d1,d2]
  rfl
 ·rw [Bool.not_eq_false,List.all_map,List.all_eq_true]
  exact fun d hd=>by show (ofD (E3 d)).2=true;rw [e5 d hd]
theorem A0q {w:Wd} (hk:w.Ok) (h:J5 w=true):A56 (Z6 w)=some w:=by
 unfold A56
 rw [if_neg (by rw [A0p h,List.length_append,D5];omega)]
 have e:(Z6 w).drop 8=O3 w:=by rw [A0p h,List.drop_left' (D5 _)]
 rw [e,B0A hk h,if_neg (fun h=>h rfl)]
 simp only [B0C hk h,if_pos]
theorem A5q {s:List UInt8} {w:Wd} (h:A56 s=some w):J5 w=true/\Z6 w=s:=by
 unfold A56 at h
 split at h
 ·cases h
 ·rename_i h8
  split at h
  ·cases h
  ·split at h
   ·cases h
   ·split at h
    ·rename_i e
     cases h
     refine⟨?_,e⟩
     cases hm:J5 w with
     | true=>rfl
     | false=>
      rw [A5p hm] at e
      rw [<-e] at h8
      exact absurd (show ([]:List UInt8).length<8 by decide) h8
    ·cases h
theorem B4n {a b:Wd} (ka:a.Ok) (kb:b.Ok) (ha:J5 a=true) (hb:J5 b=true) (h:Z6 a=Z6 b):a=b:=by
 have h1:=A0q ka ha
 rw [h,A0q kb hb] at h1
 exact (Option.some.inj h1).symm
theorem B9o {a b a' b' c:Int} (h1:0<=a/\a<65521) (h2:0<=b/\b<65521) (h3:0<=a'/\a'<65521) (h4:0<=b'/\b'<65521) (e1:((a*3-b*5) % 65521+c) % 65521=((a'*3-b'*5) % 65521+c) % 65521) (e2:((a*5+b*3) % 65521+0) % 65521=((a'*5+b'*3) % 65521+0) % 65521):a=a'/\b=b':=by
 have f1:(a*3-b*5) % 65521=(a'*3-b'*5) % 65521:=by
  have:=(Int.emod_add_cancel_right c).1 e1
  rwa [Int.emod_emod,Int.emod_emod] at this
 have f2:(a*5+b*3) % 65521=(a'*5+b'*3) % 65521:=by
  have:=(Int.emod_add_cancel_right 0).1 e2
  rwa [Int.emod_emod,Int.emod_emod] at this
 clear e1 e2
 obtain⟨k,hk⟩:=Int.dvd_of_emod_eq_zero (Int.emod_eq_emod_iff_emod_sub_eq_zero.1 f1)
 obtain⟨m,hm⟩:=Int.dvd_of_emod_eq_zero (Int.emod_eq_emod_iff_emod_sub_eq_zero.1 f2)
 clear f1 f2
 obtain⟨x,hx⟩:∃ x,a-a'=x:=⟨_,rfl⟩
 obtain⟨y,hy⟩:∃ y,b-b'=y:=⟨_,rfl⟩
 have g1:34*x=65521*(3*k+5*m):=by omega
 have g2:34*y=65521*(3*m-5*k):=by omega
 obtain⟨p,hp⟩:∃ p,3*k+5*m=p:=⟨_,rfl⟩
 obtain⟨q,hq⟩:∃ q,3*m-5*k=q:=⟨_,rfl⟩
 rw [hp] at g1
 rw [hq] at g2
 clear hk hm hp hq
 have x0:x=0:=by omega
 have y0:y=0:=by omega
 omega
theorem B2r {z z':Int × Int} (h:zOk z) (h':zOk z') {c:UInt8} (e:A6G z c=A6G z' c):z=z':=by
 obtain⟨h1,h2⟩:=B9o h.1 h.2 h'.1 h'.2 (congrArg Prod.fst e) (congrArg Prod.snd e)
 exact Prod.ext h1 h2
theorem B81 {p x y:Int} (h1:0<=x/\x<256) (h2:0<=y/\y<256) (e:(p % 65521+(x+1)) % 65521=(p % 65521+(y+1)) % 65521):x=y:=by omega
theorem B0D {z:Int × Int} {c c':UInt8} (e:A6G z c=A6G z c'):c=c':=by
 have h1:=c.toNat_lt
 have h2:=c'.toNat_lt
 have:=B81 (p:=z.1*3-z.2*5) (x:=c.toNat) (y:=c'.toNat) (by omega) (by omega) (congrArg Prod.fst e)
 exact UInt8.toNat_inj.1 (by omega)
theorem B2s:∀ (l:List UInt8) {z z':Int × Int},zOk z->zOk z'->zOn z l=zOn z' l->z=z'
 | [],_,_,_,_,e=>e
 | c::r,z,z',h,h',e=>B2r h h' (B2s r (A1P z c) (A1P z' c) e)
theorem B2t (z:Int × Int) (a b:List UInt8):zOn z (a++b)=zOn (zOn z a) b:=by unfold zOn;rw [List.foldl_append]
theorem B4o {z:Int × Int} (h:zOk z) {t:List UInt8} {i:Nat} {c:UInt8} (hi:i<t.length) (e:zOn z t=zOn z (t.set i c)):t[i]=c:=by
 have e1:t=t.take i++t[i]::t.drop (i+1):=by rw [List.getElem_cons_drop hi,List.take_append_drop]
 have e2:t.set i c=t.take i++c::t.drop (i+1):=List.set_eq_take_append_cons_drop .. |>.trans (by rw [if_pos hi])
 have hz:=A1Q (t.take i) z h
 rw [e2] at e
 have e3:zOn z t=zOn z (t.take i++t[i]::t.drop (i+1)):=congrArg _ e1
 rw [e3,B2t,B2t] at e
 exact B0D (B2s (t.drop (i+1)) (A1P _ _) (A1P _ _) e)
theorem B2u {z z':Int × Int} (h:zOk z) (h':zOk z') (e:V8 z=V8 z'):z=z':=by
 have h1:=A2I h
 rw [e,A2I h'] at h1
 exact (Prod.mk.inj h1).1.symm
theorem z01:zOk (0,1):=⟨⟨by decide,by decide⟩,⟨by decide,by decide⟩⟩
theorem B0E {t:List UInt8} {i:Nat} {c:UInt8} (hi:i<t.length) (e:U0 t=U0 (t.set i c)):t[i]=c:=
 B4o z01 hi (B2u (A1Q _ _ z01) (A1Q _ _ z01) e)
theorem B2v {w:Wd} (h:J5 w=true) {i:Nat} {c:UInt8} (hi:i<(Z6 w).length) (hc:(Z6 w)[i]≠c):A56 ((Z6 w).set i c)=none:=by
 cases hg:A56 ((Z6 w).set i c) with
 | none=>rfl
 | some x=>
  exfalso
  obtain⟨hx,hp⟩:=A5q hg
  rw [A0p hx] at hp
  have e0:=A0p h
  have hl:(Z6 w).length=8+(O3 w).length:=by rw [e0,List.length_append,D5]
  by_cases h8:i<8
  ·have e1:((Z6 w).set i c).drop 8=O3 w:=by rw [List.drop_set_of_lt h8,e0,List.drop_left' (D5 _)]
   have e2:((Z6 w).set i c).drop 8=O3 x:=by rw [<-hp,List.drop_left' (D5 _)]
   have e3:O3 x=O3 w:=e2.symm.trans e1
   rw [e3] at hp
   rw [<-e0] at hp
   have:=congrArg (fun l=>l[i]?) hp
   simp only [List.getElem?_set_self hi] at this
   rw [List.getElem?_eq_getElem hi] at this
   exact hc (Option.some.inj this)
  ·have hs:(Z6 w).set i c=U0 (O3 w)++(O3 w).set (i-8) c:=by
    rw [e0,List.set_append_right _ _ (by rw [D5];omega),D5]
   rw [hs] at hp
   have m1:U0 (O3 x)=U0 (O3 w):=by
    have:=congrArg (List.take 8) hp
    rw [List.take_left' (D5 _),List.take_left' (D5 _)] at this
    exact this
   have m2:O3 x=(O3 w).set (i-8) c:=by
    have:=congrArg (List.drop 8) hp
    rw [List.drop_left' (D5 _),List.drop_left' (D5 _)] at this
    exact this
   rw [m2] at m1
   have hi8:i-8<(O3 w).length:=by omega
   have:=B0E hi8 m1.symm
   refine hc (Eq.trans ?_ this)
   have e1:(Z6 w)[i]?=(O3 w)[i-8]?:=by rw [e0,List.getElem?_append_right (by rw [D5];omega),D5]
   rw [List.getElem?_eq_getElem hi,List.getElem?_eq_getElem hi8] at e1
   exact Option.some.inj e1
end Go.Proofs.YtfekddndgakneaaGreatDoor
