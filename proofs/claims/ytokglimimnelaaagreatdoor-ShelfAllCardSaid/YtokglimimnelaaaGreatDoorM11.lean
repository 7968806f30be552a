import Derived.Test.YtokglimimnelaaaGreatDoorM10
set_option linter.unusedVariables false
set_option linter.unusedSimpArgs false
section
namespace Go.Vc
open Go Go.RowKit
open Go.Proofs.YtokglimimnelaaaGreatDoor (no)
set_option maxRecDepth 100000
def In (G:Nat->Prop) (R:Kn):Kn:=fun S w=>∃ Sr:Nat->Prop,(∀ x,Sr x->S x/\G x)/\R Sr w
theorem In.stab {G:Nat->Prop} {R:Kn} (hR:Stab R):Stab (In G R):=fun S w S' w' h f=>by
 obtain⟨Sr,h1,h2⟩:=h
 exact⟨Sr,fun x hx=>⟨f.1 x (h1 x hx).1,(h1 x hx).2⟩,hR _ _ _ _ h2 ⟨fun _ h=>h,fun x hx=>f.2 x (h1 x hx).1⟩⟩
def ownG (S:Nat->Prop) (w:World):Nat->Prop:=fun x=>S x\/w.heap.size<=x
def KL (w:World) (g:Nat) (S:Nat->Prop) (R:Kn):Kn:=fun S' w'=>Keep w (fun x=>x=g) S' w'/\In (ownG S w) R S' w'
theorem KL.stab {w:World} {g:Nat} {S:Nat->Prop} {R:Kn} (hR:Stab R):Stab (KL w g S R):=(Keep.stab _ _).and (In.stab hR)
section
variable {w w1 w':World} {S S1:Nat->Prop} {l:List LB} {os:List OR} {R:Kn} {g T:Nat} {cs cs':List Value}
theorem CtxF.enterL (hB:Blk w g T cs) (hS:∀ x,S x->x<w.heap.size/\x≠g) (hR:R S w) (hs:Stab R):CtxF no (bare w) (fun x=>x<w.heap.size/\x≠g) w [(g,T,cs)] [] (KL w g S R):=
 CtxF.enter (fun x hx=>hx.1) ⟨Nat.zero_le _,fun h=>h.2 rfl,hB,(fun x hx=>by cases hx),trivial⟩ trivial ⟨fun x hx hn=>⟨⟨hx,hn⟩,rfl⟩,S,fun x hx=>⟨hS x hx,.inl hx⟩,hR⟩ (KL.stab hs)
theorem CtxF.sizeL (hc:CtxF no (bare w) S1 w1 l os (KL w g S R)) (k:Nat) (hk:l[k]?=some (g,T,cs)):w.heap.size<=w1.heap.size:=by
 have hB:=(hc.blk k hk).lt
 by_cases e:g=w.heap.size-1
 ·omega
 ·rcases Nat.eq_zero_or_pos w.heap.size with h0 | h0
  ·omega
  ·have:=heap_lt (hc.row.1 (w.heap.size-1) (by omega) (fun h=>e h.symm)).2 (by omega)
   omega
theorem CtxF.inL (hc:CtxF no (bare w) S1 w1 l os (KL w g S R)) (hs:Stab R) (k:Nat) (hk:l[k]?=some (g,T,cs)):
  ∃ Sr:Nat->Prop,R Sr w1/\(∀ x,Sr x->S1 x)/\∀ {w':World} {l':List LB} {R':Kn} {os':List OR} {E:Nat->Prop},CtxF no (bare w) E w' l' os' R'/\Fut S1 w1 E w'->(∀ x,ext Sr w1 w' x->E x\/∃ o∈os',∃ a,o.A=some a/\a.block=x)->∀ {X:Kn},Stab X->X (fun x=>ext Sr w1 w' x/\E x) w'->CtxF no (bare w) E w' l' os' (KL w g S (fun S w=>R S w/\X S w)):=by
 have hsz:=hc.sizeL k hk
 obtain⟨hk1,Sr,h1,h2⟩:=hc.row
 refine⟨Sr,h2,fun x hx=>(h1 x hx).1,fun {w' l' R' os' E} hh hE {X} hX hx=>?_⟩
 obtain⟨hc',hf⟩:=hh
 refine hc'.now (fun _=>⟨Keep.stab _ _ _ _ _ _ hk1 hf,fun x=>ext Sr w1 w' x/\E x,fun x hx=>⟨hx.2,?_⟩,hs _ _ _ _ h2 ⟨fun x hx=>⟨.inl hx,hf.1 x (h1 x hx).1⟩,fun x hx=>hf.2 x (h1 x hx).1⟩,hx⟩) (KL.stab (hs.and hX))
 rcases hx.1 with h | h
 ·exact (h1 x h).2
 ·exact .inr (Nat.le_trans hsz h.1)
theorem CtxF.nowL {R':Kn} (hc:CtxF no (bare w) S1 w1 l os (KL w g S R)) (h:∀ S w,R S w->R' S w) (hs:Stab R'):CtxF no (bare w) S1 w1 l os (KL w g S R'):=
 hc.now (fun ⟨h1,Sr,h2,h3⟩=>⟨h1,Sr,h2,h _ _ h3⟩) (KL.stab hs)
theorem CtxF.toldL {o:OR} (hc:CtxF no (bare w) S1 w1 l (o::os) (KL w g S R)) (hs:Stab R) (k:Nat) (hk:l[k]?=some (g,T,cs)):∃ S2,CtxF no (bare w) S2 w1 l os (KL w g S (fun S w=>R S w/\Row S w o.A o.n o.cap o.xs)):=by
 have hnew:∀ a,o.A=some a->w.heap.size<=a.block:=fun a ha=>by
  rcases Nat.lt_or_ge a.block w.heap.size with h | h
  ·have h1:=hc.fst.out a ha
   have h2:=h1.2 _ (List.mem_of_getElem? hk)
   exact absurd (hc.row.1 a.block h (fun e=>h2 e.symm)).1 h1.1
  ·exact h
 obtain⟨S2,h2,hc2⟩:=hc.told
 refine⟨S2,hc2.now (fun hh=>?_) (KL.stab (hs.and fun _ _ _ _ h f=>h.fut f))⟩
 obtain⟨⟨hk1,Sr,j1,j2⟩,hR1,hR2,hR3⟩:=hh
 refine⟨hk1,fun x=>Sr x\/(S2 x/\∃ a,o.A=some a/\a.block=x),fun x hx=>?_,hs _ _ _ _ j2 ⟨fun x hx=>.inl hx,fun _ _=>rfl⟩,hR1,hR2,fun hx=>?_⟩
 ·rcases hx with hx | ⟨hx,a,ha,rfl⟩
  ·exact j1 x hx
  ·exact⟨hx,.inr (hnew a ha)⟩
 ·obtain⟨ad,e,hsa,hcl⟩:=hR3 hx
  exact⟨ad,e,.inr ⟨hsa,ad,e,rfl⟩,hcl⟩
theorem CtxF.leaveL (hc:CtxF no (bare w) S1 w' [(g,T,cs')] os (KL w g S R)) (hs:Stab R):Turn (fun x=>x=g) w w'/\Blk w' g T cs'/\∃ Sr:Nat->Prop,(∀ x,Sr x->S1 x/\ext S w w' x)/\R Sr w':=by
 obtain⟨hk1,Sr,h1,h2⟩:=hc.row
 refine⟨hc.leave hk1,hc.blk 0 rfl,Sr,fun x hx=>⟨(h1 x hx).1,?_⟩,h2⟩
 rcases (h1 x hx).2 with h | h
 ·exact .inl h
 ·exact .inr ⟨h,hc.ctx.lt x (h1 x hx).1⟩
end
end Go.Vc
namespace Go.Proofs.YtokglimimnelaaaGreatDoor
open Go.Vc Go.RowKit Go.Fl Go.ChangeShapes Go.WideShapes Go.ChangeAt
def knC (k:Known) (x:SX) (A:Option Addr) (cap:Nat):List Value:=[.int .i64 k.b.seq,.slice x.A k.b.l.length x.cap,.slice x.B k.b.ms.length x.cap',.int .i64 x.l0,.int .i64 x.l1,.int .i64 x.l2,.int .i64 x.l3,.int .i64 x.l4,.slice A k.pend.length cap,.int .i64 k.ep,.int .i64 k.ln]
def KnR (k:Known) (x:SX) (A:Option Addr) (cap:Nat):Kn:=fun S w=>RepS S w k.b (stX k.b x)/\Row S w A k.pend.length cap (k.pend.map dC).flatten
theorem KnR.stab (k:Known) (x:SX) (A:Option Addr) (cap:Nat):Stab (KnR k x A cap):=(stab_S _ _).and fun _ _ _ _ h f=>h.fut f
theorem kseq_any (k:Known) (h:k.Ok) (x:SX) (A:Option Addr) (cap:Nat) (w:World):Calls Tryz.prog 51 #[.agg (knC k x A cap).toArray] w (RetB (.int .i64 k.seq) w):=by
 have hs:=h.seq
 have hl:=h.len
 have h0:=(mayS_parts.1 h.may).1.1
 have hm:maxN=1099511627776:=rfl
 refine vE Tryz.func51 ?_
 have hc:=CtxF.start w no (fun _ h=>h.elim) (R:=fun _ _=>True) trivial Stab.true
 refine hc.n fun g1 wg1 hg1 hc=>?_
 refine⟨_,hc.cell 0 rfl _ rfl,?_⟩
 refine⟨_,hc.cell 0 rfl _ rfl,?_⟩
 refine⟨?_,hc.below⟩
 show Ending.returned (.int .i64 (IntKind.i64.wrap (k.b.seq+(k.pend.length:Int))))=_
 rw [IntWalk.i64_in _ ⟨by omega,by omega⟩]
 rfl
def RetKn (g T:Nat) (wrap:List Value->List Value) (S:Nat->Prop) (w:World) (v:Value) (k:Known) (en:Ending) (w':World):Prop:=
 en=.returned v/\Turn (fun x=>x=g) w w'/\∃ x A cap,Blk w' g T (wrap (knC k x A cap))/\KnR k x A cap (ext S w w') w'
theorem RetKn.mk {g T:Nat} {wrap:List Value->List Value} {S S1:Nat->Prop} {w w':World} {k:Known} {x:SX} {A:Option Addr} {cap:Nat} {cs:List Value} {os:List OR} (hc:CtxF no (bare w) S1 w' [(g,T,cs)] os (KL w g S (KnR k x A cap))) (e:cs=wrap (knC k x A cap)) (v:Value):RetKn g T wrap S w v k (.returned v) w':=by
 obtain⟨h1,h2,Sr,h3,h4⟩:=hc.leaveL (KnR.stab _ _ _ _)
 subst e
 exact⟨rfl,h1,x,A,cap,h2,KnR.stab _ _ _ _ _ _ _ _ h4 ⟨fun x hx=>(h3 x hx).2,fun _ _=>rfl⟩⟩
def addKE (k:Known) (d:D):Int:=if mayD d then (if 60<=k.pend.length\/maxN<=k.seq then 5 else 0) else 1
def addK (k:Known) (d:D):Known:=if addKE k d=0 then ⟨k.b,k.pend++[d],k.ep,k.ln⟩ else k
theorem kadd0_any (k:Known) (h:k.Ok) (d:D) (hd:d.Ok) (x:SX) (A:Option Addr) (cap g:Nat) (S:Nat->Prop) (w:World) (hB:Blk w g 96 (knC k x A cap)) (hS:∀ x,S x->x<w.heap.size/\x≠g) (hR:KnR k x A cap S w):
  Calls Tryz.prog 44 #[.pointer (some ⟨g,0,none⟩),.agg (dC d).toArray] w (RetKn g 96 id S w (.int .i64 (addKE k d)) (addK k d)):=by
 obtain⟨e,he⟩:∃ e,e=addKE k d:=⟨_,rfl⟩
 obtain⟨k',hk'⟩:∃ k',k'=addK k d:=⟨_,rfl⟩
 unfold addK at hk'
 rw [<-he] at hk'
 rw [<-he,show addK k d=k' from by rw [hk',he];rfl]
 unfold addKE at he
 have hc:=CtxF.enterL hB hS hR (KnR.stab _ _ _ _)
 refine vE Tryz.func44 ?_
 refine hc.n fun g3 wg3 hg3 hc=>?_
 refine hc.a 0 rfl rfl ?_
 refine hc.q (may_any d hd _) fun wQ hQ hc=>?_
 cases hm:mayD d with
 | false=>
  rw [hm,if_neg (by decide)] at he
  rw [he,if_neg (by decide)] at hk'
  subst he hk'
  exact RetKn.mk hc.drop rfl _
 | true=>
 rw [hm,if_pos rfl] at he
 refine⟨_,hc.cell 1 rfl _ rfl,?_⟩
 by_cases h60:60<=k.pend.length
 ·rw [if_pos (.inl h60)] at he
  rw [he,if_neg (by decide)] at hk'
  subst he hk'
  refine split_t (decide_eq_true (by omega)) ?_
  exact RetKn.mk hc.drop rfl _
 refine split_f (decide_eq_false (by omega)) ?_
 refine hc.a 1 rfl rfl ?_
 refine hc.q (kseq_any k h x A cap _) fun wQ hQ hc=>?_
 by_cases hsq:maxN<=k.seq
 ·rw [if_pos (.inr hsq)] at he
  rw [he,if_neg (by decide)] at hk'
  subst he hk'
  refine split_t (decide_eq_true hsq) ?_
  exact RetKn.mk hc.drop rfl _
 refine split_f (decide_eq_false hsq) ?_
 rw [if_neg (fun h=>h.elim h60 hsq)] at he
 rw [he,if_pos rfl] at hk'
 subst he hk'
 refine vD (.Q [0,1,2,3,6] (.n 4 (.n 5 (.n 7 (.n 8 (.Q [9,10] (.n 11 .fin .stop)) .stop) .stop) (.n 7 (.n 5 (.n 8 (.Q [9,10] (.n 11 .fin .stop)) .stop) .stop) .stop)) (.n 7 (.n 4 (.n 5 (.n 8 (.Q [9,10] (.n 11 .fin .stop)) .stop) .stop) .stop) .stop))) (fun z=>Blk z g3 32 (dC d)) (hc.blk 0 rfl) ?_
 have hc:=hc.drew
 refine⟨dC d,rfl,fun z hz=>drop_cells hz 0 _ 0 (fun j v hj=>by simpa using hj),?_⟩
 refine⟨?_,?_⟩
 ·skip
  refine⟨_,hc.cell 1 rfl _ rfl,(hc.blk 0 rfl),?_⟩
  refine⟨?_,?_⟩
  ·skip
   obtain⟨Sr,hR1,hSr,hin⟩:=hc.inL (KnR.stab _ _ _ _) 1 rfl
   refine⟨(cloneD_any A k.pend.length cap _ (dC_flat _) (List.length_map _) (by have:=h.len;omega) Sr _ hR1.2).mono fun en wq hq=>?_⟩
   obtain⟨A2,cap2,e1,hb,ho⟩:=hq
   have hc:=hc.fresh hb ho
   refine⟨_,e1,(hc.blk 0 rfl),?_⟩
   refine⟨hc.n fun gv wgv hgv hc=>?_,trivial⟩
   refine⟨(hc.blk 1 rfl),?_⟩
   refine⟨app_ownF (m:=1) Tryz.underlying22 info_D rfl (by decide) hc (by rfl) (hc.cells 0 rfl) rfl (by have:=h.len;show k.pend.length+1<=_;omega) (by decide) rfl rfl ?_,trivial⟩
   intro A3 cap3 w3 hc
   refine⟨(hc.blk 1 rfl),?_⟩
   refine⟨hc.s 2 rfl fun wS hS hc=>?_,trivial⟩
   refine⟨(hc.blk 1 rfl),?_⟩
   obtain⟨S2,hc⟩:=hc.toldL (KnR.stab _ _ _ _) 2 rfl
   have hc:=(hc.nowL (R':=KnR ⟨k.b,k.pend++[d],k.ep,k.ln⟩ x A3 cap3) (fun S w h=>⟨h.1.1,by
    have e1:((k.pend++[d]).map dC).flatten=(k.pend.map dC).flatten++dC d:=by simp
    have e2:(k.pend++[d]).length=k.pend.length+1:=by simp
    show Row S w A3 (k.pend++[d]).length cap3 ((k.pend++[d]).map dC).flatten
    rw [e1,e2]
    exact h.2⟩) (KnR.stab _ _ _ _)).drop.drop
   refine RetKn.mk hc ?_ _
   show _=knC ⟨k.b,k.pend++[d],k.ep,k.ln⟩ x A3 cap3
   unfold knC
   rw [show (k.pend++[d]).length=k.pend.length+1 from by simp]
   rfl
  refine⟨hc.n fun gv wgv hgv hc=>?_,trivial⟩
  refine⟨(hc.blk 1 rfl),?_⟩
  refine⟨?_,trivial⟩
  obtain⟨Sr,hR1,hSr,hin⟩:=hc.inL (KnR.stab _ _ _ _) 2 rfl
  refine⟨(cloneD_any A k.pend.length cap _ (dC_flat _) (List.length_map _) (by have:=h.len;omega) Sr _ hR1.2).mono fun en wq hq=>?_⟩
  obtain⟨A2,cap2,e1,hb,ho⟩:=hq
  have hc:=hc.fresh hb ho
  refine⟨_,e1,(hc.blk 1 rfl),?_⟩
  refine⟨app_ownF (m:=1) Tryz.underlying22 info_D rfl (by decide) hc (by rfl) (hc.cells 0 rfl) rfl (by have:=h.len;show k.pend.length+1<=_;omega) (by decide) rfl rfl ?_,trivial⟩
  intro A3 cap3 w3 hc
  refine⟨(hc.blk 1 rfl),?_⟩
  refine⟨hc.s 2 rfl fun wS hS hc=>?_,trivial⟩
  refine⟨(hc.blk 1 rfl),?_⟩
  obtain⟨S2,hc⟩:=hc.toldL (KnR.stab _ _ _ _) 2 rfl
  have hc:=(hc.nowL (R':=KnR ⟨k.b,k.pend++[d],k.ep,k.ln⟩ x A3 cap3) (fun S w h=>⟨h.1.1,by
   have e1:((k.pend++[d]).map dC).flatten=(k.pend.map dC).flatten++dC d:=by simp
   have e2:(k.pend++[d]).length=k.pend.length+1:=by simp
   show Row S w A3 (k.pend++[d]).length cap3 ((k.pend++[d]).map dC).flatten
   rw [e1,e2]
   exact h.2⟩) (KnR.stab _ _ _ _)).drop.drop
  refine RetKn.mk hc ?_ _
  show _=knC ⟨k.b,k.pend++[d],k.ep,k.ln⟩ x A3 cap3
  unfold knC
  rw [show (k.pend++[d]).length=k.pend.length+1 from by simp]
  rfl
 refine⟨hc.n fun gv wgv hgv hc=>?_,trivial⟩
 refine⟨(hc.blk 1 rfl),?_⟩
 refine⟨⟨_,hc.cell 2 rfl _ rfl,(hc.blk 1 rfl),?_⟩,trivial⟩
 refine⟨?_,trivial⟩
 obtain⟨Sr,hR1,hSr,hin⟩:=hc.inL (KnR.stab _ _ _ _) 2 rfl
 refine⟨(cloneD_any A k.pend.length cap _ (dC_flat _) (List.length_map _) (by have:=h.len;omega) Sr _ hR1.2).mono fun en wq hq=>?_⟩
 obtain⟨A2,cap2,e1,hb,ho⟩:=hq
 have hc:=hc.fresh hb ho
 refine⟨_,e1,(hc.blk 1 rfl),?_⟩
 refine⟨app_ownF (m:=1) Tryz.underlying22 info_D rfl (by decide) hc (by rfl) (hc.cells 0 rfl) rfl (by have:=h.len;show k.pend.length+1<=_;omega) (by decide) rfl rfl ?_,trivial⟩
 intro A3 cap3 w3 hc
 refine⟨(hc.blk 1 rfl),?_⟩
 refine⟨hc.s 2 rfl fun wS hS hc=>?_,trivial⟩
 refine⟨(hc.blk 1 rfl),?_⟩
 obtain⟨S2,hc⟩:=hc.toldL (KnR.stab _ _ _ _) 2 rfl
 have hc:=(hc.nowL (R':=KnR ⟨k.b,k.pend++[d],k.ep,k.ln⟩ x A3 cap3) (fun S w h=>⟨h.1.1,by
  have e1:((k.pend++[d]).map dC).flatten=(k.pend.map dC).flatten++dC d:=by simp
  have e2:(k.pend++[d]).length=k.pend.length+1:=by simp
  show Row S w A3 (k.pend++[d]).length cap3 ((k.pend++[d]).map dC).flatten
  rw [e1,e2]
  exact h.2⟩) (KnR.stab _ _ _ _)).drop.drop
 refine RetKn.mk hc ?_ _
 show _=knC ⟨k.b,k.pend++[d],k.ep,k.ln⟩ x A3 cap3
 unfold knC
 rw [show (k.pend++[d]).length=k.pend.length+1 from by simp]
 rfl
end Go.Proofs.YtokglimimnelaaaGreatDoor
end
namespace Go.Proofs.YtokglimimnelaaaGreatDoor
open Go.Vc Go.RowKit Go.Fl Go.ChangeShapes Go.WideShapes Go.ChangeAt
set_option maxRecDepth 100000
theorem snum_any (n:Int) (w:World):Calls Tryz.prog 50 #[.int .i64 n] w (RetB (.agg #[.int .i64 1,.int .i64 n,.string ⟨#[]⟩,.slice none 0 0]) w):=by
 refine vE Tryz.func50 ?_
 have hc:=Ctx.start w no (fun _ h=>h.elim)
 refine hc.n fun gA wgA hgA hc=>?_
 refine hc.s 0 rfl fun wS hS hc=>?_
 refine hc.a 0 rfl rfl ?_
 exact⟨rfl,hc.below⟩
theorem srow_any (A:Option Addr) (n cap:Nat) (w:World):Calls Tryz.prog 83 #[.slice A n cap] w (RetB (.agg #[.int .i64 3,.int .i64 0,.string ⟨#[]⟩,.slice A n cap]) w):=by
 refine vE Tryz.func83 ?_
 have hc:=Ctx.start w no (fun _ h=>h.elim)
 refine hc.n fun gA wgA hgA hc=>?_
 refine hc.s 0 rfl fun wS hS hc=>?_
 refine hc.a 0 rfl rfl ?_
 exact⟨rfl,hc.below⟩
set_option maxHeartbeats 4000000 in
theorem text_any (k:Known) (h:k.Ok) (x:SX) (A:Option Addr) (cap:Nat) (S0:Nat->Prop) (w:World) (hR:KnR k x A cap S0 w) (ht:Tab w):Calls Tryz.prog 78 #[.agg (knC k x A cap).toArray] w (RetB (.string ⟨(textK k).toArray⟩) w):=by
 have hl:=h.len
 refine vE Tryz.func78 ?_
 have hc:=CtxF.start w no (fun _ h=>h.elim) (R:=fun S w=>RepL S w [] []) (.nil _ _) (stab_L _ _)
 refine hc.n fun g1 wg1 hg1 hc=>?_
 refine hc.q (srow_any none 0 0 _) fun wQ hQ hc=>?_
 refine hc.n fun g3 wg3 hg3 hc=>?_
 refine hc.s 0 rfl fun wS hS hc=>?_
 refine⟨_,hc.cell 1 rfl _ rfl,?_⟩
 have hc:=hc.nil 108 4
 refine⟨Nat,fun i=>[(1,.pointer (some ⟨g1,0,none⟩)),(3,.pointer (some ⟨g3,0,none⟩)),(8,.slice A k.pend.length cap),(9,.int .i64 k.pend.length),(10,.int .i64 i)],
  fun i w'=>i<=k.pend.length/\∃ S A' cap' xs,CtxF no w S w' [(g3,108,[.int .i64 3,.int .i64 0,.string ⟨#[]⟩,.slice A' i cap']),(g1,96,knC k x A cap)] [⟨108,4,A',i,cap',xs⟩] (fun S w=>RepL S w ((k.pend.take i).map valD') xs),
  fun i _=>k.pend.length-i,0,⟨rfl,rfl,rfl,rfl,rfl,trivial⟩,⟨Nat.zero_le _,no,none,0,[],hc⟩,?_⟩
 clear hc
 rintro i w4 u ⟨hi,S,A',cap',xs,hc⟩
 by_cases hlt:i<k.pend.length
 ·refine split_t (decide_eq_true (by omega)) ?_
  obtain⟨ad,rfl,hcell⟩:=Row.elemF (hR.2.below hc.below) (by decide) (dC_flat _) i (by rw [List.length_map];exact hlt)
  rw [List.getElem_map] at hcell
  refine⟨⟨by omega,by omega⟩,?_⟩
  refine⟨dC k.pend[i],rfl,hcell,?_⟩
  have hd:=(h.pend k.pend[i] (List.getElem_mem hlt)).2
  generalize hx:k.pend[i]=d at*
  refine hc.n fun g5 wg5 hg5 hc=>?_
  refine hc.s 0 rfl fun wS hS hc=>?_
  refine vD (.Q [0,1,2] (.n 3 (.n 4 (.n 5 (.q 6 (.z 7)) .stop) .stop) .stop)) (fun z=>Blk z g3 108 [.int .i64 3,.int .i64 0,.string ⟨#[]⟩,.slice A' i cap']/\Blk z g5 32 (dC d)) ⟨hc.blk 1 rfl,hc.blk 0 rfl⟩ ?_
  have hc:=hc.drew
  refine⟨_,fun x hx=>hx.1.cell 3,?_⟩
  refine⟨(dC d),rfl,fun x hx=>drop_cells hx.2 0 _ 0 (fun j v hj=>by simpa using hj),?_⟩
  refine⟨⟨(value_any d hd _).mono fun en w9 hq=>?_⟩,trivial⟩
  obtain⟨kk,n,s,A1,ln,c1,e1,h9,hrep⟩:=hq
  have hc:=(hc.call h9).1.know (hrep.sub fun b h=>h.elim (fun h=>h.elim) .inr) (stab_C _ _)
  refine⟨_,e1,⟨hc.blk 1 rfl,hc.blk 0 rfl⟩,?_⟩
  refine⟨hc.n fun g20 w10 h10 hc=>?_,trivial⟩
  refine⟨⟨hc.blk 2 rfl,hc.blk 1 rfl⟩,?_⟩
  refine⟨app_ownF Tryz.underlying106 info_val rfl (by decide) hc (ys:=[.int .i64 kk,.int .i64 n,.string s,.slice A1 ln c1]) (m:=1) rfl (hc.cells 0 rfl) rfl (by omega) (by decide) rfl rfl ?_,trivial⟩
  intro A2 cap2 w11 hc
  refine⟨⟨hc.blk 2 rfl,hc.blk 1 rfl⟩,?_⟩
  refine⟨hc.may 2 rfl 3 _ (Nat.le_refl 4) rfl,?_⟩
  intro w12 h12
  have hc:=(hc.set 2 rfl h12).1
  have et:(k.pend.take (i+1)).map valD'=(k.pend.take i).map valD'++[valD' d]:=by rw [List.take_add_one,List.getElem?_eq_getElem hlt,hx];simp
  have hf:=hc.drop.drop.now (X:=fun S w=>RepL S w ((k.pend.take i).map valD'++[valD' d]) (xs++[.int .i64 kk,.int .i64 n,.string s,.slice A1 ln c1])) (fun h=>RepL.snoc h.2 h.1) (stab_L _ _)
  rw [<-et] at hf
  exact⟨i+1,⟨rfl,rfl,rfl,rfl,congrArg _ (i_down (by omega)),trivial⟩,⟨hlt,_,A2,cap2,_,hf⟩,by show k.pend.length-(i+1)<k.pend.length-i;omega⟩
 ·refine split_f (decide_eq_false (by omega)) ?_
  have hi:i=k.pend.length:=by omega
  subst hi
  rw [List.take_length] at hc
  obtain⟨S2,_,hc⟩:=hc.told
  have hc:=hc.now (X:=fun S w=>RepC S w (vRow (k.pend.map valD')) [.int .i64 3,.int .i64 0,.string ⟨#[]⟩,.slice A' k.pend.length cap']) (fun ho=>by
   rw [vRow,RepC]
   exact⟨A',cap',xs,by rw [List.length_map],ho.1,by rw [List.length_map];exact ho.2⟩) (stab_C _ _)
  have hr:=hc
  refine vD (.Q [0,1,4,5,6,8,9] (.n 2 (.q 3 (.n 7 (.n 10 (.n 11 (.n 12 (.n 13 (.q 14 .fin) .stop) .stop) .stop) .stop) .stop)) .stop)) (Old _) (Old.start _) ?_
  have hk:=hc.old0
  have hc:=hc.drew
  refine⟨stX k.b x,rfl,fun z hz=>Old.looks hz (hr.cellsAt 1 rfl 0 (stX k.b x) rfl),?_⟩
  refine⟨_,?_,fun x hx=>Keeps.cells hx (hr.blk 0 rfl) (hr.blk 0 rfl).lt,?_⟩
  ·rfl
  refine⟨_,fun x hx=>Keeps.cell hx (hr.blk 1 rfl) (hr.blk 1 rfl).lt rfl,?_⟩
  refine⟨_,fun x hx=>Keeps.cell hx (hr.blk 1 rfl) (hr.blk 1 rfl).lt rfl,?_⟩
  refine⟨hc.q (bput_any k.b (foldS_keys h.may h.lows) (stX k.b x) S0 _ (hR.1.below hc.below) (ht.below hc.below)) fun wA hA hc=>?_,trivial⟩
  have hk:=Keeps.below hk (fun _ h=>h) hA
  refine⟨hk,?_⟩
  refine⟨hc.q (snum_any k.ep _) fun wA hA hc=>?_,trivial⟩
  have hk:=Keeps.below hk (fun _ h=>h) hA
  refine⟨hk,?_⟩
  refine⟨hc.q (snum_any k.ln _) fun wA hA hc=>?_,trivial⟩
  have hk:=Keeps.below hk (fun _ h=>h) hA
  refine⟨hk,?_⟩
  refine⟨fun g6 w6 h6=>?_,trivial⟩
  have hc:=hc.made h6 4 4 rfl (by decide)
  have hk:=Keeps.below hk (fun _ h=>h) h6.below
  refine⟨hk,?_⟩
  refine⟨hc.q (srow_any (some ⟨g6,0,none⟩) 4 4 _) fun wA hA hc=>?_,trivial⟩
  have hk:=Keeps.below hk (fun _ h=>h) hA
  refine⟨hk,?_⟩
  obtain⟨S3,_,hc⟩:=hc.told
  have hc:=hc.now (X:=fun S w=>RepC S w (vKnown k) [.int .i64 3,.int .i64 0,.string ⟨#[]⟩,.slice (some ⟨g6,0,none⟩) 4 4]) (fun ho=>by
   rw [vKnown,vRow,RepC]
   exact⟨some ⟨g6,0,none⟩,4,_,rfl,.cons (.leaf _ _ 2 0 ⟨(putStt k.b).toArray⟩) (.cons ho.1 (.cons (.leaf _ _ 1 k.ep ⟨#[]⟩) (.cons (.leaf _ _ 1 k.ln ⟨#[]⟩) (.nil _ _)))),ho.2⟩) (stab_C _ _)
  have htl:=textK_len h
  rw [textK_eq h] at htl
  refine⟨hc.q (vput_any (vKnown k) (okV_known h) (by omega) 3 0 ⟨#[]⟩ (some ⟨g6,0,none⟩) 4 4 _ _ hc.row (ht.below hc.below)) fun wA hA hc=>?_,trivial⟩
  have hk:=Keeps.below hk (fun _ h=>h) hA
  refine⟨hk,?_⟩
  exact⟨rfl,hc.below⟩
set_option maxRecDepth 100000
def RetRdK (k:Known) (w:World) (en:Ending) (w':World):Prop:=∃ x A cap,en=.returned (.tuple #[.agg (knC k x A cap).toArray,.bool true])/\Below w.heap.size w w'/\KnR k x A cap (ext no w w') w'
theorem strEq_self (s:ByteArray):strEq s s=true:=strEq_iff.2 rfl
set_option maxHeartbeats 4000000 in
theorem kread_any (s:ByteArray) (k:Known) (hf:FirstOk s k) (w:World) (hw:Env w):Calls Tryz.prog 40 #[.string s] w (RetRdK k w):=by
 have h:=hf.ok
 have hl:=h.len
 refine vE Tryz.func40 ?_
 have hc:=CtxF.start w no (fun _ h=>h.elim) (R:=fun _ _=>True) trivial Stab.true
 refine hc.n fun g2 wg2 hg2 hc=>?_
 rcases hf with ⟨rfl,rfl⟩ | ⟨rfl,_⟩
 ·refine hc.s 0 rfl fun wS hS hc=>?_
  refine hc.a 0 rfl rfl ?_
  exact⟨SX0,none,0,rfl,hc.below,rep0X _ _,row0 _ _⟩
 have hne:strEq (⟨(textK k).toArray⟩:ByteArray) ⟨#[]⟩=false:=by
  rw [<-Bool.not_eq_true,strEq_iff]
  intro e
  apply textK_ne h
  injection e with e
  exact List.toArray_inj e
 refine split_f hne ?_
 have hal:=All_V (textK k) _ (by have:=textK_len h;omega) (hw.below hc.below)
 rw [allV_textK h] at hal
 refine⟨hal.mono fun en wq hq=>?_⟩
 obtain⟨A1,c1,e1,hb,hr1⟩:=hq
 obtain⟨xs,hL,hRw⟩:=hr1.rows
 have hRw:Row (ext no wg2 wq) wq A1 4 c1 xs:=hRw
 have hL:RepL (ext no wg2 wq) wq [vStr ⟨(putStt k.b).toArray⟩,vRow (k.pend.map valD'),vNum k.ep,vNum k.ln] xs:=hL
 simp only [vStr,vRow,vNum,RepL,RepC] at hL
 obtain⟨d0,y0,⟨B0,e0,z0,rfl,_⟩,⟨d1,y1,⟨B1,e1',z1,rfl,hPL,hPR⟩,⟨d2,y2,⟨B2,e2,z2,rfl,_⟩,⟨d3,y3,⟨B3,e3,z3,rfl,_⟩,rfl,rfl⟩,rfl⟩,rfl⟩,rfl⟩:=hL
 have hc:=(hc.call hb).1.know (X:=fun S w=>Row S w A1 4 c1 ([.int .i64 2,.int .i64 0,.string ⟨(putStt k.b).toArray⟩,.slice B0 0 e0]++([.int .i64 3,.int .i64 0,.string ⟨#[]⟩,.slice B1 (k.pend.map valD').length e1']++([.int .i64 1,.int .i64 k.ep,.string ⟨#[]⟩,.slice B2 0 e2]++([.int .i64 1,.int .i64 k.ln,.string ⟨#[]⟩,.slice B3 0 e3]++[]))))/\RepL S w (k.pend.map valD') z1/\Row S w B1 (k.pend.map valD').length e1' z1)
  ⟨hRw.sub (fun b h=>h.elim (fun h=>h.elim) .inr),hPL.sub (fun b h=>h.elim (fun h=>h.elim) .inr),hPR.sub (fun b h=>h.elim (fun h=>h.elim) .inr)⟩ (Stab.and (fun _ _ _ _ h f=>h.fut f) (Stab.and (stab_L _ _) (fun _ _ _ _ h f=>h.fut f)))
 refine⟨_,e1,?_⟩
 refine hc.n fun g4 wg4 hg4 hc=>?_
 refine hc.s 0 rfl fun wS hS hc=>?_
 refine⟨_,hc.cell 0 rfl _ rfl,?_⟩
 obtain⟨ad,rfl,hSa,hcell⟩:=hc.row.2.1.2.2 (by simp)
 have hr:=hc
 refine vD (.Q [0,1,2,3,4,5,6,7,8,9,10] (.n 11 (.z 12) .stop)) (Old _) (Old.start _) ?_
 have hk:=hc.old0
 have hc:=hc.drew
 refine⟨_,fun x hx=>Keeps.cell hx (hr.blk 0 rfl) (hr.blk 0 rfl).lt rfl,?_⟩
 refine⟨⟨by decide,(show (2:Int)<4 by decide)⟩,?_⟩
 refine⟨_,fun x hx=>Keeps.look hx (hcell 9 _ rfl),?_⟩
 refine⟨_,fun x hx=>Keeps.cell hx (hr.blk 0 rfl) (hr.blk 0 rfl).lt rfl,?_⟩
 refine⟨⟨by decide,(show (3:Int)<4 by decide)⟩,?_⟩
 refine⟨_,fun x hx=>Keeps.look hx (hcell 13 _ rfl),?_⟩
 refine⟨hc.n fun g6 wg6 hg6 hc=>?_,trivial⟩
 have ng6:=Old.new hk hg6
 have hk:=Keeps.below hk (fun _ h=>h) hg6.below
 refine⟨hk,?_⟩
 refine hc.s 0 rfl fun wS hS hc=>?_
 refine⟨_,hc.cell 1 rfl _ rfl,?_⟩
 obtain⟨ad',e',hSa',hcell⟩:=hc.row.2.1.2.2 (by simp)
 cases e'
 refine⟨⟨by decide,(show (1:Int)<4 by decide)⟩,?_⟩
 refine⟨_,hcell 7 _ rfl,?_⟩
 have hc:=hc.nil 32 8
 have hn:(k.pend.map valD').length=k.pend.length:=List.length_map _
 rw [hn] at*
 refine⟨Nat,fun i=>[(0,.string ⟨(textK k).toArray⟩),(2,.pointer (some ⟨g2,0,none⟩)),(3,.bool false),(4,.pointer (some ⟨g4,0,none⟩)),(5,.int .i64 0),(6,.pointer (some ⟨g6,0,none⟩)),(43,.slice B1 k.pend.length e1'),(44,.int .i64 k.pend.length),(45,.int .i64 i)],
  fun i w'=>i<=k.pend.length/\∃ A2 c2,CtxF no w _ w' [(g6,96,knC ⟨Stt0,k.pend.take i,k.ep,k.ln⟩ SX0 A2 c2),(g4,108,cellsV (vKnown k) (some ad) c1),(g2,96,(lay.ty 96).zero)] [⟨32,8,A2,i,c2,((k.pend.take i).map dC).flatten⟩] _,fun i _=>k.pend.length-i,0,⟨rfl,rfl,rfl,rfl,rfl,rfl,rfl,rfl,rfl,trivial⟩,⟨Nat.zero_le _,none,0,hc⟩,?_⟩
 clear hc
 rintro i w4 u ⟨hi,A2,c2,hc⟩
 by_cases hlt:i<k.pend.length
 ·refine split_t (decide_eq_true (by omega)) ?_
  obtain⟨ad2,cs,rfl,hrep,hlen,hcells⟩:=Rep.elem hc.row.2.2.1 hc.row.2.2.2 i (by rw [List.length_map];exact hlt)
  rw [List.getElem_map] at hrep
  have hd:=h.pend k.pend[i] (List.getElem_mem hlt)
  generalize hx:k.pend[i]=d at*
  obtain⟨hd1,hd2⟩:=hd
  rw [valD_may hd1] at hrep
  obtain⟨A5,c5,rfl⟩:=hrep.cells
  refine⟨⟨by omega,by omega⟩,?_⟩
  refine⟨_,hlen,hcells,?_⟩
  have hof:=fun S w hr=>of_any (vDeed d) (vK (vDeed d)) (vN (vDeed d)) (vS (vDeed d)) A5 (vL (vDeed d)).length c5 S w hr (show (deedV (vDeed d)).Ok from hd2)
  rw [ofD_vDeed d hd1] at hof
  have hst:=hc.stab
  have hc:=hc.know hrep (stab_C _ _)
  refine hc.n fun g8 wg8 hg8 hc=>?_
  refine hc.s 0 rfl fun wS hS hc=>?_
  refine hc.a 0 rfl rfl ?_
  refine hc.q (hof _ _ hc.row.2) fun wQ hQ hc=>?_
  refine hc.n fun g9 wg9 hg9 hc=>?_
  refine hc.s 0 rfl fun wS hS hc=>?_
  refine⟨_,hc.cell 2 rfl _ rfl,?_⟩
  refine hc.a 0 rfl rfl ?_
  refine hc.n fun gv wgv hgv hc=>?_
  refine app_ownF (m:=1) Tryz.underlying22 info_D rfl (by decide) hc (by rfl) (hc.cells 0 rfl) rfl (by omega) (by decide) (by show Value.slice A2 (k.pend.take i).length c2=Value.slice A2 i c2;rw [List.length_take,Nat.min_eq_left (Nat.le_of_lt hlt)]) rfl ?_
  intro A3 c3 w5 hc
  refine hc.s 3 rfl fun wS hS hc=>?_
  have et:k.pend.take (i+1)=k.pend.take i++[d]:=by rw [List.take_add_one,List.getElem?_eq_getElem hlt,hx];rfl
  have el:(k.pend.take i++[d]).length=i+1:=by rw [List.length_append,List.length_take];simp only [List.length_cons,List.length_nil];omega
  have hl1:(k.pend.take (i+1)).length=i+1:=by rw [et,el]
  refine⟨i+1,⟨rfl,rfl,rfl,rfl,rfl,rfl,rfl,rfl,congrArg _ (i_down (by omega)),trivial⟩,⟨hlt,A3,c3,?_⟩,by show k.pend.length-(i+1)<k.pend.length-i;omega⟩
  have hf:=hc.drop.drop.drop.now (fun h=>h.1) hst
  have e1:((k.pend.take (i+1)).map dC).flatten=((k.pend.take i).map dC).flatten++dC d:=by rw [et];simp
  have e2:knC ⟨Stt0,k.pend.take (i+1),k.ep,k.ln⟩ SX0 A3 c3=[.int .i64 Stt0.seq,.slice none 0 0,.slice none 0 0,.int .i64 0,.int .i64 0,.int .i64 0,.int .i64 0,.int .i64 0,.slice A3 (i+1) c3,.int .i64 k.ep,.int .i64 k.ln]:=by
   unfold knC
   rw [hl1]
   rfl
  rw [e1,e2]
  exact hf
 ·refine split_f (decide_eq_false (by omega)) ?_
  have hi:i=k.pend.length:=by omega
  subst hi
  rw [List.take_length] at hc
  refine⟨_,hc.cell 1 rfl _ rfl,?_⟩
  obtain⟨ad',e',hSa',hcell⟩:=hc.row.2.1.2.2 (by simp)
  cases e'
  refine⟨⟨by decide,(show (0:Int)<4 by decide)⟩,?_⟩
  refine⟨_,hcell 2 _ rfl,?_⟩
  have hbr:=bread_any (putStt k.b) (putStt_len h.lows h.may) _ (hw.below hc.below)
  rw [readStt_put k.b h.lows h.may] at hbr
  refine⟨hbr.mono fun en wq hq=>?_⟩
  obtain⟨cS,e1,hq,hrep⟩:=hq
  obtain⟨xS,rfl⟩:=hrep.stX
  have hc:=(hc.call hq).1.know (X:=fun S w=>RepS S w k.b (stX k.b xS)) (hrep.map fun h=>h.sub fun b h=>h.elim (fun h=>h.elim) .inr) (stab_S _ _)
  refine⟨_,e1,?_⟩
  refine hc.s 0 rfl fun wS hS hc=>?_
  obtain⟨S3,_,hc⟩:=hc.told
  have hc:=hc.now (X:=KnR k xS A2 c2) (fun h=>⟨h.1.2,h.2⟩) (KnR.stab _ _ _ _)
  refine vD (.Q [1,2,3,6] (.n 0 (.n 4 (.n 5 (.Q [7,8] (.n 9 (.q 10 .fin) .stop)) .stop) .stop) (.n 4 (.n 0 (.n 5 (.Q [7,8] (.n 9 (.q 10 .fin) .stop)) .stop) (.n 5 (.Q [7,8] (.n 0 (.n 9 (.q 10 .fin) .stop) .stop)) .stop)) .stop))) (fun _=>True) trivial ?_
  have hc:=hc.drew
  refine⟨?_,?_⟩
  ·skip
   refine hc.a' 0 rfl rfl ?_
   refine⟨hc.a' 0 rfl rfl ?_,trivial⟩
   refine⟨hc.q' (text_any k h xS A2 c2 S3 _ hc.row (hw.below hc.below).tab) fun wQ hQ hc=>?_,trivial⟩
   refine⟨hc.s' 2 rfl fun wS hS hc=>?_,trivial⟩
   refine hc.a 2 rfl rfl ?_
   refine⟨xS,A2,c2,?_,hc.below,hc.out⟩
   rw [strEq_self]
   rfl
  refine⟨hc.a' 0 rfl rfl ?_,trivial⟩
  refine⟨?_,?_⟩
  ·skip
   refine hc.a' 0 rfl rfl ?_
   refine⟨hc.q' (text_any k h xS A2 c2 S3 _ hc.row (hw.below hc.below).tab) fun wQ hQ hc=>?_,trivial⟩
   refine⟨hc.s' 2 rfl fun wS hS hc=>?_,trivial⟩
   refine hc.a 2 rfl rfl ?_
   refine⟨xS,A2,c2,?_,hc.below,hc.out⟩
   rw [strEq_self]
   rfl
  refine⟨hc.q' (text_any k h xS A2 c2 S3 _ hc.row (hw.below hc.below).tab) fun wQ hQ hc=>?_,trivial⟩
  refine⟨hc.a' 0 rfl rfl ?_,trivial⟩
  refine⟨hc.s' 2 rfl fun wS hS hc=>?_,trivial⟩
  refine hc.a 2 rfl rfl ?_
  refine⟨xS,A2,c2,?_,hc.below,hc.out⟩
  rw [strEq_self]
  rfl
set_option maxRecDepth 100000
def wrap1 (p:Value) (dn:Bool) (cs:List Value):List Value:=p::(cs++[.bool dn])
def resC (r:Res):List Value:=[.int .i64 r.err,.int .i64 r.ver]
theorem info_Rs:(Tryz.prog.info? 54).map (fun i=>(i.zero,i.size,i.bytes))=some (some (.agg #[.int .i64 0,.int .i64 0]),2,16):=by kernel_rfl
def kAt (k:Known) (i:Nat):Known:=⟨foldS k.b (k.pend.take i),k.pend.drop i,k.ep,k.ln⟩
theorem kAt_ok {k:Known} (h:k.Ok) (i:Nat):(kAt k i).Ok:=by
 have:=h.commit (k.b.seq+i)
 unfold commitK at this
 rw [show (k.b.seq+(i:Int)-k.b.seq).toNat=i from by omega] at this
 exact this
theorem kAt_seq {k:Known} (h:k.Ok) {i:Nat} (hi:i<=k.pend.length):(kAt k i).b.seq=k.b.seq+i:=by
 have hs:=h.seq
 have hl:(k.pend.take i).length=i:=by rw [List.length_take];omega
 have e:=foldS_next (k.pend.take i) h.may h.lows (fun d hd=>(h.pend d (List.mem_of_mem_take hd)).1) (by omega)
 rw [hl] at e
 exact e
theorem resS_snoc (s:Stt) (l:List D) (d:D):resS s (l++[d])=resS s l++[(doS (foldS s l) d).2]:=by
 induction l generalizing s with
 | nil=>rfl
 | cons a r ih=>rw [List.cons_append,resS,ih,resS];rfl
theorem kAt_next (k:Known) (i:Nat) (d:D) (r:List D) (h:(kAt k i).pend=d::r):kAt k (i+1)=⟨(doS (kAt k i).b d).1,r,k.ep,k.ln⟩/\resS k.b (k.pend.take (i+1))=resS k.b (k.pend.take i)++[(doS (kAt k i).b d).2]:=by
 have h:k.pend.drop i=d::r:=h
 have e1:k.pend.take (i+1)=k.pend.take i++[d]:=by
  have e2:=List.take_add (l:=k.pend) (i:=i) (j:=1)
  rw [e2,h]
  rfl
 have e2:k.pend.drop (i+1)=r:=by rw [<-List.drop_drop,h];rfl
 unfold kAt
 rw [e1,e2,foldS_snoc,resS_snoc]
 exact⟨rfl,rfl⟩
def commitE (k:Known) (n:Int):Known × List Res × Int:=if k.seq<n then (k,[],4) else ((commitK k n).1,(commitK k n).2,0)
def RetKc (g T:Nat) (wrap:List Value->List Value) (S:Nat->Prop) (w:World) (q:Known × List Res × Int) (en:Ending) (w':World):Prop:=
 ∃ A2 c2,en=.returned (.tuple #[.slice A2 q.2.1.length c2,.int .i64 q.2.2])/\Turn (fun x=>x=g) w w'/\∃ x A cap Sk,Blk w' g T (wrap (knC q.1 x A cap))/\(∀ y,Sk y->ext S w w' y/\∀ a,A2=some a->y≠a.block)/\KnR q.1 x A cap Sk w'/\
  w'.ownsRow w.heap.size 54 2 (.slice A2 q.2.1.length c2) q.2.1.length (q.2.1.map resC).flatten
theorem RetKc.mk' {g T i:Nat} {wrap:List Value->List Value} {S S1:Nat->Prop} {w w':World} {k:Known} {l:List Res} {e:Int} {x:SX} {A A2:Option Addr} {cap c2:Nat} {cs:List Value} (hc:CtxF no (bare w) S1 w' [(g,T,cs)] [⟨54,2,A2,i,c2,(l.map resC).flatten⟩] (KL w g S (KnR k x A cap))) (ec:cs=wrap (knC k x A cap)) (hl:l.length=i):RetKc g T wrap S w (k,l,e) (.returned (.tuple #[.slice A2 i c2,.int .i64 e])) w':=by
 subst hl
 subst ec
 obtain⟨h1,h2,Sr,h3,h4⟩:=hc.leaveL (KnR.stab _ _ _ _)
 have hout:=hc.fst.out
 have hnew:∀ a,A2=some a->w.heap.size<=a.block:=fun a ha=>by
  rcases Nat.lt_or_ge a.block w.heap.size with h | h
  ·have k1:=hout a ha
   have k2:=k1.2 _ (List.mem_cons_self ..)
   exact absurd (hc.row.1 a.block h (fun e=>k2 e.symm)).1 k1.1
  ·exact h
 refine⟨A2,c2,rfl,h1,x,A,cap,Sr,h2,fun y hy=>⟨(h3 y hy).2,fun a ha e=>(hout a ha).1 (e▸(h3 y hy).1)⟩,h4,hc.fst.row.1,?_⟩
 rcases hc.fst.row.2 with h | ⟨g',cp,cur,e1,_,h5⟩
 ·exact .inl h
 ·refine .inr ⟨g',cp,cur,e1,?_,h5⟩
  cases e1
  exact hnew _ rfl
theorem RetKc.mk {g T:Nat} {wrap:List Value->List Value} {S S1:Nat->Prop} {w w':World} {k:Known} {e:Int} {x:SX} {A A2:Option Addr} {cap c2:Nat} {cs:List Value} (hc:CtxF no (bare w) S1 w' [(g,T,cs)] [⟨54,2,A2,0,c2,[]⟩] (KL w g S (KnR k x A cap))) (ec:cs=wrap (knC k x A cap)):RetKc g T wrap S w (k,[],e) (.returned (.tuple #[.slice A2 0 c2,.int .i64 e])) w':=RetKc.mk' (l:=[]) hc ec rfl
theorem _root_.Go.Vc.CtxF.castL {S0 S:Nat->Prop} {w0 w:World} {g T:Nat} {cs cs':List Value} {l:List LB} {os:List OR} {R:Kn} (hc:CtxF S0 w0 S w ((g,T,cs)::l) os R) (e:cs=cs'):CtxF S0 w0 S w ((g,T,cs')::l) os R:=e▸hc
theorem flat_snoc (l:List Res) (x:Res):((l++[x]).map resC).flatten=(l.map resC).flatten++resC x:=by simp
theorem commit_row {l r:List D} {d:D} {ad:Addr} {cap:Nat} {S:Nat->Prop} {w:World} (hl:l=d::r) (hR:Row S w (some ad) l.length cap (l.map dC).flatten):Row S w (if (cap:Int)=1 then some ad else (some ad).map (·.add ((1:Int).toNat*8))) r.length (cap-1) (r.map dC).flatten:=by
 have h:=Row.back hR 8 (by rw [(dC_flat l).len,List.length_map]) 1 1 rfl (by rw [hl,List.length_cons];omega)
 have e1:l.length-1=r.length:=by rw [hl];rfl
 have e2:((l.map dC).flatten).drop (1*8)=(r.map dC).flatten:=by
  rw [hl,List.map_cons,List.flatten_cons]
  exact List.drop_left' rfl
 rw [e1,e2] at h
 exact h
theorem kdo_call {w w1:World} {g T:Nat} {S S1:Nat->Prop} {l:List LB} {os:List OR} {ki:Known} {x:SX} {A:Option Addr} {cap:Nat} {cs:List Value} (hc:CtxF no (bare w) S1 w1 l os (KL w g S (KnR ki x A cap))) (k:Nat) (hk:l[k]?=some (g,T,cs)) (hko:ki.Ok) (d:D) (hd:d.Ok):
  Calls Tryz.prog 86 #[.agg (stX ki.b x).toArray,.agg (dC d).toArray] w1 (fun en wq=>∃ xS S2,en=.returned (.tuple #[.agg (stX (doS ki.b d).1 xS).toArray,.agg #[.int .i64 (doS ki.b d).2.err,.int .i64 (doS ki.b d).2.ver]])/\Below w1.heap.size w1 wq/\CtxF no (bare w) S2 wq l os (KL w g S (fun S w=>KnR ki x A cap S w/\RepS S w (doS ki.b d).1 (stX (doS ki.b d).1 xS)))):=by
 obtain⟨Sr,hR1,hSr,hin⟩:=hc.inL (KnR.stab _ _ _ _) k hk
 refine (bdo_any ki.b d (foldS_keys hko.may hko.lows) hd (stX ki.b x) Sr _ (fun b hb=>hc.ctx.lt b (hSr b hb)) hR1.1).mono fun en wq hq2=>?_
 obtain⟨cS,e1,hb,hrep⟩:=hq2
 obtain⟨xS,rfl⟩:=hrep.stX
 exact⟨xS,_,e1,hb,hin (hc.call hb) (fun x hx=>.inl (hx.elim (fun h=>.inl (hSr x h)) .inr)) (X:=fun S w=>RepS S w (doS ki.b d).1 (stX (doS ki.b d).1 xS)) (stab_S _ _) (hrep.map fun h=>h.sub fun b hb=>⟨hb,hb.elim (fun h=>.inl (hSr b h)) .inr⟩)⟩
theorem kadd1_any (k:Known) (h:k.Ok) (d:D) (hd:d.Ok) (x:SX) (A:Option Addr) (cap g:Nat) (S:Nat->Prop) (w:World) (p:Value) (dn:Bool) (hB:Blk w g 98 (wrap1 p dn (knC k x A cap))) (hS:∀ x,S x->x<w.heap.size/\x≠g) (hR:KnR k x A cap S w):
  Calls Tryz.prog 44 #[.pointer (some ⟨g,1,none⟩),.agg (dC d).toArray] w (RetKn g 98 (wrap1 p dn) S w (.int .i64 (addKE k d)) (addK k d)):=by
 obtain⟨e,he⟩:∃ e,e=addKE k d:=⟨_,rfl⟩
 obtain⟨k',hk'⟩:∃ k',k'=addK k d:=⟨_,rfl⟩
 unfold addK at hk'
 rw [<-he] at hk'
 rw [<-he,show addK k d=k' from by rw [hk',he];rfl]
 unfold addKE at he
 have hc:=CtxF.enterL hB hS hR (KnR.stab _ _ _ _)
 refine vE Tryz.func44 ?_
 refine hc.n fun g3 wg3 hg3 hc=>?_
 refine hc.a 0 rfl rfl ?_
 refine hc.q (may_any d hd _) fun wQ hQ hc=>?_
 cases hm:mayD d with
 | false=>
  rw [hm,if_neg (by decide)] at he
  rw [he,if_neg (by decide)] at hk'
  subst he hk'
  exact RetKn.mk hc.drop rfl _
 | true=>
 rw [hm,if_pos rfl] at he
 refine⟨_,hc.cell 1 rfl _ rfl,?_⟩
 by_cases h60:60<=k.pend.length
 ·rw [if_pos (.inl h60)] at he
  rw [he,if_neg (by decide)] at hk'
  subst he hk'
  refine split_t (decide_eq_true (by omega)) ?_
  exact RetKn.mk hc.drop rfl _
 refine split_f (decide_eq_false (by omega)) ?_
 refine⟨knC k x A cap,rfl,hc.cellsAt 1 rfl 1 (knC k x A cap) rfl,?_⟩
 refine hc.q (kseq_any k h x A cap _) fun wQ hQ hc=>?_
 by_cases hsq:maxN<=k.seq
 ·rw [if_pos (.inr hsq)] at he
  rw [he,if_neg (by decide)] at hk'
  subst he hk'
  refine split_t (decide_eq_true hsq) ?_
  exact RetKn.mk hc.drop rfl _
 refine split_f (decide_eq_false hsq) ?_
 rw [if_neg (fun h=>h.elim h60 hsq)] at he
 rw [he,if_pos rfl] at hk'
 subst he hk'
 refine vD (.Q [0,1,2,3,6] (.n 4 (.n 5 (.n 7 (.n 8 (.Q [9,10] (.n 11 .fin .stop)) .stop) .stop) (.n 7 (.n 5 (.n 8 (.Q [9,10] (.n 11 .fin .stop)) .stop) .stop) .stop)) (.n 7 (.n 4 (.n 5 (.n 8 (.Q [9,10] (.n 11 .fin .stop)) .stop) .stop) .stop) .stop))) (fun z=>Blk z g3 32 (dC d)) (hc.blk 0 rfl) ?_
 have hc:=hc.drew
 refine⟨dC d,rfl,fun z hz=>drop_cells hz 0 _ 0 (fun j v hj=>by simpa using hj),?_⟩
 refine⟨?_,?_⟩
 ·skip
  refine⟨_,hc.cell 1 rfl _ rfl,(hc.blk 0 rfl),?_⟩
  refine⟨?_,?_⟩
  ·skip
   obtain⟨Sr,hR1,hSr,hin⟩:=hc.inL (KnR.stab _ _ _ _) 1 rfl
   refine⟨(cloneD_any A k.pend.length cap _ (dC_flat _) (List.length_map _) (by have:=h.len;omega) Sr _ hR1.2).mono fun en wq hq=>?_⟩
   obtain⟨A2,cap2,e1,hb,ho⟩:=hq
   have hc:=hc.fresh hb ho
   refine⟨_,e1,(hc.blk 0 rfl),?_⟩
   refine⟨hc.n fun gv wgv hgv hc=>?_,trivial⟩
   refine⟨(hc.blk 1 rfl),?_⟩
   refine⟨app_ownF (m:=1) Tryz.underlying22 info_D rfl (by decide) hc (by rfl) (hc.cells 0 rfl) rfl (by have:=h.len;show k.pend.length+1<=_;omega) (by decide) rfl rfl ?_,trivial⟩
   intro A3 cap3 w3 hc
   refine⟨(hc.blk 1 rfl),?_⟩
   refine⟨hc.s 2 rfl fun wS hS hc=>?_,trivial⟩
   refine⟨(hc.blk 1 rfl),?_⟩
   obtain⟨S2,hc⟩:=hc.toldL (KnR.stab _ _ _ _) 2 rfl
   have hc:=(hc.nowL (R':=KnR ⟨k.b,k.pend++[d],k.ep,k.ln⟩ x A3 cap3) (fun S w h=>⟨h.1.1,by
    have e1:((k.pend++[d]).map dC).flatten=(k.pend.map dC).flatten++dC d:=by simp
    have e2:(k.pend++[d]).length=k.pend.length+1:=by simp
    show Row S w A3 (k.pend++[d]).length cap3 ((k.pend++[d]).map dC).flatten
    rw [e1,e2]
    exact h.2⟩) (KnR.stab _ _ _ _)).drop.drop
   refine RetKn.mk hc ?_ _
   show _=wrap1 p dn (knC ⟨k.b,k.pend++[d],k.ep,k.ln⟩ x A3 cap3)
   unfold knC wrap1
   rw [show (k.pend++[d]).length=k.pend.length+1 from by simp]
   rfl
  refine⟨hc.n fun gv wgv hgv hc=>?_,trivial⟩
  refine⟨(hc.blk 1 rfl),?_⟩
  refine⟨?_,trivial⟩
  obtain⟨Sr,hR1,hSr,hin⟩:=hc.inL (KnR.stab _ _ _ _) 2 rfl
  refine⟨(cloneD_any A k.pend.length cap _ (dC_flat _) (List.length_map _) (by have:=h.len;omega) Sr _ hR1.2).mono fun en wq hq=>?_⟩
  obtain⟨A2,cap2,e1,hb,ho⟩:=hq
  have hc:=hc.fresh hb ho
  refine⟨_,e1,(hc.blk 1 rfl),?_⟩
  refine⟨app_ownF (m:=1) Tryz.underlying22 info_D rfl (by decide) hc (by rfl) (hc.cells 0 rfl) rfl (by have:=h.len;show k.pend.length+1<=_;omega) (by decide) rfl rfl ?_,trivial⟩
  intro A3 cap3 w3 hc
  refine⟨(hc.blk 1 rfl),?_⟩
  refine⟨hc.s 2 rfl fun wS hS hc=>?_,trivial⟩
  refine⟨(hc.blk 1 rfl),?_⟩
  obtain⟨S2,hc⟩:=hc.toldL (KnR.stab _ _ _ _) 2 rfl
  have hc:=(hc.nowL (R':=KnR ⟨k.b,k.pend++[d],k.ep,k.ln⟩ x A3 cap3) (fun S w h=>⟨h.1.1,by
   have e1:((k.pend++[d]).map dC).flatten=(k.pend.map dC).flatten++dC d:=by simp
   have e2:(k.pend++[d]).length=k.pend.length+1:=by simp
   show Row S w A3 (k.pend++[d]).length cap3 ((k.pend++[d]).map dC).flatten
   rw [e1,e2]
   exact h.2⟩) (KnR.stab _ _ _ _)).drop.drop
  refine RetKn.mk hc ?_ _
  show _=wrap1 p dn (knC ⟨k.b,k.pend++[d],k.ep,k.ln⟩ x A3 cap3)
  unfold knC wrap1
  rw [show (k.pend++[d]).length=k.pend.length+1 from by simp]
  rfl
 refine⟨hc.n fun gv wgv hgv hc=>?_,trivial⟩
 refine⟨(hc.blk 1 rfl),?_⟩
 refine⟨⟨_,hc.cell 2 rfl _ rfl,(hc.blk 1 rfl),?_⟩,trivial⟩
 refine⟨?_,trivial⟩
 obtain⟨Sr,hR1,hSr,hin⟩:=hc.inL (KnR.stab _ _ _ _) 2 rfl
 refine⟨(cloneD_any A k.pend.length cap _ (dC_flat _) (List.length_map _) (by have:=h.len;omega) Sr _ hR1.2).mono fun en wq hq=>?_⟩
 obtain⟨A2,cap2,e1,hb,ho⟩:=hq
 have hc:=hc.fresh hb ho
 refine⟨_,e1,(hc.blk 1 rfl),?_⟩
 refine⟨app_ownF (m:=1) Tryz.underlying22 info_D rfl (by decide) hc (by rfl) (hc.cells 0 rfl) rfl (by have:=h.len;show k.pend.length+1<=_;omega) (by decide) rfl rfl ?_,trivial⟩
 intro A3 cap3 w3 hc
 refine⟨(hc.blk 1 rfl),?_⟩
 refine⟨hc.s 2 rfl fun wS hS hc=>?_,trivial⟩
 refine⟨(hc.blk 1 rfl),?_⟩
 obtain⟨S2,hc⟩:=hc.toldL (KnR.stab _ _ _ _) 2 rfl
 have hc:=(hc.nowL (R':=KnR ⟨k.b,k.pend++[d],k.ep,k.ln⟩ x A3 cap3) (fun S w h=>⟨h.1.1,by
  have e1:((k.pend++[d]).map dC).flatten=(k.pend.map dC).flatten++dC d:=by simp
  have e2:(k.pend++[d]).length=k.pend.length+1:=by simp
  show Row S w A3 (k.pend++[d]).length cap3 ((k.pend++[d]).map dC).flatten
  rw [e1,e2]
  exact h.2⟩) (KnR.stab _ _ _ _)).drop.drop
 refine RetKn.mk hc ?_ _
 show _=wrap1 p dn (knC ⟨k.b,k.pend++[d],k.ep,k.ln⟩ x A3 cap3)
 unfold knC wrap1
 rw [show (k.pend++[d]).length=k.pend.length+1 from by simp]
 rfl
theorem kcommit_leaf0 {w w1:World} {g i cap c3:Nat} {S S1:Nat->Prop} {y1 y2 y3:LB} {k ki:Known} {d:D} {r:List D} {l:List Res} {x xS:SX} {ad0:Addr} {A3:Option Addr}
  (hk1:kAt k (i+1)=⟨(doS ki.b d).1,r,k.ep,k.ln⟩) (hk2:resS k.b (k.pend.take (i+1))=l++[(doS ki.b d).2]) (hpd:ki.pend=d::r) (hcapb:ki.pend.length<=cap) (hke:ki.ep=k.ep) (hkl:ki.ln=k.ln)
  (hc:CtxF no (bare w) S1 w1 [y1,y2,y3,(g,96,putAt (putAt (knC ki x (some ad0) cap) 0 (stX (doS ki.b d).1 xS)) (0+8) [.slice (if (cap:Int)=1 then some ad0 else (some ad0).map (·.add ((1:Int).toNat*8))) ((ki.pend.length:Int)-1).toNat ((cap:Int)-1).toNat])] [⟨54,2,A3,i+1,c3,(l.map resC).flatten++resC (doS ki.b d).2⟩] (KL w g S (fun S w=>KnR ki x (some ad0) cap S w/\RepS S w (doS ki.b d).1 (stX (doS ki.b d).1 xS)))):
  ∃ S3 A' cap',CtxF no (bare w) S3 w1 [(g,96,(knC (kAt k (i+1)) xS A' cap'))] [⟨54,2,A3,i+1,c3,((resS k.b (k.pend.take (i+1))).map resC).flatten⟩] (KL w g S (KnR (kAt k (i+1)) xS A' cap')):=by
 have hpl:ki.pend.length=r.length+1:=by rw [hpd];rfl
 have hc:=((hc.nowL (R':=KnR ⟨(doS ki.b d).1,r,k.ep,k.ln⟩ xS (if (cap:Int)=1 then some ad0 else (some ad0).map (·.add ((1:Int).toNat*8))) (cap-1)) (fun S w h=>⟨h.2,commit_row hpd h.1.2⟩) (KnR.stab _ _ _ _)).drop.drop.drop).castL (cs':=(knC ⟨(doS ki.b d).1,r,k.ep,k.ln⟩ xS (if (cap:Int)=1 then some ad0 else (some ad0).map (·.add ((1:Int).toNat*8))) (cap-1))) (by
  rw [show cap-1=((cap:Int)-1).toNat from by omega]
  unfold knC
  rw [<-hke,<-hkl,show r.length=((ki.pend.length:Int)-1).toNat from by omega]
  rfl)
 rw [hk1,hk2,flat_snoc]
 exact⟨_,_,_,hc⟩
set_option maxHeartbeats 4000000 in
theorem kcommit0_any (k:Known) (h:k.Ok) (n:Int) (hn:i64ok n) (x:SX) (A:Option Addr) (cap g:Nat) (S:Nat->Prop) (w:World) (hB:Blk w g 96 (knC k x A cap)) (hS:∀ x,S x->x<w.heap.size/\x≠g) (hR:KnR k x A cap S w):
  Calls Tryz.prog 49 #[.pointer (some ⟨g,0,none⟩),.int .i64 n] w (RetKc g 96 id S w (commitE k n)):=by
 have hsq:=h.seq
 have hln:=h.len
 have hm:maxN=1099511627776:=rfl
 have h0:=(mayS_parts.1 h.may).1.1
 have hc:=CtxF.enterL hB hS hR (KnR.stab _ _ _ _)
 obtain⟨q,hq⟩:∃ q,q=commitE k n:=⟨_,rfl⟩
 rw [<-hq]
 unfold commitE at hq
 refine vE Tryz.func49 ?_
 refine⟨knC k x A cap,rfl,hc.cellsAt 0 rfl 0 (knC k x A cap) rfl,?_⟩
 refine hc.q (kseq_any k h x A cap _) fun wQ hQ hc=>?_
 by_cases hgt:k.seq<n
 ·rw [if_pos hgt] at hq
  subst hq
  refine split_t (decide_eq_true hgt) ?_
  exact RetKc.mk (A2:=none) (c2:=0) (hc.nil 54 2) rfl
 rw [if_neg hgt] at hq
 refine split_f (decide_eq_false hgt) ?_
 have hc:=hc.nil 54 2
 have hj:(n-k.b.seq).toNat<=k.pend.length:=by unfold Known.seq at hgt;omega
 refine⟨Nat × Option Addr × Nat,fun y=>[(0,.pointer (some ⟨g,0,none⟩)),(1,.int .i64 n),(6,.slice y.2.1 y.1 y.2.2)],
  fun y w'=>y.1<=(n-k.b.seq).toNat/\∃ S1 x A cap,CtxF no (bare w) S1 w' [(g,96,(knC (kAt k y.1) x A cap))] [⟨54,2,y.2.1,y.1,y.2.2,((resS k.b (k.pend.take y.1)).map resC).flatten⟩] (KL w g S (KnR (kAt k y.1) x A cap)),fun y _=>(n-k.b.seq).toNat-y.1,(0,none,0),⟨rfl,rfl,rfl,trivial⟩,⟨Nat.zero_le _,_,x,A,cap,hc⟩,?_⟩
 clear hc
 rintro⟨i,A2,c2⟩ w1 u ⟨hi,S1,x,A,cap,hc⟩
 simp only at hi hc
 have hko:=kAt_ok h i
 have hks:=kAt_seq h (i:=i) (by omega)
 have hkn:=kAt_next k i
 have hke:(kAt k i).ep=k.ep:=rfl
 have hkl:(kAt k i).ln=k.ln:=rfl
 generalize hki:kAt k i=ki at*
 refine⟨_,hc.cell 0 rfl _ rfl,?_⟩
 by_cases hlt:i<(n-k.b.seq).toNat
 rotate_left
 ·refine split_f (decide_eq_false (by show ¬ ki.b.seq<n;omega)) ?_
  have hii:i=(n-k.b.seq).toNat:=by omega
  have e:q=(ki,resS k.b (k.pend.take i),0):=by rw [hq,<-hki,hii];rfl
  subst e
  have hlen:(resS k.b (k.pend.take i)).length=i:=by rw [resS_len,List.length_take];omega
  exact RetKc.mk' hc rfl hlen
 refine split_t (decide_eq_true (by show ki.b.seq<n;omega)) ?_
 obtain⟨d,r,hpd⟩:∃ d r,ki.pend=d::r:=by
  have e:ki.pend=k.pend.drop i:=by rw [<-hki];rfl
  cases hd:k.pend.drop i with
  | nil=>
   have:=congrArg List.length hd
   rw [List.length_drop] at this
   simp only [List.length_nil] at this
   omega
  | cons d r=>exact⟨d,r,by rw [e,hd]⟩
 obtain⟨hk1,hk2⟩:=hkn d r hpd
 have hdd:=hko.pend d (by rw [hpd];exact List.mem_cons_self ..)
 have hpl:ki.pend.length=r.length+1:=by rw [hpd];rfl
 obtain⟨hk0,Sr0,hs0,hR0⟩:=hc.row
 obtain⟨ad0,rfl,hcell0⟩:=Row.elemF hR0.2 (by decide) (dC_flat _) 0 (by rw [List.length_map,hpl];omega)
 have hcell:Go.Vc.cellsAt w1 ad0 (dC d) 0:=by
  have e:(ki.pend.map dC)[0]'(by rw [List.length_map,hpl];omega)=dC d:=by simp [hpd]
  rw [e] at hcell0
  have e2:ad0.add (0*8)=ad0:=by unfold Addr.add;simp
  rw [e2] at hcell0
  exact hcell0
 have hcapb:ki.pend.length<=cap:=hR0.2.1
 refine Drawn.join (α:=Nat × Nat × SX) (fun z=>[(0,.pointer (some ⟨g,0,none⟩)),(1,.int .i64 n),(6,.slice A2 i c2),(7,.pointer (some ⟨z.1,0,none⟩)),(8,.pointer (some ⟨z.2.1,0,none⟩))])
  (fun z wS=>∃ S2,CtxF no (bare w) S2 wS [(z.2.1,54,resC (doS ki.b d).2),(z.1,43,stX (doS ki.b d).1 z.2.2),(g,96,(knC ki x (some ad0) cap))] [⟨54,2,A2,i,c2,((resS k.b (k.pend.take i)).map resC).flatten⟩] (KL w g S (fun S w=>KnR ki x (some ad0) cap S w/\RepS S w (doS ki.b d).1 (stX (doS ki.b d).1 z.2.2)))) ?_ ?_
 ·have hr:=hc
  refine vD (.Q [0,1,2,3,4,5,6,7,8,9] (.n 10 (.Q [11,12,13] (.n 14 (.n 15 (.n 16 (.z 17) .stop) .stop) (.n 15 (.n 14 (.n 16 (.z 17) .stop) .stop) .stop))) (.n 14 (.n 10 (.Q [11,12,13] (.n 15 (.n 16 (.z 17) .stop) .stop)) (.n 15 (.n 10 (.Q [11,12,13] (.n 16 (.z 17) .stop)) .stop) .stop)) (.n 15 (.n 10 (.Q [11,12,13] (.n 14 (.n 16 (.z 17) .stop) .stop)) (.n 14 (.n 10 (.Q [11,12,13] (.n 16 (.z 17) .stop)) .stop) .stop)) .stop)))) (Old _) (Old.start _) ?_
  have hk:=hc.old0
  have hc:=hc.drew
  refine⟨stX ki.b x,rfl,fun z hz=>Old.looks hz (hr.cellsAt 0 rfl 0 (stX ki.b x) rfl),?_⟩
  refine⟨_,fun z hz=>Keeps.cell hz (hr.blk 0 rfl) (hr.blk 0 rfl).lt rfl,?_⟩
  refine⟨⟨by decide,by show (0:Int)<(ki.pend.length:Int);omega⟩,?_⟩
  refine⟨dC d,rfl,fun z hz=>Old.looks hz hcell,?_⟩
  refine⟨?_,?_⟩
  ·skip
   refine⟨(kdo_call hc 0 rfl hko d hdd.2).mono fun en wq hq2=>?_⟩
   obtain⟨xS,S2,e1,hb,hc⟩:=hq2
   have hk:=Keeps.below hk (fun _ h=>h) hb
   refine⟨_,e1,hk,?_⟩
   refine⟨?_,?_⟩
   ·skip
    refine hc.n fun g7 wg7 hg7 hc=>?_
    have ng7:=Old.new hk hg7
    have hk:=Keeps.below hk (fun _ h=>h) hg7.below
    refine⟨hk,?_⟩
    refine⟨hc.n fun g8 wg8 hg8 hc=>?_,trivial⟩
    have ng8:=Old.new hk hg8
    have hk:=Keeps.below hk (fun _ h=>h) hg8.below
    refine⟨hk,?_⟩
    refine⟨⟨hc.may 1 rfl _ _ (nle rfl) rfl,?_⟩,trivial⟩
    intro wS hS
    have hk:=Keeps.stored hk (hc.blk 1 rfl) ng7 hS
    have hc:=(hc.set 1 rfl hS).1
    refine⟨hk,?_⟩
    refine hc.s 0 rfl fun wS hS hc=>?_
    first | exact⟨(g7,g8,xS),⟨rfl,rfl,rfl,rfl,rfl,trivial⟩,_,hc⟩ | exact⟨(g7,g8,xS),⟨rfl,rfl,rfl,rfl,rfl,trivial⟩,_,hc.swapL⟩
   refine⟨hc.n fun g8 wg8 hg8 hc=>?_,trivial⟩
   have ng8:=Old.new hk hg8
   have hk:=Keeps.below hk (fun _ h=>h) hg8.below
   refine⟨hk,?_⟩
   refine⟨hc.n fun g7 wg7 hg7 hc=>?_,trivial⟩
   have ng7:=Old.new hk hg7
   have hk:=Keeps.below hk (fun _ h=>h) hg7.below
   refine⟨hk,?_⟩
   refine⟨⟨hc.may 0 rfl _ _ (nle rfl) rfl,?_⟩,trivial⟩
   intro wS hS
   have hk:=Keeps.stored hk (hc.blk 0 rfl) ng7 hS
   have hc:=(hc.set 0 rfl hS).1
   refine⟨hk,?_⟩
   refine hc.s 1 rfl fun wS hS hc=>?_
   first | exact⟨(g7,g8,xS),⟨rfl,rfl,rfl,rfl,rfl,trivial⟩,_,hc⟩ | exact⟨(g7,g8,xS),⟨rfl,rfl,rfl,rfl,rfl,trivial⟩,_,hc.swapL⟩
  refine⟨?_,?_⟩
  ·skip
   refine hc.n fun g7 wg7 hg7 hc=>?_
   have ng7:=Old.new hk hg7
   have hk:=Keeps.below hk (fun _ h=>h) hg7.below
   refine⟨hk,?_⟩
   refine⟨?_,?_⟩
   ·skip
    refine⟨(kdo_call hc 1 rfl hko d hdd.2).mono fun en wq hq2=>?_⟩
    obtain⟨xS,S2,e1,hb,hc⟩:=hq2
    have hk:=Keeps.below hk (fun _ h=>h) hb
    refine⟨_,e1,hk,?_⟩
    refine⟨hc.n fun g8 wg8 hg8 hc=>?_,trivial⟩
    have ng8:=Old.new hk hg8
    have hk:=Keeps.below hk (fun _ h=>h) hg8.below
    refine⟨hk,?_⟩
    refine⟨⟨hc.may 1 rfl _ _ (nle rfl) rfl,?_⟩,trivial⟩
    intro wS hS
    have hk:=Keeps.stored hk (hc.blk 1 rfl) ng7 hS
    have hc:=(hc.set 1 rfl hS).1
    refine⟨hk,?_⟩
    refine hc.s 0 rfl fun wS hS hc=>?_
    first | exact⟨(g7,g8,xS),⟨rfl,rfl,rfl,rfl,rfl,trivial⟩,_,hc⟩ | exact⟨(g7,g8,xS),⟨rfl,rfl,rfl,rfl,rfl,trivial⟩,_,hc.swapL⟩
   refine⟨hc.n fun g8 wg8 hg8 hc=>?_,trivial⟩
   have ng8:=Old.new hk hg8
   have hk:=Keeps.below hk (fun _ h=>h) hg8.below
   refine⟨hk,?_⟩
   refine⟨⟨(kdo_call hc 2 rfl hko d hdd.2).mono fun en wq hq2=>?_⟩,trivial⟩
   obtain⟨xS,S2,e1,hb,hc⟩:=hq2
   have hk:=Keeps.below hk (fun _ h=>h) hb
   refine⟨_,e1,hk,?_⟩
   refine⟨⟨hc.may 1 rfl _ _ (nle rfl) rfl,?_⟩,trivial⟩
   intro wS hS
   have hk:=Keeps.stored hk (hc.blk 1 rfl) ng7 hS
   have hc:=(hc.set 1 rfl hS).1
   refine⟨hk,?_⟩
   refine hc.s 0 rfl fun wS hS hc=>?_
   first | exact⟨(g7,g8,xS),⟨rfl,rfl,rfl,rfl,rfl,trivial⟩,_,hc⟩ | exact⟨(g7,g8,xS),⟨rfl,rfl,rfl,rfl,rfl,trivial⟩,_,hc.swapL⟩
  refine⟨hc.n fun g8 wg8 hg8 hc=>?_,trivial⟩
  have ng8:=Old.new hk hg8
  have hk:=Keeps.below hk (fun _ h=>h) hg8.below
  refine⟨hk,?_⟩
  refine⟨?_,?_⟩
  ·skip
   refine⟨(kdo_call hc 1 rfl hko d hdd.2).mono fun en wq hq2=>?_⟩
   obtain⟨xS,S2,e1,hb,hc⟩:=hq2
   have hk:=Keeps.below hk (fun _ h=>h) hb
   refine⟨_,e1,hk,?_⟩
   refine⟨hc.n fun g7 wg7 hg7 hc=>?_,trivial⟩
   have ng7:=Old.new hk hg7
   have hk:=Keeps.below hk (fun _ h=>h) hg7.below
   refine⟨hk,?_⟩
   refine⟨⟨hc.may 0 rfl _ _ (nle rfl) rfl,?_⟩,trivial⟩
   intro wS hS
   have hk:=Keeps.stored hk (hc.blk 0 rfl) ng7 hS
   have hc:=(hc.set 0 rfl hS).1
   refine⟨hk,?_⟩
   refine hc.s 1 rfl fun wS hS hc=>?_
   first | exact⟨(g7,g8,xS),⟨rfl,rfl,rfl,rfl,rfl,trivial⟩,_,hc⟩ | exact⟨(g7,g8,xS),⟨rfl,rfl,rfl,rfl,rfl,trivial⟩,_,hc.swapL⟩
  refine⟨hc.n fun g7 wg7 hg7 hc=>?_,trivial⟩
  have ng7:=Old.new hk hg7
  have hk:=Keeps.below hk (fun _ h=>h) hg7.below
  refine⟨hk,?_⟩
  refine⟨⟨(kdo_call hc 2 rfl hko d hdd.2).mono fun en wq hq2=>?_⟩,trivial⟩
  obtain⟨xS,S2,e1,hb,hc⟩:=hq2
  have hk:=Keeps.below hk (fun _ h=>h) hb
  refine⟨_,e1,hk,?_⟩
  refine⟨⟨hc.may 0 rfl _ _ (nle rfl) rfl,?_⟩,trivial⟩
  intro wS hS
  have hk:=Keeps.stored hk (hc.blk 0 rfl) ng7 hS
  have hc:=(hc.set 0 rfl hS).1
  refine⟨hk,?_⟩
  refine hc.s 1 rfl fun wS hS hc=>?_
  first | exact⟨(g7,g8,xS),⟨rfl,rfl,rfl,rfl,rfl,trivial⟩,_,hc⟩ | exact⟨(g7,g8,xS),⟨rfl,rfl,rfl,rfl,rfl,trivial⟩,_,hc.swapL⟩
 clear hc
 rintro⟨g7,g8,xS⟩ u2 w2 ⟨S2,hc⟩
 simp only at hc
 refine Drawn.join (α:=Option Addr × Nat) (fun z=>[(0,.pointer (some ⟨g,0,none⟩)),(1,.int .i64 n),(6,.slice z.1 (i+1) z.2)])
  (fun z wS=>∃ S3 A' cap',CtxF no (bare w) S3 wS [(g,96,(knC (kAt k (i+1)) xS A' cap'))] [⟨54,2,z.1,i+1,z.2,((resS k.b (k.pend.take (i+1))).map resC).flatten⟩] (KL w g S (KnR (kAt k (i+1)) xS A' cap'))) ?_ ?_
 ·refine vD (.Q [0,1,2,3,4,5,8,9] (.n 6 (.q 7 (.n 10 (.n 11 (.Q [12,13] (.n 14 (.Q [15,16] (.n 17 (.q 18 .fin) .stop)) .stop)) .stop) .stop)) (.n 10 (.n 6 (.q 7 (.n 11 (.Q [12,13] (.n 14 (.Q [15,16] (.n 17 (.q 18 .fin) .stop)) .stop)) .stop)) (.n 11 (.n 6 (.Q [7,12,13] (.n 14 (.Q [15,16] (.n 17 (.q 18 .fin) .stop)) .stop)) .stop) .stop)) .stop))) (fun z=>Blk z g7 43 (stX (doS ki.b d).1 xS)/\Blk z g8 54 (resC (doS ki.b d).2)) ⟨hc.blk 1 rfl,hc.blk 0 rfl⟩ ?_
  have hc:=hc.drew
  refine⟨stX (doS ki.b d).1 xS,rfl,fun z hz=>drop_cells hz.1 0 _ 0 (fun j v hj=>by simpa using hj),?_⟩
  refine⟨resC (doS ki.b d).2,rfl,fun z hz=>drop_cells hz.2 0 _ 0 (fun j v hj=>by simpa using hj),?_⟩
  refine⟨?_,?_⟩
  ·skip
   refine⟨_,hc.cell 2 rfl _ rfl,⟨hc.blk 1 rfl,hc.blk 0 rfl⟩,?_⟩
   refine⟨⟨by decide,by show (1:Int)<=(ki.pend.length:Int)/\(ki.pend.length:Int)<=(cap:Int)/\(cap:Int)<=(cap:Int);omega⟩,?_⟩
   refine⟨hc.n fun gv wgv hgv hc=>?_,trivial⟩
   refine⟨⟨hc.blk 2 rfl,hc.blk 1 rfl⟩,?_⟩
   refine⟨app_ownF (m:=1) Tryz.underlying35 info_Rs rfl (by decide) hc (by rfl) (hc.cells 0 rfl) rfl (by omega) (by decide) rfl rfl ?_,trivial⟩
   intro A3 c3 w3 hc
   refine⟨⟨hc.blk 2 rfl,hc.blk 1 rfl⟩,?_⟩
   refine⟨hc.s 3 rfl fun wS hS hc=>?_,trivial⟩
   refine⟨⟨hc.blk 2 rfl,hc.blk 1 rfl⟩,?_⟩
   refine⟨hc.s 3 rfl fun wS hS hc=>?_,trivial⟩
   refine⟨⟨hc.blk 2 rfl,hc.blk 1 rfl⟩,?_⟩
   exact⟨(A3,c3),⟨rfl,rfl,rfl,trivial⟩,kcommit_leaf0 hk1 hk2 hpd hcapb hke hkl hc⟩
  refine⟨hc.n fun gv wgv hgv hc=>?_,trivial⟩
  refine⟨⟨hc.blk 2 rfl,hc.blk 1 rfl⟩,?_⟩
  refine⟨?_,?_⟩
  ·skip
   refine⟨_,hc.cell 3 rfl _ rfl,⟨hc.blk 2 rfl,hc.blk 1 rfl⟩,?_⟩
   refine⟨⟨by decide,by show (1:Int)<=(ki.pend.length:Int)/\(ki.pend.length:Int)<=(cap:Int)/\(cap:Int)<=(cap:Int);omega⟩,?_⟩
   refine⟨app_ownF (m:=1) Tryz.underlying35 info_Rs rfl (by decide) hc (by rfl) (hc.cells 0 rfl) rfl (by omega) (by decide) rfl rfl ?_,trivial⟩
   intro A3 c3 w3 hc
   refine⟨⟨hc.blk 2 rfl,hc.blk 1 rfl⟩,?_⟩
   refine⟨hc.s 3 rfl fun wS hS hc=>?_,trivial⟩
   refine⟨⟨hc.blk 2 rfl,hc.blk 1 rfl⟩,?_⟩
   refine⟨hc.s 3 rfl fun wS hS hc=>?_,trivial⟩
   refine⟨⟨hc.blk 2 rfl,hc.blk 1 rfl⟩,?_⟩
   exact⟨(A3,c3),⟨rfl,rfl,rfl,trivial⟩,kcommit_leaf0 hk1 hk2 hpd hcapb hke hkl hc⟩
  refine⟨app_ownF (m:=1) Tryz.underlying35 info_Rs rfl (by decide) hc (by rfl) (hc.cells 0 rfl) rfl (by omega) (by decide) rfl rfl ?_,trivial⟩
  intro A3 c3 w3 hc
  refine⟨⟨hc.blk 2 rfl,hc.blk 1 rfl⟩,?_⟩
  refine⟨⟨_,hc.cell 3 rfl _ rfl,⟨hc.blk 2 rfl,hc.blk 1 rfl⟩,?_⟩,trivial⟩
  refine⟨⟨by decide,by show (1:Int)<=(ki.pend.length:Int)/\(ki.pend.length:Int)<=(cap:Int)/\(cap:Int)<=(cap:Int);omega⟩,?_⟩
  refine⟨hc.s 3 rfl fun wS hS hc=>?_,trivial⟩
  refine⟨⟨hc.blk 2 rfl,hc.blk 1 rfl⟩,?_⟩
  refine⟨hc.s 3 rfl fun wS hS hc=>?_,trivial⟩
  refine⟨⟨hc.blk 2 rfl,hc.blk 1 rfl⟩,?_⟩
  exact⟨(A3,c3),⟨rfl,rfl,rfl,trivial⟩,kcommit_leaf0 hk1 hk2 hpd hcapb hke hkl hc⟩
 clear hc
 rintro⟨A3,c3⟩ u3 w3 ⟨S3,A',cap',hc⟩
 exact⟨(i+1,A3,c3),⟨rfl,rfl,rfl,trivial⟩,⟨hlt,S3,xS,A',cap',hc⟩,by show (n-k.b.seq).toNat-(i+1)<(n-k.b.seq).toNat-i;omega⟩
theorem kcommit_leaf1 {w w1:World} {g i cap c3:Nat} {S S1:Nat->Prop} {y1 y2 y3:LB} {k ki:Known} {d:D} {r:List D} {l:List Res} {x xS:SX} {ad0:Addr} {A3:Option Addr} (p:Value) (dn:Bool)
  (hk1:kAt k (i+1)=⟨(doS ki.b d).1,r,k.ep,k.ln⟩) (hk2:resS k.b (k.pend.take (i+1))=l++[(doS ki.b d).2]) (hpd:ki.pend=d::r) (hcapb:ki.pend.length<=cap) (hke:ki.ep=k.ep) (hkl:ki.ln=k.ln)
  (hc:CtxF no (bare w) S1 w1 [y1,y2,y3,(g,98,putAt (putAt (wrap1 p dn (knC ki x (some ad0) cap)) 1 (stX (doS ki.b d).1 xS)) (1+8) [.slice (if (cap:Int)=1 then some ad0 else (some ad0).map (·.add ((1:Int).toNat*8))) ((ki.pend.length:Int)-1).toNat ((cap:Int)-1).toNat])] [⟨54,2,A3,i+1,c3,(l.map resC).flatten++resC (doS ki.b d).2⟩] (KL w g S (fun S w=>KnR ki x (some ad0) cap S w/\RepS S w (doS ki.b d).1 (stX (doS ki.b d).1 xS)))):
  ∃ S3 A' cap',CtxF no (bare w) S3 w1 [(g,98,(wrap1 p dn (knC (kAt k (i+1)) xS A' cap')))] [⟨54,2,A3,i+1,c3,((resS k.b (k.pend.take (i+1))).map resC).flatten⟩] (KL w g S (KnR (kAt k (i+1)) xS A' cap')):=by
 have hpl:ki.pend.length=r.length+1:=by rw [hpd];rfl
 have hc:=((hc.nowL (R':=KnR ⟨(doS ki.b d).1,r,k.ep,k.ln⟩ xS (if (cap:Int)=1 then some ad0 else (some ad0).map (·.add ((1:Int).toNat*8))) (cap-1)) (fun S w h=>⟨h.2,commit_row hpd h.1.2⟩) (KnR.stab _ _ _ _)).drop.drop.drop).castL (cs':=(wrap1 p dn (knC ⟨(doS ki.b d).1,r,k.ep,k.ln⟩ xS (if (cap:Int)=1 then some ad0 else (some ad0).map (·.add ((1:Int).toNat*8))) (cap-1)))) (by
  rw [show cap-1=((cap:Int)-1).toNat from by omega]
  unfold knC
  rw [<-hke,<-hkl,show r.length=((ki.pend.length:Int)-1).toNat from by omega]
  rfl)
 rw [hk1,hk2,flat_snoc]
 exact⟨_,_,_,hc⟩
set_option maxHeartbeats 4000000 in
theorem kcommit1_any (k:Known) (h:k.Ok) (n:Int) (hn:i64ok n) (x:SX) (A:Option Addr) (cap g:Nat) (S:Nat->Prop) (w:World) (p:Value) (dn:Bool) (hB:Blk w g 98 (wrap1 p dn (knC k x A cap))) (hS:∀ x,S x->x<w.heap.size/\x≠g) (hR:KnR k x A cap S w):
  Calls Tryz.prog 49 #[.pointer (some ⟨g,1,none⟩),.int .i64 n] w (RetKc g 98 (wrap1 p dn) S w (commitE k n)):=by
 have hsq:=h.seq
 have hln:=h.len
 have hm:maxN=1099511627776:=rfl
 have h0:=(mayS_parts.1 h.may).1.1
 have hc:=CtxF.enterL hB hS hR (KnR.stab _ _ _ _)
 obtain⟨q,hq⟩:∃ q,q=commitE k n:=⟨_,rfl⟩
 rw [<-hq]
 unfold commitE at hq
 refine vE Tryz.func49 ?_
 refine⟨knC k x A cap,rfl,hc.cellsAt 0 rfl 1 (knC k x A cap) rfl,?_⟩
 refine hc.q (kseq_any k h x A cap _) fun wQ hQ hc=>?_
 by_cases hgt:k.seq<n
 ·rw [if_pos hgt] at hq
  subst hq
  refine split_t (decide_eq_true hgt) ?_
  exact RetKc.mk (A2:=none) (c2:=0) (hc.nil 54 2) rfl
 rw [if_neg hgt] at hq
 refine split_f (decide_eq_false hgt) ?_
 have hc:=hc.nil 54 2
 have hj:(n-k.b.seq).toNat<=k.pend.length:=by unfold Known.seq at hgt;omega
 refine⟨Nat × Option Addr × Nat,fun y=>[(0,.pointer (some ⟨g,1,none⟩)),(1,.int .i64 n),(6,.slice y.2.1 y.1 y.2.2)],
  fun y w'=>y.1<=(n-k.b.seq).toNat/\∃ S1 x A cap,CtxF no (bare w) S1 w' [(g,98,(wrap1 p dn (knC (kAt k y.1) x A cap)))] [⟨54,2,y.2.1,y.1,y.2.2,((resS k.b (k.pend.take y.1)).map resC).flatten⟩] (KL w g S (KnR (kAt k y.1) x A cap)),fun y _=>(n-k.b.seq).toNat-y.1,(0,none,0),⟨rfl,rfl,rfl,trivial⟩,⟨Nat.zero_le _,_,x,A,cap,hc⟩,?_⟩
 clear hc
 rintro⟨i,A2,c2⟩ w1 u ⟨hi,S1,x,A,cap,hc⟩
 simp only at hi hc
 have hko:=kAt_ok h i
 have hks:=kAt_seq h (i:=i) (by omega)
 have hkn:=kAt_next k i
 have hke:(kAt k i).ep=k.ep:=rfl
 have hkl:(kAt k i).ln=k.ln:=rfl
 generalize hki:kAt k i=ki at*
 refine⟨_,hc.cell 0 rfl _ rfl,?_⟩
 by_cases hlt:i<(n-k.b.seq).toNat
 rotate_left
 ·refine split_f (decide_eq_false (by show ¬ ki.b.seq<n;omega)) ?_
  have hii:i=(n-k.b.seq).toNat:=by omega
  have e:q=(ki,resS k.b (k.pend.take i),0):=by rw [hq,<-hki,hii];rfl
  subst e
  have hlen:(resS k.b (k.pend.take i)).length=i:=by rw [resS_len,List.length_take];omega
  exact RetKc.mk' hc rfl hlen
 refine split_t (decide_eq_true (by show ki.b.seq<n;omega)) ?_
 obtain⟨d,r,hpd⟩:∃ d r,ki.pend=d::r:=by
  have e:ki.pend=k.pend.drop i:=by rw [<-hki];rfl
  cases hd:k.pend.drop i with
  | nil=>
   have:=congrArg List.length hd
   rw [List.length_drop] at this
   simp only [List.length_nil] at this
   omega
  | cons d r=>exact⟨d,r,by rw [e,hd]⟩
 obtain⟨hk1,hk2⟩:=hkn d r hpd
 have hdd:=hko.pend d (by rw [hpd];exact List.mem_cons_self ..)
 have hpl:ki.pend.length=r.length+1:=by rw [hpd];rfl
 obtain⟨hk0,Sr0,hs0,hR0⟩:=hc.row
 obtain⟨ad0,rfl,hcell0⟩:=Row.elemF hR0.2 (by decide) (dC_flat _) 0 (by rw [List.length_map,hpl];omega)
 have hcell:Go.Vc.cellsAt w1 ad0 (dC d) 0:=by
  have e:(ki.pend.map dC)[0]'(by rw [List.length_map,hpl];omega)=dC d:=by simp [hpd]
  rw [e] at hcell0
  have e2:ad0.add (0*8)=ad0:=by unfold Addr.add;simp
  rw [e2] at hcell0
  exact hcell0
 have hcapb:ki.pend.length<=cap:=hR0.2.1
 refine Drawn.join (α:=Nat × Nat × SX) (fun z=>[(0,.pointer (some ⟨g,1,none⟩)),(1,.int .i64 n),(6,.slice A2 i c2),(7,.pointer (some ⟨z.1,0,none⟩)),(8,.pointer (some ⟨z.2.1,0,none⟩))])
  (fun z wS=>∃ S2,CtxF no (bare w) S2 wS [(z.2.1,54,resC (doS ki.b d).2),(z.1,43,stX (doS ki.b d).1 z.2.2),(g,98,(wrap1 p dn (knC ki x (some ad0) cap)))] [⟨54,2,A2,i,c2,((resS k.b (k.pend.take i)).map resC).flatten⟩] (KL w g S (fun S w=>KnR ki x (some ad0) cap S w/\RepS S w (doS ki.b d).1 (stX (doS ki.b d).1 z.2.2)))) ?_ ?_
 ·have hr:=hc
  refine vD (.Q [0,1,2,3,4,5,6,7,8,9] (.n 10 (.Q [11,12,13] (.n 14 (.n 15 (.n 16 (.z 17) .stop) .stop) (.n 15 (.n 14 (.n 16 (.z 17) .stop) .stop) .stop))) (.n 14 (.n 10 (.Q [11,12,13] (.n 15 (.n 16 (.z 17) .stop) .stop)) (.n 15 (.n 10 (.Q [11,12,13] (.n 16 (.z 17) .stop)) .stop) .stop)) (.n 15 (.n 10 (.Q [11,12,13] (.n 14 (.n 16 (.z 17) .stop) .stop)) (.n 14 (.n 10 (.Q [11,12,13] (.n 16 (.z 17) .stop)) .stop) .stop)) .stop)))) (Old _) (Old.start _) ?_
  have hk:=hc.old0
  have hc:=hc.drew
  refine⟨stX ki.b x,rfl,fun z hz=>Old.looks hz (hr.cellsAt 0 rfl 1 (stX ki.b x) rfl),?_⟩
  refine⟨_,fun z hz=>Keeps.cell hz (hr.blk 0 rfl) (hr.blk 0 rfl).lt rfl,?_⟩
  refine⟨⟨by decide,by show (0:Int)<(ki.pend.length:Int);omega⟩,?_⟩
  refine⟨dC d,rfl,fun z hz=>Old.looks hz hcell,?_⟩
  refine⟨?_,?_⟩
  ·skip
   refine⟨(kdo_call hc 0 rfl hko d hdd.2).mono fun en wq hq2=>?_⟩
   obtain⟨xS,S2,e1,hb,hc⟩:=hq2
   have hk:=Keeps.below hk (fun _ h=>h) hb
   refine⟨_,e1,hk,?_⟩
   refine⟨?_,?_⟩
   ·skip
    refine hc.n fun g7 wg7 hg7 hc=>?_
    have ng7:=Old.new hk hg7
    have hk:=Keeps.below hk (fun _ h=>h) hg7.below
    refine⟨hk,?_⟩
    refine⟨hc.n fun g8 wg8 hg8 hc=>?_,trivial⟩
    have ng8:=Old.new hk hg8
    have hk:=Keeps.below hk (fun _ h=>h) hg8.below
    refine⟨hk,?_⟩
    refine⟨⟨hc.may 1 rfl _ _ (nle rfl) rfl,?_⟩,trivial⟩
    intro wS hS
    have hk:=Keeps.stored hk (hc.blk 1 rfl) ng7 hS
    have hc:=(hc.set 1 rfl hS).1
    refine⟨hk,?_⟩
    refine hc.s 0 rfl fun wS hS hc=>?_
    first | exact⟨(g7,g8,xS),⟨rfl,rfl,rfl,rfl,rfl,trivial⟩,_,hc⟩ | exact⟨(g7,g8,xS),⟨rfl,rfl,rfl,rfl,rfl,trivial⟩,_,hc.swapL⟩
   refine⟨hc.n fun g8 wg8 hg8 hc=>?_,trivial⟩
   have ng8:=Old.new hk hg8
   have hk:=Keeps.below hk (fun _ h=>h) hg8.below
   refine⟨hk,?_⟩
   refine⟨hc.n fun g7 wg7 hg7 hc=>?_,trivial⟩
   have ng7:=Old.new hk hg7
   have hk:=Keeps.below hk (fun _ h=>h) hg7.below
   refine⟨hk,?_⟩
   refine⟨⟨hc.may 0 rfl _ _ (nle rfl) rfl,?_⟩,trivial⟩
   intro wS hS
   have hk:=Keeps.stored hk (hc.blk 0 rfl) ng7 hS
   have hc:=(hc.set 0 rfl hS).1
   refine⟨hk,?_⟩
   refine hc.s 1 rfl fun wS hS hc=>?_
   first | exact⟨(g7,g8,xS),⟨rfl,rfl,rfl,rfl,rfl,trivial⟩,_,hc⟩ | exact⟨(g7,g8,xS),⟨rfl,rfl,rfl,rfl,rfl,trivial⟩,_,hc.swapL⟩
  refine⟨?_,?_⟩
  ·skip
   refine hc.n fun g7 wg7 hg7 hc=>?_
   have ng7:=Old.new hk hg7
   have hk:=Keeps.below hk (fun _ h=>h) hg7.below
   refine⟨hk,?_⟩
   refine⟨?_,?_⟩
   ·skip
    refine⟨(kdo_call hc 1 rfl hko d hdd.2).mono fun en wq hq2=>?_⟩
    obtain⟨xS,S2,e1,hb,hc⟩:=hq2
    have hk:=Keeps.below hk (fun _ h=>h) hb
    refine⟨_,e1,hk,?_⟩
    refine⟨hc.n fun g8 wg8 hg8 hc=>?_,trivial⟩
    have ng8:=Old.new hk hg8
    have hk:=Keeps.below hk (fun _ h=>h) hg8.below
    refine⟨hk,?_⟩
    refine⟨⟨hc.may 1 rfl _ _ (nle rfl) rfl,?_⟩,trivial⟩
    intro wS hS
    have hk:=Keeps.stored hk (hc.blk 1 rfl) ng7 hS
    have hc:=(hc.set 1 rfl hS).1
    refine⟨hk,?_⟩
    refine hc.s 0 rfl fun wS hS hc=>?_
    first | exact⟨(g7,g8,xS),⟨rfl,rfl,rfl,rfl,rfl,trivial⟩,_,hc⟩ | exact⟨(g7,g8,xS),⟨rfl,rfl,rfl,rfl,rfl,trivial⟩,_,hc.swapL⟩
   refine⟨hc.n fun g8 wg8 hg8 hc=>?_,trivial⟩
   have ng8:=Old.new hk hg8
   have hk:=Keeps.below hk (fun _ h=>h) hg8.below
   refine⟨hk,?_⟩
   refine⟨⟨(kdo_call hc 2 rfl hko d hdd.2).mono fun en wq hq2=>?_⟩,trivial⟩
   obtain⟨xS,S2,e1,hb,hc⟩:=hq2
   have hk:=Keeps.below hk (fun _ h=>h) hb
   refine⟨_,e1,hk,?_⟩
   refine⟨⟨hc.may 1 rfl _ _ (nle rfl) rfl,?_⟩,trivial⟩
   intro wS hS
   have hk:=Keeps.stored hk (hc.blk 1 rfl) ng7 hS
   have hc:=(hc.set 1 rfl hS).1
   refine⟨hk,?_⟩
   refine hc.s 0 rfl fun wS hS hc=>?_
   first | exact⟨(g7,g8,xS),⟨rfl,rfl,rfl,rfl,rfl,trivial⟩,_,hc⟩ | exact⟨(g7,g8,xS),⟨rfl,rfl,rfl,rfl,rfl,trivial⟩,_,hc.swapL⟩
  refine⟨hc.n fun g8 wg8 hg8 hc=>?_,trivial⟩
  have ng8:=Old.new hk hg8
  have hk:=Keeps.below hk (fun _ h=>h) hg8.below
  refine⟨hk,?_⟩
  refine⟨?_,?_⟩
  ·skip
   refine⟨(kdo_call hc 1 rfl hko d hdd.2).mono fun en wq hq2=>?_⟩
   obtain⟨xS,S2,e1,hb,hc⟩:=hq2
   have hk:=Keeps.below hk (fun _ h=>h) hb
   refine⟨_,e1,hk,?_⟩
   refine⟨hc.n fun g7 wg7 hg7 hc=>?_,trivial⟩
   have ng7:=Old.new hk hg7
   have hk:=Keeps.below hk (fun _ h=>h) hg7.below
   refine⟨hk,?_⟩
   refine⟨⟨hc.may 0 rfl _ _ (nle rfl) rfl,?_⟩,trivial⟩
   intro wS hS
   have hk:=Keeps.stored hk (hc.blk 0 rfl) ng7 hS
   have hc:=(hc.set 0 rfl hS).1
   refine⟨hk,?_⟩
   refine hc.s 1 rfl fun wS hS hc=>?_
   first | exact⟨(g7,g8,xS),⟨rfl,rfl,rfl,rfl,rfl,trivial⟩,_,hc⟩ | exact⟨(g7,g8,xS),⟨rfl,rfl,rfl,rfl,rfl,trivial⟩,_,hc.swapL⟩
  refine⟨hc.n fun g7 wg7 hg7 hc=>?_,trivial⟩
  have ng7:=Old.new hk hg7
  have hk:=Keeps.below hk (fun _ h=>h) hg7.below
  refine⟨hk,?_⟩
  refine⟨⟨(kdo_call hc 2 rfl hko d hdd.2).mono fun en wq hq2=>?_⟩,trivial⟩
  obtain⟨xS,S2,e1,hb,hc⟩:=hq2
  have hk:=Keeps.below hk (fun _ h=>h) hb
  refine⟨_,e1,hk,?_⟩
  refine⟨⟨hc.may 0 rfl _ _ (nle rfl) rfl,?_⟩,trivial⟩
  intro wS hS
  have hk:=Keeps.stored hk (hc.blk 0 rfl) ng7 hS
  have hc:=(hc.set 0 rfl hS).1
  refine⟨hk,?_⟩
  refine hc.s 1 rfl fun wS hS hc=>?_
  first | exact⟨(g7,g8,xS),⟨rfl,rfl,rfl,rfl,rfl,trivial⟩,_,hc⟩ | exact⟨(g7,g8,xS),⟨rfl,rfl,rfl,rfl,rfl,trivial⟩,_,hc.swapL⟩
 clear hc
 rintro⟨g7,g8,xS⟩ u2 w2 ⟨S2,hc⟩
 simp only at hc
 refine Drawn.join (α:=Option Addr × Nat) (fun z=>[(0,.pointer (some ⟨g,1,none⟩)),(1,.int .i64 n),(6,.slice z.1 (i+1) z.2)])
  (fun z wS=>∃ S3 A' cap',CtxF no (bare w) S3 wS [(g,98,(wrap1 p dn (knC (kAt k (i+1)) xS A' cap')))] [⟨54,2,z.1,i+1,z.2,((resS k.b (k.pend.take (i+1))).map resC).flatten⟩] (KL w g S (KnR (kAt k (i+1)) xS A' cap'))) ?_ ?_
 ·refine vD (.Q [0,1,2,3,4,5,8,9] (.n 6 (.q 7 (.n 10 (.n 11 (.Q [12,13] (.n 14 (.Q [15,16] (.n 17 (.q 18 .fin) .stop)) .stop)) .stop) .stop)) (.n 10 (.n 6 (.q 7 (.n 11 (.Q [12,13] (.n 14 (.Q [15,16] (.n 17 (.q 18 .fin) .stop)) .stop)) .stop)) (.n 11 (.n 6 (.Q [7,12,13] (.n 14 (.Q [15,16] (.n 17 (.q 18 .fin) .stop)) .stop)) .stop) .stop)) .stop))) (fun z=>Blk z g7 43 (stX (doS ki.b d).1 xS)/\Blk z g8 54 (resC (doS ki.b d).2)) ⟨hc.blk 1 rfl,hc.blk 0 rfl⟩ ?_
  have hc:=hc.drew
  refine⟨stX (doS ki.b d).1 xS,rfl,fun z hz=>drop_cells hz.1 0 _ 0 (fun j v hj=>by simpa using hj),?_⟩
  refine⟨resC (doS ki.b d).2,rfl,fun z hz=>drop_cells hz.2 0 _ 0 (fun j v hj=>by simpa using hj),?_⟩
  refine⟨?_,?_⟩
  ·skip
   refine⟨_,hc.cell 2 rfl _ rfl,⟨hc.blk 1 rfl,hc.blk 0 rfl⟩,?_⟩
   refine⟨⟨by decide,by show (1:Int)<=(ki.pend.length:Int)/\(ki.pend.length:Int)<=(cap:Int)/\(cap:Int)<=(cap:Int);omega⟩,?_⟩
   refine⟨hc.n fun gv wgv hgv hc=>?_,trivial⟩
   refine⟨⟨hc.blk 2 rfl,hc.blk 1 rfl⟩,?_⟩
   refine⟨app_ownF (m:=1) Tryz.underlying35 info_Rs rfl (by decide) hc (by rfl) (hc.cells 0 rfl) rfl (by omega) (by decide) rfl rfl ?_,trivial⟩
   intro A3 c3 w3 hc
   refine⟨⟨hc.blk 2 rfl,hc.blk 1 rfl⟩,?_⟩
   refine⟨hc.s 3 rfl fun wS hS hc=>?_,trivial⟩
   refine⟨⟨hc.blk 2 rfl,hc.blk 1 rfl⟩,?_⟩
   refine⟨hc.s 3 rfl fun wS hS hc=>?_,trivial⟩
   refine⟨⟨hc.blk 2 rfl,hc.blk 1 rfl⟩,?_⟩
   exact⟨(A3,c3),⟨rfl,rfl,rfl,trivial⟩,kcommit_leaf1 p dn hk1 hk2 hpd hcapb hke hkl hc⟩
  refine⟨hc.n fun gv wgv hgv hc=>?_,trivial⟩
  refine⟨⟨hc.blk 2 rfl,hc.blk 1 rfl⟩,?_⟩
  refine⟨?_,?_⟩
  ·skip
   refine⟨_,hc.cell 3 rfl _ rfl,⟨hc.blk 2 rfl,hc.blk 1 rfl⟩,?_⟩
   refine⟨⟨by decide,by show (1:Int)<=(ki.pend.length:Int)/\(ki.pend.length:Int)<=(cap:Int)/\(cap:Int)<=(cap:Int);omega⟩,?_⟩
   refine⟨app_ownF (m:=1) Tryz.underlying35 info_Rs rfl (by decide) hc (by rfl) (hc.cells 0 rfl) rfl (by omega) (by decide) rfl rfl ?_,trivial⟩
   intro A3 c3 w3 hc
   refine⟨⟨hc.blk 2 rfl,hc.blk 1 rfl⟩,?_⟩
   refine⟨hc.s 3 rfl fun wS hS hc=>?_,trivial⟩
   refine⟨⟨hc.blk 2 rfl,hc.blk 1 rfl⟩,?_⟩
   refine⟨hc.s 3 rfl fun wS hS hc=>?_,trivial⟩
   refine⟨⟨hc.blk 2 rfl,hc.blk 1 rfl⟩,?_⟩
   exact⟨(A3,c3),⟨rfl,rfl,rfl,trivial⟩,kcommit_leaf1 p dn hk1 hk2 hpd hcapb hke hkl hc⟩
  refine⟨app_ownF (m:=1) Tryz.underlying35 info_Rs rfl (by decide) hc (by rfl) (hc.cells 0 rfl) rfl (by omega) (by decide) rfl rfl ?_,trivial⟩
  intro A3 c3 w3 hc
  refine⟨⟨hc.blk 2 rfl,hc.blk 1 rfl⟩,?_⟩
  refine⟨⟨_,hc.cell 3 rfl _ rfl,⟨hc.blk 2 rfl,hc.blk 1 rfl⟩,?_⟩,trivial⟩
  refine⟨⟨by decide,by show (1:Int)<=(ki.pend.length:Int)/\(ki.pend.length:Int)<=(cap:Int)/\(cap:Int)<=(cap:Int);omega⟩,?_⟩
  refine⟨hc.s 3 rfl fun wS hS hc=>?_,trivial⟩
  refine⟨⟨hc.blk 2 rfl,hc.blk 1 rfl⟩,?_⟩
  refine⟨hc.s 3 rfl fun wS hS hc=>?_,trivial⟩
  refine⟨⟨hc.blk 2 rfl,hc.blk 1 rfl⟩,?_⟩
  exact⟨(A3,c3),⟨rfl,rfl,rfl,trivial⟩,kcommit_leaf1 p dn hk1 hk2 hpd hcapb hke hkl hc⟩
 clear hc
 rintro⟨A3,c3⟩ u3 w3 ⟨S3,A',cap',hc⟩
 exact⟨(i+1,A3,c3),⟨rfl,rfl,rfl,trivial⟩,⟨hlt,S3,xS,A',cap',hc⟩,by show (n-k.b.seq).toNat-(i+1)<(n-k.b.seq).toNat-i;omega⟩
set_option maxRecDepth 100000
theorem _root_.Go.Vc.EnvFree.nowL {w w1:World} {g:Nat} {S S1:Nat->Prop} {l:List LB} {os:List OR} {R:Kn} (h:EnvFree (fun x=>x=g) w) (hc:CtxF no (bare w) S1 w1 l os (KL w g S R)):Env w1:=
 (h.kept (G':=no) fun x hx hg=>⟨id,(hc.row.1 x hx hg).2⟩).1
theorem can_add {k:Known} {d:D} (hr:(Rc.add d).Ok) (hc:canR k (.add d)):addKE k d=0/\addK k d=stepK k (.add d):=by
 have e:addKE k d=0:=by
  unfold addKE
  rw [if_pos hr.1,if_neg (fun h=>by
   have:=hc.1
   have:=hc.2
   rcases h with h | h<;>omega)]
 refine⟨e,?_⟩
 unfold addK
 rw [if_pos e]
 rfl
theorem can_done {k:Known} {n:Int} (hc:canR k (.done n)):commitE k n=((commitK k n).1,(commitK k n).2,0):=by
 have hc:n<=k.seq:=hc
 unfold commitE
 rw [if_neg (by omega)]
theorem second4 (a b c d:Value) (ys:List Value):∀ (j:Nat) (u:Value),ys[j]?=some u->([a,b,c,d]++(ys++[]))[4+0+j]?=some u:=fun j u h=>by
 rw [List.append_nil,List.getElem?_append_right (by simp)]
 have e:4+0+j-[a,b,c,d].length=j:=by simp
 rw [e]
 exact h
set_option maxHeartbeats 4000000 in
theorem replay_any (k:Known) (h:k.Ok) (r:Rc) (hr:r.Ok) (hcan:canR k r) (x:SX) (A:Option Addr) (cap g:Nat) (S:Nat->Prop) (w:World) (p:Value) (dn:Bool) (hB:Blk w g 98 (wrap1 p dn (knC k x A cap))) (hS:∀ x,S x->x<w.heap.size/\x≠g) (hR:KnR k x A cap S w) (he:EnvFree (fun x=>x=g) w):
  Calls Tryz.prog 43 #[.pointer (some ⟨g,1,none⟩),.string (txtR r)] w (RetKn g 98 (wrap1 p dn) S w (.bool true) (stepK k r)):=by
 have hc:=CtxF.enterL hB hS hR (KnR.stab _ _ _ _)
 refine vE Tryz.func43 ?_
 have hal:=All_V (putS (vRc r)) w (by rw [putS_rc hr];have:=putV_rc hr;omega) he.1
 rw [allV_rc hr] at hal
 refine⟨hal.mono fun en wq hq=>?_⟩
 obtain⟨A1,c1,e1,hb,hr1⟩:=hq
 obtain⟨xs,hL,hRw⟩:=hr1.rows
 cases r with
 | add d=>
  have hRw:Row (ext no w wq) wq A1 2 c1 xs:=hRw
  have hL:RepL (ext no w wq) wq [vNum 1,valD' d] xs:=hL
  rw [valD_may hr.1] at hL
  simp only [vNum,RepL] at hL
  obtain⟨d0,y0,hd0,⟨d1,y1,hd1,rfl,rfl⟩,rfl⟩:=hL
  rw [RepC] at hd0
  obtain⟨B0,e0,z0,rfl,_⟩:=hd0
  obtain⟨A5,c5,rfl⟩:=hd1.cells
  obtain⟨Sr,hR1,hSr,hin⟩:=hc.inL (KnR.stab _ _ _ _) 0 rfl
  have hc:=hin (hc.call hb) (fun x hx=>.inl (hx.elim (fun h=>.inl (hSr x h)) .inr)) (X:=fun S w=>Row S w A1 2 c1 ([.int .i64 1,.int .i64 1,.string ⟨#[]⟩,.slice B0 0 e0]++(cellsV (vDeed d) A5 c5++[]))/\RepC S w (vDeed d) (cellsV (vDeed d) A5 c5)) (Stab.and (fun _ _ _ _ h f=>h.fut f) (stab_C _ _))
   ⟨hRw.sub fun b hb2=>hb2.elim (fun h=>h.elim) (fun h=>⟨.inr h,.inr h⟩),hd1.sub fun b hb2=>hb2.elim (fun h=>h.elim) (fun h=>⟨.inr h,.inr h⟩)⟩
  refine⟨_,e1,?_⟩
  refine hc.n fun g5 wg5 hg5 hc=>?_
  refine hc.s 0 rfl fun wS hS hc=>?_
  refine⟨_,hc.cell 0 rfl _ rfl,?_⟩
  refine⟨_,hc.cell 0 rfl _ rfl,?_⟩
  obtain⟨_,Sr2,hs2,hR2⟩:=hc.row
  obtain⟨ad,rfl,hSa,hcell⟩:=hR2.2.1.2.2 (by simp)
  refine⟨⟨by decide,(show (0:Int)<2 by decide)⟩,?_⟩
  refine⟨_,hcell 1 _ rfl,?_⟩
  refine⟨_,hc.cell 0 rfl _ rfl,?_⟩
  refine⟨⟨by decide,(show (1:Int)<2 by decide)⟩,?_⟩
  refine⟨cellsV (vDeed d) A5 c5,rfl,row_cells hcell 4 _ 0 (second4 _ _ _ _ _),?_⟩
  have hof:=fun S w hq9=>of_any (vDeed d) (vK (vDeed d)) (vN (vDeed d)) (vS (vDeed d)) A5 (vL (vDeed d)).length c5 S w hq9 (show (deedV (vDeed d)).Ok from hr.2)
  rw [ofD_vDeed d hr.1] at hof
  refine hc.q (hof _ _ hR2.2.2) fun wQ hQ hc=>?_
  refine hc.n fun g7 wg7 hg7 hc=>?_
  refine hc.s 0 rfl fun wS hS hc=>?_
  refine hc.a 0 rfl rfl ?_
  obtain⟨ca1,ca2⟩:=can_add hr hcan
  obtain⟨Sr,hR1,hSr,hin⟩:=hc.inL (Stab.and (KnR.stab _ _ _ _) (Stab.and (fun _ _ _ _ h f=>h.fut f) (stab_C _ _))) 2 rfl
  have had:=kadd1_any k h d hr.2 x A cap g Sr _ p dn (hc.blk 2 rfl) (fun y hy=>⟨hc.ctx.lt y (hSr y hy),fun e=>(hc.ctx.locs.notS (k:=2) rfl).1 (e▸hSr y hy)⟩) hR1.1
  rw [ca1,ca2] at had
  refine⟨had.mono fun en wq hq=>?_⟩
  obtain⟨e1,hT,x',A',cap',hB',hR'⟩:=hq
  have hc:=hin (hc.turnL 2 rfl hT hB') (fun y hy=>.inl (hy.elim (fun h=>.inl (hSr y h)) .inr)) (KnR.stab _ _ _ _) (KnR.stab _ _ _ _ _ _ _ _ hR' ⟨fun y hy=>⟨hy,hy.elim (fun h=>.inl (hSr y h)) .inr⟩,fun _ _=>rfl⟩)
  refine⟨_,e1,?_⟩
  exact RetKn.mk (hc.nowL (fun S w h=>h.2) (KnR.stab _ _ _ _)).drop.drop rfl _
 | done n=>
  have hRw:Row (ext no w wq) wq A1 2 c1 xs:=hRw
  have hL:RepL (ext no w wq) wq [vNum 2,vNum n] xs:=hL
  simp only [vNum,RepL,RepC] at hL
  obtain⟨d0,y0,⟨B0,e0,z0,rfl,_⟩,⟨d1,y1,⟨B1,e2,z1,rfl,_⟩,rfl,rfl⟩,rfl⟩:=hL
  obtain⟨Sr,hR1,hSr,hin⟩:=hc.inL (KnR.stab _ _ _ _) 0 rfl
  have hc:=hin (hc.call hb) (fun x hx=>.inl (hx.elim (fun h=>.inl (hSr x h)) .inr)) (X:=fun S w=>Row S w A1 2 c1 ([.int .i64 1,.int .i64 2,.string ⟨#[]⟩,.slice B0 0 e0]++([.int .i64 1,.int .i64 n,.string ⟨#[]⟩,.slice B1 0 e2]++[]))) (fun _ _ _ _ h f=>h.fut f)
   (hRw.sub fun b hb2=>hb2.elim (fun h=>h.elim) (fun h=>⟨.inr h,.inr h⟩))
  refine⟨_,e1,?_⟩
  refine hc.n fun g5 wg5 hg5 hc=>?_
  refine hc.s 0 rfl fun wS hS hc=>?_
  refine⟨_,hc.cell 0 rfl _ rfl,?_⟩
  refine⟨_,hc.cell 0 rfl _ rfl,?_⟩
  obtain⟨_,Sr2,hs2,hR2⟩:=hc.row
  obtain⟨ad,rfl,hSa,hcell⟩:=hR2.2.2.2 (by simp)
  refine⟨⟨by decide,(show (0:Int)<2 by decide)⟩,?_⟩
  refine⟨_,hcell 1 _ rfl,?_⟩
  refine⟨_,hc.cell 0 rfl _ rfl,?_⟩
  refine⟨⟨by decide,(show (1:Int)<2 by decide)⟩,?_⟩
  refine⟨_,hcell 5 _ rfl,?_⟩
  obtain⟨Sr,hR1,hSr,hin⟩:=hc.inL (Stab.and (KnR.stab _ _ _ _) (fun _ _ _ _ h f=>h.fut f)) 1 rfl
  have hcm:=kcommit1_any k h n hr x A cap g Sr _ p dn (hc.blk 1 rfl) (fun y hy=>⟨hc.ctx.lt y (hSr y hy),fun e=>(hc.ctx.locs.notS (k:=1) rfl).1 (e▸hSr y hy)⟩) hR1.1
  rw [can_done hcan] at hcm
  refine⟨hcm.mono fun en wq hq=>?_⟩
  obtain⟨A3,c3,e1,hT,x',A',cap',Sk,hB',hSk,hR',_⟩:=hq
  have hc:=hin (hc.turnL 1 rfl hT hB') (fun y hy=>.inl (hy.elim (fun h=>.inl (hSr y h)) .inr)) (KnR.stab _ _ _ _) (KnR.stab _ _ _ _ _ _ _ _ hR' ⟨fun y hy=>⟨(hSk y hy).1,(hSk y hy).1.elim (fun h=>.inl (hSr y h)) .inr⟩,fun _ _=>rfl⟩)
  refine⟨_,e1,?_⟩
  exact RetKn.mk (hc.nowL (fun S w h=>h.2) (KnR.stab _ _ _ _)).drop rfl _
 | enter n=>
  have hRw:Row (ext no w wq) wq A1 2 c1 xs:=hRw
  have hL:RepL (ext no w wq) wq [vNum 3,vNum n] xs:=hL
  simp only [vNum,RepL,RepC] at hL
  obtain⟨d0,y0,⟨B0,e0,z0,rfl,_⟩,⟨d1,y1,⟨B1,e2,z1,rfl,_⟩,rfl,rfl⟩,rfl⟩:=hL
  obtain⟨Sr,hR1,hSr,hin⟩:=hc.inL (KnR.stab _ _ _ _) 0 rfl
  have hc:=hin (hc.call hb) (fun x hx=>.inl (hx.elim (fun h=>.inl (hSr x h)) .inr)) (X:=fun S w=>Row S w A1 2 c1 ([.int .i64 1,.int .i64 3,.string ⟨#[]⟩,.slice B0 0 e0]++([.int .i64 1,.int .i64 n,.string ⟨#[]⟩,.slice B1 0 e2]++[]))) (fun _ _ _ _ h f=>h.fut f)
   (hRw.sub fun b hb2=>hb2.elim (fun h=>h.elim) (fun h=>⟨.inr h,.inr h⟩))
  refine⟨_,e1,?_⟩
  refine hc.n fun g5 wg5 hg5 hc=>?_
  refine hc.s 0 rfl fun wS hS hc=>?_
  refine⟨_,hc.cell 0 rfl _ rfl,?_⟩
  refine⟨_,hc.cell 0 rfl _ rfl,?_⟩
  obtain⟨_,Sr2,hs2,hR2⟩:=hc.row
  obtain⟨ad,rfl,hSa,hcell⟩:=hR2.2.2.2 (by simp)
  refine⟨⟨by decide,(show (0:Int)<2 by decide)⟩,?_⟩
  refine⟨_,hcell 1 _ rfl,?_⟩
  refine vD (.Q [0,1,2,3,5] (.n 4 (.n 6 (.Q [7,8] (.n 9 (.Q [10,11,12] (.n 13 .fin .stop)) .stop)) .stop) (.n 6 (.Q [7,8] (.n 4 (.n 9 (.Q [10,11,12] (.n 13 .fin .stop)) .stop) (.n 9 (.n 4 (.Q [10,11,12] (.n 13 .fin .stop)) .stop) .stop))) .stop))) (fun _=>True) trivial ?_
  have hc:=hc.drew
  refine⟨?_,?_⟩
  ·skip
   refine⟨_,hc.cell 1 rfl _ rfl,trivial,?_⟩
   refine⟨⟨_,hc.cell 0 rfl _ rfl,trivial,?_⟩,trivial⟩
   refine⟨⟨by decide,(show (1:Int)<2 by decide)⟩,?_⟩
   refine⟨⟨_,hcell 5 _ rfl,trivial,?_⟩,trivial⟩
   refine⟨hc.s' 1 rfl fun wS hS hc=>?_,trivial⟩
   refine RetKn.mk (x:=x) (A:=A) (cap:=cap) (hc.nowL (R':=KnR (stepK k (.enter n)) x A cap) (fun S w h=>h.1) (KnR.stab _ _ _ _)).drop (by
    have e:(if n > k.ep then n else k.ep)=max k.ep n:=by split<;>omega
    rw [e]
    rfl) _
  refine⟨⟨_,hc.cell 0 rfl _ rfl,trivial,?_⟩,trivial⟩
  refine⟨⟨by decide,(show (1:Int)<2 by decide)⟩,?_⟩
  refine⟨?_,?_⟩
  ·skip
   refine⟨_,hc.cell 1 rfl _ rfl,trivial,?_⟩
   refine⟨⟨_,hcell 5 _ rfl,trivial,?_⟩,trivial⟩
   refine⟨hc.s' 1 rfl fun wS hS hc=>?_,trivial⟩
   refine RetKn.mk (x:=x) (A:=A) (cap:=cap) (hc.nowL (R':=KnR (stepK k (.enter n)) x A cap) (fun S w h=>h.1) (KnR.stab _ _ _ _)).drop (by
    have e:(if n > k.ep then n else k.ep)=max k.ep n:=by split<;>omega
    rw [e]
    rfl) _
  refine⟨⟨_,hcell 5 _ rfl,trivial,?_⟩,trivial⟩
  refine⟨⟨_,hc.cell 1 rfl _ rfl,trivial,?_⟩,trivial⟩
  refine⟨hc.s' 1 rfl fun wS hS hc=>?_,trivial⟩
  refine RetKn.mk (x:=x) (A:=A) (cap:=cap) (hc.nowL (R':=KnR (stepK k (.enter n)) x A cap) (fun S w h=>h.1) (KnR.stab _ _ _ _)).drop (by
   have e:(if n > k.ep then n else k.ep)=max k.ep n:=by split<;>omega
   rw [e]
   rfl) _
set_option maxRecDepth 100000
structure Jour where
 C:Chest
 first:ByteArray
 recs:List ByteArray
 down:Bool
def jourC (gc:Nat) (first:ByteArray) (A:Option Addr) (n cap:Nat) (down:Bool):List Value:=[.pointer (some ⟨gc,0,none⟩),.string first,.slice A n cap,.bool down]
def JourK (gj gc b:Nat) (J:Jour):Kn:=fun S w=>∃ A cap,ObjK gj 131 (jourC gc J.first A J.recs.length cap J.down) (RecK 9 A J.recs.length cap (J.recs.map Value.string)) (ChestK gc b J.C) S w
theorem JourK.stab (gj gc b:Nat) (J:Jour):Stab (JourK gj gc b J):=fun S w S' w' h f=>by
 obtain⟨A,cap,h⟩:=h
 exact⟨A,cap,ObjK.stab (RecK.stab _ _ _ _ _) (ChestK.stab _ _ _) _ _ _ _ h f⟩
theorem JourK.chest {gj gc b:Nat} {J:Jour} {S:Nat->Prop} {w:World} (h:JourK gj gc b J S w):ChestK gc b J.C S w:=by
 obtain⟨A,cap,h⟩:=h
 exact h.right (ChestK.stab _ _ _)
theorem JourK.leave {gj gc b n cap:Nat} {first:ByteArray} {A:Option Addr} {down:Bool} {recs:List ByteArray} {C:Chest} {xs:List Value} {Sx S:Nat->Prop} {w w':World}
  (hc:CtxF no (bare w) S w' [(gj,131,jourC gc first A n cap down)] [] (Sep 0 (Sep 0 (Keep w Sx) (RecK 9 A n cap xs)) (ChestK gc b C))) (hx:xs=recs.map Value.string) (hn:n=recs.length) (v:Value):RetOb Sx w v (JourK gj gc b ⟨C,first,recs,down⟩) (.returned v) w':=by
 subst hx
 subst hn
 obtain⟨h1,h2,Sn,h3,h4⟩:=ObjK.leave hc v
 exact⟨h1,h2,Sn,h3,A,cap,h4⟩
theorem jrNil (g:Nat) (ox oy:Operand) (w:World):(do eqGuard BinOp.eql 92 ox oy (.pointer (some ⟨g,0,none⟩)) (.pointer none);Go.binOp BinOp.eql 92 (.pointer (some ⟨g,0,none⟩)) (.pointer none):Sem Value).run Tryz.prog w=.ok (.bool false) w:=by kernel_rfl
def bLOG:ByteArray:=⟨#[76,79,71]⟩
def bNEW:ByteArray:=⟨#[78,69,87]⟩
def chL (room:Int) (r:Scroll):Chest:=⟨room,c3f bLOG r,1⟩
def chN (room:Int) (r rn:Scroll):Chest:=⟨room,putF (c3f bLOG r) bNEW rn,2⟩
theorem nLOG:nameB bLOG=true:=by kernel_rfl
theorem nNEW:nameB bNEW=true:=by kernel_rfl
theorem new_ne:bNEW≠bLOG:=by decide
theorem c3f_at (x:ByteArray) (s:Scroll):c3f x s x=some s:=if_pos rfl
theorem c3f_off {x y:ByteArray} (s:Scroll) (h:y≠x):c3f x s y=none:=if_neg h
theorem putF_c3f (x:ByteArray) (r s:Scroll):putF (c3f x r) x s=c3f x s:=by
 funext y
 unfold putF c3f putF
 split<;>rfl
theorem chL_at (room:Int) (r:Scroll):(chL room r).f bLOG=some r:=by
 show c3f bLOG r bLOG=some r
 exact c3f_at _ _
theorem chL_off (room:Int) (r:Scroll) {y:ByteArray} (h:y≠bLOG):(chL room r).f y=none:=by
 show c3f bLOG r y=none
 exact c3f_off _ h
theorem chN_new (room:Int) (r rn:Scroll):(chN room r rn).f bNEW=some rn:=by
 show (if bNEW=bNEW then some rn else c3f bLOG r bNEW)=some rn
 exact if_pos rfl
theorem chN_log (room:Int) (r rn:Scroll):(chN room r rn).f bLOG=some r:=by
 show (if bLOG=bNEW then some rn else c3f bLOG r bLOG)=some r
 rw [if_neg (Ne.symm new_ne),c3f_at]
theorem write_LOG (room:Int) (r:Scroll) (s:ByteArray):writeC (chL room r) bLOG s=if room<(s.size:Int) then (chL room r,5) else (chL (room-s.size) ⟨r.s++s,r.pressed,r.kept⟩,0):=by
 unfold writeC
 rw [if_pos nLOG,chL_at]
 show (if room<(s.size:Int) then _ else _)=_
 by_cases h:room<(s.size:Int)
 ·rw [if_pos h,if_pos h]
 ·rw [if_neg h,if_neg h]
  have e2:putN (chL room r).f (chL room r).k bLOG=1:=by
   unfold putN
   rw [chL_at]
   rfl
  rw [e2]
  show (Chest.mk (room-s.size) (putF (c3f bLOG r) bLOG _) 1,(0:Int))=_
  rw [putF_c3f]
  rfl
theorem press_LOG (room:Int) (r:Scroll):pressC (chL room r) bLOG=(chL room ⟨r.s,r.s.size,true⟩,0):=by
 unfold pressC
 rw [chL_at]
 have e2:putN (chL room r).f (chL room r).k bLOG=1:=by
  unfold putN
  rw [chL_at]
  rfl
 simp only
 rw [e2]
 show (Chest.mk room (putF (c3f bLOG r) bLOG _) 1,(0:Int))=_
 rw [putF_c3f]
 rfl
theorem write_NEW (room:Int) (r:Scroll) (s:ByteArray):writeC (chL room r) bNEW s=if room<(s.size:Int) then (chL room r,5) else (chN (room-s.size) r ⟨⟨#[]⟩++s,0,false⟩,0):=by
 unfold writeC
 rw [if_pos nNEW,chL_off _ _ new_ne]
 show (if room<(s.size:Int) then _ else _)=_
 by_cases h:room<(s.size:Int)
 ·rw [if_pos h,if_pos h]
 ·rw [if_neg h,if_neg h]
  have e2:putN (chL room r).f (chL room r).k bNEW=2:=by
   unfold putN
   rw [chL_off _ _ new_ne]
   rfl
  rw [e2]
  rfl
theorem press_NEW (room:Int) (r rn:Scroll):pressC (chN room r rn) bNEW=(chN room r ⟨rn.s,rn.s.size,true⟩,0):=by
 unfold pressC
 rw [chN_new]
 have e1:putN (chN room r rn).f (chN room r rn).k bNEW=2:=by
  unfold putN
  rw [chN_new]
  rfl
 have e2:putF (chN room r rn).f bNEW ⟨rn.s,rn.s.size,true⟩=putF (c3f bLOG r) bNEW ⟨rn.s,rn.s.size,true⟩:=by
  funext y
  show (if y=bNEW then _ else (if y=bNEW then _ else _))=(if y=bNEW then _ else _)
  split<;>rfl
 simp only
 rw [e1,e2]
 rfl
theorem call_NEW (room:Int) (r rn:Scroll):callCh (chN room r rn) bNEW bLOG=(chL (room+r.s.size) ⟨rn.s,rn.pressed,true⟩,0):=by
 have e4:(delF (chN room r rn).f bNEW) bLOG=some r:=by
  show (if bLOG=bNEW then none else (chN room r rn).f bLOG)=some r
  rw [if_neg (Ne.symm new_ne),chN_log]
 have e3:putF (delF (chN room r rn).f bNEW) bLOG ⟨rn.s,rn.pressed,true⟩=c3f bLOG ⟨rn.s,rn.pressed,true⟩:=by
  funext y
  show (if y=bLOG then _ else (if y=bNEW then none else (if y=bNEW then _ else (if y=bLOG then _ else none))))=(if y=bLOG then _ else none)
  by_cases h1:y=bLOG
  ·rw [if_pos h1,if_pos h1]
  ·rw [if_neg h1,if_neg h1]
   by_cases h2:y=bNEW
   ·rw [if_pos h2,if_neg h1]
   ·rw [if_neg h2,if_neg h2,if_neg h1]
 have e5:putN (delF (chN room r rn).f bNEW) (delN (chN room r rn).f (chN room r rn).k bNEW) bLOG=1:=by
  unfold putN delN
  rw [e4,chN_new]
  rfl
 unfold callCh
 rw [if_pos nLOG,chN_new]
 simp only
 rw [if_neg new_ne,chN_log,e3,e5]
 rfl
theorem call_none (room:Int) (r:Scroll) (to:ByteArray) (h:nameB to=true):callCh (chL room r) bNEW to=(chL room r,6):=by
 unfold callCh
 rw [if_pos h,chL_off _ _ new_ne]
theorem told_any (gj gc b:Nat) (J:Jour) (e:Int) (Sx:Nat->Prop) (w:World) (hlt:∀ x,Sx x->x<w.heap.size) (hK:JourK gj gc b J Sx w):
  Calls Tryz.prog 128 #[.pointer (some ⟨gj,0,none⟩),.int .i64 e] w (RetOb Sx w (.int .i64 e) (JourK gj gc b ⟨J.C,J.first,J.recs,J.down||e != 0⟩)):=by
 obtain⟨A,cap,hO⟩:=hK
 have hc:=hO.enter hlt (RecK.stab _ _ _ _ _) (ChestK.stab _ _ _)
 refine vE Tryz.func128 ?_
 refine⟨_,hc.cell 0 rfl _ rfl,?_⟩
 obtain⟨C,first,recs,down⟩:=J
 cases down with
 | true=>
  refine hc.s 0 rfl fun wS hS hc=>?_
  exact JourK.leave hc rfl rfl _
 | false=>
  refine hc.s 0 rfl fun wS hS hc=>?_
  exact JourK.leave hc rfl rfl _
def writesC (C:Chest) (name s:ByteArray):Chest × Int:=if (writeC C name s).2=0 then pressC (writeC C name s).1 name else writeC C name s
theorem writes_any (gj gc b:Nat) (J:Jour) (name s:ByteArray) (hto:name.size<=9223372036854775807) (hr : -1000000000000<=J.C.room/\J.C.room<=1000000000000) (hs:s.size<=1000000000000) (hl:((J.C.f name).getD sc0).s.size<=1000000000000) (hkk:J.C.k<999999) (Sx:Nat->Prop) (w:World) (hlt:∀ x,Sx x->x<w.heap.size) (hK:JourK gj gc b J Sx w):
  Calls Tryz.prog 72 #[.pointer (some ⟨gj,0,none⟩),.string name,.string s] w (RetOb Sx w (.int .i64 (writesC J.C name s).2) (JourK gj gc b ⟨(writesC J.C name s).1,J.first,J.recs,J.down⟩)):=by
 obtain⟨A,cap,hO⟩:=hK
 have hc:=hO.enter hlt (RecK.stab _ _ _ _ _) (ChestK.stab _ _ _)
 have hk2:(writeC J.C name s).1.k<1000000:=by
  unfold writeC
  split
  ·split
   ·show J.C.k<_
    omega
   ·show putN _ _ _<_
    unfold putN
    split<;>omega
  ·show J.C.k<_
   omega
 refine vE Tryz.func72 ?_
 refine⟨_,hc.cell 0 rfl _ rfl,?_⟩
 obtain⟨S1,Sa,h1,h2,h3,hO⟩:=hc.row
 refine⟨(write_any gc b J.C name s hto hr hs hl (by omega) Sa _ hO).mono fun en wq hq=>?_⟩
 obtain⟨e1,hT,Sn,hSn,hO⟩:=hq
 have hc:=hc.turnO (Sep.stab (Keep.stab _ _) (RecK.stab _ _ _ _ _)) h1 h2 h3 hT hSn hO (ChestK.stab _ _ _)
 refine⟨_,e1,?_⟩
 unfold writesC
 generalize writeC J.C name s=q at*
 obtain⟨C',e⟩:=q
 simp only at*
 by_cases h0:e=0
 ·subst h0
  rw [if_pos rfl]
  refine⟨_,hc.cell 0 rfl _ rfl,?_⟩
  obtain⟨S1,Sa,h1,h2,h3,hO⟩:=hc.row
  refine⟨(press_any gc b C' name hto hk2 Sa _ hO).mono fun en wq hq=>?_⟩
  obtain⟨e1,hT,Sn,hSn,hO⟩:=hq
  have hc:=hc.turnO (Sep.stab (Keep.stab _ _) (RecK.stab _ _ _ _ _)) h1 h2 h3 hT hSn hO (ChestK.stab _ _ _)
  refine⟨_,e1,?_⟩
  exact JourK.leave hc rfl rfl _
 ·rw [if_neg h0]
  refine split_t (by simpa using h0) ?_
  exact JourK.leave hc rfl rfl _
def JL (room:Int) (r:Scroll) (first:ByteArray) (recs:List ByteArray) (down:Bool):Jour:=⟨chL room r,first,recs,down⟩
def pressJ (room:Int) (r:Scroll) (first:ByteArray) (recs:List ByteArray) (down:Bool):Jour × Int:=if down then (JL room r first recs true,7) else (JL room ⟨r.s,r.s.size,true⟩ first recs false,0)
theorem jpress_any (gj gc b:Nat) (room:Int) (r:Scroll) (first:ByteArray) (recs:List ByteArray) (down:Bool) (Sx:Nat->Prop) (w:World) (hlt:∀ x,Sx x->x<w.heap.size) (hK:JourK gj gc b (JL room r first recs down) Sx w):
  Calls Tryz.prog 129 #[.pointer (some ⟨gj,0,none⟩)] w (RetOb Sx w (.int .i64 (pressJ room r first recs down).2) (JourK gj gc b (pressJ room r first recs down).1)):=by
 obtain⟨A,cap,hO⟩:=hK
 have hc:=hO.enter hlt (RecK.stab _ _ _ _ _) (ChestK.stab _ _ _)
 refine vE Tryz.func129 ?_
 refine⟨.bool false,fun w=>jrNil gj _ _ w,?_⟩
 refine⟨_,hc.cell 0 rfl _ rfl,?_⟩
 cases down with
 | true=>exact JourK.leave hc rfl rfl _
 | false=>
  refine⟨_,hc.cell 0 rfl _ rfl,?_⟩
  have hp:=fun Sa w hK=>press_any gc b (chL room r) bLOG (by decide) (by show 1<1000000;decide) Sa w hK
  rw [press_LOG] at hp
  obtain⟨S1,Sa,h1,h2,h3,hO⟩:=hc.row
  refine⟨(hp Sa _ hO).mono fun en wq hq=>?_⟩
  obtain⟨e1,hT,Sn,hSn,hO⟩:=hq
  have hc:=hc.turnO (Sep.stab (Keep.stab _ _) (RecK.stab _ _ _ _ _)) h1 h2 h3 hT hSn hO (ChestK.stab _ _ _)
  refine⟨_,e1,?_⟩
  obtain⟨Sm,hm0,hkp,hm1,hag⟩:=hc.again
  refine⟨(told_any gj gc b ⟨chL room ⟨r.s,r.s.size,true⟩,first,recs,false⟩ 0 Sm _ hm0 ⟨_,_,hm1⟩).mono fun en wq hq=>?_⟩
  obtain⟨e1,hT,Sn,hSn,A2,cap2,hO⟩:=hq
  obtain⟨S2,hc⟩:=hag hT hSn hO (RecK.stab _ _ _ _ _) (ChestK.stab _ _ _)
  refine⟨_,e1,?_⟩
  exact JourK.leave hc rfl rfl _
set_option maxRecDepth 100000
def leafB (s:ByteArray):ByteArray:=⟨(leafL s).toArray⟩
theorem leafB_size (s:ByteArray):((leafB s).size:Int)=leafN s:=by
 show ((leafL s).toArray.size:Int)=_
 rw [List.size_toArray]
 rfl
def addJ (room:Int) (r:Scroll) (first:ByteArray) (recs:List ByteArray) (down:Bool) (s:ByteArray) (press:Bool):Jour × Int:=
 if down then (JL room r first recs true,7)
 else if (400000:Int)<(s.size:Int) then (JL room r first recs false,1)
 else if room<leafN s then (JL room r first recs true,5)
 else if press then (JL (room-leafN s) ⟨r.s++leafB s,(r.s++leafB s).size,true⟩ first (recs++[s]) false,0)
 else (JL (room-leafN s) ⟨r.s++leafB s,r.pressed,r.kept⟩ first (recs++[s]) false,0)
theorem leaf_empty (s:ByteArray) (h:s.size<=400000):strEq (leafB s) ⟨#[]⟩=false:=by
 rw [<-Bool.not_eq_true,strEq_iff]
 intro e
 have h1:=leafB_size s
 have h2:=(leafN_le s h).1
 rw [e] at h1
 have:((⟨#[]⟩:ByteArray).size:Int)=0:=rfl
 omega
theorem jadd_any (gj gc b:Nat) (room:Int) (r:Scroll) (first:ByteArray) (recs:List ByteArray) (down:Bool) (s:ByteArray) (press:Bool) (hs:s.size<=1000000000) (hr:0<=room/\room<=1000000000) (hl:r.s.size<=1000000000) (hn:recs.length<=1000000) (Sx:Nat->Prop) (w:World) (hlt:∀ x,Sx x->x<w.heap.size) (he:EnvFree Sx w) (hK:JourK gj gc b (JL room r first recs down) Sx w):
  Calls Tryz.prog 81 #[.pointer (some ⟨gj,0,none⟩),.string s,.bool press] w (RetOb Sx w (.int .i64 (addJ room r first recs down s press).2) (JourK gj gc b (addJ room r first recs down s press).1)):=by
 obtain⟨q,hq⟩:∃ q,q=addJ room r first recs down s press:=⟨_,rfl⟩
 rw [<-hq]
 unfold addJ at hq
 obtain⟨A,cap,hO⟩:=hK
 have hc:=hO.enter hlt (RecK.stab _ _ _ _ _) (ChestK.stab _ _ _)
 refine vE Tryz.func81 ?_
 refine⟨.bool false,fun w=>jrNil gj _ _ w,?_⟩
 refine⟨_,hc.cell 0 rfl _ rfl,?_⟩
 cases down with
 | true=>
  rw [if_pos rfl] at hq
  subst hq
  exact JourK.leave hc rfl rfl _
 | false=>
 rw [if_neg (by decide)] at hq
 refine hc.q (leaf_any s (by omega) _ (he.now hc)) fun wQ hQ hc=>?_
 by_cases h4:(400000:Int)<(s.size:Int)
 ·rw [if_pos h4] at hq
  subst hq
  have e:leafL s=[]:=by unfold leafL;rw [if_pos h4]
  rw [e]
  exact JourK.leave hc rfl rfl _
 rw [if_neg h4] at hq
 have h17:=leafN_le s (by omega)
 refine split_f (leaf_empty s (by omega)) ?_
 refine⟨_,hc.cell 0 rfl _ rfl,?_⟩
 have hsz:=leafB_size s
 have hwr:=fun Sa w hK=>write_any gc b (chL room r) bLOG (leafB s) (by decide) ⟨by show _<=room;omega,by show room<=_;omega⟩ (by omega) (by show (((c3f bLOG r) bLOG).getD sc0).s.size<=_;rw [c3f_at];show r.s.size<=_;omega) (by show 1<1000000;decide) Sa w hK
 rw [write_LOG,hsz] at hwr
 by_cases h5:room<leafN s
 ·rw [if_pos h5] at hq hwr
  obtain⟨S1,Sa,h1,h2,h3,hO⟩:=hc.row
  refine⟨(hwr Sa _ hO).mono fun en wq hq=>?_⟩
  obtain⟨e1,hT,Sn,hSn,hO⟩:=hq
  have hc:=hc.turnO (Sep.stab (Keep.stab _ _) (RecK.stab _ _ _ _ _)) h1 h2 h3 hT hSn hO (ChestK.stab _ _ _)
  refine⟨_,e1,?_⟩
  obtain⟨Sm,hm0,hkp,hm1,hag⟩:=hc.again
  refine⟨(told_any gj gc b ⟨chL room r,first,recs,false⟩ 5 Sm _ hm0 ⟨_,_,hm1⟩).mono fun en wq hq=>?_⟩
  obtain⟨e1,hT,Sn,hSn,A2,cap2,hO⟩:=hq
  obtain⟨S2,hc⟩:=hag hT hSn hO (RecK.stab _ _ _ _ _) (ChestK.stab _ _ _)
  refine⟨_,e1,?_⟩
  subst hq
  exact JourK.leave hc rfl rfl _
 rw [if_neg h5] at hq hwr
 obtain⟨S1,Sa,h1,h2,h3,hO⟩:=hc.row
 refine⟨(hwr Sa _ hO).mono fun en wq hq=>?_⟩
 obtain⟨e1,hT,Sn,hSn,hO⟩:=hq
 have hc:=hc.turnO (Sep.stab (Keep.stab _ _) (RecK.stab _ _ _ _ _)) h1 h2 h3 hT hSn hO (ChestK.stab _ _ _)
 refine⟨_,e1,?_⟩
 obtain⟨Sm,hm0,hkp,hm1,hag⟩:=hc.again
 refine⟨(told_any gj gc b ⟨chL (room-leafN s) ⟨r.s++leafB s,r.pressed,r.kept⟩,first,recs,false⟩ 0 Sm _ hm0 ⟨_,_,hm1⟩).mono fun en wq hq=>?_⟩
 obtain⟨e1,hT,Sn,hSn,A2,cap2,hO⟩:=hq
 obtain⟨S2,hc⟩:=hag hT hSn hO (RecK.stab _ _ _ _ _) (ChestK.stab _ _ _)
 refine⟨_,e1,?_⟩
 refine⟨_,hc.cell 0 rfl _ rfl,?_⟩
 refine hc.n fun gv wgv hgv hc=>?_
 have hc:=hc.now Sep.swap (Sep.stab (Sep.stab (Keep.stab _ _) (ChestK.stab _ _ _)) (RecK.stab _ _ _ _ _))
 refine app_rec (m:=1) Tryz.underlying102 info_S rfl hc (Sep.stab (Keep.stab _ _) (ChestK.stab _ _ _)) (hc.cells 0 rfl) rfl (by decide) rfl (by show recs.length+1<=_;omega) (by decide) ?_
 intro A3 cap3 w3 S3 hc
 have hc:=hc.drop.now Sep.swap (Sep.stab (Sep.stab (Keep.stab _ _) (RecK.stab _ _ _ _ _)) (ChestK.stab _ _ _))
 refine hc.s 0 rfl fun wS hS hc=>?_
 cases press with
 | false=>
  subst hq
  exact JourK.leave hc (by rw [List.map_append];rfl) (by rw [List.length_append];rfl) _
 | true=>
  obtain⟨Sm,hm0,hkp,hm1,hag⟩:=hc.again
  have hJ:JourK gj gc b (JL (room-leafN s) ⟨r.s++leafB s,r.pressed,r.kept⟩ first (recs++[s]) false) Sm _:=⟨A3,cap3,by
   have e1:(recs++[s]).length=recs.length+1:=by simp
   have e2:(recs++[s]).map Value.string=recs.map Value.string++[Value.string s]:=by simp
   show ObjK gj _ (jourC gc first A3 (recs++[s]).length cap3 false) (RecK _ A3 (recs++[s]).length cap3 ((recs++[s]).map Value.string)) (ChestK gc b _) Sm _
   rw [e1,e2]
   exact hm1⟩
  refine⟨(jpress_any gj gc b (room-leafN s) ⟨r.s++leafB s,r.pressed,r.kept⟩ first (recs++[s]) false Sm _ hm0 hJ).mono fun en wq hq2=>?_⟩
  obtain⟨e1,hT,Sn,hSn,A2,cap2,hO⟩:=hq2
  obtain⟨S2,hc⟩:=hag hT hSn hO (RecK.stab _ _ _ _ _) (ChestK.stab _ _ _)
  refine⟨_,e1,?_⟩
  subst hq
  exact JourK.leave hc rfl rfl _
def layJ (room:Int) (r:Scroll) (first:ByteArray) (recs:List ByteArray) (down:Bool) (s:ByteArray):Jour × Int:=
 if down then (JL room r first recs true,7)
 else if (400000:Int)<(s.size:Int) then (JL room r first recs false,1)
 else if room<leafN s then (JL room r first recs true,5)
 else (JL (room-leafN s+r.s.size) ⟨leafB s,leafN s,true⟩ s [] false,0)
theorem jlay_any (gj gc b:Nat) (room:Int) (r:Scroll) (first:ByteArray) (recs:List ByteArray) (down:Bool) (s:ByteArray) (hs:s.size<=1000000000) (hr:0<=room/\room<=1000000000) (hl:r.s.size<=1000000000) (Sx:Nat->Prop) (w:World) (hlt:∀ x,Sx x->x<w.heap.size) (he:EnvFree Sx w) (hK:JourK gj gc b (JL room r first recs down) Sx w):
  Calls Tryz.prog 94 #[.pointer (some ⟨gj,0,none⟩),.string s] w (RetOb Sx w (.int .i64 (layJ room r first recs down s).2) (JourK gj gc b (layJ room r first recs down s).1)):=by
 obtain⟨q,hq⟩:∃ q,q=layJ room r first recs down s:=⟨_,rfl⟩
 rw [<-hq]
 unfold layJ at hq
 obtain⟨A,cap,hO⟩:=hK
 have hc:=hO.enter hlt (RecK.stab _ _ _ _ _) (ChestK.stab _ _ _)
 refine vE Tryz.func94 ?_
 refine⟨.bool false,fun w=>jrNil gj _ _ w,?_⟩
 refine⟨_,hc.cell 0 rfl _ rfl,?_⟩
 cases down with
 | true=>
  rw [if_pos rfl] at hq
  subst hq
  exact JourK.leave hc rfl rfl _
 | false=>
 rw [if_neg (by decide)] at hq
 refine hc.q (leaf_any s (by omega) _ (he.now hc)) fun wQ hQ hc=>?_
 by_cases h4:(400000:Int)<(s.size:Int)
 ·rw [if_pos h4] at hq
  subst hq
  have e:leafL s=[]:=by unfold leafL;rw [if_pos h4]
  rw [e]
  exact JourK.leave hc rfl rfl _
 rw [if_neg h4] at hq
 have h17:=leafN_le s (by omega)
 refine split_f (leaf_empty s (by omega)) ?_
 have hsz:=leafB_size s
 have hwr:=fun Sx w hlt hK=>writes_any gj gc b (JL room r first recs false) bNEW (leafB s) (by decide) ⟨by show _<=room;omega,by show room<=_;omega⟩ (by omega) (by show (((c3f bLOG r) bNEW).getD sc0).s.size<=_;rw [c3f_off _ new_ne];decide) (by show 1<999999;decide) Sx w hlt hK
 have ew:writesC (JL room r first recs false).C bNEW (leafB s)=if room<leafN s then (chL room r,5) else (chN (room-leafN s) r ⟨leafB s,leafN s,true⟩,0):=by
  show writesC (chL room r) bNEW (leafB s)=_
  unfold writesC
  rw [write_NEW,hsz]
  by_cases h5:room<leafN s
  ·rw [if_pos h5,if_pos h5]
   rfl
  ·have e0:(⟨#[]⟩:ByteArray)++leafB s=leafB s:=ByteArray.empty_append
   rw [if_neg h5,if_neg h5,if_pos rfl,press_NEW]
   simp only
   rw [e0,hsz]
 rw [ew] at hwr
 by_cases h5:room<leafN s
 ·rw [if_pos h5] at hq hwr
  obtain⟨Sm,hm0,hkp,hm1,hag⟩:=hc.again
  refine⟨(hwr Sm _ hm0 ⟨_,_,hm1⟩).mono fun en wq hq=>?_⟩
  obtain⟨e1,hT,Sn,hSn,A2,cap2,hO⟩:=hq
  obtain⟨S2,hc⟩:=hag hT hSn hO (RecK.stab _ _ _ _ _) (ChestK.stab _ _ _)
  refine⟨_,e1,?_⟩
  obtain⟨Sm,hm0,hkp,hm1,hag⟩:=hc.again
  refine⟨(told_any gj gc b ⟨chL room r,first,recs,false⟩ 5 Sm _ hm0 ⟨_,_,hm1⟩).mono fun en wq hq=>?_⟩
  obtain⟨e1,hT,Sn,hSn,A2,cap2,hO⟩:=hq
  obtain⟨S2,hc⟩:=hag hT hSn hO (RecK.stab _ _ _ _ _) (ChestK.stab _ _ _)
  refine⟨_,e1,?_⟩
  subst hq
  exact JourK.leave hc rfl rfl _
 rw [if_neg h5] at hq hwr
 obtain⟨Sm,hm0,hkp,hm1,hag⟩:=hc.again
 refine⟨(hwr Sm _ hm0 ⟨_,_,hm1⟩).mono fun en wq hq=>?_⟩
 obtain⟨e1,hT,Sn,hSn,A2,cap2,hO⟩:=hq
 obtain⟨S2,hc⟩:=hag hT hSn hO (RecK.stab _ _ _ _ _) (ChestK.stab _ _ _)
 refine⟨_,e1,?_⟩
 obtain⟨Sm,hm0,hkp,hm1,hag⟩:=hc.again
 refine⟨(told_any gj gc b ⟨chN (room-leafN s) r ⟨leafB s,leafN s,true⟩,first,recs,false⟩ 0 Sm _ hm0 ⟨_,_,hm1⟩).mono fun en wq hq=>?_⟩
 obtain⟨e1,hT,Sn,hSn,A2,cap2,hO⟩:=hq
 obtain⟨S2,hc⟩:=hag hT hSn hO (RecK.stab _ _ _ _ _) (ChestK.stab _ _ _)
 refine⟨_,e1,?_⟩
 refine hc.s 0 rfl fun wS hS hc=>?_
 refine hc.s 0 rfl fun wS hS hc=>?_
 refine⟨_,hc.cell 0 rfl _ rfl,?_⟩
 have hc:CtxF _ _ _ _ _ _ (Sep 0 (Sep 0 (Keep w Sx) (RecK 9 none 0 0 [])) (ChestK gc b (chN (room-leafN s) r ⟨leafB s,leafN s,true⟩))):=hc.now (fun h=>by
  obtain⟨S1,So,h1,h2,⟨Sk,Sr,k1,k2,k3,k4⟩,h4⟩:=h
  exact⟨S1,So,h1,h2,⟨Sk,Sr,k1,k2,k3,RecK.nil _ _ _⟩,h4⟩) (Sep.stab (Sep.stab (Keep.stab _ _) (RecK.stab _ _ _ _ _)) (ChestK.stab _ _ _))
 have hcl:=fun Sa w hK=>call_any gc b (chN (room-leafN s) r ⟨leafB s,leafN s,true⟩) bNEW bLOG (by decide) (by decide) ⟨by show _<=room-leafN s;omega,by show room-leafN s<=_;omega⟩ (by
  rw [chN_log]
  show r.s.size<=_
  omega) (by show 2<1000000;decide) Sa w hK
 rw [call_NEW] at hcl
 obtain⟨S1,Sa,h1,h2,h3,hO⟩:=hc.row
 refine⟨(hcl Sa _ hO).mono fun en wq hq=>?_⟩
 obtain⟨e1,hT,Sn,hSn,hO⟩:=hq
 have hc:=hc.turnO (Sep.stab (Keep.stab _ _) (RecK.stab _ _ _ _ _)) h1 h2 h3 hT hSn hO (ChestK.stab _ _ _)
 refine⟨_,e1,?_⟩
 obtain⟨Sm,hm0,hkp,hm1,hag⟩:=hc.again
 refine⟨(told_any gj gc b ⟨chL (room-leafN s+r.s.size) ⟨leafB s,leafN s,true⟩,s,[],false⟩ 0 Sm _ hm0 ⟨_,_,hm1⟩).mono fun en wq hq=>?_⟩
 obtain⟨e1,hT,Sn,hSn,A2,cap2,hO⟩:=hq
 obtain⟨S2,hc⟩:=hag hT hSn hO (RecK.stab _ _ _ _ _) (ChestK.stab _ _ _)
 refine⟨_,e1,?_⟩
 subst hq
 exact JourK.leave hc rfl rfl _
theorem first_any (gj gc b:Nat) (J:Jour) (S:Nat->Prop) (w:World) (hK:JourK gj gc b J S w):Calls Tryz.prog 41 #[.pointer (some ⟨gj,0,none⟩)] w (RetB (.string J.first) w):=by
 obtain⟨A,cap,hO⟩:=hK
 refine vE Tryz.func41 ?_
 refine⟨.bool false,fun w=>jrNil gj _ _ w,?_⟩
 refine⟨_,(hO.2.1.cell 1).trans rfl,?_⟩
 exact⟨rfl,Below.refl _ _⟩
theorem flat_strs (l:List ByteArray):(l.map fun s=>[Value.string s]).flatten=l.map Value.string:=by
 induction l with
 | nil=>rfl
 | cons a r ih=>rw [List.map_cons,List.flatten_cons,ih];rfl
theorem flat1_strs (l:List ByteArray):Flat 1 (l.map fun s=>[Value.string s]):=Flat.map (fun s=>[Value.string s]) (fun a=>⟨rfl,rfl⟩) l
theorem records_any (gj gc b:Nat) (J:Jour) (hn:J.recs.length<=1000000) (S:Nat->Prop) (w:World) (hK:JourK gj gc b J S w):Calls Tryz.prog 42 #[.pointer (some ⟨gj,0,none⟩)] w (RetO 9 1 J.recs.length (J.recs.map Value.string) w):=by
 obtain⟨A,cap,hO⟩:=hK
 have hR:=(hO.left (RecK.stab _ _ _ _ _)).row
 rw [<-flat_strs] at hR
 refine vE Tryz.func42 ?_
 refine⟨.bool false,fun w=>jrNil gj _ _ w,?_⟩
 refine⟨_,(hO.2.1.cell 2).trans rfl,?_⟩
 refine⟨(cloneS_any A J.recs.length cap _ (flat1_strs _) (List.length_map _) hn S w hR).mono fun en wq hq=>?_⟩
 obtain⟨A2,cap2,e1,hb,ho⟩:=hq
 refine⟨_,e1,A2,cap2,rfl,hb,?_⟩
 rw [flat_strs] at ho
 exact ho
theorem long_any (gj gc b:Nat) (room:Int) (r:Scroll) (first:ByteArray) (recs:List ByteArray) (down:Bool) (S:Nat->Prop) (w:World) (hK:JourK gj gc b (JL room r first recs down) S w):Calls Tryz.prog 102 #[.pointer (some ⟨gj,0,none⟩)] w (RetB (.int .i64 r.s.size) w):=by
 have hch:=hK.chest
 obtain⟨A,cap,hO⟩:=hK
 have hrd:=read_any gc b (chL room r) bLOG (by decide) S w hch
 rw [chL_at] at hrd
 refine vE Tryz.func102 ?_
 refine⟨.bool false,fun w=>jrNil gj _ _ w,?_⟩
 refine⟨_,(hO.2.1.cell 0).trans rfl,?_⟩
 refine call_b hrd ?_
 intro w1 h1
 exact⟨rfl,h1⟩
set_option maxRecDepth 100000
theorem getV_size {t:List UInt8} (h:(getV t).2.2=0):(getV t).2.1<=t.length/\(vK (getV t).1=2->(vS (getV t).1).size<=t.length):=by
 have hp:getP 6 t=getV t:=by
  have e:getV t=if (getP 6 t).2.2=0/\mayV (getP 6 t).1=false then (V0,0,1) else getP 6 t:=rfl
  rw [e] at h ⊢
  split
  ·rename_i hc
   rw [if_pos hc] at h
   cases h
  ·rfl
 obtain⟨h1,h2,h3⟩:=getP_get 6 t (getV t).1 (getV t).2.1 (by rw [hp];rw [<-h])
 refine⟨h1,fun hk=>?_⟩
 have hl:=putV_len (getV t).1
 have e:(putV (getV t).1).length<=t.length:=by rw [h2,List.length_take];omega
 generalize (getV t).1=v at*
 obtain⟨k,n,s,l⟩:=v
 have hk:k=2:=hk
 subst hk
 have e2:txtV (.mk 2 n s l)=s.data.toList:=rfl
 rw [e2] at hl
 have e3:s.data.toList.length=s.size:=ba_len s
 show s.size<=_
 omega
theorem ba_drop (s:ByteArray) (k:Nat) (h:k<=s.size):s.extract k s.size=⟨(s.data.toList.drop k).toArray⟩:=by
 have e:=ba_extract s.data.toList k s.size
 rw [show (⟨s.data.toList.toArray⟩:ByteArray)=s from rfl] at e
 rw [e,List.take_of_length_le (by rw [List.length_drop,ba_len];exact Nat.le_refl _)]
theorem ba_take (s:ByteArray) (k:Nat):s.extract 0 k=⟨(s.data.toList.take k).toArray⟩:=by
 have e:=ba_extract s.data.toList 0 k
 rw [show (⟨s.data.toList.toArray⟩:ByteArray)=s from rfl] at e
 rw [e,List.drop_zero,Nat.sub_zero]
set_option maxHeartbeats 2000000 in
theorem turn_any (s:ByteArray) (hs:s.size<=1000000000) (w:World) (hw:Env w):Calls Tryz.prog 73 #[.string s] w (RetB (.tuple #[.string (turnG s.data.toList).1,.int .i64 ((turnG s.data.toList).2.1:Nat),.int .i64 (turnG s.data.toList).2.2]) w):=by
 obtain⟨q,hq⟩:∃ q,q=turnG s.data.toList:=⟨_,rfl⟩
 rw [<-hq]
 unfold turnG at hq
 have hlen:s.data.toList.length=s.size:=ba_len s
 have hm:=marked_any s (by omega) w
 refine vE Tryz.func73 ?_
 have hc:=CtxF.start w no (fun _ h=>h.elim) (R:=fun _ _=>True) trivial Stab.true
 refine hc.q (hm) fun wQ hQ hc=>?_
 cases hb:markedB s.data.toList with
 | false=>
  rw [if_pos hb] at hq
  subst hq
  exact⟨rfl,hc.below⟩
 | true=>
 rw [if_neg (by rw [hb];decide)] at hq
 by_cases h8:s.size<8
 ·rw [if_pos (by omega)] at hq
  subst hq
  refine split_t (decide_eq_true (by omega)) ?_
  exact⟨rfl,hc.below⟩
 rw [if_neg (by omega)] at hq
 refine split_f (decide_eq_false (by omega)) ?_
 refine⟨⟨by omega,by omega,by omega⟩,?_⟩
 have hg:=Get_V (s.data.toList.drop 8) _ (by rw [List.length_drop];omega) (hw.below hc.below)
 rw [<-ba_drop s 8 (by omega)] at hg
 have hz:=@getV_size (s.data.toList.drop 8)
 rw [List.length_drop,hlen] at hz
 generalize getV (s.data.toList.drop 8)=g at*
 obtain⟨v,n,e⟩:=g
 simp only at hq hg hz
 refine⟨hg.mono fun en wq hq2=>?_⟩
 obtain⟨A1,c1,e1,hb2,hr1⟩:=hq2
 have hc:=(hc.quiet hb2).1
 refine⟨_,e1,?_⟩
 refine hc.n fun g5 wg5 hg5 hc=>?_
 refine hc.s 0 rfl fun wS hS hc=>?_
 by_cases he2:e=2
 ·rw [if_pos he2] at hq
  subst hq
  refine split_t (by rw [he2];rfl) ?_
  subst he2
  exact⟨rfl,hc.below⟩
 rw [if_neg he2] at hq
 refine split_f (by rw [beq_eq_false_iff_ne];exact he2) ?_
 have hr:=hc
 refine vD (.Q [0,1,2,3,4,5,6,7,8,9,11,12,13,14] (.n 10 (.Q [15,16,17] .fin) .stop)) (Old _) (Old.start _) ?_
 have hk:=hc.old0
 have hc:=hc.drew
 by_cases he0:e=0
 rotate_left
 ·rw [if_pos (.inl he0)] at hq
  subst hq
  refine split_t (by simpa using he0) ?_
  refine⟨?_,trivial⟩
  exact⟨rfl,hc.below⟩
 subst he0
 refine⟨_,fun x hx=>Keeps.cell hx (hr.blk 0 rfl) (hr.blk 0 rfl).lt rfl,?_⟩
 by_cases hk2:vK v=2
 rotate_left
 ·rw [if_pos (.inr (.inl hk2))] at hq
  subst hq
  refine split_t (by simpa using hk2) ?_
  refine⟨?_,trivial⟩
  exact⟨rfl,hc.below⟩
 refine split_f (by rw [hk2];rfl) ?_
 obtain⟨hz1,hz2⟩:=hz rfl
 have hz2:=hz2 hk2
 refine⟨_,fun x hx=>Keeps.cell hx (hr.blk 0 rfl) (hr.blk 0 rfl).lt rfl,?_⟩
 have hw8:IntKind.i64.wrap (8+(n:Int))=((8+n:Nat):Int):=by rw [IntWalk.i64_in _ ⟨by omega,by omega⟩];omega
 refine⟨⟨by decide,by rw [hw8];show (0:Int)<=_;omega,by rw [hw8];omega⟩,?_⟩
 refine⟨hc.q (leaf_any (vS v) (by omega) _ (hw.below hc.below)) fun wA hA hc=>?_,trivial⟩
 have hk:=Keeps.below hk (fun _ h=>h) hA
 refine⟨hk,?_⟩
 have e2:s.extract ((0:Nat):Int).toNat (IntKind.i64.wrap (8+(n:Int))).toNat=⟨(s.data.toList.take (8+n)).toArray⟩:=by
  rw [hw8,Int.toNat_natCast]
  exact ba_take s (8+n)
 by_cases hl:leafL (vS v)=s.data.toList.take (8+n)
 ·rw [if_neg (fun h=>h.elim (fun h=>h rfl) (fun h=>h.elim (fun h=>h hk2) (fun h=>h hl)))] at hq
  refine split_f (by
   show (!strEq _ _)=false
   rw [strEq_iff.2 (by rw [e2,hl])]
   rfl) ?_
  refine⟨_,hc.cell 0 rfl _ rfl,?_⟩
  subst hq
  refine⟨?_,hc.below⟩
  rw [hw8]
  rfl
 ·rw [if_pos (.inr (.inr hl))] at hq
  subst hq
  refine split_t (by
   show (!strEq _ _)=true
   rw [Bool.not_eq_true',<-Bool.not_eq_true,strEq_iff,e2]
   intro h
   apply hl
   injection h with h
   exact List.toArray_inj h) ?_
  exact⟨rfl,hc.below⟩
end Go.Proofs.YtokglimimnelaaaGreatDoor
