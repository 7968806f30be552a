import Derived.Test.YtokglimimnelaaaGreatDoorM12
set_option linter.unusedVariables false
set_option linter.unusedSimpArgs false
namespace Go.Proofs.YtokglimimnelaaaGreatDoor
open Go.Vc Go.RowKit Go.Fl Go.ChangeShapes Go.WideShapes Go.ChangeAt
set_option maxRecDepth 100000
theorem may_fits {s:Stt} (h:mayS s=true):s.l.length<=100000/\s.ms.length<=100000/\∀ e∈s.l,e.vs.length<=100000:=by
 obtain⟨_,⟨a3,a4⟩,a5,_,_⟩:=mayS_parts.1 h
 have he:=((risE_iff _ _ _).1 a5).1
 exact⟨by omega,by omega,fun e hm=>by have:=(mayE_parts.1 (he e hm).1).2.2.2;omega⟩
theorem Book_any (gs gj gc b:Nat) (H:Sh) (h:H.Ok) (S:Nat->Prop) (w:World) (hK:ShelfK gs gj gc b H S w):Calls Tryz.prog 22 #[.pointer (some ⟨gs,0,none⟩)] w (RetSt H.k.b no w):=by
 obtain⟨x,A,cap,hO⟩:=hK
 have hR:=(hO.left (KnR.stab _ _ _ _)).1
 obtain⟨f1,f2,f3⟩:=may_fits h.k.may
 have hB:=hO.2.1
 refine vE Tryz.func22 ?_
 have hc:=CtxF.start w no (fun _ h=>h.elim) (R:=fun _ _=>True) trivial Stab.true
 refine hc.n fun g2 wg2 hg2 hc=>?_
 refine⟨.bool false,fun w=>shNil gs _ _ w,?_⟩
 refine⟨stX H.k.b x,rfl,drop_cells (hB.of_eq (hc.below.block _ hB.lt)) 1 _ 0 (fun j v hj=>?_),?_⟩
 ·match j,hj with
  | 0,hj=>exact hj
  | 1,hj=>exact hj
  | 2,hj=>exact hj
  | 3,hj=>exact hj
  | 4,hj=>exact hj
  | 5,hj=>exact hj
  | 6,hj=>exact hj
  | 7,hj=>exact hj
 refine⟨(clone_any H.k.b f1 f2 f3 (stX H.k.b x) S _ (hR.below hc.below)).mono fun en wq hq=>?_⟩
 obtain⟨cs,e1,hb,hrep⟩:=hq
 obtain⟨xS,rfl⟩:=hrep.stX
 have hc:=(hc.call hb).1.know (X:=fun S w=>RepS S w H.k.b (stX H.k.b xS)) (hrep.map fun h=>h.sub fun b hb2=>hb2.elim (fun h=>h.elim) .inr) (stab_S _ _)
 refine⟨_,e1,?_⟩
 refine hc.s 0 rfl fun wS hS hc=>?_
 refine hc.a 0 rfl rfl ?_
 exact⟨_,rfl,hc.below,hc.out.2⟩
def layE (H:Sh) (k:Known):Int:=if H.room<leafN ⟨(textK k).toArray⟩ then 7 else 0
def layS (H:Sh) (k:Known):Sh:=if H.room<leafN ⟨(textK k).toArray⟩ then H.fell else H.lay k
theorem _root_.Go.Vc.CtxF.midRow {w0 w:World} {S:Nat->Prop} {l:List LB} {os:List OR} {K R O:Kn} {n0 n1:Nat} (hc:CtxF no w0 S w l os (Sep n1 (Sep n0 K R) O)):∃ Sr,R Sr w:=by
 obtain⟨S1,So,h1,h2,⟨Sk,Sr,k1,k2,k3,k4⟩,h4⟩:=hc.row
 exact⟨Sr,k4⟩
set_option maxHeartbeats 8000000 in
theorem slays_any (gs gj gc b:Nat) (H:Sh) (h:H.Ok) (hd:H.down=false) (k':Known) (hk':k'.Ok) (x x':SX) (A A':Option Addr) (cap cap':Nat)
  (Sx:Nat->Prop) (w:World) (hlt:∀ x,Sx x->x<w.heap.size) (he:EnvFree Sx w) (hK:ObjK gs 98 (shC gj H.k x A cap false) (fun S w=>KnR H.k x A cap S w/\KnR k' x' A' cap' S w) (JourK gj gc b H.jour) Sx w):
  Calls Tryz.prog 59 #[.pointer (some ⟨gs,0,none⟩),.agg (knC k' x' A' cap').toArray] w (RetOb Sx w (.int .i64 (layE H k')) (ShelfK gs gj gc b (layS H k'))):=by
 have hRs:Stab (fun S w=>KnR H.k x A cap S w/\KnR k' x' A' cap' S w):=(KnR.stab _ _ _ _).and (KnR.stab _ _ _ _)
 have hc:=hK.enter hlt hRs (JourK.stab _ _ _ _)
 obtain⟨q,hq0⟩:∃ q:Jour × Int,q=if H.room<leafN ⟨(textK k').toArray⟩ then (H.fell.jour,5) else ((H.lay k').jour,0):=⟨_,rfl⟩
 have htz:(⟨(textK k').toArray⟩:ByteArray).size<=270009:=by
  show (textK k').toArray.size<=_
  rw [List.size_toArray]
  exact textK_len hk'
 have hsz:=h.size
 have hrm:=h.room
 have htt:=h.tot
 have hja:=fun Sa w hlt he hO=>jlay_any gj gc b H.room H.scr H.first (H.l.map txtR) H.down ⟨(textK k').toArray⟩ (by omega) ⟨hrm,by unfold Sh.room;omega⟩ (by have:=scr_size H;omega) Sa w hlt he hO
 rw [hd,layJ_H h hd hk',<-hq0] at hja
 have ej:H.jour=JL H.room H.scr H.first (H.l.map txtR) false:=by unfold Sh.jour;rw [hd]
 refine vE Tryz.func59 ?_
 refine hc.n fun g3 wg3 hg3 hc=>?_
 rw [ej] at hc
 refine Drawn.join (α:=Unit) (fun _=>[(0,.pointer (some ⟨gs,0,none⟩)),(3,.pointer (some ⟨g3,0,none⟩)),(5,.int .i64 (if q.2=0 then 0 else 7))])
  (fun _ wS=>∃ S2,CtxF no (bare w) S2 wS [(g3,96,knC k' x' A' cap'),(gs,98,shC gj H.k x A cap (q.2 != 0))] [] (Sep 0 (Sep 0 (Keep w Sx) (fun S w=>KnR H.k x A cap S w/\KnR k' x' A' cap' S w)) (JourK gj gc b q.1))) ?_ ?_
 ·refine vD (.Q [0,1,2,3] (.n 4 (.n 5 (.n 6 (.n 7 (.n 8 (.q 9 .fin) .stop) .stop) .stop) .stop) (.n 5 (.n 4 (.n 6 (.n 7 (.n 8 (.q 9 .fin) .stop) .stop) .stop) (.n 6 (.n 4 (.n 7 (.n 8 (.q 9 .fin) .stop) .stop) .stop) .stop)) .stop))) (fun _=>True) trivial ?_
  have hc:=hc.drew
  refine⟨?_,?_⟩
  ·skip
   refine⟨_,hc.cell 1 rfl _ rfl,trivial,?_⟩
   refine⟨hc.a' 0 rfl rfl ?_,trivial⟩
   refine⟨?_,trivial⟩
   obtain⟨Sr,hkr⟩:=hc.midRow
   refine hc.q' (text_any k' hk' x' A' cap' Sr _ hkr.2 (he.now hc).tab) fun wQ hQ hc=>?_
   refine⟨?_,trivial⟩
   obtain⟨S1,Sa,h1,h2,h3,hO⟩:=hc.row
   refine⟨(hja Sa _ (fun x hx=>hc.ctx.lt x (h2 x hx).1) (he.sub h3 h1) hO).mono fun en wq hq=>?_⟩
   obtain⟨e1,hT,Sn,hSn,hO⟩:=hq
   have hc:=hc.turnO (Sep.stab (Keep.stab _ _) hRs) h1 h2 h3 hT hSn hO (JourK.stab _ _ _ _)
   refine⟨_,e1,trivial,?_⟩
   refine⟨⟨(stold_any gs gj H.k x A cap q.2 _ (hc.blk 1 rfl)).mono fun en wq hq=>?_⟩,trivial⟩
   obtain⟨e1,hT,hB⟩:=hq
   have hc:=(hc.turnL 1 rfl hT hB).1
   refine⟨_,e1,trivial,?_⟩
   exact⟨(),⟨rfl,rfl,rfl,trivial⟩,_,hc⟩
  refine⟨hc.a' 0 rfl rfl ?_,trivial⟩
  refine⟨?_,?_⟩
  ·skip
   refine⟨_,hc.cell 1 rfl _ rfl,trivial,?_⟩
   refine⟨?_,trivial⟩
   obtain⟨Sr,hkr⟩:=hc.midRow
   refine hc.q' (text_any k' hk' x' A' cap' Sr _ hkr.2 (he.now hc).tab) fun wQ hQ hc=>?_
   refine⟨?_,trivial⟩
   obtain⟨S1,Sa,h1,h2,h3,hO⟩:=hc.row
   refine⟨(hja Sa _ (fun x hx=>hc.ctx.lt x (h2 x hx).1) (he.sub h3 h1) hO).mono fun en wq hq=>?_⟩
   obtain⟨e1,hT,Sn,hSn,hO⟩:=hq
   have hc:=hc.turnO (Sep.stab (Keep.stab _ _) hRs) h1 h2 h3 hT hSn hO (JourK.stab _ _ _ _)
   refine⟨_,e1,trivial,?_⟩
   refine⟨⟨(stold_any gs gj H.k x A cap q.2 _ (hc.blk 1 rfl)).mono fun en wq hq=>?_⟩,trivial⟩
   obtain⟨e1,hT,hB⟩:=hq
   have hc:=(hc.turnL 1 rfl hT hB).1
   refine⟨_,e1,trivial,?_⟩
   exact⟨(),⟨rfl,rfl,rfl,trivial⟩,_,hc⟩
  refine⟨?_,trivial⟩
  obtain⟨Sr,hkr⟩:=hc.midRow
  refine hc.q' (text_any k' hk' x' A' cap' Sr _ hkr.2 (he.now hc).tab) fun wQ hQ hc=>?_
  refine⟨⟨_,hc.cell 1 rfl _ rfl,trivial,?_⟩,trivial⟩
  refine⟨?_,trivial⟩
  obtain⟨S1,Sa,h1,h2,h3,hO⟩:=hc.row
  refine⟨(hja Sa _ (fun x hx=>hc.ctx.lt x (h2 x hx).1) (he.sub h3 h1) hO).mono fun en wq hq=>?_⟩
  obtain⟨e1,hT,Sn,hSn,hO⟩:=hq
  have hc:=hc.turnO (Sep.stab (Keep.stab _ _) hRs) h1 h2 h3 hT hSn hO (JourK.stab _ _ _ _)
  refine⟨_,e1,trivial,?_⟩
  refine⟨⟨(stold_any gs gj H.k x A cap q.2 _ (hc.blk 1 rfl)).mono fun en wq hq=>?_⟩,trivial⟩
  obtain⟨e1,hT,hB⟩:=hq
  have hc:=(hc.turnL 1 rfl hT hB).1
  refine⟨_,e1,trivial,?_⟩
  exact⟨(),⟨rfl,rfl,rfl,trivial⟩,_,hc⟩
 clear hc
 rintro⟨⟩ u2 w2 ⟨S2,hc⟩
 unfold layE layS
 by_cases hroom:H.room<leafN ⟨(textK k').toArray⟩
 ·rw [if_pos hroom] at hq0
  rw [if_pos hroom,if_pos hroom]
  subst hq0
  exact RetOb.sh (H:=H.fell) (dn:=true) (hc.drop.midNow (fun S w h=>h.1) (Keep.stab _ _) (KnR.stab _ _ _ _) (JourK.stab _ _ _ _)) rfl rfl rfl rfl _
 ·rw [if_neg hroom] at hq0
  rw [if_neg hroom,if_neg hroom]
  subst hq0
  refine hc.a 0 rfl rfl ?_
  refine hc.s 1 rfl fun wS hS hc=>?_
  exact RetOb.sh (H:=H.lay k') (dn:=false) (hc.drop.midNow (fun S w h=>h.2) (Keep.stab _ _) (KnR.stab _ _ _ _) (JourK.stab _ _ _ _)) rfl rfl hd rfl _
def packH (H:Sh):Sh × Int:=if H.down then (H,7) else (layS H H.k,layE H H.k)
theorem spack_any (gs gj gc b:Nat) (H:Sh) (h:H.Ok) (Sx:Nat->Prop) (w:World) (hlt:∀ x,Sx x->x<w.heap.size) (he:EnvFree Sx w) (hK:ShelfK gs gj gc b H Sx w):
  Calls Tryz.prog 30 #[.pointer (some ⟨gs,0,none⟩)] w (RetOb Sx w (.int .i64 (packH H).2) (ShelfK gs gj gc b (packH H).1)):=by
 obtain⟨x,A,cap,hO⟩:=hK
 have hc:=hO.enter hlt (KnR.stab _ _ _ _) (JourK.stab _ _ _ _)
 obtain⟨q,hq9⟩:∃ q,q=packH H:=⟨_,rfl⟩
 rw [<-hq9]
 unfold packH at hq9
 refine vE Tryz.func30 ?_
 refine hc.q (down_any gs gj H.k x A cap H.down _ (hc.blk 0 rfl)) fun wQ hQ hc=>?_
 cases hd:H.down with
 | true=>
  rw [hd] at hc hq9
  rw [if_pos rfl] at hq9
  subst hq9
  exact RetOb.sh (H:=H) (dn:=true) hc rfl rfl hd rfl _
 | false=>
 rw [hd] at hc hq9
 rw [if_neg (by decide)] at hq9
 subst hq9
 refine⟨knC H.k x A cap,rfl,hc.cellsAt 0 rfl 1 (knC H.k x A cap) rfl,?_⟩
 have hc:=hc.midNow (R':=fun S w=>KnR H.k x A cap S w/\KnR H.k x A cap S w) (fun S w h=>⟨h,h⟩) (Keep.stab _ _) ((KnR.stab _ _ _ _).and (KnR.stab _ _ _ _)) (JourK.stab _ _ _ _)
 obtain⟨Sm,hm0,hkp,hm1,hmS,hag⟩:=hc.againK (fun _ _ h=>h) (Keep.stab _ _)
 refine⟨(slays_any gs gj gc b H h hd H.k h.k x x A A cap cap Sm _ hm0 (he.kept hkp) hm1).mono fun en wr hq=>?_⟩
 obtain⟨e1,hT,Sn,hSn,x2,A2,cap2,hO⟩:=hq
 obtain⟨S2,hc⟩:=hag hT hSn hO (KnR.stab _ _ _ _) (JourK.stab _ _ _ _)
 refine⟨_,e1,?_⟩
 exact RetOb.sh (H:=layS H H.k) hc rfl rfl rfl rfl _
set_option maxRecDepth 100000
def badD (d:D):Bool:=!mayD d
theorem learn1_any (d:D) (hd:d.Ok) (w:World):Calls Tryz.prog 63 #[.agg (dC d).toArray] w (RetB (.bool (badD d)) w):=by
 refine vE Tryz.func63 ?_
 have hc:=CtxF.start w no (fun _ h=>h.elim) (R:=fun _ _=>True) trivial Stab.true
 refine hc.n fun g1 wg1 hg1 hc=>?_
 refine hc.a 0 rfl rfl ?_
 refine hc.q (may_any d hd _) fun wQ hQ hc=>?_
 exact⟨rfl,hc.below⟩
theorem indexFuncD_any (l:List D) (hl:∀ d∈l,d.Ok) (A:Option Addr) (n cap:Nat) (hn:n=l.length) (S:Nat->Prop) (w:World) (hR:Row S w A n cap (l.map dC).flatten):
  Calls Tryz.prog 95 #[.slice A n cap,.func (.func 63) #[] #[]] w (RetB (.int .i64 (idxI (l.findIdx? badD))) w):=by
 refine vE Tryz.func95 ?_
 subst hn
 have hM:l.length<=9223372036854775807:=Nat.le_trans hR.1 hR.2.1
 refine⟨Nat,fun i=>[(0,.slice A l.length cap),(1,.func (.func 63) #[] #[]),(7,.int .i64 l.length),(8,.int .i64 i)],
  fun i w'=>i<=l.length/\(∀ j (hj:j<l.length),j<i->badD l[j]=false)/\Below w.heap.size w w',fun i _=>l.length-i,0,
  ⟨rfl,rfl,rfl,rfl,trivial⟩,⟨Nat.zero_le _,fun j hj h=>absurd h (Nat.not_lt_zero _),Below.refl _ _⟩,?_⟩
 rintro i w' u ⟨hi,he,hb⟩
 by_cases hlt:i<l.length
 ·refine split_t (decide_eq_true (by omega)) ?_
  obtain⟨ad,rfl,hcell⟩:=Row.elemF (hR.below hb) (by decide) (dC_flat _) i (by rw [List.length_map];exact hlt)
  rw [List.getElem_map] at hcell
  refine⟨⟨by omega,by omega⟩,?_⟩
  refine⟨dC l[i],rfl,hcell,?_⟩
  refine call_b (learn1_any l[i] (hl _ (List.getElem_mem hlt)) w') ?_
  intro w2 h2
  have hb2:=hb.trans (h2.mono hb.size)
  rcases Bool.eq_false_or_eq_true (badD l[i]) with hv | hv
  ·refine split_t hv ?_
   refine⟨?_,hb2⟩
   rw [find_some badD l i hlt hv he]
   rfl
  ·refine split_f hv ?_
   refine⟨i+1,⟨rfl,rfl,rfl,congrArg _ (i_down (by omega)),trivial⟩,⟨hlt,fun j hj h=>?_,hb2⟩,by show l.length-(i+1)<l.length-i;omega⟩
   rcases Nat.lt_succ_iff_lt_or_eq.1 h with h | h
   ·exact he j hj h
   ·subst h;exact hv
 ·refine split_f (decide_eq_false (by omega)) ?_
  refine⟨?_,hb⟩
  rw [find_none badD l (fun j hj=>he j hj (by omega))]
  rfl
theorem containsFuncD_any (l:List D) (hl:∀ d∈l,d.Ok) (A:Option Addr) (n cap:Nat) (hn:n=l.length) (S:Nat->Prop) (w:World) (hR:Row S w A n cap (l.map dC).flatten):
  Calls Tryz.prog 62 #[.slice A n cap,.func (.func 63) #[] #[]] w (RetB (.bool (l.any badD)) w):=by
 refine vE Tryz.func62 ?_
 refine call_b (indexFuncD_any l hl A n cap hn S w hR) ?_
 intro w2 h2
 exact⟨ret_bool (idxI_any badD l),h2⟩
theorem owns_row {w w':World} {e sz n cap:Nat} {A:Option Addr} {xs:List Value} (ho:w'.ownsRow w.heap.size e sz (.slice A n cap) n xs):Row (ext no w w') w' A n cap xs:=by
 have ho0:=ho
 obtain⟨e0,h3⟩:=ho
 rcases h3 with ⟨h3,h4⟩ | ⟨g,cp,cur,e1,_,_,h5,h6,_,_⟩
 ·cases h3
  rw [Nat.zero_mul] at e0
  exact⟨Nat.le_refl _,Nat.zero_le _,fun h=>absurd (List.eq_nil_of_length_eq_zero e0) h⟩
 ·cases e1
  exact⟨h5,h6,fun _=>⟨_,rfl,.inr (ho0.lt g rfl),ho0.cells rfl⟩⟩
def learnH (H:Sh) (b:Stt) (p:List D):Sh × Int:=
 if H.down then (H,7) else if p.any badD=true\/mayS b=false\/60<p.length\/maxN-p.length<b.seq then (H,1)
 else (layS H ⟨b,p,H.k.ep,H.k.ep⟩,layE H ⟨b,p,H.k.ep,H.k.ep⟩)
theorem learn_ok {H:Sh} (h:H.Ok) {b:Stt} {p:List D} (h5:b.lows.length=5) (hp:∀ d∈p,d.Ok) (hc:¬ (p.any badD=true\/mayS b=false\/60<p.length\/maxN-p.length<b.seq)):(⟨b,p,H.k.ep,H.k.ep⟩:Known).Ok:=by
 refine⟨?_,h5,fun d hd=>⟨?_,hp d hd⟩,?_,?_,h.k.ep,h.k.ep⟩
 ·cases e:mayS b with
  | true=>rfl
  | false=>exact absurd (.inr (.inl e)) hc
 ·cases e:mayD d with
  | true=>rfl
  | false=>exact absurd (.inl (List.any_eq_true.2 ⟨d,hd,by unfold badD;rw [e];rfl⟩)) hc
 ·show p.length<=60
  rcases Nat.lt_or_ge 60 p.length with h | h
  ·exact absurd (.inr (.inr (.inl h))) hc
  ·exact h
 ·show b.seq+(p.length:Int)<=maxN
  rcases Int.lt_or_le (maxN-p.length) b.seq with h | h
  ·exact absurd (.inr (.inr (.inr h))) hc
  ·omega
theorem layS_ep (H:Sh) (s:Stt) (p:List D):(layS H ⟨s,p,H.k.ep,H.k.ep⟩).k.ep=H.k.ep:=by
 unfold layS
 split<;>rfl
set_option maxHeartbeats 8000000 in
theorem slearn_any (gs gj gc b:Nat) (H:Sh) (h:H.Ok) (s:Stt) (hsk:∀ e∈s.l,strok e.key) (p:List D) (hp:∀ d∈p,d.Ok) (hpl:p.length<=100000) (xs:SX) (B:Option Addr) (cb:Nat) (Sx:Nat->Prop) (w:World) (hlt:∀ x,Sx x->x<w.heap.size) (he:EnvFree Sx w) (hK:ShelfK gs gj gc b H Sx w)
  (Sv:Nat->Prop) (hvd:∀ y,Sv y->y<w.heap.size/\¬ Sx y) (hs:RepS Sv w s (stX s xs)) (hP:Row Sv w B p.length cb (p.map dC).flatten):
  Calls Tryz.prog 33 #[.pointer (some ⟨gs,0,none⟩),.agg (stX s xs).toArray,.slice B p.length cb] w (RetOb Sx w (.int .i64 (learnH H s p).2) (ShelfK gs gj gc b (learnH H s p).1)):=by
 have h5:s.lows.length=5:=by rw [hs.lowsX];rfl
 obtain⟨x,A,cap,hO⟩:=hK
 have hc:=hO.enter hlt (KnR.stab _ _ _ _) (JourK.stab _ _ _ _)
 obtain⟨q,hq9⟩:∃ q,q=learnH H s p:=⟨_,rfl⟩
 rw [<-hq9]
 unfold learnH at hq9
 have kept:∀ {S:Nat->Prop} {w1:World} {l:List LB} {os:List OR} {R O:Kn},CtxF no (bare w) S w1 l os (Sep 0 (Sep 0 (Keep w Sx) R) O)->∃ Sk:Nat->Prop,RepS Sk w1 s (stX s xs)/\Row Sk w1 B p.length cb (p.map dC).flatten:=fun hc=>by
  obtain⟨S1,So,h1,h2,⟨Sk,Sr,k1,k2,k3,k4⟩,h4⟩:=hc.row
  exact⟨Sk,Keep.of k3 (stab_S _ _) hs hvd,Keep.of k3 (X:=fun S w=>Row S w B p.length cb (p.map dC).flatten) (fun _ _ _ _ h f=>h.fut f) hP hvd⟩
 have hm:maxN=1099511627776:=rfl
 refine vE Tryz.func33 ?_
 refine hc.n fun g4 wg4 hg4 hc=>?_
 obtain⟨Sk,hk1,hk2⟩:=kept hc
 refine hc.q (containsFuncD_any p hp B p.length cb rfl Sk _ hk2) fun wQ hQ hc=>?_
 refine hc.q (down_any gs gj H.k x A cap H.down _ (hc.blk 1 rfl)) fun wQ hQ hc=>?_
 cases hd:H.down with
 | true=>
  rw [hd] at hc hq9
  rw [if_pos rfl] at hq9
  subst hq9
  exact RetOb.sh (H:=H) (dn:=true) hc.drop rfl rfl hd rfl _
 | false=>
 rw [hd] at hc hq9
 rw [if_neg (by decide)] at hq9
 have fail:∀ {S:Nat->Prop} {w1:World},CtxF no (bare w) S w1 [(g4,43,stX s xs),(gs,98,shC gj H.k x A cap false)] [] (Sep 0 (Sep 0 (Keep w Sx) (KnR H.k x A cap)) (JourK gj gc b H.jour))->(p.any badD=true\/mayS s=false\/60<p.length\/maxN-p.length<s.seq)->RetOb Sx w (.int .i64 q.2) (ShelfK gs gj gc b q.1) (.returned (.int .i64 1)) w1:=fun hc hor=>by
  rw [if_pos hor] at hq9
  subst hq9
  exact RetOb.sh (H:=H) (dn:=false) hc.drop rfl rfl hd rfl _
 cases hbad:p.any badD with
 | true=>exact fail hc (.inl hbad)
 | false=>
 refine hc.a 0 rfl rfl ?_
 obtain⟨Sk,hk1,hk2⟩:=kept hc
 refine hc.q (bmay_any s hsk (stX s xs) Sk _ hk1) fun wQ hQ hc=>?_
 cases hms:mayS s with
 | false=>exact fail hc (.inr (.inl hms))
 | true=>
 by_cases h60:60<p.length
 ·refine split_t (decide_eq_true (by omega)) ?_
  exact fail hc (.inr (.inr (.inl h60)))
 refine split_f (decide_eq_false (by omega)) ?_
 refine⟨_,hc.cell 0 rfl _ rfl,?_⟩
 have hsq:=(mayS_parts.1 hms).1
 have hw9:IntKind.i64.wrap (1099511627776-(p.length:Int))=maxN-p.length:=by rw [IntWalk.i64_in _ ⟨by omega,by omega⟩,hm]
 by_cases hsub:maxN-(p.length:Int)<s.seq
 ·refine split_t (by rw [hw9];exact decide_eq_true hsub) ?_
  exact fail hc (.inr (.inr (.inr hsub)))
 refine split_f (by rw [hw9];exact decide_eq_false hsub) ?_
 have hor:¬ (p.any badD=true\/mayS s=false\/60<p.length\/maxN-p.length<s.seq):=fun h=>by
  rcases h with h | h | h | h
  ·rw [hbad] at h;cases h
  ·rw [hms] at h;cases h
  ·exact h60 h
  ·exact hsub h
 rw [if_neg hor] at hq9
 have hko:=learn_ok h h5 hp hor
 subst hq9
 obtain⟨f1,f2,f3⟩:=may_fits hms
 refine vD (.Q [0,1,3,5,6,7,8,9,10,11,12,13,14] (.n 2 (.n 4 (.q 15 (.n 16 (.q 17 .fin) .stop)) .stop) .stop)) (fun z=>Blk z g4 43 (stX s xs)/\z.cell? ⟨gs,10,none⟩=some (.int .i64 H.k.ep)) ⟨hc.blk 0 rfl,hc.cell 1 rfl 10 rfl⟩ ?_
 have hc:=hc.drew
 refine⟨stX s xs,rfl,fun z hz=>drop_cells hz.1 0 _ 0 (fun j v hj=>by simpa using hj),?_⟩
 refine⟨_,fun z hz=>hz.2,?_⟩
 refine⟨_,fun z hz=>hz.2,?_⟩
 refine⟨?_,trivial⟩
 obtain⟨Sk,hk1,hk2⟩:=kept hc
 obtain⟨Sr,hR1,hSr,hmid⟩:=hc.mid (Nat.zero_le _) (Keep.stab _ _) (KnR.stab _ _ _ _) (JourK.stab _ _ _ _)
 refine⟨(clone_any s f1 f2 f3 (stX s xs) Sk _ hk1).mono fun en wq hq=>?_⟩
 obtain⟨cs,e1,hb,hrep⟩:=hq
 obtain⟨xS,rfl⟩:=hrep.stX
 have hc:=hmid (hc.call hb) (X:=fun S w=>RepS S w s (stX s xS)) (stab_S _ _) (hrep.map fun h=>h.sub fun b hb2=>hb2.elim (fun h=>h.elim) .inr)
 refine⟨_,e1,⟨hc.blk 0 rfl,hc.cell 1 rfl 10 rfl⟩,?_⟩
 refine⟨?_,trivial⟩
 obtain⟨Sk,hk1,hk2⟩:=kept hc
 obtain⟨Sr,hR1,hSr,hmid⟩:=hc.mid (Nat.zero_le _) (Keep.stab _ _) ((KnR.stab _ _ _ _).and (stab_S _ _)) (JourK.stab _ _ _ _)
 refine⟨(cloneD_any B p.length cb _ (dC_flat _) (List.length_map _) (by omega) Sk _ hk2).mono fun en wq hq=>?_⟩
 obtain⟨A2,c2,e1,hb,ho⟩:=hq
 have hc:=hmid (hc.call hb) (X:=fun S w=>Row S w A2 p.length c2 (p.map dC).flatten) (fun _ _ _ _ h f=>h.fut f) ((owns_row ho).sub fun b hb2=>hb2.elim (fun h=>h.elim) .inr)
 refine⟨_,e1,⟨hc.blk 0 rfl,hc.cell 1 rfl 10 rfl⟩,?_⟩
 refine⟨?_,trivial⟩
 have hb4:=hc.blk 0 rfl
 have hn4:=(hc.ctx.locs.notS (k:=0) rfl).1
 have hne4:=hc.ctx.locs.2.2.2.1 _ (List.mem_cons_self ..)
 have hc:=(hc.midNow (R':=fun S w=>KnR H.k x A cap S w/\KnR ⟨s,p,H.k.ep,H.k.ep⟩ xS A2 c2 S w) (fun S w h=>⟨h.1.1,h.1.2,h.2⟩) (Keep.stab _ _) ((KnR.stab _ _ _ _).and (KnR.stab _ _ _ _)) (JourK.stab _ _ _ _)).drop
 obtain⟨Sm,hm0,hkp,hm1,hmS,hag⟩:=hc.againK (fun _ _ h=>h) (Keep.stab _ _)
 refine⟨(slays_any gs gj gc b H h hd ⟨s,p,H.k.ep,H.k.ep⟩ hko x xS A A2 cap c2 Sm _ hm0 (he.kept hkp) hm1).mono fun en wr hq=>?_⟩
 obtain⟨e1,hT,Sn,hSn,x2,A3,cap3,hO⟩:=hq
 obtain⟨S2,hc⟩:=hag hT hSn hO (KnR.stab _ _ _ _) (JourK.stab _ _ _ _)
 refine⟨_,e1,⟨hb4.of_eq (hT.block _ hb4.lt fun hm=>(hmS _ hm).elim (fun e=>hne4 e.symm) hn4),by have:=hc.cell 0 rfl 10 rfl;rw [layS_ep] at this;exact this⟩,?_⟩
 exact RetOb.sh (H:=layS H ⟨s,p,H.k.ep,H.k.ep⟩) hc rfl rfl rfl rfl _
set_option maxRecDepth 100000
theorem leaf_pos11 (s:ByteArray) (h:s.size<=400000):11<=(leafL s).length:=by
 rw [leafL_eq s h,List.length_append,markL_len]
 have h1:=putV_len (vStr s)
 have h2:=List.length_pos_iff.2 (dec_digits (txtV (vStr s)).length).1
 omega
theorem leavesL_ge11:∀ (l:List ByteArray),(∀ x∈l,x.size<=400000)->11*l.length<=(leavesL l).length
 | [],_=>Nat.zero_le _
 | s::r,h=>by
  have h1:=leaf_pos11 s (h s (List.mem_cons_self ..))
  have h2:=leavesL_ge11 r fun x hx=>h x (List.mem_cons_of_mem _ hx)
  rw [leavesL,List.length_append,List.length_cons]
  omega
theorem Sh.Ok.len9 {H:Sh} (h:H.Ok):H.l.length<=99000:=by
 have h1:=leavesL_ge11 H.texts h.sizes
 have h2:=h.size
 have e:H.texts.length=H.l.length+1:=by
  show (H.first::H.l.map txtR).length=_
  rw [List.length_cons,List.length_map]
 unfold Sh.txt at h2
 omega
def H0 (tot:Int):Sh:=⟨tot,bE,Known0,[],0,true,false⟩
theorem H0.txt (tot:Int):(H0 tot).txt=leafL bE:=by
 show leafL bE++[]=_
 rw [List.append_nil]
theorem H0.room (tot:Int):(H0 tot).room=tot-11:=by
 unfold Sh.room
 rw [H0.txt]
 show tot-leafN bE=_
 rw [leafN_E]
theorem H0.ok {tot:Int} (h:11<=tot/\tot<=1048576):(H0 tot).Ok:=
 ⟨.inl ⟨rfl,rfl⟩,trivial,Nat.le_refl _,h.2,by rw [H0.room];omega⟩
theorem H0.jour (tot:Int):openJ (tot-leafN bE) ⟨leafB bE,leafN bE,true⟩ bE [] 11=(H0 tot).jour:=by
 have hs:=leafB_size bE
 rw [leafN_E] at hs
 have e1:(H0 tot).scr=⟨leafB bE,leafN bE,true⟩:=by
  have e3:(H0 tot).texts.take (1+(H0 tot).np)=(H0 tot).texts:=rfl
  show Scroll.mk ⟨(H0 tot).txt.toArray⟩ ((leavesL ((H0 tot).texts.take (1+(H0 tot).np))).length:Nat) true=_
  rw [e3,show leavesL (H0 tot).texts=(H0 tot).txt from rfl,H0.txt]
  rfl
 unfold openJ
 rw [if_neg (by show ¬ ((11:Nat):Int)<((leafB bE).size:Int);omega)]
 unfold Sh.jour
 rw [e1,H0.room,leafN_E]
 rfl
theorem snew_any (gc b:Nat) (tot:Int) (ht:11<=tot/\tot<=1048576) (Sx:Nat->Prop) (w:World) (hlt:∀ x,Sx x->x<w.heap.size) (he:EnvFree Sx w) (hK:ChestK gc b (c0 tot) Sx w):
  Calls Tryz.prog 15 #[.pointer (some ⟨gc,0,none⟩)] w (fun en w'=>∃ gs gj,RetOb Sx w (.tuple #[.pointer (some ⟨gs,0,none⟩),.int .i64 0]) (ShelfK gs gj gc b (H0 tot)) en w'):=
 sopen_any gc b (c0 tot) (H0 tot) (H0.ok ht) rfl (fun Sa w hlt he hK=>by
  have h:=jopen0_any gc b tot (by omega) Sa w hlt he hK
  rw [H0.jour] at h
  exact h) Sx w hlt he hK
theorem newC_c0 {n:Int} (h:0<=n/\n<=1048576):newC n=c0 n:=by
 unfold newC c0
 congr 1
 split<;>split<;>omega
def tornC (H:Sh) (L:Nat):Chest:=chL (H.tot-L) ⟨⟨(H.txt.take L).toArray⟩,L,true⟩
theorem scr_pos {H:Sh} (h:H.Ok):0<H.scr.pressed:=by
 have h1:=leaf_pos H.first (by have:=h.first.size;omega)
 show (0:Int)<((leavesL (H.texts.take (1+H.np))).length:Nat)
 rw [show 1+H.np=H.np+1 from by omega]
 show (0:Int)<((leafL H.first++leavesL ((H.l.map txtR).take H.np)).length:Nat)
 rw [List.length_append]
 omega
theorem tear_C {H:Sh} (h:H.Ok) (n:Int):∃ L:Nat,H.scr.pressed<=L/\L<=H.txt.length/\tearC (chL H.room H.scr) bLOG H.scr n=tornC H L:=by
 have hp:=Sh.scr_le (H:=H)
 have hz:=scr_size H
 have ht:=tearN_le (s:=H.scr) ⟨hp.1,by omega⟩ n
 have h0:=scr_pos h
 refine⟨(tearN H.scr n).toNat,by omega,by omega,?_⟩
 have e1:((tearN H.scr n).toNat:Int)=tearN H.scr n:=Int.toNat_of_nonneg (by omega)
 unfold tearC tornC
 rw [if_pos (.inl (by omega)),if_pos (.inl (by omega)),e1]
 have e2:H.scr.s.extract 0 (tearN H.scr n).toNat=⟨(H.txt.take (tearN H.scr n).toNat).toArray⟩:=ba_take ⟨H.txt.toArray⟩ _
 rw [e2]
 show Chest.mk (H.room+((H.scr.s.size:Int)-tearN H.scr n)) _ 1=_
 have e3:H.room+((H.scr.s.size:Int)-tearN H.scr n)=H.tot-tearN H.scr n:=by
  rw [hz]
  unfold Sh.room
  omega
 rw [e3]
 rfl
theorem tearS_any (gs gj gc b:Nat) (H:Sh) (h:H.Ok) (n:Int) (S:Nat->Prop) (w:World) (hK:ShelfK gs gj gc b H S w):
  Calls Tryz.prog 21 #[.pointer (some ⟨gc,0,none⟩),.int .i64 n] w (fun en w'=>∃ g2 b2 L,en=.returned (.pointer (some ⟨g2,0,none⟩))/\Below w.heap.size w w'/\ChestK g2 b2 (tornC H L) (ext no w w') w'/\H.scr.pressed<=(L:Nat)/\L<=H.txt.length):=by
 have hp:=Sh.scr_le (H:=H)
 have hz:=scr_size H
 have hs:=h.size
 have hr:=h.room
 have ht:=h.tot
 have hrm:H.room=H.tot-H.txt.length:=rfl
 obtain⟨L,h1,h2,h3⟩:=tear_C h n
 have hte:=tear_any gc b (chL H.room H.scr) bLOG H.scr (by decide) (chL_at _ _) rfl ⟨hp.1,by omega⟩ (by omega) ⟨by show _<=H.room;omega,by show H.room<=_;omega⟩ n S w hK.chest
 rw [h3] at hte
 exact hte.mono fun en w' hq=>by
  obtain⟨g2,b2,e1,hb,hO⟩:=hq
  exact⟨g2,b2,L,e1,hb,hO,h1,h2⟩
theorem openJ_cut {H:Sh} (h:H.Ok) (L i:Nat) (hi:i<=H.l.length) (hL:L<=H.txt.length) (e1:(H.cut i).txt=(H.txt.take L).take (H.cut i).txt.length) (e2:(H.cut i).txt.length<=(H.txt.take L).length):
  openJ (H.tot-L) ⟨⟨(H.txt.take L).toArray⟩,L,true⟩ H.first ((H.cut i).l.map txtR) (H.cut i).txt.length=(H.cut i).jour:=by
 have hll:(H.txt.take L).length=L:=by rw [List.length_take];omega
 have hsz:((⟨(H.txt.take L).toArray⟩:ByteArray).size:Int)=L:=by
  show ((H.txt.take L).toArray.size:Int)=_
  rw [List.size_toArray,hll]
 have et:(H.cut i).texts.take (1+(H.cut i).np)=(H.cut i).texts:=by
  rw [List.take_of_length_le]
  show (H.first::(H.l.take i).map txtR).length<=1+i
  rw [List.length_cons,List.length_map,List.length_take]
  omega
 have es:(H.cut i).scr=⟨⟨(H.cut i).txt.toArray⟩,((H.cut i).txt.length:Nat),true⟩:=by
  show Scroll.mk ⟨(H.cut i).txt.toArray⟩ ((leavesL ((H.cut i).texts.take (1+(H.cut i).np))).length:Nat) true=_
  rw [et]
  rfl
 have er:(H.cut i).room=H.tot-(H.cut i).txt.length:=rfl
 unfold openJ
 rw [hsz]
 unfold Sh.jour
 rw [es,er]
 by_cases hlt:((H.cut i).txt.length:Int)<L
 ·rw [if_pos hlt,if_pos hlt]
  have e3:(⟨(H.txt.take L).toArray⟩:ByteArray).extract 0 (H.cut i).txt.length=⟨(H.cut i).txt.toArray⟩:=by
   rw [ba_take]
   show (⟨((H.txt.take L).take (H.cut i).txt.length).toArray⟩:ByteArray)=_
   rw [<-e1]
  have e4:∀ n:Nat,H.tot-(L:Int)+((L:Int)-(n:Int))=H.tot-n:=fun n=>by omega
  show JL (H.tot-L+((L:Int)-((H.cut i).txt.length:Nat))) _ _ _ _=_
  rw [e3,e4]
  rfl
 ·rw [if_neg hlt]
  have hn:(H.cut i).txt.length=L:=by omega
  have e3:H.txt.take L=(H.cut i).txt:=by rw [e1,hn,List.take_of_length_le (Nat.le_of_eq hll)]
  rw [e3,<-hn]
  rfl
theorem sopenT_any {H:Sh} (h:H.Ok) {L:Nat} (hp:H.scr.pressed<=L) (hL:L<=H.txt.length):∃ i,H.np<=i/\i<=H.l.length/\∀ (gc b:Nat) (Sx:Nat->Prop) (w:World),(∀ x,Sx x->x<w.heap.size)->EnvFree Sx w->ChestK gc b (tornC H L) Sx w->
  Calls Tryz.prog 15 #[.pointer (some ⟨gc,0,none⟩)] w (fun en w'=>∃ gs gj,RetOb Sx w (.tuple #[.pointer (some ⟨gs,0,none⟩),.int .i64 0]) (ShelfK gs gj gc b (H.cut i)) en w'):=by
 obtain⟨i,h1,h2,h3,h4,h5⟩:=Sh.tear h L hp
 refine⟨i,h1,h2,fun gc b Sx w hlt he hK=>sopen_any gc b (tornC H L) (H.cut i) (h.cut i h2) rfl (fun Sa w hlt he hK=>?_) Sx w hlt he hK⟩
 have hlen:=h.len9
 have ht:=h.tot
 have hr:=h.room
 have hrm:H.room=H.tot-H.txt.length:=rfl
 have hs:=h.size
 have hj:=jopen_any gc b (H.tot-L) ⟨⟨(H.txt.take L).toArray⟩,L,true⟩ H.first ((H.cut i).l.map txtR) (H.cut i).txt.length h3 (by
  show (H.txt.take L).toArray.size<=_
  rw [List.size_toArray,List.length_take]
  omega) ⟨by omega,by omega⟩ (by rw [List.length_map];show (H.l.take i).length<=_;rw [List.length_take];omega) Sa w hlt he hK
 rw [openJ_cut h L i h2 hL h4 h5] at hj
 exact hj
set_option maxRecDepth 100000
theorem eq4_any (l:List ByteArray) (hl:l.length<=100000) (A B:Option Addr) (ca cb:Nat) (S S':Nat->Prop) (w:World) (hA:Row S w A l.length ca (l.map Value.string)) (hB:Row S' w B l.length cb (l.map Value.string)):Calls Tryz.prog 101 #[.slice A l.length ca,.slice B l.length cb] w (RetB (.bool true) w):=by
 refine vE Tryz.func101 ?_
 refine split_f (by show ((l.length:Int) != (l.length:Int))=false;simp) ?_
 refine⟨Nat,fun i=>[(0,.slice A l.length ca),(1,.slice B l.length cb),(5,.int .i64 i)],fun i w'=>i<=l.length/\Below w.heap.size w w',fun i _=>l.length-i,0,⟨rfl,rfl,rfl,trivial⟩,⟨Nat.zero_le _,Below.refl _ _⟩,?_⟩
 rintro i w' u ⟨hi,hb⟩
 by_cases hlt:i<l.length
 ·refine split_t (decide_eq_true (by omega)) ?_
  have hv:(l.map Value.string)[i]?=some (.string l[i]):=by simp [hlt]
  obtain⟨ad,rfl,hcell⟩:=(hA.below hb).at hv
  obtain⟨bd,rfl,hcell'⟩:=(hB.below hb).at hv
  refine vD (.Q [0,1,2,3,4,5,6,7,8] .fin) (Keeps (fun b=>b<w'.heap.size) w') (Keeps.start _ _) ?_
  refine⟨⟨by omega,by omega⟩,?_⟩
  refine⟨_,fun z hz=>hz.look (by rw [Nat.mul_one,Int.toNat_natCast];exact hcell),?_⟩
  refine⟨⟨by omega,by omega⟩,?_⟩
  refine⟨_,fun z hz=>hz.look (by rw [Nat.mul_one,Int.toNat_natCast];exact hcell'),?_⟩
  have hb:=hb.drew
  refine split_f (by show (!strEq l[i] l[i])=false;rw [strEq_iff.2 rfl];rfl) ?_
  refine⟨i+1,⟨rfl,rfl,congrArg _ (i_down (by omega)),trivial⟩,⟨hlt,hb⟩,by show l.length-(i+1)<l.length-i;omega⟩
 ·refine split_f (decide_eq_false (by omega)) ?_
  exact⟨rfl,hb⟩
def sOne:ByteArray:=⟨#[111,110,101]⟩
def sTwo:ByteArray:=⟨#[116,119,111]⟩
def sState:ByteArray:=⟨#[115,116,97,116,101]⟩
def sAb:ByteArray:=⟨#[97,98]⟩
def q0:Scroll:=⟨leafB bE,11,true⟩
def q1:Scroll:=⟨leafB bE++leafB sOne,25,true⟩
def q2:Scroll:=⟨(leafB bE++leafB sOne)++leafB sTwo,25,true⟩
def q3:Scroll:=⟨q2.s.extract 0 25,25,true⟩
def q4:Scroll:=⟨q2.s.extract 0 30,30,true⟩
def q5:Scroll:=⟨leafB sState,16,true⟩
def q6:Scroll:=⟨q5.s.extract 0 16,16,true⟩
theorem new4:newC 10000=c0 10000:=by kernel_rfl
theorem op40:openJ (10000-leafN bE) ⟨leafB bE,leafN bE,true⟩ bE [] 11=JL 9989 q0 bE [] false:=by kernel_rfl
theorem ad41:addJ 9989 q0 bE [] false sOne true=(JL 9975 q1 bE [sOne] false,0):=by kernel_rfl
theorem ad42:addJ 9975 q1 bE [sOne] false sTwo false=(JL 9961 q2 bE [sOne,sTwo] false,0):=by kernel_rfl
theorem te43:tearC (chL 9961 q2) bLOG q2 0=chL 9975 q3:=by kernel_rfl
theorem te44:tearC (chL 9961 q2) bLOG q2 5=chL 9970 q4:=by kernel_rfl
theorem op43:openJ 9975 q3 bE [sOne] 25=JL 9975 q3 bE [sOne] false:=by kernel_rfl
theorem op44:openJ 9970 q4 bE [sOne] 25=JL 9975 ⟨q4.s.extract 0 25,25,true⟩ bE [sOne] false:=by kernel_rfl
theorem la45:layJ 9961 q2 bE [sOne,sTwo] false sState=(JL 9984 q5 sState [] false,0):=by kernel_rfl
theorem te46:tearC (chL 9984 q5) bLOG q5 0=chL 9984 q6:=by kernel_rfl
theorem op46:openJ 9984 q6 sState [] 16=JL 9984 q6 sState [] false:=by kernel_rfl
theorem sp43:Splits q3.s.data.toList [bE,sOne] 25:=by
 have h:=Splits.leaves [bE,sOne] [] (fun x hx=>by
  rcases List.mem_cons.1 hx with rfl | hx
  ·decide
  ·rw [List.mem_singleton.1 hx];decide) (.inl rfl)
 rw [List.append_nil,show leavesL [bE,sOne]=q3.s.data.toList by kernel_rfl,show (q3.s.data.toList).length=25 by kernel_rfl] at h
 exact h
theorem sp44:Splits q4.s.data.toList [bE,sOne] 25:=by
 have h:=Splits.leaves [bE,sOne] ((leafL sTwo).take 5) (fun x hx=>by
  rcases List.mem_cons.1 hx with rfl | hx
  ·decide
  ·rw [List.mem_singleton.1 hx];decide) (.inr (turnG_front sTwo (by decide) 5 (by decide +kernel)))
 rw [show leavesL [bE,sOne]++(leafL sTwo).take 5=q4.s.data.toList by kernel_rfl,show (leavesL [bE,sOne]).length=25 by kernel_rfl] at h
 exact h
theorem sp46:Splits q6.s.data.toList [sState] 16:=by
 have h:=Splits.leaves [sState] [] (fun x hx=>by rw [List.mem_singleton.1 hx];decide) (.inl rfl)
 rw [List.append_nil,show leavesL [sState]=q6.s.data.toList by kernel_rfl,show (q6.s.data.toList).length=16 by kernel_rfl] at h
 exact h
theorem tu47:turnG (leafB sAb++⟨#[122]⟩:ByteArray).data.toList=(sAb,13,0):=by
 have h:=turnG_leaf sAb (by decide) [122]
 rw [show leafL sAb++[122]=(leafB sAb++⟨#[122]⟩:ByteArray).data.toList by kernel_rfl,show (leafL sAb).length=13 by kernel_rfl] at h
 exact h
set_option maxHeartbeats 8000000 in
theorem begun4_any (w:World) (hw:Env w):Calls Tryz.prog 67 #[] w (RetB (.bool true) w):=by
 refine vE Tryz.func67 ?_
 have hc:=CtxF.start w no (fun _ h=>h.elim) (R:=fun _ _=>True) trivial Stab.true
 refine⟨(new_any 10000 _).mono fun en wq hq=>?_⟩
 rw [new4] at hq
 obtain⟨gc,b,e1,hq,hO⟩:=hq
 have hc:=hc.sepNew hq hO (ChestK.stab _ _ _)
 refine⟨_,e1,?_⟩
 have ho:=fun Sa w hlt he hK=>jopen0_any gc b 10000 (by decide) Sa w hlt he hK
 rw [op40] at ho
 obtain⟨S1,Sa,h1,h2,h3,hO⟩:=hc.row
 refine⟨(ho Sa _ (fun x hx=>hc.ctx.lt x (h2 x hx).1) (hw.free hc.below h2) hO).mono fun en wq hq=>?_⟩
 obtain⟨gj,e1,hT,Sn,hSn,hO⟩:=hq
 have hc:=hc.turnO (Stab.true) h1 h2 h3 hT hSn hO (JourK.stab _ _ _ _)
 refine⟨_,e1,?_⟩
 refine⟨.bool false,fun w=>jrNil gj _ _ w,?_⟩
 have ha:=fun Sa w hlt he hK=>jadd_any gj gc b 9989 q0 bE [] false sOne true (by decide) (by decide) (by decide +kernel) (by decide) Sa w hlt he hK
 rw [ad41] at ha
 obtain⟨S1,Sa,h1,h2,h3,hO⟩:=hc.row
 refine⟨(ha Sa _ (fun x hx=>hc.ctx.lt x (h2 x hx).1) (hw.free hc.below h2) hO).mono fun en wq hq=>?_⟩
 obtain⟨e1,hT,Sn,hSn,hO⟩:=hq
 have hc:=hc.turnO (Stab.true) h1 h2 h3 hT hSn hO (JourK.stab _ _ _ _)
 refine⟨_,e1,?_⟩
 have ha:=fun Sa w hlt he hK=>jadd_any gj gc b 9975 q1 bE [sOne] false sTwo false (by decide) (by decide) (by decide +kernel) (by decide) Sa w hlt he hK
 rw [ad42] at ha
 obtain⟨S1,Sa,h1,h2,h3,hO⟩:=hc.row
 refine⟨(ha Sa _ (fun x hx=>hc.ctx.lt x (h2 x hx).1) (hw.free hc.below h2) hO).mono fun en wq hq=>?_⟩
 obtain⟨e1,hT,Sn,hSn,hO⟩:=hq
 have hc:=hc.turnO (Stab.true) h1 h2 h3 hT hSn hO (JourK.stab _ _ _ _)
 refine⟨_,e1,?_⟩
 have hte:=tear_any gc b (chL 9961 q2) bLOG q2 (by decide) (chL_at _ _) rfl (by decide +kernel) (by decide +kernel) (by decide) 0 _ _ (hc.row.right (JourK.stab _ _ _ _)).chest
 rw [te43] at hte
 refine⟨hte.mono fun en wq hq=>?_⟩
 obtain⟨g2,b2,e1,hq,hO2⟩:=hq
 have hc:=hc.sepNew hq hO2 (ChestK.stab _ _ _)
 refine⟨_,e1,?_⟩
 have ho:=fun Sa w hlt he hK=>jopen_any g2 b2 9975 q3 bE [sOne] 25 sp43 (by decide +kernel) (by decide) (by decide) Sa w hlt he hK
 rw [op43] at ho
 obtain⟨S1,Sa,h1,h2,h3,hO⟩:=hc.row
 refine⟨(ho Sa _ (fun x hx=>hc.ctx.lt x (h2 x hx).1) (hw.free hc.below h2) hO).mono fun en wq hq=>?_⟩
 obtain⟨gk,e1,hT,Sn,hSn,hO⟩:=hq
 have hc:=hc.turnO (Sep.stab Stab.true (JourK.stab _ _ _ _)) h1 h2 h3 hT hSn hO (JourK.stab _ _ _ _)
 refine⟨_,e1,?_⟩
 have hc:=hc.now Sep.swap (Sep.stab (Sep.stab Stab.true (JourK.stab _ _ _ _)) (JourK.stab _ _ _ _))
 have hte:=tear_any gc b (chL 9961 q2) bLOG q2 (by decide) (chL_at _ _) rfl (by decide +kernel) (by decide +kernel) (by decide) 5 _ _ (hc.row.right (JourK.stab _ _ _ _)).chest
 rw [te44] at hte
 refine⟨hte.mono fun en wq hq=>?_⟩
 obtain⟨g3,b3,e1,hq,hO2⟩:=hq
 have hc:=hc.sepNew hq hO2 (ChestK.stab _ _ _)
 refine⟨_,e1,?_⟩
 have ho:=fun Sa w hlt he hK=>jopen_any g3 b3 9970 q4 bE [sOne] 25 sp44 (by decide +kernel) (by decide) (by decide) Sa w hlt he hK
 rw [op44] at ho
 obtain⟨S1,Sa,h1,h2,h3,hO⟩:=hc.row
 refine⟨(ho Sa _ (fun x hx=>hc.ctx.lt x (h2 x hx).1) (hw.free hc.below h2) hO).mono fun en wq hq=>?_⟩
 obtain⟨gl,e1,hT,Sn,hSn,hO⟩:=hq
 have hc:=hc.turnO (Sep.stab (Sep.stab Stab.true (JourK.stab _ _ _ _)) (JourK.stab _ _ _ _)) h1 h2 h3 hT hSn hO (JourK.stab _ _ _ _)
 refine⟨_,e1,?_⟩
 have hc:=hc.now Sep.swap (Sep.stab (Sep.stab (Sep.stab Stab.true (JourK.stab _ _ _ _)) (JourK.stab _ _ _ _)) (JourK.stab _ _ _ _))
 have ha:=fun Sa w hlt he hK=>jlay_any gj gc b 9961 q2 bE [sOne,sTwo] false sState (by decide) (by decide) (by decide +kernel) Sa w hlt he hK
 rw [la45] at ha
 obtain⟨S1,Sa,h1,h2,h3,hO⟩:=hc.row
 refine⟨(ha Sa _ (fun x hx=>hc.ctx.lt x (h2 x hx).1) (hw.free hc.below h2) hO).mono fun en wq hq=>?_⟩
 obtain⟨e1,hT,Sn,hSn,hO⟩:=hq
 have hc:=hc.turnO (Sep.stab (Sep.stab Stab.true (JourK.stab _ _ _ _)) (JourK.stab _ _ _ _)) h1 h2 h3 hT hSn hO (JourK.stab _ _ _ _)
 refine⟨_,e1,?_⟩
 have hte:=tear_any gc b (chL 9984 q5) bLOG q5 (by decide) (chL_at _ _) rfl (by decide +kernel) (by decide +kernel) (by decide) 0 _ _ (hc.row.right (JourK.stab _ _ _ _)).chest
 rw [te46] at hte
 refine⟨hte.mono fun en wq hq=>?_⟩
 obtain⟨g4,b4,e1,hq,hO2⟩:=hq
 have hc:=hc.sepNew hq hO2 (ChestK.stab _ _ _)
 refine⟨_,e1,?_⟩
 have ho:=fun Sa w hlt he hK=>jopen_any g4 b4 9984 q6 sState [] 16 sp46 (by decide +kernel) (by decide) (by decide) Sa w hlt he hK
 rw [op46] at ho
 obtain⟨S1,Sa,h1,h2,h3,hO⟩:=hc.row
 refine⟨(ho Sa _ (fun x hx=>hc.ctx.lt x (h2 x hx).1) (hw.free hc.below h2) hO).mono fun en wq hq=>?_⟩
 obtain⟨gm,e1,hT,Sn,hSn,hO⟩:=hq
 have hc:=hc.turnO (Sep.stab (Sep.stab (Sep.stab Stab.true (JourK.stab _ _ _ _)) (JourK.stab _ _ _ _)) (JourK.stab _ _ _ _)) h1 h2 h3 hT hSn hO (JourK.stab _ _ _ _)
 refine⟨_,e1,?_⟩
 refine hc.q (leaf_any sAb (by decide) _ (hw.below hc.below)) fun wQ hQ hc=>?_
 refine⟨by decide +kernel,?_⟩
 have htu:=turn_any (leafB sAb++⟨#[122]⟩) (by decide +kernel) _ (hw.below hc.below)
 rw [tu47] at htu
 refine hc.q (htu) fun wQ hQ hc=>?_
 refine hc.q (Begun3_any _ (hw.below hc.below)) fun wQ hQ hc=>?_
 have hc:=hc.now (X:=fun S w=>JourK gk g2 b2 (JL 9975 q3 bE [sOne] false) S w/\JourK gl g3 b3 (JL 9975 ⟨q4.s.extract 0 25,25,true⟩ bE [sOne] false) S w/\JourK gj gc b (JL 9984 q5 sState [] false) S w/\JourK gm g4 b4 (JL 9984 q6 sState [] false) S w) (fun h=>by
  have sK:=Sep.stab (n0:=w.heap.size) Stab.true (JourK.stab gk g2 b2 (JL 9975 q3 bE [sOne] false))
  have sL:=Sep.stab (n0:=w.heap.size) sK (JourK.stab gl g3 b3 (JL 9975 ⟨q4.s.extract 0 25,25,true⟩ bE [sOne] false))
  have sJ:=Sep.stab (n0:=w.heap.size) sL (JourK.stab gj gc b (JL 9984 q5 sState [] false))
  have h1:=h.left sJ
  have h2:=h1.left sL
  exact⟨(h2.left sK).right (JourK.stab _ _ _ _),h2.right (JourK.stab _ _ _ _),h1.right (JourK.stab _ _ _ _),h.right (JourK.stab _ _ _ _)⟩) ((JourK.stab _ _ _ _).and ((JourK.stab _ _ _ _).and ((JourK.stab _ _ _ _).and (JourK.stab _ _ _ _))))
 refine⟨(records_any gk g2 b2 _ (by decide) _ _ hc.row.1).mono fun en wq hq=>?_⟩
 obtain⟨A1,c1,e1,hb,ho⟩:=hq
 have hc:=(hc.call hb).1.know (X:=fun S w=>Row S w A1 1 c1 [.string sOne]) ((owns_row ho).sub fun b hb2=>hb2.elim (fun h=>h.elim) .inr) (fun _ _ _ _ h f=>h.fut f)
 refine⟨_,e1,?_⟩
 refine hc.n fun gv wgv hgv hc=>?_
 refine hc.q (eq4_any [sOne] (by decide) A1 (some ⟨gv,0,none⟩) c1 1 _ (fun y=>y=gv) _ hc.row.2 (rowOf (S:=fun y=>y=gv) (hc.blk 0 rfl) rfl 1 (by decide))) fun wQ hQ hc=>?_
 refine⟨(records_any gl g3 b3 _ (by decide) _ _ hc.row.1.2.1).mono fun en wq hq=>?_⟩
 obtain⟨A2,c2,e1,hb,ho⟩:=hq
 have hc:=(hc.call hb).1.know (X:=fun S w=>Row S w A2 1 c2 [.string sOne]) ((owns_row ho).sub fun b hb2=>hb2.elim (fun h=>h.elim) .inr) (fun _ _ _ _ h f=>h.fut f)
 refine⟨_,e1,?_⟩
 refine hc.n fun gu wgu hgu hc=>?_
 refine hc.q (eq4_any [sOne] (by decide) A2 (some ⟨gu,0,none⟩) c2 1 _ (fun y=>y=gu) _ hc.row.2 (rowOf (S:=fun y=>y=gu) (hc.blk 0 rfl) rfl 1 (by decide))) fun wQ hQ hc=>?_
 refine hc.q (first_any gm g4 b4 _ _ _ hc.row.1.1.2.2.2) fun wQ hQ hc=>?_
 refine⟨(records_any gm g4 b4 _ (by decide) _ _ hc.row.1.1.2.2.2).mono fun en wq hq=>?_⟩
 obtain⟨A3,c3,e1,hb,ho⟩:=hq
 have hc:=(hc.quiet hb).1
 refine⟨_,e1,?_⟩
 refine hc.q (first_any gj gc b _ _ _ hc.row.1.1.2.2.1) fun wQ hQ hc=>?_
 refine hc.q (long_any gj gc b 9984 q5 sState [] false _ _ hc.row.1.1.2.2.1) fun wQ hQ hc=>?_
 refine⟨?_,hc.below⟩
 show Ending.returned (.bool (decide ((8:Int)<(q5.s.size:Int))))=_
 rw [show q5.s.size=16 by kernel_rfl]
 rfl
theorem Begun4_any (w:World) (hw:Env w):Calls Tryz.prog 37 #[] w (RetB (.bool true) w):=by
 refine vE Tryz.func37 ?_
 refine call_b (begun4_any w hw) ?_
 intro w1 h1
 exact⟨rfl,h1⟩
set_option maxRecDepth 100000
theorem eqDeeds_any (l m:List D) (A B:Option Addr) (ca cb:Nat) (S S':Nat->Prop) (w:World) (hA:Row S w A l.length ca (l.map dC).flatten) (hB:Row S' w B m.length cb (m.map dC).flatten):Calls Tryz.prog 24 #[.slice A l.length ca,.slice B m.length cb] w (RetB (.bool (eqAll eqD l m)) w):=by
 have hMA:l.length<=9223372036854775807:=Nat.le_trans hA.1 hA.2.1
 refine vE Tryz.func24 ?_
 by_cases hl:l.length=m.length
 rotate_left
 ·refine split_t (by show ((l.length:Int) != (m.length:Int))=true;rw [bne_iff_ne];omega) ?_
  rw [eqAll_len _ _ _ hl]
  exact⟨rfl,Below.refl _ _⟩
 refine split_f (by show ((l.length:Int) != (m.length:Int))=false;rw [hl];simp) ?_
 refine⟨Nat,fun i=>[(0,.slice A l.length ca),(1,.slice B m.length cb),(5,.int .i64 i)],fun i w'=>i<=l.length/\eqAll eqD (l.drop i) (m.drop i)=eqAll eqD l m/\Below w.heap.size w w',fun i _=>l.length-i,0,⟨rfl,rfl,rfl,trivial⟩,⟨Nat.zero_le _,rfl,Below.refl _ _⟩,?_⟩
 rintro i w' u ⟨hi,he,hb⟩
 by_cases hlt:i<l.length
 ·refine split_t (decide_eq_true (by omega)) ?_
  obtain⟨ad,rfl,hcell⟩:=Row.elemF (hA.below hb) (by decide) (dC_flat _) i (by rw [List.length_map];exact hlt)
  obtain⟨bd,rfl,hcell'⟩:=Row.elemF (hB.below hb) (by decide) (dC_flat _) i (by rw [List.length_map];omega)
  rw [List.getElem_map] at hcell hcell'
  rw [List.drop_eq_getElem_cons hlt,List.drop_eq_getElem_cons (show i<m.length by omega),eqAll] at he
  generalize l[i]=x at*
  generalize m[i]'(by omega)=y at*
  refine vD (.Q [0,1,2,3,4,5,6,7,8] .fin) (Keeps (fun b=>b<w'.heap.size) w') (Keeps.start _ _) ?_
  refine⟨⟨by omega,by omega⟩,?_⟩
  refine⟨dC x,rfl,fun z hz=>hz.looks _ _ hcell,?_⟩
  refine⟨⟨by omega,by omega⟩,?_⟩
  refine⟨dC y,rfl,fun z hz=>hz.looks _ _ hcell',?_⟩
  refine⟨_,fun w=>neq_run gd_deed (eqD_in 9998 · x y) _ _ w,?_⟩
  have hb:=hb.drew
  cases hv:eqD x y
  ·rw [hv] at he
   refine⟨?_,hb⟩
   rw [<-he]
   rfl
  ·rw [hv] at he
   refine⟨i+1,⟨rfl,rfl,congrArg _ (i_down (by omega)),trivial⟩,⟨hlt,he,hb⟩,by show l.length-(i+1)<l.length-i;omega⟩
 ·refine split_f (decide_eq_false (by omega)) ?_
  rw [List.drop_of_length_le (by omega),List.drop_of_length_le (by omega),eqAll] at he
  rw [<-he]
  exact⟨rfl,hb⟩
theorem _root_.Go.Vc.CtxF.turnR {w0 w w':World} {S:Nat->Prop} {l:List LB} {os:List OR} {R O O' X:Kn} (hc:CtxF no w0 S w l os (Sep w0.heap.size R O)) (hR:Stab R) {S1 Sa Sn Sl:Nat->Prop} (h1:∀ x,S1 x->S x/\¬ Sa x) (h2:∀ x,Sa x->S x/\w0.heap.size<=x) (h3:R S1 w) (hT:Turn Sa w w')
  (hSn:∀ x,Sn x->(Sa x\/w.heap.size<=x)/\x<w'.heap.size) (hO:O' Sn w') (hSl:∀ y,Sl y->w.heap.size<=y/\y<w'.heap.size/\¬ Sn y) (hX:X Sl w') (hs:Stab O') (hsX:Stab X):
  ∃ S2,CtxF no w0 S2 w' l os (Sep w0.heap.size (fun S w=>R S w/\X S w) O'):=by
 refine⟨_,hc.turn h2 hT (Sn:=fun x=>Sn x\/Sl x) (fun x hx=>hx.elim (hSn x) (fun h=>⟨.inr (hSl x h).1,(hSl x h).2.1⟩)) ⟨fun x=>S1 x\/Sl x,Sn,fun x hx=>?_,fun x hx=>⟨.inr (.inl hx),?_⟩,⟨hR _ _ _ _ h3 ⟨fun _ h=>.inl h,fun x hx=>?_⟩,hsX _ _ _ _ hX ⟨fun _ h=>.inr h,fun _ _=>rfl⟩⟩,hO⟩ (Sep.stab (hR.and hsX) hs)⟩
 ·rcases hx with hx | hx
  ·refine⟨.inl (h1 x hx),fun hn=>?_⟩
   rcases (hSn x hn).1 with h | h
   ·exact (h1 x hx).2 h
   ·have:=hc.ctx.lt x (h1 x hx).1
    omega
  ·exact⟨.inr (.inr hx),(hSl x hx).2.2⟩
 ·rcases (hSn x hx).1 with h | h
  ·exact (h2 x h).2
  ·have:=hc.ctx.below.size
   omega
 ·exact hT.block x (hc.ctx.lt x (h1 x hx).1) (h1 x hx).2
set_option maxRecDepth 100000
def b8d:D:=⟨1,⟨#[107]⟩,⟨#[118]⟩,0,0,⟨#[]⟩,4294967297,0⟩
def b8x:D:=⟨2,⟨#[107]⟩,⟨#[]⟩,0,0,⟨#[]⟩,4294967298,0⟩
def G0:Sh:=H0 1048576
def G1:Sh:=G0.write (.enter 3) true
def G2:Sh:=G1.write (.add b8d) true
def G3:Sh:=G2.write (.add b8x) true
def G4:Sh:=G3.write (.done 1) false
theorem en8:enterH G0 3=(G1,0):=by kernel_rfl
theorem ad8:addH G1 b8d=(G2,0):=by kernel_rfl
theorem ax8:addH G2 b8x=(G3,0):=by kernel_rfl
theorem cm8:commitH G3 1=(G4,[⟨0,1⟩],0):=by kernel_rfl
theorem cn8:commitH G4 9=(G4,[],4):=by kernel_rfl
theorem eo8:enterH G4 3=(G4,12):=by kernel_rfl
theorem az8:addH G4 D0=(G4,1):=by kernel_rfl
theorem b8d_ok:b8d.Ok:=⟨by unfold i64ok;decide,by unfold strok;decide,by unfold strok;decide,by unfold i64ok;decide,by unfold i64ok;decide,by unfold strok;decide,by unfold i64ok;decide,by unfold i64ok;decide⟩
theorem b8x_ok:b8x.Ok:=⟨by unfold i64ok;decide,by unfold strok;decide,by unfold strok;decide,by unfold i64ok;decide,by unfold i64ok;decide,by unfold strok;decide,by unfold i64ok;decide,by unfold i64ok;decide⟩
theorem D0_ok8:D0.Ok:=⟨by unfold i64ok;decide,by unfold strok;decide,by unfold strok;decide,by unfold i64ok;decide,by unfold i64ok;decide,by unfold strok;decide,by unfold i64ok;decide,by unfold i64ok;decide⟩
theorem G0ok:G0.Ok:=H0.ok (by decide)
theorem G1ok:G1.Ok:=G0ok.write (r:=.enter 3) (show i64ok 3 by unfold i64ok;decide) trivial true (by decide +kernel)
theorem G2ok:G2.Ok:=G1ok.write (r:=.add b8d) ⟨by kernel_rfl,b8d_ok⟩ ⟨by decide +kernel,by decide +kernel⟩ true (by decide +kernel)
theorem G3ok:G3.Ok:=G2ok.write (r:=.add b8x) ⟨by kernel_rfl,b8x_ok⟩ ⟨by decide +kernel,by decide +kernel⟩ true (by decide +kernel)
theorem G4ok:G4.Ok:=G3ok.write (r:=.done 1) (show i64ok 1 by unfold i64ok;decide) (show (1:Int)<=G3.k.seq by decide +kernel) false (by decide +kernel)
theorem Begun5_any (w:World) (hw:Env w):Calls Tryz.prog 38 #[] w (RetB (.bool true) w):=by
 refine vE Tryz.func38 ?_
 refine call_b (begun5_any w hw) ?_
 intro w1 h1
 exact⟨rfl,h1⟩
set_option maxHeartbeats 8000000 in
theorem begun8_any (w:World) (hw:Env w):Calls Tryz.prog 13 #[] w (RetB (.bool true) w):=by
 refine vE Tryz.func13 ?_
 have hc:=CtxF.start w no (fun _ h=>h.elim) (R:=fun _ _=>True) trivial Stab.true
 refine⟨(new_any 1048576 _).mono fun en wq hq=>?_⟩
 rw [newC_c0 (by decide)] at hq
 obtain⟨gc,b,e1,hq,hO⟩:=hq
 have hc:=hc.sepNew hq hO (ChestK.stab _ _ _)
 refine⟨_,e1,?_⟩
 obtain⟨S1,Sa,h1,h2,h3,hO⟩:=hc.row
 refine⟨(snew_any gc b 1048576 (by decide) Sa _ (fun x hx=>hc.ctx.lt x (h2 x hx).1) (hw.free hc.below h2) hO).mono fun en wq hq=>?_⟩
 obtain⟨gs,gj,e1,hT,Sn,hSn,hO⟩:=hq
 have hc:=hc.turnO Stab.true h1 h2 h3 hT hSn hO (ShelfK.stab _ _ _ _ _)
 refine⟨_,e1,?_⟩
 refine⟨.bool false,fun w=>shNil gs _ _ w,?_⟩
 refine hc.n fun g4 wg4 hg4 hc=>?_
 refine hc.s 0 rfl fun wS hS hc=>?_
 refine hc.n fun g5 wg5 hg5 hc=>?_
 refine hc.s 0 rfl fun wS hS hc=>?_
 have he:=fun Sa w hlt he hK=>senter_any gs gj gc b G0 G0ok 3 (by unfold i64ok;decide) Sa w hlt he hK
 rw [en8] at he
 have hd:=fun Sa w hlt he hK=>sadd_any gs gj gc b G1 G1ok b8d b8d_ok Sa w hlt he hK
 rw [ad8] at hd
 have hx:=fun Sa w hlt he hK=>sadd_any gs gj gc b G2 G2ok b8x b8x_ok Sa w hlt he hK
 rw [ax8] at hx
 refine Drawn.join (α:=Unit) (fun _=>[(1,.pointer (some ⟨gc,0,none⟩)),(2,.pointer (some ⟨gs,0,none⟩)),(6,.int .i64 0),(7,.int .i64 0),(8,.int .i64 0)])
  (fun _ wS=>∃ S2,CtxF no w S2 wS [(g5,32,dC b8x),(g4,32,dC b8d)] [] (Sep w.heap.size (fun _ _=>True) (ShelfK gs gj gc b G3))) ?_ ?_
 ·refine vD (.Q [0,2,5] (.n 1 (.n 3 (.n 4 (.n 6 (.n 7 (.Q [8,9,10] .fin) .stop) .stop) (.n 6 (.n 4 (.n 7 (.Q [8,9,10] .fin) .stop) .stop) .stop)) (.n 6 (.n 3 (.n 4 (.n 7 (.Q [8,9,10] .fin) .stop) .stop) .stop) .stop)) (.n 3 (.n 1 (.n 4 (.n 6 (.n 7 (.Q [8,9,10] .fin) .stop) .stop) (.n 6 (.n 4 (.n 7 (.Q [8,9,10] .fin) .stop) .stop) .stop)) (.n 6 (.n 1 (.n 4 (.n 7 (.Q [8,9,10] .fin) .stop) .stop) .stop) .stop)) (.n 6 (.n 1 (.n 3 (.n 4 (.n 7 (.Q [8,9,10] .fin) .stop) .stop) .stop) (.n 3 (.n 1 (.n 4 (.n 7 (.Q [8,9,10] .fin) .stop) .stop) .stop) .stop)) .stop)))) (fun _=>True) trivial ?_
  have hc:=hc.drew
  refine⟨?_,?_⟩
  ·skip
   obtain⟨S1,Sa,h1,h2,h3,hO⟩:=hc.row
   refine⟨(he Sa _ (fun x hx=>hc.ctx.lt x (h2 x hx).1) (hw.free hc.below h2) hO).mono fun en wq hq=>?_⟩
   obtain⟨e1,hT,Sn,hSn,hO⟩:=hq
   have hc:=hc.turnO Stab.true h1 h2 h3 hT hSn hO (ShelfK.stab _ _ _ _ _)
   refine⟨_,e1,trivial,?_⟩
   refine⟨?_,?_⟩
   ·skip
    refine hc.a' 1 rfl rfl ?_
    refine⟨?_,?_⟩
    ·skip
     obtain⟨S1,Sa,h1,h2,h3,hO⟩:=hc.row
     refine⟨(hd Sa _ (fun x hx=>hc.ctx.lt x (h2 x hx).1) (hw.free hc.below h2) hO).mono fun en wq hq=>?_⟩
     obtain⟨e1,hT,Sn,hSn,hO⟩:=hq
     have hc:=hc.turnO Stab.true h1 h2 h3 hT hSn hO (ShelfK.stab _ _ _ _ _)
     refine⟨_,e1,trivial,?_⟩
     refine⟨hc.a' 0 rfl rfl ?_,trivial⟩
     refine⟨?_,trivial⟩
     obtain⟨S1,Sa,h1,h2,h3,hO⟩:=hc.row
     refine⟨(hx Sa _ (fun x hx=>hc.ctx.lt x (h2 x hx).1) (hw.free hc.below h2) hO).mono fun en wq hq=>?_⟩
     obtain⟨e1,hT,Sn,hSn,hO⟩:=hq
     have hc:=hc.turnO Stab.true h1 h2 h3 hT hSn hO (ShelfK.stab _ _ _ _ _)
     refine⟨_,e1,trivial,?_⟩
     exact⟨(),⟨rfl,rfl,rfl,rfl,rfl,trivial⟩,_,hc⟩
    refine⟨hc.a' 0 rfl rfl ?_,trivial⟩
    refine⟨?_,trivial⟩
    obtain⟨S1,Sa,h1,h2,h3,hO⟩:=hc.row
    refine⟨(hd Sa _ (fun x hx=>hc.ctx.lt x (h2 x hx).1) (hw.free hc.below h2) hO).mono fun en wq hq=>?_⟩
    obtain⟨e1,hT,Sn,hSn,hO⟩:=hq
    have hc:=hc.turnO Stab.true h1 h2 h3 hT hSn hO (ShelfK.stab _ _ _ _ _)
    refine⟨_,e1,trivial,?_⟩
    refine⟨?_,trivial⟩
    obtain⟨S1,Sa,h1,h2,h3,hO⟩:=hc.row
    refine⟨(hx Sa _ (fun x hx=>hc.ctx.lt x (h2 x hx).1) (hw.free hc.below h2) hO).mono fun en wq hq=>?_⟩
    obtain⟨e1,hT,Sn,hSn,hO⟩:=hq
    have hc:=hc.turnO Stab.true h1 h2 h3 hT hSn hO (ShelfK.stab _ _ _ _ _)
    refine⟨_,e1,trivial,?_⟩
    exact⟨(),⟨rfl,rfl,rfl,rfl,rfl,trivial⟩,_,hc⟩
   refine⟨hc.a' 0 rfl rfl ?_,trivial⟩
   refine⟨hc.a' 1 rfl rfl ?_,trivial⟩
   refine⟨?_,trivial⟩
   obtain⟨S1,Sa,h1,h2,h3,hO⟩:=hc.row
   refine⟨(hd Sa _ (fun x hx=>hc.ctx.lt x (h2 x hx).1) (hw.free hc.below h2) hO).mono fun en wq hq=>?_⟩
   obtain⟨e1,hT,Sn,hSn,hO⟩:=hq
   have hc:=hc.turnO Stab.true h1 h2 h3 hT hSn hO (ShelfK.stab _ _ _ _ _)
   refine⟨_,e1,trivial,?_⟩
   refine⟨?_,trivial⟩
   obtain⟨S1,Sa,h1,h2,h3,hO⟩:=hc.row
   refine⟨(hx Sa _ (fun x hx=>hc.ctx.lt x (h2 x hx).1) (hw.free hc.below h2) hO).mono fun en wq hq=>?_⟩
   obtain⟨e1,hT,Sn,hSn,hO⟩:=hq
   have hc:=hc.turnO Stab.true h1 h2 h3 hT hSn hO (ShelfK.stab _ _ _ _ _)
   refine⟨_,e1,trivial,?_⟩
   exact⟨(),⟨rfl,rfl,rfl,rfl,rfl,trivial⟩,_,hc⟩
  refine⟨?_,?_⟩
  ·skip
   refine hc.a' 1 rfl rfl ?_
   refine⟨?_,?_⟩
   ·skip
    obtain⟨S1,Sa,h1,h2,h3,hO⟩:=hc.row
    refine⟨(he Sa _ (fun x hx=>hc.ctx.lt x (h2 x hx).1) (hw.free hc.below h2) hO).mono fun en wq hq=>?_⟩
    obtain⟨e1,hT,Sn,hSn,hO⟩:=hq
    have hc:=hc.turnO Stab.true h1 h2 h3 hT hSn hO (ShelfK.stab _ _ _ _ _)
    refine⟨_,e1,trivial,?_⟩
    refine⟨?_,?_⟩
    ·skip
     obtain⟨S1,Sa,h1,h2,h3,hO⟩:=hc.row
     refine⟨(hd Sa _ (fun x hx=>hc.ctx.lt x (h2 x hx).1) (hw.free hc.below h2) hO).mono fun en wq hq=>?_⟩
     obtain⟨e1,hT,Sn,hSn,hO⟩:=hq
     have hc:=hc.turnO Stab.true h1 h2 h3 hT hSn hO (ShelfK.stab _ _ _ _ _)
     refine⟨_,e1,trivial,?_⟩
     refine⟨hc.a' 0 rfl rfl ?_,trivial⟩
     refine⟨?_,trivial⟩
     obtain⟨S1,Sa,h1,h2,h3,hO⟩:=hc.row
     refine⟨(hx Sa _ (fun x hx=>hc.ctx.lt x (h2 x hx).1) (hw.free hc.below h2) hO).mono fun en wq hq=>?_⟩
     obtain⟨e1,hT,Sn,hSn,hO⟩:=hq
     have hc:=hc.turnO Stab.true h1 h2 h3 hT hSn hO (ShelfK.stab _ _ _ _ _)
     refine⟨_,e1,trivial,?_⟩
     exact⟨(),⟨rfl,rfl,rfl,rfl,rfl,trivial⟩,_,hc⟩
    refine⟨hc.a' 0 rfl rfl ?_,trivial⟩
    refine⟨?_,trivial⟩
    obtain⟨S1,Sa,h1,h2,h3,hO⟩:=hc.row
    refine⟨(hd Sa _ (fun x hx=>hc.ctx.lt x (h2 x hx).1) (hw.free hc.below h2) hO).mono fun en wq hq=>?_⟩
    obtain⟨e1,hT,Sn,hSn,hO⟩:=hq
    have hc:=hc.turnO Stab.true h1 h2 h3 hT hSn hO (ShelfK.stab _ _ _ _ _)
    refine⟨_,e1,trivial,?_⟩
    refine⟨?_,trivial⟩
    obtain⟨S1,Sa,h1,h2,h3,hO⟩:=hc.row
    refine⟨(hx Sa _ (fun x hx=>hc.ctx.lt x (h2 x hx).1) (hw.free hc.below h2) hO).mono fun en wq hq=>?_⟩
    obtain⟨e1,hT,Sn,hSn,hO⟩:=hq
    have hc:=hc.turnO Stab.true h1 h2 h3 hT hSn hO (ShelfK.stab _ _ _ _ _)
    refine⟨_,e1,trivial,?_⟩
    exact⟨(),⟨rfl,rfl,rfl,rfl,rfl,trivial⟩,_,hc⟩
   refine⟨hc.a' 0 rfl rfl ?_,trivial⟩
   refine⟨?_,trivial⟩
   obtain⟨S1,Sa,h1,h2,h3,hO⟩:=hc.row
   refine⟨(he Sa _ (fun x hx=>hc.ctx.lt x (h2 x hx).1) (hw.free hc.below h2) hO).mono fun en wq hq=>?_⟩
   obtain⟨e1,hT,Sn,hSn,hO⟩:=hq
   have hc:=hc.turnO Stab.true h1 h2 h3 hT hSn hO (ShelfK.stab _ _ _ _ _)
   refine⟨_,e1,trivial,?_⟩
   refine⟨?_,trivial⟩
   obtain⟨S1,Sa,h1,h2,h3,hO⟩:=hc.row
   refine⟨(hd Sa _ (fun x hx=>hc.ctx.lt x (h2 x hx).1) (hw.free hc.below h2) hO).mono fun en wq hq=>?_⟩
   obtain⟨e1,hT,Sn,hSn,hO⟩:=hq
   have hc:=hc.turnO Stab.true h1 h2 h3 hT hSn hO (ShelfK.stab _ _ _ _ _)
   refine⟨_,e1,trivial,?_⟩
   refine⟨?_,trivial⟩
   obtain⟨S1,Sa,h1,h2,h3,hO⟩:=hc.row
   refine⟨(hx Sa _ (fun x hx=>hc.ctx.lt x (h2 x hx).1) (hw.free hc.below h2) hO).mono fun en wq hq=>?_⟩
   obtain⟨e1,hT,Sn,hSn,hO⟩:=hq
   have hc:=hc.turnO Stab.true h1 h2 h3 hT hSn hO (ShelfK.stab _ _ _ _ _)
   refine⟨_,e1,trivial,?_⟩
   exact⟨(),⟨rfl,rfl,rfl,rfl,rfl,trivial⟩,_,hc⟩
  refine⟨hc.a' 0 rfl rfl ?_,trivial⟩
  refine⟨?_,?_⟩
  ·skip
   obtain⟨S1,Sa,h1,h2,h3,hO⟩:=hc.row
   refine⟨(he Sa _ (fun x hx=>hc.ctx.lt x (h2 x hx).1) (hw.free hc.below h2) hO).mono fun en wq hq=>?_⟩
   obtain⟨e1,hT,Sn,hSn,hO⟩:=hq
   have hc:=hc.turnO Stab.true h1 h2 h3 hT hSn hO (ShelfK.stab _ _ _ _ _)
   refine⟨_,e1,trivial,?_⟩
   refine⟨hc.a' 1 rfl rfl ?_,trivial⟩
   refine⟨?_,trivial⟩
   obtain⟨S1,Sa,h1,h2,h3,hO⟩:=hc.row
   refine⟨(hd Sa _ (fun x hx=>hc.ctx.lt x (h2 x hx).1) (hw.free hc.below h2) hO).mono fun en wq hq=>?_⟩
   obtain⟨e1,hT,Sn,hSn,hO⟩:=hq
   have hc:=hc.turnO Stab.true h1 h2 h3 hT hSn hO (ShelfK.stab _ _ _ _ _)
   refine⟨_,e1,trivial,?_⟩
   refine⟨?_,trivial⟩
   obtain⟨S1,Sa,h1,h2,h3,hO⟩:=hc.row
   refine⟨(hx Sa _ (fun x hx=>hc.ctx.lt x (h2 x hx).1) (hw.free hc.below h2) hO).mono fun en wq hq=>?_⟩
   obtain⟨e1,hT,Sn,hSn,hO⟩:=hq
   have hc:=hc.turnO Stab.true h1 h2 h3 hT hSn hO (ShelfK.stab _ _ _ _ _)
   refine⟨_,e1,trivial,?_⟩
   exact⟨(),⟨rfl,rfl,rfl,rfl,rfl,trivial⟩,_,hc⟩
  refine⟨hc.a' 1 rfl rfl ?_,trivial⟩
  refine⟨?_,trivial⟩
  obtain⟨S1,Sa,h1,h2,h3,hO⟩:=hc.row
  refine⟨(he Sa _ (fun x hx=>hc.ctx.lt x (h2 x hx).1) (hw.free hc.below h2) hO).mono fun en wq hq=>?_⟩
  obtain⟨e1,hT,Sn,hSn,hO⟩:=hq
  have hc:=hc.turnO Stab.true h1 h2 h3 hT hSn hO (ShelfK.stab _ _ _ _ _)
  refine⟨_,e1,trivial,?_⟩
  refine⟨?_,trivial⟩
  obtain⟨S1,Sa,h1,h2,h3,hO⟩:=hc.row
  refine⟨(hd Sa _ (fun x hx=>hc.ctx.lt x (h2 x hx).1) (hw.free hc.below h2) hO).mono fun en wq hq=>?_⟩
  obtain⟨e1,hT,Sn,hSn,hO⟩:=hq
  have hc:=hc.turnO Stab.true h1 h2 h3 hT hSn hO (ShelfK.stab _ _ _ _ _)
  refine⟨_,e1,trivial,?_⟩
  refine⟨?_,trivial⟩
  obtain⟨S1,Sa,h1,h2,h3,hO⟩:=hc.row
  refine⟨(hx Sa _ (fun x hx=>hc.ctx.lt x (h2 x hx).1) (hw.free hc.below h2) hO).mono fun en wq hq=>?_⟩
  obtain⟨e1,hT,Sn,hSn,hO⟩:=hq
  have hc:=hc.turnO Stab.true h1 h2 h3 hT hSn hO (ShelfK.stab _ _ _ _ _)
  refine⟨_,e1,trivial,?_⟩
  exact⟨(),⟨rfl,rfl,rfl,rfl,rfl,trivial⟩,_,hc⟩
 clear hc
 rintro⟨⟩ u wS ⟨S2,hc⟩
 have hcm:=fun Sa w hlt he hK=>scommit_any gs gj gc b G3 G3ok 1 (by unfold i64ok;decide) Sa w hlt he hK
 rw [cm8] at hcm
 obtain⟨S1,Sa,h1,h2,h3,hO⟩:=hc.row
 refine⟨(hcm Sa _ (fun x hx=>hc.ctx.lt x (h2 x hx).1) (hw.free hc.below h2) hO).mono fun en wq hq=>?_⟩
 obtain⟨A1,c1,e1,hT,Sn,Sl,hSn,hO,hSl,hX⟩:=hq
 obtain⟨S3,hc⟩:=hc.turnR Stab.true h1 h2 h3 hT hSn hO hSl (X:=fun S w=>Row S w A1 1 c1 ([(⟨0,1⟩:Res)].map resC).flatten) hX (ShelfK.stab _ _ _ _ _) (fun _ _ _ _ h f=>h.fut f)
 refine⟨_,e1,?_⟩
 refine⟨(tearS_any gs gj gc b G4 G4ok 0 _ _ (hc.row.right (ShelfK.stab _ _ _ _ _))).mono fun en wq hq=>?_⟩
 obtain⟨g2,b2,L,e1,hq,hO2,hL1,hL2⟩:=hq
 have hc:=hc.sepNew hq hO2 (ChestK.stab _ _ _)
 refine⟨_,e1,?_⟩
 obtain⟨i,hi1,hi2,hop⟩:=sopenT_any G4ok hL1 hL2
 have hi1:3<=i:=hi1
 have hi2:i<=4:=hi2
 have sX:Stab (fun S w=>True/\Row S w A1 1 c1 ([(⟨0,1⟩:Res)].map resC).flatten):=Stab.true.and (fun _ _ _ _ h f=>h.fut f)
 obtain⟨S1,Sa,h1,h2,h3,hO⟩:=hc.row
 refine⟨(hop g2 b2 Sa _ (fun x hx=>hc.ctx.lt x (h2 x hx).1) (hw.free hc.below h2) hO).mono fun en wq hq=>?_⟩
 obtain⟨gt,gk,e1,hT,Sn,hSn,hO⟩:=hq
 have hc:=(hc.turnO (Sep.stab sX (ShelfK.stab _ _ _ _ _)) h1 h2 h3 hT hSn hO (ShelfK.stab _ _ _ _ _)).now Sep.swap (Sep.stab (Sep.stab sX (ShelfK.stab _ _ _ _ _)) (ShelfK.stab _ _ _ _ _))
 refine⟨_,e1,?_⟩
 have sT:Stab (Sep w.heap.size (fun S w=>True/\Row S w A1 1 c1 ([(⟨0,1⟩:Res)].map resC).flatten) (ShelfK gt gk g2 b2 (G4.cut i))):=Sep.stab sX (ShelfK.stab _ _ _ _ _)
 have hcm:=fun Sa w hlt he hK=>scommit_any gs gj gc b G4 G4ok 9 (by unfold i64ok;decide) Sa w hlt he hK
 rw [cn8] at hcm
 obtain⟨S1,Sa,h1,h2,h3,hO⟩:=hc.row
 refine⟨(hcm Sa _ (fun x hx=>hc.ctx.lt x (h2 x hx).1) (hw.free hc.below h2) hO).mono fun en wq hq=>?_⟩
 obtain⟨A2,c2,e1,hT,Sn,Sl,hSn,hO,hSl,hX⟩:=hq
 have hc:=hc.turnO sT h1 h2 h3 hT hSn hO (ShelfK.stab _ _ _ _ _)
 refine⟨_,e1,?_⟩
 refine hc.q (Begun4_any _ (hw.below hc.below)) fun wQ hQ hc=>?_
 refine hc.q (Begun5_any _ (hw.below hc.below)) fun wQ hQ hc=>?_
 obtain⟨ad,rfl,_,hcell⟩:=((hc.row.left sT).left sX).2.2.2 (by simp [resC])
 refine⟨⟨by decide,by decide⟩,?_⟩
 refine⟨_,hcell 1 _ rfl,?_⟩
 refine⟨(Book_any gs gj gc b G4 G4ok _ _ (hc.row.right (ShelfK.stab _ _ _ _ _))).mono fun en wq hq=>?_⟩
 obtain⟨cB,e1,hq,hrB⟩:=hq
 obtain⟨xB,rfl⟩:=hrB.stX
 have hc:=(hc.quiet hq).1
 refine⟨_,e1,?_⟩
 refine⟨(Pend_any gs gj gc b G4 G4ok _ _ (hc.row.right (ShelfK.stab _ _ _ _ _))).mono fun en wq hq=>?_⟩
 obtain⟨A3,c3,e1,hq,_⟩:=hq
 have hc:=(hc.quiet hq).1
 refine⟨_,e1,?_⟩
 have hq4:G4.k.seq=2:=by kernel_rfl
 have hqT:(G4.cut i).k.seq=2:=by
  rcases (by omega:i=3\/i=4) with rfl | rfl
  ·kernel_rfl
  ·kernel_rfl
 have heT:(G4.cut i).k.ep=3:=by
  rcases (by omega:i=3\/i=4) with rfl | rfl
  ·kernel_rfl
  ·kernel_rfl
 have hlT:G4.k.ln=0:=by kernel_rfl
 have hsq:=Seq_any gs gj gc b G4 G4ok _ _ (hc.row.right (ShelfK.stab _ _ _ _ _))
 rw [hq4] at hsq
 refine hc.q (hsq) fun wQ hQ hc=>?_
 have hsq:=Seq_any gt gk g2 b2 (G4.cut i) (G4ok.cut i hi2) _ _ ((hc.row.left sT).right (ShelfK.stab _ _ _ _ _))
 rw [hqT] at hsq
 refine hc.q (hsq) fun wQ hQ hc=>?_
 have hep:=Epoch_any gt gk g2 b2 (G4.cut i) _ _ ((hc.row.left sT).right (ShelfK.stab _ _ _ _ _))
 rw [heT] at hep
 refine hc.q (hep) fun wQ hQ hc=>?_
 have he:=fun Sa w hlt he hK=>senter_any gs gj gc b G4 G4ok 3 (by unfold i64ok;decide) Sa w hlt he hK
 rw [eo8] at he
 obtain⟨S1,Sa,h1,h2,h3,hO⟩:=hc.row
 refine⟨(he Sa _ (fun x hx=>hc.ctx.lt x (h2 x hx).1) (hw.free hc.below h2) hO).mono fun en wq hq=>?_⟩
 obtain⟨e1,hT,Sn,hSn,hO⟩:=hq
 have hc:=hc.turnO (sT) h1 h2 h3 hT hSn hO (ShelfK.stab _ _ _ _ _)
 refine⟨_,e1,?_⟩
 have hd:=fun Sa w hlt he hK=>sadd_any gs gj gc b G4 G4ok D0 D0_ok8 Sa w hlt he hK
 rw [az8] at hd
 obtain⟨S1,Sa,h1,h2,h3,hO⟩:=hc.row
 refine⟨(hd Sa _ (fun x hx=>hc.ctx.lt x (h2 x hx).1) (hw.free hc.below h2) hO).mono fun en wq hq=>?_⟩
 obtain⟨e1,hT,Sn,hSn,hO⟩:=hq
 have hc:=hc.turnO (sT) h1 h2 h3 hT hSn hO (ShelfK.stab _ _ _ _ _)
 refine⟨_,e1,?_⟩
 have hln:=Learnt_any gs gj gc b G4 _ _ (hc.row.right (ShelfK.stab _ _ _ _ _))
 rw [hlT] at hln
 refine hc.q (hln) fun wQ hQ hc=>?_
 exact⟨rfl,hc.below⟩
end Go.Proofs.YtokglimimnelaaaGreatDoor
namespace Go.Proofs.YtokglimimnelaaaGreatDoor
open Go.Vc Go.RowKit Go.Fl
set_option maxRecDepth 100000
structure Fit (H:Sh) (n:Nat):Prop where
 ok:H.Ok
 down:H.down=false
 tot:H.tot=1048576
 len:H.txt.length<=271000+1200*n
theorem Fit.mono {H:Sh} {n m:Nat} (h:Fit H n) (hm:n<=m):Fit H m:=⟨h.ok,h.down,h.tot,Nat.le_trans h.len (by omega)⟩
theorem Fit.room {H:Sh} {n:Nat} (h:Fit H n) (hn:n<=400):290000<=H.room:=by
 have h1:=h.len
 have h2:=h.tot
 unfold Sh.room
 omega
theorem Fit.h0:Fit (H0 1048576) 0:=⟨H0.ok (by decide),rfl,rfl,by rw [H0.txt];have h1:=leafN_E;unfold leafN at h1;omega⟩
theorem leafR_le {r:Rc} (h:r.Ok):leafN (txtR r)<=1130:=by
 have h1:=txtR_size h
 have h2:=(leafN_le (txtR r) (by omega)).2
 omega
theorem leafK_le {k:Known} (h:k.Ok):leafN ⟨(textK k).toArray⟩<=270100:=by
 have h1:=textK_len h
 have hs:(⟨(textK k).toArray⟩:ByteArray).size<=270009:=by
  show (textK k).toArray.size<=_
  rw [List.size_toArray]
  exact h1
 have h2:=(leafN_le ⟨(textK k).toArray⟩ (by omega)).2
 omega
theorem Fit.write {H:Sh} {n:Nat} (h:Fit H n) (hn:n<=400) {r:Rc} (hr:r.Ok) (hc:canR H.k r) (p:Bool):Fit (H.write r p) (n+1):=by
 have h1:=leafR_le hr
 have h2:=h.room hn
 refine⟨h.ok.write hr hc p (by omega),h.down,h.tot,?_⟩
 rw [Sh.write_txt,List.length_append]
 have h3:=h.len
 unfold leafN at h1
 omega
theorem Fit.lay {H:Sh} {n:Nat} (h:Fit H n) (hn:n<=400) {k:Known} (hk:k.Ok):Fit (H.lay k) 0:=by
 have h1:=leafK_le hk
 have h2:=h.room hn
 refine⟨h.ok.lay hk (by omega),h.down,h.tot,?_⟩
 rw [Sh.lay_txt]
 unfold leafN at h1
 omega
theorem Fit.cut {H:Sh} {n:Nat} (h:Fit H n) (i:Nat) (hi:i<=H.l.length):Fit (H.cut i) n:=by
 refine⟨h.ok.cut i hi,rfl,h.tot,?_⟩
 have h1:=leavesL_take_le H.texts (i+1)
 have h2:=h.len
 unfold Sh.txt at*
 rw [Sh.cut_texts]
 omega
theorem Fit.record {H:Sh} {n:Nat} (h:Fit H n) (hn:n<=400) {r:Rc} (hr:r.Ok) (p:Bool):recE H r=0/\recS H r p=H.write r p:=by
 have h1:=leafR_le hr
 have h2:=h.room hn
 unfold recE recS
 rw [if_neg (by omega),if_neg (by omega)]
 exact⟨rfl,rfl⟩
theorem Fit.lays {H:Sh} {n:Nat} (h:Fit H n) (hn:n<=400) {k:Known} (hk:k.Ok):layE H k=0/\layS H k=H.lay k:=by
 have h1:=leafK_le hk
 have h2:=h.room hn
 unfold layE layS
 rw [if_neg (by omega),if_neg (by omega)]
 exact⟨rfl,rfl⟩
theorem Fit.add {H:Sh} {n:Nat} (h:Fit H n) (hn:n<=400) {d:D} (hd:d.Ok):
  (mayD d=true/\canR H.k (.add d)/\addH H d=(H.write (.add d) true,0))\/(mayD d=true/\¬ canR H.k (.add d)/\addH H d=(H,5))\/(mayD d=false/\addH H d=(H,1)):=by
 unfold addH
 rw [h.down,if_neg (by decide)]
 cases hm:mayD d with
 | false=>
  refine .inr (.inr ⟨rfl,?_⟩)
  have e:addKE H.k d=1:=by unfold addKE;rw [hm];rfl
  rw [e,if_neg (by decide)]
 | true=>
  by_cases hc:60<=H.k.pend.length\/maxN<=H.k.seq
  ·have e:addKE H.k d=5:=by unfold addKE;rw [hm,if_pos rfl,if_pos hc]
   refine .inr (.inl ⟨rfl,fun hcan=>?_,?_⟩)
   ·obtain⟨a,b⟩:=hcan
    omega
   ·rw [e,if_neg (by decide)]
  ·have e:addKE H.k d=0:=by unfold addKE;rw [hm,if_pos rfl,if_neg hc]
   obtain⟨h1,h2⟩:=h.record hn (r:=.add d) ⟨hm,hd⟩ true
   refine .inl ⟨rfl,⟨by omega,by omega⟩,?_⟩
   rw [if_pos e,h1,h2]
theorem write_add_k (H:Sh) (d:D) (p:Bool):(H.write (.add d) p).k=⟨H.k.b,H.k.pend++[d],H.k.ep,H.k.ln⟩:=Sh.write_k _ _ _
theorem write_done_k (H:Sh) (n:Int) (p:Bool):(H.write (.done n) p).k=(commitK H.k n).1:=Sh.write_k _ _ _
theorem write_enter_k (H:Sh) (n:Int) (p:Bool):(H.write (.enter n) p).k=⟨H.k.b,H.k.pend,max H.k.ep n,H.k.ln⟩:=Sh.write_k _ _ _
theorem Fit.commit {H:Sh} {n:Nat} (h:Fit H n) (hn:n<=400) {m:Int} (hm:i64ok m):
  (H.k.seq<m/\commitH H m=(H,[],4))\/(m<=H.k.seq/\(commitK H.k m).2=[]/\commitH H m=(H,[],0)/\(commitK H.k m).1=H.k)\/(m<=H.k.seq/\commitH H m=(H.write (.done m) false,(commitK H.k m).2,0)):=by
 unfold commitH
 rw [h.down,if_neg (by decide)]
 by_cases h1:H.k.seq<m
 ·rw [if_pos h1]
  exact .inl ⟨h1,rfl⟩
 rw [if_neg h1]
 by_cases h2:(commitK H.k m).2.length=0
 ·rw [if_pos h2]
  have h3:=List.eq_nil_of_length_eq_zero h2
  refine .inr (.inl ⟨by omega,h3,rfl,?_⟩)
  have e:(resS H.k.b (H.k.pend.take (m-H.k.b.seq).toNat)).length=0:=h2
  rw [resS_len] at e
  have e2:=List.eq_nil_of_length_eq_zero e
  have e3:H.k.pend.drop (m-H.k.b.seq).toNat=H.k.pend:=by
   have:=List.take_append_drop (m-H.k.b.seq).toNat H.k.pend
   rw [e2,List.nil_append] at this
   exact this
  unfold commitK
  rw [e2,e3]
  rfl
 ·rw [if_neg h2]
  have h3:=leafR_le (r:=.done m) hm
  have h4:=h.room hn
  rw [if_neg (by omega)]
  exact .inr (.inr ⟨by omega,rfl⟩)
theorem Fit.done {H:Sh} {n:Nat} (h:Fit H n) (hn:n<=400) {m:Int} (hm:i64ok m) (hs:m<=H.k.seq):
  ∃ H',commitH H m=(H',(commitK H.k m).2,0)/\H'.k=(commitK H.k m).1/\Fit H' (n+1)/\(H'=H\/H'=H.write (.done m) false):=by
 rcases h.commit hn hm with ⟨h1,_⟩ | ⟨_,h2,h3,h4⟩ | ⟨_,h2⟩
 ·omega
 ·exact⟨H,by rw [h3,h2],h4.symm,h.mono (by omega),.inl rfl⟩
 ·exact⟨_,h2,write_done_k H m false,h.write hn (r:=.done m) hm hs false,.inr rfl⟩
theorem commit_len (k:Known) (m:Int):(commitK k m).2.length=min (m-k.b.seq).toNat k.pend.length/\(commitK k m).1.pend.length=k.pend.length-(m-k.b.seq).toNat:=by
 unfold commitK
 rw [resS_len,List.length_take]
 exact⟨rfl,List.length_drop ..⟩
end Go.Proofs.YtokglimimnelaaaGreatDoor
section
namespace Go.Vc
open Go.RowKit
set_option maxRecDepth 100000
def SemC (P:Program) (n:Nat) (c:Code) (f:Fr) (w:World) (K:Exit->Fr->World->Prop):Prop:=codeOk n c=true->∀ a,Agree n a f->c.wp P (Post n K) a w
def joinK {α:Type} (l:α->List (Nat × Value)) (R:α->World->Prop) (K:Exit->Fr->World->Prop) (e:Exit) (f:Fr) (w:World):Prop:=
 match e with
 | .normal=>∃ x,fits f (l x)/\R x w
 | e=>K e f w
def preC:Nat->Code->Code
 | 0,.seq a _=>a
 | k+1,.seq a b=>.seq a (preC k b)
 | _,c=>c
def postC:Nat->Code->Code
 | 0,.seq _ b=>b
 | k+1,.seq _ b=>postC k b
 | _,_=>.skip
def cutsC:Nat->Code->Bool
 | 0,.seq _ _=>true
 | k+1,.seq _ b=>cutsC k b
 | _,_=>false
section
variable {P:Program} {L:Lay} {n:Nat}
theorem SemC.cut (hL:L.Ok P) {α:Type} (l:α->List (Nat × Value)) (R:α->World->Prop) {K:Exit->Fr->World->Prop}:∀ (k:Nat) {c:Code},cutsC k c=true->∀ {f:Fr} {w:World},vCode P L (preC k c) f w (joinK l R K)->
  (∀ (x:α) (u:Fr) (w':World),R x w'->SemC P n (postC k c) (mk (l x) u) w' K)->SemC P n c f w K
 | 0,.seq x y,_,f,w,h,hr=>fun hc a hA=>by
  simp only [codeOk,Bool.and_eq_true] at hc
  refine wp_seq (wp_mono (vCode_sound hL n x _ a f w hA hc.1 h) fun e a1 w1 ⟨f1,h1,h2⟩=>?_)
  cases e with
  | normal=>
   obtain⟨x,hf,hR⟩:=h2
   have h3:=hr x f1 w1 hR hc.2 a1
   rw [mk_fits hf] at h3
   exact h3 h1
  | _=>exact⟨f1,h1,h2⟩
 | k+1,.seq x y,hk,f,w,h,hr=>fun hc a hA=>by
  simp only [codeOk,Bool.and_eq_true] at hc
  have h':vCode P L x f w (seqK (vCode P L (preC k y)) (joinK l R K)):=h
  refine wp_seq (wp_mono (vCode_sound hL n x _ a f w hA hc.1 h') fun e a1 w1 ⟨f1,h1,h2⟩=>?_)
  cases e with
  | normal=>exact SemC.cut hL l R k hk h2 hr hc.2 a1 h1
  | _=>exact⟨f1,h1,h2⟩
end
end Go.Vc
end
section
namespace Go.Proofs.YtokglimimnelaaaGreatDoor
open Go.Vc Go.RowKit Go.Fl Go.ChangeShapes Go.WideShapes Go.ChangeAt
set_option maxRecDepth 100000
theorem _root_.Go.Vc.Sep.drop {n0 n1:Nat} {R O P:Kn} {S:Nat->Prop} {w:World} (h:Sep n0 (Sep n1 R O) P S w):Sep n0 R P S w:=by
 obtain⟨S1,Sp,h1,h2,⟨S2,So,k1,k2,k3,k4⟩,h4⟩:=h
 exact⟨S2,Sp,fun x hx=>h1 x (k1 x hx).1,h2,k3,h4⟩
theorem _root_.Go.Vc.CtxF.castO {S0 S:Nat->Prop} {w0 w:World} {o o':OR} {l:List LB} {os:List OR} {R:Kn} (hc:CtxF S0 w0 S w l (o::os) R) (e:o=o'):CtxF S0 w0 S w l (o'::os) R:=e▸hc
theorem RowI.elem {S:Nat->Prop} {w:World} {A:Option Addr} {n cap:Nat} {l:List Int} (hR:Row S w A n cap (l.map fun n=>[Value.int .i64 n]).flatten) (i:Nat) (hi:i<l.length):∃ ad,A=some ad/\Go.Vc.cellsAt w (ad.add (i*1)) [.int .i64 l[i]] 0:=by
 obtain⟨ad,e,h⟩:=Row.elemF hR (by decide) (Flat.map (fun n:Int=>[Value.int .i64 n]) (fun e=>⟨rfl,rfl⟩) l) i (by rw [List.length_map];exact hi)
 rw [List.getElem_map] at h
 exact⟨ad,e,h⟩
theorem RowB.elem {S:Nat->Prop} {w:World} {A:Option Addr} {n cap:Nat} {l:List Bool} (hR:Row S w A n cap (l.map fun s=>[Value.bool s]).flatten) (i:Nat) (hi:i<l.length):∃ ad,A=some ad/\Go.Vc.cellsAt w (ad.add (i*1)) [.bool l[i]] 0:=by
 obtain⟨ad,e,h⟩:=Row.elemF hR (by decide) (Flat.map (fun n:Bool=>[Value.bool n]) (fun e=>⟨rfl,rfl⟩) l) i (by rw [List.length_map];exact hi)
 rw [List.getElem_map] at h
 exact⟨ad,e,h⟩
theorem RowD8.elem {S:Nat->Prop} {w:World} {A:Option Addr} {n cap:Nat} {l:List D} (hR:Row S w A n cap (l.map dC).flatten) (i:Nat) (hi:i<l.length):∃ ad,A=some ad/\Go.Vc.cellsAt w (ad.add (i*8)) (dC l[i]) 0:=by
 obtain⟨ad,e,h⟩:=Row.elemF hR (k:=8) (by decide) (Flat.map dC (fun d=>⟨rfl,rfl⟩) l) i (by rw [List.length_map];exact hi)
 rw [List.getElem_map] at h
 exact⟨ad,e,h⟩
theorem RowR8.elem {S:Nat->Prop} {w:World} {A:Option Addr} {n cap:Nat} {l:List Res} (hR:Row S w A n cap (l.map resC).flatten) (i:Nat) (hi:i<l.length):∃ ad,A=some ad/\Go.Vc.cellsAt w (ad.add (i*2)) (resC l[i]) 0:=by
 obtain⟨ad,e,h⟩:=Row.elemF hR (k:=2) (by decide) (Flat.map resC (fun d=>⟨rfl,rfl⟩) l) i (by rw [List.length_map];exact hi)
 rw [List.getElem_map] at h
 exact⟨ad,e,h⟩
theorem RowD8.drop {S:Nat->Prop} {w:World} {A:Option Addr} {cap:Nat} {l:List D} (hR:Row S w A l.length cap (l.map dC).flatten) (i:Nat) (hi:i<=l.length):Row S w (A.map (·.add (i*8))) (l.length-i) (cap-i) ((l.drop i).map dC).flatten:=by
 obtain⟨h1,h2,h3⟩:=hR
 refine⟨by omega,by omega,fun hx=>?_⟩
 have hfl:∀ m:List D,((m.map dC).flatten).length=m.length*8:=fun m=>by
  induction m with
  | nil=>rfl
  | cons d r ih=>rw [List.map_cons,List.flatten_cons,List.length_append,ih,List.length_cons];show 8+_=_;omega
 have hne:(l.map dC).flatten≠[]:=fun h=>by
  have e1:=hfl l
  rw [h] at e1
  have e2:(l.drop i)=[]:=by
   have:l.length=0:=by have e1:0=l.length*8:=e1;omega
   rw [List.eq_nil_of_length_eq_zero this,List.drop_nil]
  rw [e2] at hx
  exact hx rfl
 obtain⟨a,rfl,hs,hc⟩:=h3 hne
 refine⟨a.add (i*8),rfl,by rw [add_block];exact hs,fun j u hu=>?_⟩
 have e3:(l.map dC).flatten=((l.take i).map dC).flatten++((l.drop i).map dC).flatten:=by
  rw [<-List.flatten_append,<-List.map_append,List.take_append_drop]
 have e4:=hc (i*8+j) u (by
  rw [e3,List.getElem?_append_right (by rw [hfl,List.length_take];omega),hfl,List.length_take,show i*8+j-min i l.length*8=j from by rw [Nat.min_eq_left hi];omega]
  exact hu)
 rw [Go.Vc.add_add]
 exact e4
theorem RowD8.sub {S:Nat->Prop} {w:World} {C:Option Addr} {cc:Nat} {all:List D} (hR:Row S w C all.length cc (all.map dC).flatten) (m:Nat) (hm:m<=all.length):Row S w (if (cc:Int)=(m:Int) then C else C.map (·.add ((m:Int).toNat*8))) (all.drop m).length (cc-m) ((all.drop m).map dC).flatten:=by
 have h1:=hR.1
 have h2:=hR.2.1
 by_cases he:cc=m
 ·have e:all.drop m=[]:=List.drop_of_length_le (by omega)
  rw [e]
  exact⟨Nat.zero_le _,by omega,fun h=>absurd rfl h⟩
 ·rw [if_neg (by omega),Int.toNat_natCast,List.length_drop]
  exact RowD8.drop hR m hm
theorem eqDs_refl (l:List D):eqAll eqD l l=true:=(eqAll_iff fun _ _=>eqD_iff).2 rfl
section
variable {H:Type} {enc:TypeId × Value->H} {W:World} {sp:Nat->Bool} {hd:Bool} {v:Value} {d:DataW H} {p:List MemPlace} {base:Nat}
end
theorem Fit.enter {H:Sh} {n:Nat} (h:Fit H n) (hn:n<=400) {m:Int} (hm:i64ok m):
  (m<=H.k.ep/\enterH H m=(H,12))\/(H.k.ep<m/\enterH H m=(H.write (.enter m) true,0)):=by
 unfold enterH
 rw [h.down,if_neg (by decide)]
 by_cases h1:m<=H.k.ep
 ·rw [if_pos h1]
  exact .inl ⟨h1,rfl⟩
 rw [if_neg h1]
 obtain⟨h2,h3⟩:=h.record hn (r:=.enter m) hm true
 rw [h2,h3]
 exact .inr ⟨by omega,rfl⟩
theorem write_full (H:Sh) (r:Rc):(H.write r true).np=(H.write r true).l.length:=by
 show H.l.length+1=(H.l++[r]).length
 rw [List.length_append]
 rfl
end Go.Proofs.YtokglimimnelaaaGreatDoor
end
namespace Go.Proofs.YtokglimimnelaaaGreatDoor
set_option maxHeartbeats 40000000
set_option maxRecDepth 100000
theorem factRowed:mapsRowed Tryz.prog=true:=by kernel_rfl
theorem factHeard:Tryz.prog.stopsHeard=true:=by kernel_rfl
theorem factEnter:Tryz.prog.mayEnter=true:=by kernel_rfl
theorem factKeys:(Rows.shelfNoneRow.plainKeys==Tryz.prog.plainKeys)=true:=by kernel_rfl
theorem factLifted:(Rows.shelfNoneRow.lifted==Tryz.prog.liftsFinal)=true:=by kernel_rfl
theorem factMake:(Tryz.prog.make==some Rows.shelfNoneRow.make)=true:=by kernel_rfl
theorem factKeys' (c:OpenClaim) (h:c.plainKeys=Rows.shelfNoneRow.plainKeys):(c.plainKeys==Tryz.prog.plainKeys)=true:=h▸factKeys
theorem factLifted' (c:OpenClaim) (h:c.lifted=Rows.shelfNoneRow.lifted):(c.lifted==Tryz.prog.liftsFinal)=true:=h▸factLifted
theorem factMake' (c:OpenClaim) (h:c.make=Rows.shelfNoneRow.make):(Tryz.prog.make==some c.make)=true:=h▸factMake
end Go.Proofs.YtokglimimnelaaaGreatDoor
namespace Go.Proofs.YtokglimimnelaaaGreatDoor
open Go.Vc Go.RowKit Go.Fl
set_option maxRecDepth 100000
def lateK (k:Known) (j:Nat):Known:=⟨foldS k.b (k.pend.take j),k.pend.drop j,k.ep,k.ln⟩
theorem commitK_late (k:Known) (n:Int):(commitK k n).1=lateK k (n-k.b.seq).toNat:=rfl
theorem lateK_zero (k:Known):lateK k 0=k:=rfl
theorem lateK_late (k:Known) (i j:Nat):lateK (lateK k i) j=lateK k (i+j):=by
 unfold lateK
 rw [<-foldS_append,<-List.take_add,List.drop_drop]
theorem lateK_ge {k:Known} {j:Nat} (h:k.pend.length<=j):lateK k j=lateK k k.pend.length:=by
 unfold lateK
 rw [List.take_of_length_le h,List.take_of_length_le (Nat.le_refl _),List.drop_of_length_le h,List.drop_of_length_le (Nat.le_refl _)]
theorem lateK_bseq {k:Known} (h:k.Ok) {j:Nat} (hj:j<=k.pend.length):(lateK k j).b.seq=k.b.seq+j:=by
 show (foldS k.b (k.pend.take j)).seq=_
 rw [foldS_next _ h.may h.lows (fun d hd=>(h.pend d (List.mem_of_mem_take hd)).1) (by have:=h.seq;rw [List.length_take];omega),List.length_take]
 omega
theorem lateK_plen (k:Known) (j:Nat):(lateK k j).pend.length=k.pend.length-j:=List.length_drop ..
theorem lateK_seq {k:Known} (h:k.Ok) {j:Nat} (hj:j<=k.pend.length):(lateK k j).seq=k.seq:=by
 unfold Known.seq
 rw [lateK_bseq h hj,lateK_plen]
 omega
def Late (k k':Known):Prop:=∃ j,j<=k.pend.length/\k'=lateK k j
theorem Late.refl (k:Known):Late k k:=⟨0,Nat.zero_le _,(lateK_zero k).symm⟩
theorem Late.more {k k':Known} (h:Late k k') (n:Nat):Late k (lateK k' n):=by
 obtain⟨j,hj,rfl⟩:=h
 rw [lateK_late]
 by_cases hn:j+n<=k.pend.length
 ·exact⟨_,hn,rfl⟩
 ·exact⟨_,Nat.le_refl _,lateK_ge (by omega)⟩
theorem Late.commit {k k':Known} (h:Late k k') (n:Int):Late k (commitK k' n).1:=h.more _
theorem Late.seq {k k':Known} (hk:k.Ok) (h:Late k k'):k'.seq=k.seq:=by
 obtain⟨j,hj,rfl⟩:=h
 exact lateK_seq hk hj
theorem Late.all {k k':Known} (hk:k.Ok) (h:Late k k'):(commitK k' k.seq).1=lateK k k.pend.length/\(commitK k' k.seq).2.length=k'.pend.length/\k'.pend.length<=k.pend.length/\k'.b.seq<=k.seq:=by
 obtain⟨j,hj,rfl⟩:=h
 have e1:=lateK_bseq hk hj
 have e2:=lateK_plen k j
 have e3:k.seq=k.b.seq+k.pend.length:=rfl
 refine⟨?_,?_,by omega,by omega⟩
 ·rw [commitK_late,lateK_late]
  exact congrArg _ (by omega)
 ·rw [(commit_len _ _).1]
  omega
structure More (H H':Sh):Prop where
 base:H'.base=H.base
 np:H'.np=H.np
 l:∃ r:List Rc,(∀ x∈r,∃ n,x=.done n)/\H'.l=H.l++r
theorem More.refl (H:Sh):More H H:=⟨rfl,rfl,[],(fun x hx=>by cases hx),(List.append_nil _).symm⟩
theorem More.write {H H':Sh} (h:More H H') (n:Int):More H (H'.write (.done n) false):=by
 obtain⟨h1,h2,r,h3,h4⟩:=h
 refine⟨h1,h2,r++[.done n],fun x hx=>?_,?_⟩
 ·rw [List.mem_append,List.mem_singleton] at hx
  rcases hx with hx | rfl
  ·exact h3 x hx
  ·exact⟨n,rfl⟩
 ·show H'.l++[.done n]=_
  rw [h4,List.append_assoc]
theorem late_fold:∀ (r:List Rc) {k k':Known},(∀ x∈r,∃ n,x=.done n)->Late k k'->Late k (foldK k' r)
 | [],k,k',_,h=>h
 | x::r,k,k',hr,h=>by
  obtain⟨n,rfl⟩:=hr x (List.mem_cons_self ..)
  exact late_fold r (fun y hy=>hr y (List.mem_cons_of_mem _ hy)) (h.commit n)
theorem foldK_app (k:Known) (a b:List Rc):foldK k (a++b)=foldK (foldK k a) b:=by
 unfold foldK
 rw [List.foldl_append]
theorem More.cut {H H':Sh} (h:More H H') (hnp:H.np=H.l.length) {i:Nat} (hi:H'.np<=i):Late H.k (H'.cut i).k:=by
 obtain⟨h1,h2,r,h3,h4⟩:=h
 show Late (foldK H.base H.l) (foldK H'.base (H'.l.take i))
 rw [h1,h4,List.take_append,foldK_app,List.take_of_length_le (by omega)]
 exact late_fold _ (fun x hx=>h3 x (List.mem_of_mem_take hx)) (Late.refl _)
theorem More.of {H H1 H':Sh} (h:More H H1) {n:Int} (e:H'=H1\/H'=H1.write (.done n) false):More H H':=by
 rcases e with rfl | rfl
 ·exact h
 ·exact h.write n
end Go.Proofs.YtokglimimnelaaaGreatDoor
section
namespace Go.Proofs.YtokglimimnelaaaGreatDoor
open Go.Vc Go.RowKit Go.Fl Go.ChangeShapes Go.WideShapes Go.ChangeAt
set_option maxRecDepth 100000
structure Op8 where
 kind:Int
 n:Int
 d:D
def opC (o:Op8):List Value:=[.int .i64 o.kind,.int .i64 o.n,.int .i64 o.d.kind,.string o.d.key,.string o.d.body,.int .i64 o.d.ver,.int .i64 o.d.cond,.string o.d.tag,.int .i64 o.d.req,.int .i64 o.d.low]
structure Op8.Ok (o:Op8):Prop where
 kind:i64ok o.kind
 n:i64ok o.n
 d:o.d.Ok
theorem shape10 {c:List Value} (h:c.length=10):∃ a0 a1 a2 a3 a4 a5 a6 a7 a8 a9,c=[a0,a1,a2,a3,a4,a5,a6,a7,a8,a9]:=by
 match c,h with
 | [a0,a1,a2,a3,a4,a5,a6,a7,a8,a9],_=>exact⟨a0,a1,a2,a3,a4,a5,a6,a7,a8,a9,rfl⟩
theorem cOpA:Tryz.prog.cellsOf 71=10:=by kernel_rfl
section
variable {H:Type} {enc:TypeId × Value->H} {w:World} {base:Nat} {spare:Nat->Bool} {held:Bool} {fuel:Nat} {cs:List Value} {x:DataW H × List MemPlace}
set_option maxRecDepth 100000 in
theorem rd_op (h:DataW.trod enc Tryz.prog w base spare held fuel 71 cs=some x):∃ o:Op8,cs=opC o/\o.Ok:=by
 obtain⟨hl,hf⟩:=rd_struct Tryz.underlying71 h
 rw [cOpA] at hl
 obtain⟨c0,c1,c2,c3,c4,c5,c6,c7,c8,c9,rfl⟩:=shape10 hl
 obtain⟨_,_,h0⟩:=fld hf 0 _ rfl 3 rfl 1 cIntA 0 rfl
 obtain⟨_,_,h1⟩:=fld hf 1 _ rfl 3 rfl 1 cIntA 1 rfl
 obtain⟨_,_,h2⟩:=fld hf 2 _ rfl 32 rfl 8 cDeedA 2 rfl
 obtain⟨n0,e0,k0⟩:=rd_i64 Tryz.underlying3 h0
 obtain⟨n1,e1,k1⟩:=rd_i64 Tryz.underlying3 h1
 obtain⟨d,e2,k2⟩:=rd_deed h2
 cases e0;cases e1;cases e2
 exact⟨⟨n0,n1,d⟩,rfl,⟨k0,k1,k2⟩⟩
end
section
variable {H:Type} {enc:TypeId × Value->H} {W:World} {sp:Nat->Bool} {hd:Bool} {v:Value} {d:DataW H} {p:List MemPlace} {base:Nat}
set_option maxRecDepth 100000 in
theorem open_ops (h:DataW.Trod enc Tryz.prog W 0 sp hd 68 v d p) (k:Value.okWide Tryz.prog W .any base 68 v):∃ A cap,∃ l:List Op8,v=.slice A l.length cap/\Row (inW W) W A l.length cap (l.map opC).flatten/\∀ a∈l,a.Ok:=
 open_flat opC Op8.Ok (by rw [cOpA];decide) (fun _ _ _ h=>rd_op h) Tryz.underlying68 h k
end
theorem RowO8.elem {S:Nat->Prop} {w:World} {A:Option Addr} {n cap:Nat} {l:List Op8} (hR:Row S w A n cap (l.map opC).flatten) (i:Nat) (hi:i<l.length):∃ ad,A=some ad/\Go.Vc.cellsAt w (ad.add (i*10)) (opC l[i]) 0:=by
 obtain⟨ad,e,h⟩:=Row.elemF hR (k:=10) (by decide) (Flat.map opC (fun d=>⟨rfl,rfl⟩) l) i (by rw [List.length_map];exact hi)
 rw [List.getElem_map] at h
 exact⟨ad,e,h⟩
def addKK (k:Known) (d:D):Known × Int:=if mayD d=false then (k,1) else if k.pend.length<60/\k.seq<maxN then (⟨k.b,k.pend++[d],k.ep,k.ln⟩,0) else (k,5)
theorem add_fit {H:Sh} {n:Nat} (h:Fit H n) (hn:n<=400) {d:D} (hd:d.Ok):∃ H',H'.k=(addKK H.k d).1/\Fit H' (n+1)/\(H.np=H.l.length->H'.np=H'.l.length)/\((addKK H.k d).2≠0->H'=H)/\((addKK H.k d).2=0->H'.np=H'.l.length)/\
  ∀ (gs gj gc b:Nat) (Sa:Nat->Prop) (w:World),(∀ x,Sa x->x<w.heap.size)->EnvFree Sa w->ShelfK gs gj gc b H Sa w->Calls Tryz.prog 16 #[.pointer (some ⟨gs,0,none⟩),.agg (dC d).toArray] w (RetOb Sa w (.int .i64 (addKK H.k d).2) (ShelfK gs gj gc b H')):=by
 have had:=fun gs gj gc b Sa w hlt he hK=>sadd_any gs gj gc b H h.ok d hd Sa w hlt he hK
 unfold addKK
 rcases h.add hn hd with ⟨hm,hc,e⟩ | ⟨hm,hc,e⟩ | ⟨hm,e⟩
 ·rw [e] at had
  rw [if_neg (by rw [hm];decide),if_pos (show H.k.pend.length<60/\H.k.seq<maxN from hc)]
  exact⟨_,write_add_k _ _ _,h.write hn (r:=.add _) ⟨hm,hd⟩ hc true,fun _=>write_full _ _,fun h=>absurd rfl h,fun _=>write_full _ _,had⟩
 ·rw [e] at had
  rw [if_neg (by rw [hm];decide),if_neg (show ¬ (H.k.pend.length<60/\H.k.seq<maxN) from hc)]
  exact⟨H,rfl,h.mono (by omega),id,fun _=>rfl,(fun h=>by cases h),had⟩
 ·rw [e] at had
  rw [if_pos hm]
  exact⟨H,rfl,h.mono (by omega),id,fun _=>rfl,(fun h=>by cases h),had⟩
def enterKK (k:Known) (m:Int):Known × Int:=if m<=k.ep then (k,12) else (⟨k.b,k.pend,m,k.ln⟩,0)
theorem enter_fit {H:Sh} {n:Nat} (h:Fit H n) (hn:n<=400) {m:Int} (hm:i64ok m):∃ H',H'.k=(enterKK H.k m).1/\Fit H' (n+1)/\(H.np=H.l.length->H'.np=H'.l.length)/\((enterKK H.k m).2≠0->H'=H)/\((enterKK H.k m).2=0->H'.np=H'.l.length)/\
  ∀ (gs gj gc b:Nat) (Sa:Nat->Prop) (w:World),(∀ x,Sa x->x<w.heap.size)->EnvFree Sa w->ShelfK gs gj gc b H Sa w->Calls Tryz.prog 26 #[.pointer (some ⟨gs,0,none⟩),.int .i64 m] w (RetOb Sa w (.int .i64 (enterKK H.k m).2) (ShelfK gs gj gc b H')):=by
 have had:=fun gs gj gc b Sa w hlt he hK=>senter_any gs gj gc b H h.ok m hm Sa w hlt he hK
 unfold enterKK
 rcases h.enter hn hm with ⟨hc,e⟩ | ⟨hc,e⟩
 ·rw [e] at had
  rw [if_pos hc]
  exact⟨H,rfl,h.mono (by omega),id,fun _=>rfl,(fun h=>by cases h),had⟩
 ·rw [e] at had
  rw [if_neg (by omega)]
  refine⟨_,?_,h.write hn (r:=.enter _) hm trivial true,fun _=>write_full _ _,fun h=>absurd rfl h,fun _=>write_full _ _,had⟩
  rw [write_enter_k]
  show (⟨H.k.b,H.k.pend,max H.k.ep m,H.k.ln⟩:Known)=_
  rw [show max H.k.ep m=m from by omega]
theorem pack_fit {H:Sh} {n:Nat} (h:Fit H n) (hn:n<=400):∃ H',H'.k=H.k/\Fit H' 0/\H'.np=H'.l.length/\
  ∀ (gs gj gc b:Nat) (Sa:Nat->Prop) (w:World),(∀ x,Sa x->x<w.heap.size)->EnvFree Sa w->ShelfK gs gj gc b H Sa w->Calls Tryz.prog 30 #[.pointer (some ⟨gs,0,none⟩)] w (RetOb Sa w (.int .i64 0) (ShelfK gs gj gc b H')):=by
 have had:=fun gs gj gc b Sa w hlt he hK=>spack_any gs gj gc b H h.ok Sa w hlt he hK
 have e:packH H=(H.lay H.k,0):=by
  obtain⟨h1,h2⟩:=h.lays hn h.ok.k
  unfold packH
  rw [h.down,if_neg (by decide),h1,h2]
 rw [e] at had
 exact⟨H.lay H.k,rfl,h.lay hn h.ok.k,rfl,had⟩
def goodL (s:Stt) (p:List D):Bool:=mayS s&&p.all mayD&&decide (s.seq<=maxN-p.length)
theorem learn_bad {H:Sh} {s:Stt} {p:List D} (hd:H.down=false) (hl:p.length<=60) (h:goodL s p=false):learnH H s p=(H,1):=by
 unfold learnH
 rw [hd,if_neg (by decide),if_pos]
 unfold goodL at h
 rw [Bool.and_eq_false_iff,Bool.and_eq_false_iff] at h
 rcases h with (h | h) | h
 ·exact .inr (.inl h)
 ·refine .inl ?_
  rw [List.all_eq_false] at h
  obtain⟨d,hd1,hd2⟩:=h
  exact List.any_eq_true.2 ⟨d,hd1,by unfold badD;simpa using hd2⟩
 ·have:=of_decide_eq_false h
  exact .inr (.inr (.inr (by omega)))
theorem learn_good {H:Sh} {n:Nat} (hf:Fit H n) (hn:n<=400) {s:Stt} {p:List D} (h5:s.lows.length=5) (hp:∀ d∈p,d.Ok) (hl:p.length<=60) (h:goodL s p=true):
  learnH H s p=(H.lay ⟨s,p,H.k.ep,H.k.ep⟩,0)/\(⟨s,p,H.k.ep,H.k.ep⟩:Known).Ok:=by
 unfold goodL at h
 rw [Bool.and_eq_true,Bool.and_eq_true,decide_eq_true_eq,List.all_eq_true] at h
 obtain⟨⟨h1,h2⟩,h3⟩:=h
 have hc:¬ (p.any badD=true\/mayS s=false\/60<p.length\/maxN-p.length<s.seq):=by
  rintro (h | h | h | h)
  ·obtain⟨d,hd1,hd2⟩:=List.any_eq_true.1 h
   unfold badD at hd2
   rw [h2 d hd1] at hd2
   cases hd2
  ·rw [h1] at h;cases h
  ·omega
  ·omega
 have hk:=learn_ok hf.ok h5 hp hc
 refine⟨?_,hk⟩
 unfold learnH
 obtain⟨e1,e2⟩:=hf.lays hn hk
 rw [hf.down,if_neg (by decide),if_neg hc,e1,e2]
end Go.Proofs.YtokglimimnelaaaGreatDoor
end
namespace Go.Proofs.YtokglimimnelaaaGreatDoor
open Go.Vc Go.RowKit Go.Fl
set_option maxRecDepth 100000
def doK8 (k:Known) (kind n:Int) (d:D):Known × Int × List Res:=
 if kind=0 then (if mayD d=false then (k,1,[]) else if 60<=k.pend.length then (k,5,[]) else (⟨k.b,k.pend++[d],k.ep,k.ln⟩,0,[]))
 else if kind=1 then (if k.seq<k.b.seq+n then (k,4,[]) else ((commitK k (k.b.seq+n)).1,0,(commitK k (k.b.seq+n)).2))
 else if kind=2 then (if n<1 then (k,12,[]) else (⟨k.b,k.pend,k.ep+n,k.ln⟩,0,[]))
 else if kind=3 then (if mayD d=false then (k,1,[]) else (⟨k.b,[d],k.ep,k.ep⟩,0,[]))
 else (k,0,[])
def sameK (a b:Known):Bool:=eqS a.b b.b&&(eqAll eqD a.pend b.pend&&(a.seq==b.seq&&(a.ep==b.ep&&a.ln==b.ln)))
theorem eqDs_true {a b:List D} (h:eqAll eqD a b=true):a=b:=(eqAll_iff (fun _ _=>eqD_iff)).1 h
theorem sameK_iff {a b:Known}:sameK a b=true↔a=b:=by
 constructor
 ·intro h
  unfold sameK at h
  rw [Bool.and_eq_true,Bool.and_eq_true,Bool.and_eq_true,Bool.and_eq_true,beq_iff_eq,beq_iff_eq,beq_iff_eq] at h
  obtain⟨h1,h2,h3,h4,h5⟩:=h
  obtain⟨b1,p1,e1,n1⟩:=a
  obtain⟨b2,p2,e2,n2⟩:=b
  have h1:=eqS_iff.1 h1
  have h2:=eqDs_true h2
  simp only at h1 h2 h4 h5
  rw [h1,h2,h4,h5]
 ·rintro rfl
  unfold sameK
  rw [eqS_iff.2 rfl,eqDs_refl,beq_self_eq_true,beq_self_eq_true,beq_self_eq_true]
  rfl
structure EldI (H:Sh) (el:List Known) (n:Nat):Prop where
 fit:Fit H n
 cov:∀ i,H.np<=i->i<=H.l.length->foldK H.base (H.l.take i)∈el
 small:∀ e∈el,e.Ok/\e.seq<=n/\0<=e.ep/\e.ep<=n*1048576
 len:el.length<=n+1
theorem EldI.mem {H:Sh} {el:List Known} {n:Nat} (h:EldI H el n):H.k∈el:=by
 have:=h.cov H.l.length h.fit.ok.np (Nat.le_refl _)
 rw [List.take_length] at this
 exact this
theorem EldI.mono {H:Sh} {el:List Known} {n m:Nat} (h:EldI H el n) (hm:n<=m):EldI H el m:=
 ⟨h.fit.mono hm,h.cov,fun e he=>by obtain⟨a,b,c,d⟩:=h.small e he;exact⟨a,by omega,c,by omega⟩,by have:=h.len;omega⟩
theorem EldI.reset {H:Sh} {n:Nat} (hf:Fit H n) (hnp:H.np=H.l.length) (h1:H.k.seq<=n) (h2:0<=H.k.ep) (h3:H.k.ep<=n*1048576):EldI H [H.k] n:=
 ⟨hf,fun i h4 h5=>by
  have e:i=H.l.length:=by omega
  subst e
  rw [List.take_length]
  exact List.mem_singleton.2 rfl,fun e he=>by rw [List.mem_singleton.1 he];exact⟨hf.ok.k,h1,h2,h3⟩,by show 1<=n+1;omega⟩
theorem EldI.small' {H:Sh} {el:List Known} {n:Nat} (h:EldI H el n):H.k.seq<=n/\0<=H.k.ep/\H.k.ep<=n*1048576:=(h.small _ h.mem).2
abbrev CallS (f:Nat) (ys:List Value) (v:Value) (H H':Sh):Prop:=∀ (gs gj gc b:Nat) (Sa:Nat->Prop) (w:World),(∀ x,Sa x->x<w.heap.size)->EnvFree Sa w->ShelfK gs gj gc b H Sa w->Calls Tryz.prog f (Value.pointer (some ⟨gs,0,none⟩)::ys).toArray w (RetOb Sa w v (ShelfK gs gj gc b H'))
def elNext (el:List Known) (q:Known × Int × List Res):List Known:=if q.2.1=0 then [q.1] else el
theorem EldI.add {H:Sh} {el:List Known} {n:Nat} (h:EldI H el n) (hn:n<40) {d:D} (hd:d.Ok) (m:Int):
  ∃ H',H'.k=(doK8 H.k 0 m d).1/\EldI H' (elNext el (doK8 H.k 0 m d)) (n+1)/\CallS 16 [.agg (dC d).toArray] (.int .i64 (doK8 H.k 0 m d).2.1) H H':=by
 obtain⟨H',e1,hf,_,h1,h2,hc⟩:=add_fit h.fit (by omega) hd
 obtain⟨s1,s2,s3⟩:=h.small'
 have e:doK8 H.k 0 m d=((addKK H.k d).1,(addKK H.k d).2,[]):=by
  unfold doK8 addKK
  rw [if_pos rfl]
  cases mayD d with
  | false=>rw [if_pos rfl,if_pos rfl]
  | true=>
   rw [if_neg (show ¬ (true=false) by decide),if_neg (show ¬ (true=false) by decide)]
   by_cases hp:60<=H.k.pend.length
   ·rw [if_pos hp,if_neg (by omega)]
   ·rw [if_neg hp,if_pos ⟨by omega,by unfold maxN;omega⟩]
 rw [e]
 refine⟨H',e1,?_,hc⟩
 unfold elNext
 by_cases h0:(addKK H.k d).2=0
 ·rw [if_pos (show (addKK H.k d).2=0 from h0)]
  have ek:(addKK H.k d).1=⟨H.k.b,H.k.pend++[d],H.k.ep,H.k.ln⟩:=by
   unfold addKK at h0 ⊢
   split
   ·rename_i h9
    rw [if_pos h9] at h0
    cases h0
   ·rename_i h9
    rw [if_neg h9] at h0
    split
    ·rfl
    ·rename_i h8
     rw [if_neg h8] at h0
     cases h0
  show EldI H' [(addKK H.k d).1] _
  rw [<-e1]
  refine EldI.reset hf (h2 h0) ?_ (by rw [e1,ek];exact s2) (by rw [e1,ek];show H.k.ep<=_;omega)
  rw [e1,ek]
  show H.k.b.seq+((H.k.pend++[d]).length:Int)<=_
  rw [List.length_append]
  unfold Known.seq at s1
  show H.k.b.seq+((H.k.pend.length+1:Nat):Int)<=_
  omega
 ·rw [if_neg (show ¬ (addKK H.k d).2=0 from h0)]
  rw [h1 h0]
  exact h.mono (by omega)
theorem EldI.enter {H:Sh} {el:List Known} {n:Nat} (h:EldI H el n) (hn:n<40) (d:D) {m:Int} (hm:0<=m/\m<=1048576):
  ∃ H',H'.k=(doK8 H.k 2 m d).1/\EldI H' (elNext el (doK8 H.k 2 m d)) (n+1)/\CallS 26 [.int .i64 (H.k.ep+m)] (.int .i64 (doK8 H.k 2 m d).2.1) H H':=by
 obtain⟨s1,s2,s3⟩:=h.small'
 obtain⟨H',e1,hf,_,h1,h2,hc⟩:=enter_fit h.fit (by omega) (m:=H.k.ep+m) (by unfold i64ok;omega)
 have e:doK8 H.k 2 m d=((enterKK H.k (H.k.ep+m)).1,(enterKK H.k (H.k.ep+m)).2,[]):=by
  unfold doK8 enterKK
  rw [if_neg (by decide),if_neg (by decide),if_pos rfl]
  by_cases hp:m<1
  ·rw [if_pos hp,if_pos (by omega)]
  ·rw [if_neg hp,if_neg (by omega)]
 rw [e]
 refine⟨H',e1,?_,hc⟩
 unfold elNext
 by_cases h0:(enterKK H.k (H.k.ep+m)).2=0
 ·rw [if_pos (show (enterKK H.k (H.k.ep+m)).2=0 from h0)]
  have ek:(enterKK H.k (H.k.ep+m)).1=⟨H.k.b,H.k.pend,H.k.ep+m,H.k.ln⟩:=by
   unfold enterKK at h0 ⊢
   split
   ·rename_i h9
    rw [if_pos h9] at h0
    cases h0
   ·rfl
  show EldI H' [(enterKK H.k (H.k.ep+m)).1] _
  rw [<-e1]
  exact EldI.reset hf (h2 h0) (by rw [e1,ek];show H.k.seq<=_;omega) (by rw [e1,ek];show 0<=H.k.ep+m;omega) (by rw [e1,ek];show H.k.ep+m<=_;omega)
 ·rw [if_neg (show ¬ (enterKK H.k (H.k.ep+m)).2=0 from h0)]
  rw [h1 h0]
  exact h.mono (by omega)
theorem EldI.pack {H:Sh} {el:List Known} {n:Nat} (h:EldI H el n) (hn:n<40):
  ∃ H',H'.k=H.k/\EldI H' [H.k] (n+1)/\CallS 30 [] (.int .i64 0) H H':=by
 obtain⟨s1,s2,s3⟩:=h.small'
 obtain⟨H',e1,hf,hnp,hc⟩:=pack_fit h.fit (by omega)
 refine⟨H',e1,?_,hc⟩
 rw [<-e1]
 exact EldI.reset (hf.mono (by omega)) hnp (by rw [e1];omega) (by rw [e1];exact s2) (by rw [e1];omega)
theorem EldI.commit {H:Sh} {el:List Known} {n:Nat} (h:EldI H el n) (hn:n<40) (d:D) {m:Int} (hm:0<=m/\m<=1048576):
  ∃ H',H'.k=(doK8 H.k 1 m d).1/\EldI H' (el++[(doK8 H.k 1 m d).1]) (n+1)/\
  ∀ (gs gj gc b:Nat) (Sa:Nat->Prop) (w:World),(∀ x,Sa x->x<w.heap.size)->EnvFree Sa w->ShelfK gs gj gc b H Sa w->Calls Tryz.prog 19 #[.pointer (some ⟨gs,0,none⟩),.int .i64 (H.k.b.seq+m)] w (RetSc Sa w (ShelfK gs gj gc b H') (doK8 H.k 1 m d).2.2 (doK8 H.k 1 m d).2.1):=by
 obtain⟨s1,s2,s3⟩:=h.small'
 have hb0:=(mayS_parts.1 h.fit.ok.k.may).1
 have hi:i64ok (H.k.b.seq+m):=by
  unfold i64ok
  have:H.k.b.seq<=H.k.seq:=by unfold Known.seq;omega
  omega
 have hsm:=fun gs gj gc b Sa w hlt he hK=>scommit_any gs gj gc b H h.fit.ok (H.k.b.seq+m) hi Sa w hlt he hK
 have keep:∀ k',k'∈el->EldI H (el++[k']) (n+1):=fun k' hk=>by
  have h9:=h.mono (m:=n+1) (by omega)
  refine⟨h9.fit,fun i a b=>List.mem_append_left _ (h9.cov i a b),fun e he=>?_,by rw [List.length_append];have:=h.len;show _+1<=n+1+1;omega⟩
  rw [List.mem_append,List.mem_singleton] at he
  rcases he with he | rfl
  ·exact h9.small e he
  ·exact h9.small _ hk
 unfold doK8
 rw [if_neg (by decide),if_pos rfl]
 rcases h.fit.commit (by omega) hi with ⟨h1,e⟩ | ⟨h1,h2,e,h3⟩ | ⟨h1,e⟩
 ·rw [e] at hsm
  rw [if_pos h1]
  exact⟨H,rfl,keep _ h.mem,hsm⟩
 ·rw [e] at hsm
  rw [if_neg (by omega)]
  refine⟨H,h3.symm,?_,?_⟩
  ·show EldI H (el++[(commitK H.k (H.k.b.seq+m)).1]) _
   rw [h3]
   exact keep _ h.mem
  ·show ∀ (gs gj gc b:Nat) (Sa:Nat->Prop) (w:World),_->_->_->Calls _ _ _ _ (RetSc Sa w _ (commitK H.k (H.k.b.seq+m)).2 0)
   rw [h2]
   exact hsm
 ·rw [e] at hsm
  rw [if_neg (by omega)]
  have hk:=write_done_k H (H.k.b.seq+m) false
  refine⟨H.write (.done (H.k.b.seq+m)) false,hk,⟨h.fit.write (by omega) (r:=.done _) hi h1 false,fun i a b=>?_,fun e he=>?_,by rw [List.length_append];have:=h.len;show _+1<=n+1+1;omega⟩,hsm⟩
  ·have b:i<=(H.l++[Rc.done (H.k.b.seq+m)]).length:=b
   have a:H.np<=i:=a
   rw [List.length_append] at b
   have b:i<=H.l.length+1:=b
   show foldK H.base ((H.l++[Rc.done (H.k.b.seq+m)]).take i)∈_
   by_cases hil:i<=H.l.length
   ·rw [List.take_append_of_le_length hil]
    exact List.mem_append_left _ (h.cov i a hil)
   ·rw [List.take_of_length_le (by rw [List.length_append];show _+1<=i;omega)]
    exact List.mem_append_right _ (List.mem_singleton.2 (foldK_snoc _ _ _))
  ·rw [List.mem_append,List.mem_singleton] at he
   rcases he with he | rfl
   ·obtain⟨a,b,c,d⟩:=h.small e he
    exact⟨a,by omega,c,by omega⟩
   ·have hko:=h.fit.ok.k.commit (H.k.b.seq+m)
    have hlt:Late H.k (commitK H.k (H.k.b.seq+m)).1:=(Late.refl _).commit _
    have hsq:=hlt.seq h.fit.ok.k
    exact⟨hko,by show (commitK H.k (H.k.b.seq+m)).1.seq<=_;rw [hsq];omega,s2,by show H.k.ep<=_;omega⟩
theorem EldI.cut {H:Sh} {el:List Known} {n:Nat} (h:EldI H el n) {i:Nat} (h1:H.np<=i) (h2:i<=H.l.length):(H.cut i).k∈el/\EldI (H.cut i) [(H.cut i).k] (n+1):=by
 have hm:(H.cut i).k∈el:=by
  show foldK H.base (H.l.take i)∈el
  exact h.cov i h1 h2
 obtain⟨s0,s1,s2,s3⟩:=h.small _ hm
 refine⟨hm,EldI.reset ((h.fit.cut i h2).mono (by omega)) ?_ (by omega) s2 (by omega)⟩
 show i=(H.l.take i).length
 rw [List.length_take]
 omega
theorem EldI.h0:EldI (H0 1048576) [Known0] 0:=by
 have h:=EldI.reset (n:=0) Fit.h0 rfl (by decide +kernel) (by decide +kernel) (by decide +kernel)
 exact h
theorem EldI.learn {H:Sh} {el:List Known} {n:Nat} (h:EldI H el n) (hn:n<40) {d:D} (hd:d.Ok) (m:Int):
  ∃ H',H'.k=(doK8 H.k 3 m d).1/\EldI H' (elNext el (doK8 H.k 3 m d)) (n+1)/\learnH H H.k.b [d]=(H',(doK8 H.k 3 m d).2.1):=by
 obtain⟨s1,s2,s3⟩:=h.small'
 have hko:=h.fit.ok.k
 have hseq:H.k.b.seq<=H.k.seq:=by unfold Known.seq;omega
 unfold doK8
 rw [if_neg (by decide),if_neg (by decide),if_neg (by decide),if_pos rfl]
 cases hmd:mayD d with
 | false=>
  rw [if_pos rfl]
  refine⟨H,rfl,h.mono (by omega),learn_bad h.fit.down (by show 1<=60;omega) ?_⟩
  unfold goodL
  rw [List.all_cons,hmd]
  simp
 | true=>
  rw [if_neg (by decide)]
  have hg:goodL H.k.b [d]=true:=by
   unfold goodL
   rw [hko.may,List.all_cons,hmd,List.all_nil,decide_eq_true (by show H.k.b.seq<=maxN-((1:Nat):Int);unfold maxN;omega)]
   rfl
  obtain⟨e,hk⟩:=learn_good h.fit (by omega) hko.lows (fun x hx=>by rw [List.mem_singleton.1 hx];exact hd) (by show 1<=60;omega) hg
  refine⟨_,rfl,?_,e⟩
  have hf:=(h.fit.lay (by omega) hk).mono (m:=n+1) (by omega)
  have hr:=EldI.reset hf rfl (by show H.k.b.seq+((1:Nat):Int)<=_;omega) (by show 0<=H.k.ep;exact s2) (by show H.k.ep<=_;omega)
  exact hr
end Go.Proofs.YtokglimimnelaaaGreatDoor
