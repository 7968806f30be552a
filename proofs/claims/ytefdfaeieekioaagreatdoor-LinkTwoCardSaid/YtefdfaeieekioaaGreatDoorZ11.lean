import Derived.Test.YtefdfaeieekioaaGreatDoorZ10
set_option maxRecDepth 100000
set_option maxHeartbeats 40000000
set_option linter.unusedVariables false
set_option linter.unusedSimpArgs false
namespace Go.Proofs.YtefdfaeieekioaaGreatDoor
open Go.Vc Go.RowKit Go.Fl Go.ChangeShapes Go.WideShapes Go.ChangeAt
theorem RetWq.back {ws:List Wd} {w w1 w':World} {en:Ending} (hb:Below w.heap.size w w1) (h:RetWq ws w1 en w'):RetWq ws w en w':=by obtain⟨A,c,css,N,e,hb2,ho,hW,hN,hA⟩:=h;have hsz:=hb.size;exact⟨A,c,css,N,e,hb.trans (hb2.mono hsz),W8 ho fun a ha=>zo hsz (by rw [ha] at ho;exact (ho.lt a.block rfl).1),hW,fun y hy=>⟨zo hsz (hN y hy).1,(hN y hy).2⟩,hA⟩
theorem RetWq.nil {w w':World} (hb:Below w.heap.size w w'):RetWq [] w (.returned (.slice none 0 0)) w':=⟨none,0,[],no,rfl,hb,World.ownsRow_nil ..,rfl,fun y h=>h.elim,fun a h=>by cases h⟩
theorem RetWq.same {ws:List Wd} {w w':World} {en:Ending} (h:RetWq ws w en w'):∃ A c,en=.returned (.slice A ws.length c):=by obtain⟨A,c,css,N,e,_⟩:=h;exact⟨A,c,e⟩
theorem C0t (g:Lg) (L:Lk) (hL:L.Ok) (v:Wd) (x:WX) (now:Int) (S:Nat->Prop) (w:World) (hlt:∀ x,S x->x<w.heap.size) (hK:LinkK g L S w):
  Calls Tryz.prog 101 #[.pointer (some ⟨g.gl,0,none⟩),.agg (wdC v x).toArray,.int .i64 now] w (RetWq (B5j L v) w):=by
 obtain⟨A,cA,D,cD,css,hB⟩:=hK.seen;have hc:=CtxF.start w S hlt (R:=LkO g L A cA D cD css) hB yh;obtain⟨z,hz⟩:∃ z,z=B5j L v:=⟨_,rfl⟩;rw [<-hz];unfold B5j at hz;obtain⟨f,hf⟩:∃ f,f=A1I L:=⟨_,rfl⟩;rw [<-hf] at hz;refine vE Tryz.func101 ?_;refine hc.n fun g4 wg4 hg4 hc=>?_;have hB2:=hc.row.2.1;have hr:=hc;refine vD (.Q [0,1,2,3,4,5,6,7] (.n 8 (.q 9 .fin) .stop)) (Old _) (Old.start _) ?_;have hk:=hc.old0;have hc:=hc.drew;refine⟨R9 L.r A cA,rfl,fun z hz=>Old.looks hz (Blk.part hB2 2 (R9 L.r A cA) rfl),?_⟩;refine⟨_,fun z hz=>Keeps.look hz (hB2.cell 0),?_⟩;have hnx:=A5Q L.id hc.row.ros;rw [show A5O L.r.l L.id=f from hf.symm] at hnx;refine⟨hc.q (hnx) fun wA hA hc=>?_,trivial⟩;have hk:=Keeps.below hk (fun _ h=>h) hA;refine⟨hk,?_⟩;clear hk hr;by_cases h0:f=0
 ·rw [y6 (.inl h0)] at hz;subst hz;refine B0 (by show (f==0)=true;rw [h0];rfl) ?_;exact RetWq.nil hc.below
 refine C3X (by show (f==0)=false;rw [y4];exact h0) ?_;refine hc.c 0 rfl rfl ?_;by_cases h1:v.frm=f;rotate_left
 ·rw [y6 (.inr h1)] at hz;subst hz;refine B0 (by show (v.frm != f)=true;rw [bne_iff_ne];exact h1) ?_;exact RetWq.nil hc.below
 refine C3X (by show (v.frm != f)=false;rw [bne_eq_false_iff_eq];exact h1) ?_;rw [y7 (fun h=>h.elim h0 fun h=>h h1)] at hz;refine hc.c 0 rfl rfl ?_;by_cases h2:v.req=1/\f=L.r.new
 ·rw [y6 h2] at hz;subst hz;refine B0 (by show (v.req==1)=true;rw [h2.1];rfl) ?_;refine⟨_,hc.row.2.1.cell 4,?_⟩;refine B0 (by show (f==L.r.new)=true;rw [beq_iff_eq];exact h2.2) ?_;have hB3:=hc.row.2.1;have hr:=hc;refine vD (.Q [0,1,2,3,4,5,7,8,9,10,12,13,14,15,18] (.n 6 (.n 11 (.n 16 (.q 17 (.n 19 (.q 20 .fin) .stop)) .stop) .stop) .stop)) (Old _) (Old.start _) ?_;have hk:=hc.old0;have hc:=hc.drew;refine⟨_,fun z hz=>Keeps.look hz (hB3.cell 1),?_⟩;refine⟨_,fun z hz=>Keeps.look hz (hB3.cell 1),?_⟩;refine⟨_,fun z hz=>Keeps.look hz (hB3.cell 1),?_⟩;refine⟨⟨(A0S g.gs g.gj g.gc g.b L.H hL.H _ _ hc.row.link.shelf).mono fun en wq hq=>?_⟩,trivial⟩;obtain⟨cs,e1,hb,hrep⟩:=hq;obtain⟨y,rfl⟩:=hrep.stX;have hsz0:=hc.below.size;have hc:=(hc.call hb).1.know (X:=Fresh w no (fun S w=>RepS S w L.H.k.b (stX L.H.k.b y))) ⟨_,fun b h=>⟨h.elim (fun h=>h.elim) .inr,.inr (h.elim (fun h=>h.elim) fun h=>zo hsz0 h.1)⟩,hrep⟩ (Fresh.stab (A7S _ _));have hk:=Keeps.below hk (fun _ h=>h) hb;refine⟨_,e1,hk,?_⟩;refine⟨hc.q (A0o g.gs g.gj g.gc g.b L.H hL.H _ _ hc.row.1.link.shelf) fun wA hA hc=>?_,trivial⟩;have hk:=Keeps.below hk (fun _ h=>h) hA;refine⟨hk,?_⟩;refine⟨⟨(A1R g.gs g.gj g.gc g.b L.H hL.H _ _ hc.row.1.link.shelf).mono fun en wq hq=>?_⟩,trivial⟩;obtain⟨A5,c5,e1,hb,ho⟩:=hq;have hc:=hc.fresh hb ho;have hk:=Keeps.below hk (fun _ h=>h) hb;refine⟨_,e1,hk,?_⟩;obtain⟨S2,hc⟩:=hc.toldN;have hne:(B69 L).to≠L.id:=hL.next;have hrow:Fresh w no (WdR (B69 L) ⟨none,0,A5,c5,y⟩) _ _:=Fresh.both (A7S _ _) A2F hc.row.1.2 hc.row.2 fun S a b=>⟨⟨Ros0.rep _ _,b⟩,a⟩;have zp:wdC (B69 L) ⟨none,0,A5,c5,y⟩=[.int .i64 10,.int .i64 0,.int .i64 f,.int .i64 0,.int .i64 L.H.k.seq,.int .i64 0,.int .i64 0,.int .i64 0,.int .i64 0,.int .i64 0,.slice none 0 0,.int .i64 0,.slice A5 L.H.k.pend.length c5,.int .i64 L.H.k.b.seq,.slice y.A L.H.k.b.l.length y.cap,.slice y.B L.H.k.b.ms.length y.cap',.int .i64 y.l0,.int .i64 y.l1,.int .i64 y.l2,.int .i64 y.l3,.int .i64 y.l4]:=by rw [hf];rfl
  have sw:=A35 g L (B69 L) ⟨none,0,A5,c5,y⟩ hne now _ _ hc.ctx.lt hc.row.1.1.link;rw [zp] at sw;refine⟨⟨sw.mono fun en wq hq=>?_⟩,trivial⟩;obtain⟨A3,c3,e1,hb3,ho3⟩:=hq;have hsz:=hc.below.size;have hbb:=hc.below.trans (hb3.mono hsz);have hk:=Keeps.below hk (fun _ h=>h) hb3;refine⟨_,e1,hk,?_⟩;obtain⟨Sl,k1,k2⟩:=hrow;refine⟨A3,c3,[wdC (A1G L (B69 L)) ⟨none,0,A5,c5,y⟩],Sl,rfl,hbb,?_,⟨_,[],rfl,WdR.below (v:=B69 L) k2 ?_,rfl⟩,fun y hy=>⟨(k1 y hy).2.resolve_left id,?_⟩,fun a ha hn=>?_⟩
  ·rw [List.flatten_singleton];exact W8 ho3 fun a ha=>zo hsz (by rw [ha] at ho3;exact (ho3.lt a.block rfl).1)
  ·exact hb3
  ·exact Nat.lt_of_lt_of_le (hc.ctx.lt y (k1 y hy).1) hb3.size
  ·rw [ha] at ho3;have h1:=(ho3.lt a.block rfl).1;have h2:=hc.ctx.lt _ (k1 _ hn).1;omega
 rw [y7 h2] at hz;by_cases h3:v.req=1;refine B0 (by show (v.req==1)=true;rw [h3];rfl) ?_;refine⟨_,hc.row.2.1.cell 4,?_⟩;refine C3X (by show (f==L.r.new)=false;rw [y4];exact fun h=>h2 ⟨h3,h⟩) ?_;rotate_left;refine C3X (by show (v.req==1)=false;rw [y4];exact h3) ?_;rotate_left
 all_goals
  have hB3:=hc.row.2.1;have hr:=hc;refine vD (.Q [0,1,2,3,4,5] (.n 6 (.Q [7,8,9,10,11,12,13,14,15] (.n 16 (.Q [17,18,19] .fin) .stop)) .stop)) (Old _) (Old.start _) ?_;have hk:=hc.old0;have hc:=hc.drew;refine⟨_,fun x hx=>Keeps.cell hx (hr.blk 0 rfl) (hr.blk 0 rfl).lt rfl,?_⟩;refine⟨_,fun z hz=>Keeps.look hz (hB3.cell 1),?_⟩;refine⟨⟨(A0S g.gs g.gj g.gc g.b L.H hL.H _ _ hc.row.link.shelf).mono fun en wq hq=>?_⟩,trivial⟩;obtain⟨cs,e1,hb,hrep⟩:=hq;obtain⟨y,rfl⟩:=hrep.stX;have hc:=(hc.quiet hb).1;have hk:=Keeps.below hk (fun _ h=>h) hb;refine⟨_,e1,hk,?_⟩;by_cases h5:L.H.k.b.seq<=v.seq;rotate_left
  ·rw [y7 (fun h=>h5 h.1)] at hz;subst hz;refine df h5 ?_;refine⟨?_,trivial⟩;exact RetWq.nil hc.below
  refine dt h5 ?_;refine⟨_,fun x hx=>Keeps.cell hx (hr.blk 0 rfl) (hr.blk 0 rfl).lt rfl,?_⟩;refine⟨_,fun z hz=>Keeps.look hz (hB3.cell 1),?_⟩;refine⟨hc.q (A0o g.gs g.gj g.gc g.b L.H hL.H _ _ hc.row.link.shelf) fun wA hA hc=>?_,trivial⟩;have hk:=Keeps.below hk (fun _ h=>h) hA;refine⟨hk,?_⟩;by_cases h6:v.seq<L.H.k.seq;rotate_left
  ·rw [y7 (fun h=>h6 h.2)] at hz;subst hz;refine df h6 ?_;exact RetWq.nil hc.below
  refine dt h6 ?_;rw [y6 ⟨h5,h6⟩] at hz;subst hz;refine hc.c 0 rfl rfl ?_;refine⟨(A8o g L hL v.seq now h5 (Int.le_of_lt h6) _ _ hc.ctx.lt hc.row.link).mono fun en wq hq=>?_⟩;obtain⟨A3,c3,e1⟩:=hq.same;refine⟨_,e1,?_⟩;rw [e1] at hq;exact hq.back hc.below
theorem C0a (g:Lg) (L:Lk) (hL:L.Ok) (hd:L.done.length<=900000) (v:Wd) (hkd:v.kind=3) (hdk:∀ d∈v.deeds,d.Ok) (x:WX) (now:Int) (hcm0:C4C g now L) (Sx:Nat->Prop) (w:World) (hlt:∀ x,Sx x->x<w.heap.size) (he:EnvFree Sx w) (hK:LinkK g L Sx w)
  (Sv:Nat->Prop) (hvd:∀ y,Sv y->y<w.heap.size/\¬ Sx y) (hR:WdR v x Sv w):
  Calls Tryz.prog 48 #[.pointer (some ⟨g.gl,0,none⟩),.agg (wdC v x).toArray,.int .i64 now] w (RetWL Sx w (LinkK g (T7 L v now).1) (T7 L v now).2):=by
 obtain⟨A,cA,D,cD,css,hB⟩:=hK.seen;have sO:=fun L=>LkO.stab g L A cA D cD css;have fin:∀ {S:Nat->Prop} {w1:World} {l:List LB} {os:List OR},CtxF no (bare w) S w1 l os (Vc.Sep 0 (Keep w Sx) (LkO g L A cA D cD css))->RetWL Sx w (LinkK g L) [] (.returned (.slice none 0 0)) w1:=fun hc=>RetWL.nil ((hc.now (fun h=>h.mono (fun _ h=>h) fun _ h=>LkO.link h) (Vc.Sep.stab y8 yg)).endO _) rfl;have hc:=CtxF.enterO hlt hB (sO L);obtain⟨z,hz⟩:∃ z,z=T7 L v now:=⟨_,rfl⟩;rw [<-hz];unfold T7 at hz;rw [hkd,y7 (show ¬ (3:Int)=7 by decide)] at hz;refine vE Tryz.func48 ?_;refine hc.n fun g4 wg4 hg4 hc=>?_;refine hc.c 0 rfl rfl ?_;refine C3X (by show (v.kind==7)=false;rw [hkd];rfl) ?_;have hB2:=(hc.row.right (sO L)).2.1;have hr:=hc;refine vD (.Q [0,1,2,3,4,5,6,7,8,9,10,11,12,13,14,15,16] .fin) (Old _) (Old.start _) ?_;have hk:=hc.old0;have hc:=hc.drew;refine⟨_,fun x hx=>Keeps.cell hx (hr.blk 0 rfl) (hr.blk 0 rfl).lt rfl,?_⟩;refine⟨_,fun z hz=>Keeps.look hz (hB2.cell 2),?_⟩;by_cases hep:v.ep=L.r.ep;rotate_left
 ·rw [y6 (.inl hep)] at hz;subst hz;refine B0 (by show (v.ep != L.r.ep)=true;rw [bne_iff_ne];exact hep) ?_;exact fin hc
 refine C3X (by show (v.ep != L.r.ep)=false;rw [bne_eq_false_iff_eq];exact hep) ?_;refine⟨_,fun z hz=>Keeps.look hz (hB2.cell 2),?_⟩;by_cases hep0:L.r.ep=0
 ·rw [y6 (.inr hep0)] at hz;subst hz;refine B0 (by show (L.r.ep==0)=true;rw [hep0];rfl) ?_;exact fin hc
 refine C3X (by show (L.r.ep==0)=false;rw [y4];exact hep0) ?_;clear hk hr;rw [y7 (fun h=>h.elim (fun h=>h hep) hep0)] at hz;rw [y7 (show ¬ (3:Int)=10 by decide),y7 (show ¬ (3:Int)=9 by decide)] at hz;refine hc.c 0 rfl rfl ?_;refine C3X (by show (v.kind==10)=false;rw [hkd];rfl) ?_;refine hc.c 0 rfl rfl ?_;refine C3X (by show (v.kind==9)=false;rw [hkd];rfl) ?_;have ha:=A0p g L now _ _ (hc.row.right (sO L)).link hc.ctx.lt;obtain⟨b1,e1⟩:∃ b,b=H6 L now:=⟨_,rfl⟩;rw [<-e1] at ha hz;refine hc.q (ha) fun wQ hQ hc=>?_;cases b1 with
 | false=>
  rw [y6 rfl] at hz;subst hz;exact fin hc
 | true=>
 rw [y7 (by decide)] at hz;refine hc.c 0 rfl rfl ?_;rw [y6 rfl] at hz;subst hz;refine B0 (by show (v.kind==3)=true;rw [hkd];rfl) ?_;refine⟨wdC v x,rfl,hc.cells 0 rfl,?_⟩;have hc:=hc.now (X:=Vc.Sep 0 (Keep w Sx) (LinkK g L)) (fun h=>h.mono (fun _ h=>h) fun _ h=>LkO.link h) (Vc.Sep.stab y8 yg);obtain⟨S1,Sa,h1,h2,h3,hO⟩:=hc.row;have hen:=A8l hc h1 h3 he;refine⟨(C0Z g L hL hd v hdk x now hcm0 Sa _ (fun x hx=>hc.ctx.lt x (h2 x hx).1) hen hO S1 (fun y hy=>⟨hc.ctx.lt y (h1 y hy).1,(h1 y hy).2⟩) (Keep.of h3 yb hR hvd)).mono fun en wq hq=>?_⟩;have hq0:=hq;obtain⟨A3,c3,css3,N3,Sn,e1,_⟩:=hq0;refine⟨_,e1,?_⟩;rw [e1] at hq;exact hc.tailW0 yg h1 h3 hq
theorem C0b (g:Lg) (L:Lk) (hL:L.Ok) (v:Wd) (hkd:v.kind=5) (x:WX) (now:Int) (Sx:Nat->Prop) (w:World) (hlt:∀ x,Sx x->x<w.heap.size) (he:EnvFree Sx w) (hK:LinkK g L Sx w):
  Calls Tryz.prog 48 #[.pointer (some ⟨g.gl,0,none⟩),.agg (wdC v x).toArray,.int .i64 now] w (RetWL Sx w (LinkK g (T7 L v now).1) (T7 L v now).2):=by
 obtain⟨A,cA,D,cD,css,hB⟩:=hK.seen;have sO:=fun L=>LkO.stab g L A cA D cD css;have fin:∀ {S:Nat->Prop} {w1:World} {l:List LB} {os:List OR},CtxF no (bare w) S w1 l os (Vc.Sep 0 (Keep w Sx) (LkO g L A cA D cD css))->RetWL Sx w (LinkK g L) [] (.returned (.slice none 0 0)) w1:=fun hc=>RetWL.nil ((hc.now (fun h=>h.mono (fun _ h=>h) fun _ h=>LkO.link h) (Vc.Sep.stab y8 yg)).endO _) rfl;have hc:=CtxF.enterO hlt hB (sO L);obtain⟨z,hz⟩:∃ z,z=T7 L v now:=⟨_,rfl⟩;rw [<-hz];unfold T7 at hz;rw [hkd,y7 (show ¬ (5:Int)=7 by decide)] at hz;refine vE Tryz.func48 ?_;refine hc.n fun g4 wg4 hg4 hc=>?_;refine hc.c 0 rfl rfl ?_;refine C3X (by show (v.kind==7)=false;rw [hkd];rfl) ?_;have hB2:=(hc.row.right (sO L)).2.1;have hr:=hc;refine vD (.Q [0,1,2,3,4,5,6,7,8,9,10,11,12,13,14,15,16] .fin) (Old _) (Old.start _) ?_;have hk:=hc.old0;have hc:=hc.drew;refine⟨_,fun x hx=>Keeps.cell hx (hr.blk 0 rfl) (hr.blk 0 rfl).lt rfl,?_⟩;refine⟨_,fun z hz=>Keeps.look hz (hB2.cell 2),?_⟩;by_cases hep:v.ep=L.r.ep;rotate_left
 ·rw [y6 (.inl hep)] at hz;subst hz;refine B0 (by show (v.ep != L.r.ep)=true;rw [bne_iff_ne];exact hep) ?_;exact fin hc
 refine C3X (by show (v.ep != L.r.ep)=false;rw [bne_eq_false_iff_eq];exact hep) ?_;refine⟨_,fun z hz=>Keeps.look hz (hB2.cell 2),?_⟩;by_cases hep0:L.r.ep=0
 ·rw [y6 (.inr hep0)] at hz;subst hz;refine B0 (by show (L.r.ep==0)=true;rw [hep0];rfl) ?_;exact fin hc
 refine C3X (by show (L.r.ep==0)=false;rw [y4];exact hep0) ?_;clear hk hr;rw [y7 (fun h=>h.elim (fun h=>h hep) hep0)] at hz;rw [y7 (show ¬ (5:Int)=10 by decide),y7 (show ¬ (5:Int)=9 by decide)] at hz;refine hc.c 0 rfl rfl ?_;refine C3X (by show (v.kind==10)=false;rw [hkd];rfl) ?_;refine hc.c 0 rfl rfl ?_;refine C3X (by show (v.kind==9)=false;rw [hkd];rfl) ?_;have ha:=A0p g L now _ _ (hc.row.right (sO L)).link hc.ctx.lt;obtain⟨b1,e1⟩:∃ b,b=H6 L now:=⟨_,rfl⟩;rw [<-e1] at ha hz;refine hc.q (ha) fun wQ hQ hc=>?_;cases b1 with
 | false=>
  rw [y6 rfl] at hz;subst hz;exact fin hc
 | true=>
 rw [y7 (by decide)] at hz;refine hc.c 0 rfl rfl ?_;rw [y7 (show ¬ (5:Int)=3 by decide),y7 (show ¬ (5:Int)=4 by decide),y6 rfl] at hz;subst hz;refine C3X (by show (v.kind==3)=false;rw [hkd];rfl) ?_;refine C3X (by show (v.kind==4)=false;rw [hkd];rfl) ?_;refine B0 (by show (v.kind==5)=true;rw [hkd];rfl) ?_;refine⟨wdC v x,rfl,hc.cells 0 rfl,?_⟩;have hc:=hc.now (X:=Vc.Sep 0 (Keep w Sx) (LinkK g L)) (fun h=>h.mono (fun _ h=>h) fun _ h=>LkO.link h) (Vc.Sep.stab y8 yg);obtain⟨S1,Sa,h1,h2,h3,hO⟩:=hc.row;have hen:=A8l hc h1 h3 he;refine⟨((fun Sa w hlt (hen:EnvFree Sa w) hO=>(C0t g L hL v x now Sa w hlt hO).mono fun en w' h=>h.turn hO hlt) Sa _ (fun x hx=>hc.ctx.lt x (h2 x hx).1) hen hO).mono fun en wq hq=>?_⟩;have hq0:=hq;obtain⟨A3,c3,css3,N3,Sn,e1,_⟩:=hq0;refine⟨_,e1,?_⟩;rw [e1] at hq;exact hc.tailW0 yg h1 h3 hq
theorem A8q (g:Lg) (L:Lk) (hL:L.Ok) (v:Wd) (hkd:v.kind=6) (hs:B3 v.seq) (x:WX) (now:Int) (Sx:Nat->Prop) (w:World) (hlt:∀ x,Sx x->x<w.heap.size) (he:EnvFree Sx w) (hK:LinkK g L Sx w):
  Calls Tryz.prog 48 #[.pointer (some ⟨g.gl,0,none⟩),.agg (wdC v x).toArray,.int .i64 now] w (RetWL Sx w (LinkK g (T7 L v now).1) (T7 L v now).2):=by
 obtain⟨A,cA,D,cD,css,hB⟩:=hK.seen;have sO:=fun L=>LkO.stab g L A cA D cD css;have fin:∀ {S:Nat->Prop} {w1:World} {l:List LB} {os:List OR},CtxF no (bare w) S w1 l os (Vc.Sep 0 (Keep w Sx) (LkO g L A cA D cD css))->RetWL Sx w (LinkK g L) [] (.returned (.slice none 0 0)) w1:=fun hc=>RetWL.nil ((hc.now (fun h=>h.mono (fun _ h=>h) fun _ h=>LkO.link h) (Vc.Sep.stab y8 yg)).endO _) rfl;have hc:=CtxF.enterO hlt hB (sO L);obtain⟨z,hz⟩:∃ z,z=T7 L v now:=⟨_,rfl⟩;rw [<-hz];unfold T7 at hz;rw [hkd,y7 (show ¬ (6:Int)=7 by decide)] at hz;refine vE Tryz.func48 ?_;refine hc.n fun g4 wg4 hg4 hc=>?_;refine hc.c 0 rfl rfl ?_;refine C3X (by show (v.kind==7)=false;rw [hkd];rfl) ?_;have hB2:=(hc.row.right (sO L)).2.1;have hr:=hc;refine vD (.Q [0,1,2,3,4,5,6,7,8,9,10,11,12,13,14,15,16] .fin) (Old _) (Old.start _) ?_;have hk:=hc.old0;have hc:=hc.drew;refine⟨_,fun x hx=>Keeps.cell hx (hr.blk 0 rfl) (hr.blk 0 rfl).lt rfl,?_⟩;refine⟨_,fun z hz=>Keeps.look hz (hB2.cell 2),?_⟩;by_cases hep:v.ep=L.r.ep;rotate_left
 ·rw [y6 (.inl hep)] at hz;subst hz;refine B0 (by show (v.ep != L.r.ep)=true;rw [bne_iff_ne];exact hep) ?_;exact fin hc
 refine C3X (by show (v.ep != L.r.ep)=false;rw [bne_eq_false_iff_eq];exact hep) ?_;refine⟨_,fun z hz=>Keeps.look hz (hB2.cell 2),?_⟩;by_cases hep0:L.r.ep=0
 ·rw [y6 (.inr hep0)] at hz;subst hz;refine B0 (by show (L.r.ep==0)=true;rw [hep0];rfl) ?_;exact fin hc
 refine C3X (by show (L.r.ep==0)=false;rw [y4];exact hep0) ?_;clear hk hr;rw [y7 (fun h=>h.elim (fun h=>h hep) hep0)] at hz;rw [y7 (show ¬ (6:Int)=10 by decide),y7 (show ¬ (6:Int)=9 by decide)] at hz;refine hc.c 0 rfl rfl ?_;refine C3X (by show (v.kind==10)=false;rw [hkd];rfl) ?_;refine hc.c 0 rfl rfl ?_;refine C3X (by show (v.kind==9)=false;rw [hkd];rfl) ?_;have ha:=A0p g L now _ _ (hc.row.right (sO L)).link hc.ctx.lt;obtain⟨b1,e1⟩:∃ b,b=H6 L now:=⟨_,rfl⟩;rw [<-e1] at ha hz;refine hc.q (ha) fun wQ hQ hc=>?_;cases b1 with
 | false=>
  rw [y6 rfl] at hz;subst hz;exact fin hc
 | true=>
 rw [y7 (by decide)] at hz;refine hc.c 0 rfl rfl ?_;rw [y7 (show ¬ (6:Int)=3 by decide),y7 (show ¬ (6:Int)=4 by decide),y7 (show ¬ (6:Int)=5 by decide),y6 rfl] at hz;subst hz;refine C3X (by show (v.kind==3)=false;rw [hkd];rfl) ?_;refine C3X (by show (v.kind==4)=false;rw [hkd];rfl) ?_;refine C3X (by show (v.kind==5)=false;rw [hkd];rfl) ?_;refine B0 (by show (v.kind==6)=true;rw [hkd];rfl) ?_;refine⟨wdC v x,rfl,hc.cells 0 rfl,?_⟩;have hc:=hc.now (X:=Vc.Sep 0 (Keep w Sx) (LinkK g L)) (fun h=>h.mono (fun _ h=>h) fun _ h=>LkO.link h) (Vc.Sep.stab y8 yg);obtain⟨S1,Sa,h1,h2,h3,hO⟩:=hc.row;have hen:=A8l hc h1 h3 he;refine⟨((fun Sa w hlt hen hO=>B3P g L hL v hs x Sa w hlt hen hO) Sa _ (fun x hx=>hc.ctx.lt x (h2 x hx).1) hen hO).mono fun en wq hq=>?_⟩;have hq0:=hq;obtain⟨A3,c3,css3,N3,Sn,e1,_⟩:=hq0;refine⟨_,e1,?_⟩;rw [e1] at hq;exact hc.tailW0 yg h1 h3 hq
theorem C07 {g:Lg} {L:Lk} {v:Wd} (hth:Thin v) {A:Option Addr} {c:Nat} {Sx:Nat->Prop} {w w':World} (hlt:∀ x,Sx x->x<w.heap.size) (hK:LinkK g L Sx w) (hb:Below w.heap.size w w') (ho:w'.ownsRow w.heap.size 43 21 (.slice A 1 c) 1 (wdC (A1G L v) WX0)):
  RetWL Sx w (LinkK g L) [A1G L v] (.returned (.slice A 1 c)) w':=by
 have hr:WdR (B5i 0 r00) WX0 no w':=⟨⟨A28 _ _,A28 _ _⟩,A15 _ _⟩;refine RetWL.quiet (ws:=[A1G L v]) (css:=[wdC (A1G L v) WX0]) (N:=no) rfl hb (by rw [List.flatten_singleton];exact ho) ⟨WX0,[],rfl,?_,rfl⟩ (fun y h=>h.elim) (fun a ha h=>h) (hK.later hlt hb) hlt;obtain⟨k,f,t,e,s,q,u,r,ro,ds,st⟩:=v;obtain⟨h1,h2,h3⟩:=hth;cases h1;cases h2;cases h3;exact hr
theorem B9u (g:Lg) (L:Lk) (v:Wd) (hth:Thin v) (hto:v.to≠L.id) (now:Int) (Sx:Nat->Prop) (w:World) (hlt:∀ x,Sx x->x<w.heap.size) (hK:LinkK g L Sx w):
  Calls Tryz.prog 51 #[.pointer (some ⟨g.gl,0,none⟩),.agg (wdC v WX0).toArray,.int .i64 now] w (RetWL Sx w (LinkK g L) [A1G L v]):=by
 refine (A35 g L v WX0 hto now Sx w hlt hK).mono fun en w' h=>?_;obtain⟨A,c,e1,hb,ho⟩:=h;exact e1▸C07 hth hlt hK hb ho
theorem C3o (g:Lg) (L:Lk) (hL:L.Ok) (hd:L.done.length<=900000) (v:Wd) (hkd:v.kind=3) (hto:v.to=L.id) (hdk:∀ d∈v.deeds,d.Ok) (x:WX) (now:Int) (hcm0:C4C g now L) (Sx:Nat->Prop) (w:World) (hlt:∀ x,Sx x->x<w.heap.size) (he:EnvFree Sx w) (hK:LinkK g L Sx w)
  (Sv:Nat->Prop) (hvd:∀ y,Sv y->y<w.heap.size/\¬ Sx y) (hR:WdR v x Sv w):
  Calls Tryz.prog 51 #[.pointer (some ⟨g.gl,0,none⟩),.agg (wdC v x).toArray,.int .i64 now] w (RetWL Sx w (LinkK g (T7 L (A1G L v) now).1) (T7 L (A1G L v) now).2):=by
 obtain⟨A,cA,D,cD,css,hB⟩:=hK.seen;have hc:=CtxF.enterO hlt hB (LkO.stab g L A cA D cD css);have hR2:WdR (A1G L v) x Sv w:=hR;refine vE Tryz.func51 ?_;refine hc.n fun g4 wg4 hg4 hc=>?_;refine vD (.Q [0,1,2,3,4,5,6,7,8,9] (.n 10 (.q 11 (.z 12)) .stop)) (fun z=>Blk z g.gl 85 (liC L g.gs A cA D cD)) ((hc.row.right (LkO.stab g L A cA D cD css)).2.1) ?_;have hc:=hc.drew;refine⟨.int .i64 L.id,fun z hz=>(Blk.cell hz 0).trans rfl,?_⟩;refine⟨.int .i64 L.r.ep,fun z hz=>(Blk.cell hz 2).trans rfl,?_⟩;refine⟨hc.s 0 rfl fun wS hS hc=>?_,trivial⟩;refine⟨((hc.row.right (LkO.stab g L A cA D cD css)).2.1),?_⟩;refine hc.s 0 rfl fun wS hS hc=>?_;have hc:=I9 hc (l':=[(g4,43,wdC (A1G L v) x)]) (by kernel_rfl);have hB:=(hc.row.right (LkO.stab g L A cA D cD css)).2.1;have hr:=hc;refine vD (.Q [0,1,2,3,4,5,6] .fin) (Old _) (Old.start _) ?_;have hk:=hc.old0;have hc:=hc.drew;refine⟨_,fun x hx=>Keeps.cell hx (hr.blk 0 rfl) (hr.blk 0 rfl).lt rfl,?_⟩;refine⟨_,fun z hz=>Keeps.look hz (hB.cell 0),?_⟩;refine B0 (by show (v.to==L.id)=true;rw [beq_iff_eq];exact hto) ?_;refine⟨wdC (A1G L v) x,rfl,hc.cells 0 rfl,?_⟩;have hc:=hc.now (X:=Vc.Sep 0 (Keep w Sx) (LinkK g L)) (fun h=>h.mono (fun _ h=>h) fun _ h=>LkO.link h) (Vc.Sep.stab y8 yg);obtain⟨S1,Sa,h1,h2,h3,hO⟩:=hc.row;have hen:=A8l hc h1 h3 he;refine⟨(C0a g L hL hd (A1G L v) hkd hdk x now hcm0 Sa _ (fun x hx=>hc.ctx.lt x (h2 x hx).1) hen hO S1 (fun y hy=>⟨hc.ctx.lt y (h1 y hy).1,(h1 y hy).2⟩) (Keep.of h3 yb hR2 hvd)).mono fun en wq hq=>?_⟩;have hq0:=hq;obtain⟨A3,c3,css3,N3,Sn,e1,_⟩:=hq0;refine⟨_,e1,?_⟩;rw [e1] at hq;exact hc.tailW0 yg h1 h3 hq
def C3t (L:Lk) (d:D):Wd:=⟨3,0,B8J L.r.l,0,0,0,0,r00,Ros0,[d],A4z⟩
theorem C3x (g:Lg) (L:Lk) (hL:L.Ok) (hdn:L.done.length<=900000) (d:D) (hd:d.Ok) (now:Int) (hcm0:C4C g now L) (Sx:Nat->Prop) (w:World) (hlt:∀ x,Sx x->x<w.heap.size) (he:EnvFree Sx w) (hK:LinkK g L Sx w):
  Calls Tryz.prog 20 #[.pointer (some ⟨g.gl,0,none⟩),.agg (dC d).toArray,.int .i64 now] w (RetWL Sx w (LinkK g (C3q L d now).1) (C3q L d now).2):=by
 obtain⟨A,cA,D,cD,css,hB⟩:=hK.seen;have sO:=fun L=>LkO.stab g L A cA D cD css;have fin:∀ {S:Nat->Prop} {w1:World} {l:List LB} {os:List OR},CtxF no (bare w) S w1 l os (Vc.Sep 0 (Keep w Sx) (LkO g L A cA D cD css))->RetWL Sx w (LinkK g L) [] (.returned (.slice none 0 0)) w1:=fun hc=>RetWL.nil ((hc.now (fun h=>h.mono (fun _ h=>h) fun _ h=>LkO.link h) (Vc.Sep.stab y8 yg)).endO _) rfl;have hc:=CtxF.enterO hlt hB (sO L);obtain⟨z,hz⟩:∃ z,z=C3q L d now:=⟨_,rfl⟩;rw [<-hz];unfold C3q at hz;refine vE Tryz.func20 ?_;refine hc.n fun g4 wg4 hg4 hc=>?_;refine⟨.bool false,fun w=>B7C g.gl _ _ w,?_⟩;refine⟨_,(hc.row.right (sO L)).2.1.cell 2,?_⟩;by_cases hep:L.r.ep=0
 ·rw [y6 (.inl hep)] at hz;subst hz;refine B0 (by show (L.r.ep==0)=true;rw [hep];rfl) ?_;exact fin hc
 refine C3X (by show (L.r.ep==0)=false;rw [y4];exact hep) ?_;refine⟨dC d,rfl,hc.cells 0 rfl,?_⟩;have hmy:=A3X d hd;obtain⟨b1,e1⟩:∃ b,b=L3 d:=⟨_,rfl⟩;rw [<-e1] at hz;have hm2:=fun w=>(e1▸hmy w:Calls Tryz.prog 50 #[.agg (dC d).toArray] w (C8 (.bool b1) w));refine hc.q (hm2 _) fun wQ hQ hc=>?_;cases b1 with
 | false=>
  rw [y6 (.inr rfl)] at hz;subst hz;exact fin hc
 | true=>
 rw [y7 (fun h=>h.elim hep (by decide))] at hz;have zp:∀ gb,wdC (C3t L d) ⟨none,0,some ⟨gb,0,none⟩,1,SX0⟩=[.int .i64 3,.int .i64 0,.int .i64 (B8J L.r.l),.int .i64 0,.int .i64 0,.int .i64 0,.int .i64 0,.int .i64 0,.int .i64 0,.int .i64 0,.slice none 0 0,.int .i64 0,.slice (some ⟨gb,0,none⟩) 1 1,.int .i64 0,.slice none 0 0,.slice none 0 0,.int .i64 0,.int .i64 0,.int .i64 0,.int .i64 0,.int .i64 0]:=fun gb=>by kernel_rfl
 have hdk:∀ d'∈(C3t L d).deeds,d'.Ok:=fun d' h=>by rw [List.mem_singleton.1 h];exact hd
 by_cases hto:B8J L.r.l=L.id
 ·rw [y6 hto] at hz;subst hz;refine vD (.Q [0,1,2,3,9] (.n 4 (.n 5 (.n 6 (.n 7 (.q 8 (.n 10 (.q 11 .fin) .stop)) .stop) .stop) (.n 6 (.n 5 (.n 7 (.q 8 (.n 10 (.q 11 .fin) .stop)) .stop) (.n 7 (.n 5 (.q 8 (.n 10 (.q 11 .fin) .stop)) .stop) .stop)) .stop)) (.n 6 (.n 4 (.n 5 (.n 7 (.q 8 (.n 10 (.q 11 .fin) .stop)) .stop) (.n 7 (.n 5 (.q 8 (.n 10 (.q 11 .fin) .stop)) .stop) .stop)) (.n 7 (.n 4 (.n 5 (.q 8 (.n 10 (.q 11 .fin) .stop)) .stop) .stop) .stop)) .stop))) (fun _=>True) trivial ?_;have hc:=hc.drew;refine⟨?_,?_⟩
  ·skip
   refine⟨R9 L.r A cA,rfl,Blk.part (hc.row.right (sO L)).2.1 2 (R9 L.r A cA) rfl,trivial,?_⟩;refine⟨?_,?_⟩
   ·skip
    refine hc.q' (B9r (hc.row.right (sO L)).ros) fun wQ hQ hc=>?_;refine⟨⟨dC d,rfl,hc.cells 0 rfl,trivial,?_⟩,trivial⟩;refine⟨fun gb wgb hgb=>?_,trivial⟩;have hc:=hc.made hgb 8 1 rfl (by decide);refine⟨trivial,?_⟩;refine⟨?_,trivial⟩;have hc:=hc.now (X:=Vc.Sep 0 (fun S w'=>Keep w Sx S w'/\True) (LinkK g L)) (fun h=>h.mono (fun _ h=>⟨h,trivial⟩) fun _ h=>LkO.link h) (Vc.Sep.stab (y8.and Stab.true) yg);obtain⟨S2,hc⟩:=hc.toldB Stab.true yg;obtain⟨S1,Sa,h1,h2,h3,hO⟩:=hc.row;have hen:=A8l hc h1 h3.1 he;have hrow:WdR (C3t L d) ⟨none,0,some ⟨gb,0,none⟩,1,SX0⟩ S1 _:=⟨⟨Ros0.rep _ _,h3.2.2.plain A2F⟩,A15 _ _⟩;have sd:=C3o g L hL hdn (C3t L d) rfl hto hdk ⟨none,0,some ⟨gb,0,none⟩,1,SX0⟩ now hcm0 Sa _ (fun x hx=>hc.ctx.lt x (h2 x hx).1) hen hO S1 (fun y hy=>⟨hc.ctx.lt y (h1 y hy).1,(h1 y hy).2⟩) hrow;rw [zp] at sd;refine⟨sd.mono fun en wq hq=>?_⟩;have hq0:=hq;obtain⟨A3,c3,css3,N3,Sn,e1,_⟩:=hq0;refine⟨_,e1,trivial,?_⟩;rw [e1] at hq;exact hc.tailW h1 h3.1 hq
   refine⟨⟨dC d,rfl,hc.cells 0 rfl,trivial,?_⟩,trivial⟩;refine⟨?_,?_⟩
   ·skip
    refine hc.q' (B9r (hc.row.right (sO L)).ros) fun wQ hQ hc=>?_;refine⟨fun gb wgb hgb=>?_,trivial⟩;have hc:=hc.made hgb 8 1 rfl (by decide);refine⟨trivial,?_⟩;refine⟨?_,trivial⟩;have hc:=hc.now (X:=Vc.Sep 0 (fun S w'=>Keep w Sx S w'/\True) (LinkK g L)) (fun h=>h.mono (fun _ h=>⟨h,trivial⟩) fun _ h=>LkO.link h) (Vc.Sep.stab (y8.and Stab.true) yg);obtain⟨S2,hc⟩:=hc.toldB Stab.true yg;obtain⟨S1,Sa,h1,h2,h3,hO⟩:=hc.row;have hen:=A8l hc h1 h3.1 he;have hrow:WdR (C3t L d) ⟨none,0,some ⟨gb,0,none⟩,1,SX0⟩ S1 _:=⟨⟨Ros0.rep _ _,h3.2.2.plain A2F⟩,A15 _ _⟩;have sd:=C3o g L hL hdn (C3t L d) rfl hto hdk ⟨none,0,some ⟨gb,0,none⟩,1,SX0⟩ now hcm0 Sa _ (fun x hx=>hc.ctx.lt x (h2 x hx).1) hen hO S1 (fun y hy=>⟨hc.ctx.lt y (h1 y hy).1,(h1 y hy).2⟩) hrow;rw [zp] at sd;refine⟨sd.mono fun en wq hq=>?_⟩;have hq0:=hq;obtain⟨A3,c3,css3,N3,Sn,e1,_⟩:=hq0;refine⟨_,e1,trivial,?_⟩;rw [e1] at hq;exact hc.tailW h1 h3.1 hq
   refine⟨fun gb wgb hgb=>?_,trivial⟩;have hc:=hc.made hgb 8 1 rfl (by decide);refine⟨trivial,?_⟩;refine⟨hc.q' (B9r (hc.row.right (sO L)).ros) fun wQ hQ hc=>?_,trivial⟩;refine⟨?_,trivial⟩;have hc:=hc.now (X:=Vc.Sep 0 (fun S w'=>Keep w Sx S w'/\True) (LinkK g L)) (fun h=>h.mono (fun _ h=>⟨h,trivial⟩) fun _ h=>LkO.link h) (Vc.Sep.stab (y8.and Stab.true) yg);obtain⟨S2,hc⟩:=hc.toldB Stab.true yg;obtain⟨S1,Sa,h1,h2,h3,hO⟩:=hc.row;have hen:=A8l hc h1 h3.1 he;have hrow:WdR (C3t L d) ⟨none,0,some ⟨gb,0,none⟩,1,SX0⟩ S1 _:=⟨⟨Ros0.rep _ _,h3.2.2.plain A2F⟩,A15 _ _⟩;have sd:=C3o g L hL hdn (C3t L d) rfl hto hdk ⟨none,0,some ⟨gb,0,none⟩,1,SX0⟩ now hcm0 Sa _ (fun x hx=>hc.ctx.lt x (h2 x hx).1) hen hO S1 (fun y hy=>⟨hc.ctx.lt y (h1 y hy).1,(h1 y hy).2⟩) hrow;rw [zp] at sd;refine⟨sd.mono fun en wq hq=>?_⟩;have hq0:=hq;obtain⟨A3,c3,css3,N3,Sn,e1,_⟩:=hq0;refine⟨_,e1,trivial,?_⟩;rw [e1] at hq;exact hc.tailW h1 h3.1 hq
  refine⟨⟨dC d,rfl,hc.cells 0 rfl,trivial,?_⟩,trivial⟩;refine⟨?_,?_⟩
  ·skip
   refine⟨R9 L.r A cA,rfl,Blk.part (hc.row.right (sO L)).2.1 2 (R9 L.r A cA) rfl,trivial,?_⟩;refine⟨?_,?_⟩
   ·skip
    refine hc.q' (B9r (hc.row.right (sO L)).ros) fun wQ hQ hc=>?_;refine⟨fun gb wgb hgb=>?_,trivial⟩;have hc:=hc.made hgb 8 1 rfl (by decide);refine⟨trivial,?_⟩;refine⟨?_,trivial⟩;have hc:=hc.now (X:=Vc.Sep 0 (fun S w'=>Keep w Sx S w'/\True) (LinkK g L)) (fun h=>h.mono (fun _ h=>⟨h,trivial⟩) fun _ h=>LkO.link h) (Vc.Sep.stab (y8.and Stab.true) yg);obtain⟨S2,hc⟩:=hc.toldB Stab.true yg;obtain⟨S1,Sa,h1,h2,h3,hO⟩:=hc.row;have hen:=A8l hc h1 h3.1 he;have hrow:WdR (C3t L d) ⟨none,0,some ⟨gb,0,none⟩,1,SX0⟩ S1 _:=⟨⟨Ros0.rep _ _,h3.2.2.plain A2F⟩,A15 _ _⟩;have sd:=C3o g L hL hdn (C3t L d) rfl hto hdk ⟨none,0,some ⟨gb,0,none⟩,1,SX0⟩ now hcm0 Sa _ (fun x hx=>hc.ctx.lt x (h2 x hx).1) hen hO S1 (fun y hy=>⟨hc.ctx.lt y (h1 y hy).1,(h1 y hy).2⟩) hrow;rw [zp] at sd;refine⟨sd.mono fun en wq hq=>?_⟩;have hq0:=hq;obtain⟨A3,c3,css3,N3,Sn,e1,_⟩:=hq0;refine⟨_,e1,trivial,?_⟩;rw [e1] at hq;exact hc.tailW h1 h3.1 hq
   refine⟨fun gb wgb hgb=>?_,trivial⟩;have hc:=hc.made hgb 8 1 rfl (by decide);refine⟨trivial,?_⟩;refine⟨hc.q' (B9r (hc.row.right (sO L)).ros) fun wQ hQ hc=>?_,trivial⟩;refine⟨?_,trivial⟩;have hc:=hc.now (X:=Vc.Sep 0 (fun S w'=>Keep w Sx S w'/\True) (LinkK g L)) (fun h=>h.mono (fun _ h=>⟨h,trivial⟩) fun _ h=>LkO.link h) (Vc.Sep.stab (y8.and Stab.true) yg);obtain⟨S2,hc⟩:=hc.toldB Stab.true yg;obtain⟨S1,Sa,h1,h2,h3,hO⟩:=hc.row;have hen:=A8l hc h1 h3.1 he;have hrow:WdR (C3t L d) ⟨none,0,some ⟨gb,0,none⟩,1,SX0⟩ S1 _:=⟨⟨Ros0.rep _ _,h3.2.2.plain A2F⟩,A15 _ _⟩;have sd:=C3o g L hL hdn (C3t L d) rfl hto hdk ⟨none,0,some ⟨gb,0,none⟩,1,SX0⟩ now hcm0 Sa _ (fun x hx=>hc.ctx.lt x (h2 x hx).1) hen hO S1 (fun y hy=>⟨hc.ctx.lt y (h1 y hy).1,(h1 y hy).2⟩) hrow;rw [zp] at sd;refine⟨sd.mono fun en wq hq=>?_⟩;have hq0:=hq;obtain⟨A3,c3,css3,N3,Sn,e1,_⟩:=hq0;refine⟨_,e1,trivial,?_⟩;rw [e1] at hq;exact hc.tailW h1 h3.1 hq
  refine⟨fun gb wgb hgb=>?_,trivial⟩;have hc:=hc.made hgb 8 1 rfl (by decide);refine⟨trivial,?_⟩;refine⟨⟨R9 L.r A cA,rfl,Blk.part (hc.row.right (sO L)).2.1 2 (R9 L.r A cA) rfl,trivial,?_⟩,trivial⟩;refine⟨hc.q' (B9r (hc.row.right (sO L)).ros) fun wQ hQ hc=>?_,trivial⟩;refine⟨?_,trivial⟩;have hc:=hc.now (X:=Vc.Sep 0 (fun S w'=>Keep w Sx S w'/\True) (LinkK g L)) (fun h=>h.mono (fun _ h=>⟨h,trivial⟩) fun _ h=>LkO.link h) (Vc.Sep.stab (y8.and Stab.true) yg);obtain⟨S2,hc⟩:=hc.toldB Stab.true yg;obtain⟨S1,Sa,h1,h2,h3,hO⟩:=hc.row;have hen:=A8l hc h1 h3.1 he;have hrow:WdR (C3t L d) ⟨none,0,some ⟨gb,0,none⟩,1,SX0⟩ S1 _:=⟨⟨Ros0.rep _ _,h3.2.2.plain A2F⟩,A15 _ _⟩;have sd:=C3o g L hL hdn (C3t L d) rfl hto hdk ⟨none,0,some ⟨gb,0,none⟩,1,SX0⟩ now hcm0 Sa _ (fun x hx=>hc.ctx.lt x (h2 x hx).1) hen hO S1 (fun y hy=>⟨hc.ctx.lt y (h1 y hy).1,(h1 y hy).2⟩) hrow;rw [zp] at sd;refine⟨sd.mono fun en wq hq=>?_⟩;have hq0:=hq;obtain⟨A3,c3,css3,N3,Sn,e1,_⟩:=hq0;refine⟨_,e1,trivial,?_⟩;rw [e1] at hq;exact hc.tailW h1 h3.1 hq
 rw [y7 hto] at hz;subst hz;refine vD (.Q [0,1,2,3,9] (.n 4 (.n 5 (.n 6 (.n 7 (.q 8 (.n 10 (.q 11 .fin) .stop)) .stop) .stop) (.n 6 (.n 5 (.n 7 (.q 8 (.n 10 (.q 11 .fin) .stop)) .stop) (.n 7 (.n 5 (.q 8 (.n 10 (.q 11 .fin) .stop)) .stop) .stop)) .stop)) (.n 6 (.n 4 (.n 5 (.n 7 (.q 8 (.n 10 (.q 11 .fin) .stop)) .stop) (.n 7 (.n 5 (.q 8 (.n 10 (.q 11 .fin) .stop)) .stop) .stop)) (.n 7 (.n 4 (.n 5 (.q 8 (.n 10 (.q 11 .fin) .stop)) .stop) .stop) .stop)) .stop))) (fun _=>True) trivial ?_;have hc:=hc.drew;refine⟨?_,?_⟩
 ·skip
  refine⟨R9 L.r A cA,rfl,Blk.part (hc.row.right (sO L)).2.1 2 (R9 L.r A cA) rfl,trivial,?_⟩;refine⟨?_,?_⟩
  ·skip
   refine hc.q' (B9r (hc.row.right (sO L)).ros) fun wQ hQ hc=>?_;refine⟨⟨dC d,rfl,hc.cells 0 rfl,trivial,?_⟩,trivial⟩;refine⟨fun gb wgb hgb=>?_,trivial⟩;have hc:=hc.made hgb 8 1 rfl (by decide);refine⟨trivial,?_⟩;refine⟨?_,trivial⟩;have hc:=hc.now (X:=Vc.Sep 0 (fun S w'=>Keep w Sx S w'/\True) (LinkK g L)) (fun h=>h.mono (fun _ h=>⟨h,trivial⟩) fun _ h=>LkO.link h) (Vc.Sep.stab (y8.and Stab.true) yg);obtain⟨S2,hc⟩:=hc.toldB Stab.true yg;have so:=A35 g L (C3t L d) ⟨none,0,some ⟨gb,0,none⟩,1,SX0⟩ hto now _ _ hc.ctx.lt (hc.row.right yg);rw [zp] at so;refine⟨so.mono fun en wq hq=>?_⟩;obtain⟨A3,c3,e1,hb3,ho3⟩:=hq;have hc:=hc.fresh hb3 ho3;refine⟨_,e1,trivial,?_⟩;have hc:=hc.castOs (os':=[orW [C3m L d] A3 c3 [wdC (C3m L d) ⟨none,0,some ⟨gb,0,none⟩,1,SX0⟩]]) (by unfold orW;rw [List.flatten_singleton];rfl);have hc:=hc.now (X:=Vc.Sep 0 (fun S w'=>Keep w Sx S w'/\Fresh w Sx (WsR [C3m L d] [wdC (C3m L d) ⟨none,0,some ⟨gb,0,none⟩,1,SX0⟩]) S w') (LinkK g L)) (fun h=>h.mono (fun _ h=>⟨h.1,h.2.2.mono fun S hr=>⟨_,[],rfl,⟨⟨Ros0.rep _ _,hr⟩,A15 _ _⟩,rfl⟩⟩) fun _ h=>h) (Vc.Sep.stab (y8.and (Fresh.stab (WsR.stab _ _))) yg);exact hc.endW
  refine⟨⟨dC d,rfl,hc.cells 0 rfl,trivial,?_⟩,trivial⟩;refine⟨?_,?_⟩
  ·skip
   refine hc.q' (B9r (hc.row.right (sO L)).ros) fun wQ hQ hc=>?_;refine⟨fun gb wgb hgb=>?_,trivial⟩;have hc:=hc.made hgb 8 1 rfl (by decide);refine⟨trivial,?_⟩;refine⟨?_,trivial⟩;have hc:=hc.now (X:=Vc.Sep 0 (fun S w'=>Keep w Sx S w'/\True) (LinkK g L)) (fun h=>h.mono (fun _ h=>⟨h,trivial⟩) fun _ h=>LkO.link h) (Vc.Sep.stab (y8.and Stab.true) yg);obtain⟨S2,hc⟩:=hc.toldB Stab.true yg;have so:=A35 g L (C3t L d) ⟨none,0,some ⟨gb,0,none⟩,1,SX0⟩ hto now _ _ hc.ctx.lt (hc.row.right yg);rw [zp] at so;refine⟨so.mono fun en wq hq=>?_⟩;obtain⟨A3,c3,e1,hb3,ho3⟩:=hq;have hc:=hc.fresh hb3 ho3;refine⟨_,e1,trivial,?_⟩;have hc:=hc.castOs (os':=[orW [C3m L d] A3 c3 [wdC (C3m L d) ⟨none,0,some ⟨gb,0,none⟩,1,SX0⟩]]) (by unfold orW;rw [List.flatten_singleton];rfl);have hc:=hc.now (X:=Vc.Sep 0 (fun S w'=>Keep w Sx S w'/\Fresh w Sx (WsR [C3m L d] [wdC (C3m L d) ⟨none,0,some ⟨gb,0,none⟩,1,SX0⟩]) S w') (LinkK g L)) (fun h=>h.mono (fun _ h=>⟨h.1,h.2.2.mono fun S hr=>⟨_,[],rfl,⟨⟨Ros0.rep _ _,hr⟩,A15 _ _⟩,rfl⟩⟩) fun _ h=>h) (Vc.Sep.stab (y8.and (Fresh.stab (WsR.stab _ _))) yg);exact hc.endW
  refine⟨fun gb wgb hgb=>?_,trivial⟩;have hc:=hc.made hgb 8 1 rfl (by decide);refine⟨trivial,?_⟩;refine⟨hc.q' (B9r (hc.row.right (sO L)).ros) fun wQ hQ hc=>?_,trivial⟩;refine⟨?_,trivial⟩;have hc:=hc.now (X:=Vc.Sep 0 (fun S w'=>Keep w Sx S w'/\True) (LinkK g L)) (fun h=>h.mono (fun _ h=>⟨h,trivial⟩) fun _ h=>LkO.link h) (Vc.Sep.stab (y8.and Stab.true) yg);obtain⟨S2,hc⟩:=hc.toldB Stab.true yg;have so:=A35 g L (C3t L d) ⟨none,0,some ⟨gb,0,none⟩,1,SX0⟩ hto now _ _ hc.ctx.lt (hc.row.right yg);rw [zp] at so;refine⟨so.mono fun en wq hq=>?_⟩;obtain⟨A3,c3,e1,hb3,ho3⟩:=hq;have hc:=hc.fresh hb3 ho3;refine⟨_,e1,trivial,?_⟩;have hc:=hc.castOs (os':=[orW [C3m L d] A3 c3 [wdC (C3m L d) ⟨none,0,some ⟨gb,0,none⟩,1,SX0⟩]]) (by unfold orW;rw [List.flatten_singleton];rfl);have hc:=hc.now (X:=Vc.Sep 0 (fun S w'=>Keep w Sx S w'/\Fresh w Sx (WsR [C3m L d] [wdC (C3m L d) ⟨none,0,some ⟨gb,0,none⟩,1,SX0⟩]) S w') (LinkK g L)) (fun h=>h.mono (fun _ h=>⟨h.1,h.2.2.mono fun S hr=>⟨_,[],rfl,⟨⟨Ros0.rep _ _,hr⟩,A15 _ _⟩,rfl⟩⟩) fun _ h=>h) (Vc.Sep.stab (y8.and (Fresh.stab (WsR.stab _ _))) yg);exact hc.endW
 refine⟨⟨dC d,rfl,hc.cells 0 rfl,trivial,?_⟩,trivial⟩;refine⟨?_,?_⟩
 ·skip
  refine⟨R9 L.r A cA,rfl,Blk.part (hc.row.right (sO L)).2.1 2 (R9 L.r A cA) rfl,trivial,?_⟩;refine⟨?_,?_⟩
  ·skip
   refine hc.q' (B9r (hc.row.right (sO L)).ros) fun wQ hQ hc=>?_;refine⟨fun gb wgb hgb=>?_,trivial⟩;have hc:=hc.made hgb 8 1 rfl (by decide);refine⟨trivial,?_⟩;refine⟨?_,trivial⟩;have hc:=hc.now (X:=Vc.Sep 0 (fun S w'=>Keep w Sx S w'/\True) (LinkK g L)) (fun h=>h.mono (fun _ h=>⟨h,trivial⟩) fun _ h=>LkO.link h) (Vc.Sep.stab (y8.and Stab.true) yg);obtain⟨S2,hc⟩:=hc.toldB Stab.true yg;have so:=A35 g L (C3t L d) ⟨none,0,some ⟨gb,0,none⟩,1,SX0⟩ hto now _ _ hc.ctx.lt (hc.row.right yg);rw [zp] at so;refine⟨so.mono fun en wq hq=>?_⟩;obtain⟨A3,c3,e1,hb3,ho3⟩:=hq;have hc:=hc.fresh hb3 ho3;refine⟨_,e1,trivial,?_⟩;have hc:=hc.castOs (os':=[orW [C3m L d] A3 c3 [wdC (C3m L d) ⟨none,0,some ⟨gb,0,none⟩,1,SX0⟩]]) (by unfold orW;rw [List.flatten_singleton];rfl);have hc:=hc.now (X:=Vc.Sep 0 (fun S w'=>Keep w Sx S w'/\Fresh w Sx (WsR [C3m L d] [wdC (C3m L d) ⟨none,0,some ⟨gb,0,none⟩,1,SX0⟩]) S w') (LinkK g L)) (fun h=>h.mono (fun _ h=>⟨h.1,h.2.2.mono fun S hr=>⟨_,[],rfl,⟨⟨Ros0.rep _ _,hr⟩,A15 _ _⟩,rfl⟩⟩) fun _ h=>h) (Vc.Sep.stab (y8.and (Fresh.stab (WsR.stab _ _))) yg);exact hc.endW
  refine⟨fun gb wgb hgb=>?_,trivial⟩;have hc:=hc.made hgb 8 1 rfl (by decide);refine⟨trivial,?_⟩;refine⟨hc.q' (B9r (hc.row.right (sO L)).ros) fun wQ hQ hc=>?_,trivial⟩;refine⟨?_,trivial⟩;have hc:=hc.now (X:=Vc.Sep 0 (fun S w'=>Keep w Sx S w'/\True) (LinkK g L)) (fun h=>h.mono (fun _ h=>⟨h,trivial⟩) fun _ h=>LkO.link h) (Vc.Sep.stab (y8.and Stab.true) yg);obtain⟨S2,hc⟩:=hc.toldB Stab.true yg;have so:=A35 g L (C3t L d) ⟨none,0,some ⟨gb,0,none⟩,1,SX0⟩ hto now _ _ hc.ctx.lt (hc.row.right yg);rw [zp] at so;refine⟨so.mono fun en wq hq=>?_⟩;obtain⟨A3,c3,e1,hb3,ho3⟩:=hq;have hc:=hc.fresh hb3 ho3;refine⟨_,e1,trivial,?_⟩;have hc:=hc.castOs (os':=[orW [C3m L d] A3 c3 [wdC (C3m L d) ⟨none,0,some ⟨gb,0,none⟩,1,SX0⟩]]) (by unfold orW;rw [List.flatten_singleton];rfl);have hc:=hc.now (X:=Vc.Sep 0 (fun S w'=>Keep w Sx S w'/\Fresh w Sx (WsR [C3m L d] [wdC (C3m L d) ⟨none,0,some ⟨gb,0,none⟩,1,SX0⟩]) S w') (LinkK g L)) (fun h=>h.mono (fun _ h=>⟨h.1,h.2.2.mono fun S hr=>⟨_,[],rfl,⟨⟨Ros0.rep _ _,hr⟩,A15 _ _⟩,rfl⟩⟩) fun _ h=>h) (Vc.Sep.stab (y8.and (Fresh.stab (WsR.stab _ _))) yg);exact hc.endW
 refine⟨fun gb wgb hgb=>?_,trivial⟩;have hc:=hc.made hgb 8 1 rfl (by decide);refine⟨trivial,?_⟩;refine⟨⟨R9 L.r A cA,rfl,Blk.part (hc.row.right (sO L)).2.1 2 (R9 L.r A cA) rfl,trivial,?_⟩,trivial⟩;refine⟨hc.q' (B9r (hc.row.right (sO L)).ros) fun wQ hQ hc=>?_,trivial⟩;refine⟨?_,trivial⟩;have hc:=hc.now (X:=Vc.Sep 0 (fun S w'=>Keep w Sx S w'/\True) (LinkK g L)) (fun h=>h.mono (fun _ h=>⟨h,trivial⟩) fun _ h=>LkO.link h) (Vc.Sep.stab (y8.and Stab.true) yg);obtain⟨S2,hc⟩:=hc.toldB Stab.true yg;have so:=A35 g L (C3t L d) ⟨none,0,some ⟨gb,0,none⟩,1,SX0⟩ hto now _ _ hc.ctx.lt (hc.row.right yg);rw [zp] at so;refine⟨so.mono fun en wq hq=>?_⟩;obtain⟨A3,c3,e1,hb3,ho3⟩:=hq;have hc:=hc.fresh hb3 ho3;refine⟨_,e1,trivial,?_⟩;have hc:=hc.castOs (os':=[orW [C3m L d] A3 c3 [wdC (C3m L d) ⟨none,0,some ⟨gb,0,none⟩,1,SX0⟩]]) (by unfold orW;rw [List.flatten_singleton];rfl);have hc:=hc.now (X:=Vc.Sep 0 (fun S w'=>Keep w Sx S w'/\Fresh w Sx (WsR [C3m L d] [wdC (C3m L d) ⟨none,0,some ⟨gb,0,none⟩,1,SX0⟩]) S w') (LinkK g L)) (fun h=>h.mono (fun _ h=>⟨h.1,h.2.2.mono fun S hr=>⟨_,[],rfl,⟨⟨Ros0.rep _ _,hr⟩,A15 _ _⟩,rfl⟩⟩) fun _ h=>h) (Vc.Sep.stab (y8.and (Fresh.stab (WsR.stab _ _))) yg);exact hc.endW
end Go.Proofs.YtefdfaeieekioaaGreatDoor
section
namespace Go.Proofs.YtefdfaeieekioaaGreatDoor
open Go.Vc Go.RowKit Go.Fl Go.ChangeShapes Go.WideShapes Go.ChangeAt
section
variable {g:Lg} {L:Lk} {A:Option Addr} {cA:Nat} {D:Option Addr} {cD:Nat} {css:List (List Value)} {w w1:World} {S Sx:Nat->Prop} {l:List LB} {os:List OR}
def A2s (L:Lk) (H:Sh):Lk:={ L with H:=H }
theorem B3Q (d:Go.Proofs.YtefdfaeieekioaaGreatDoor.D) (hL:L.Ok) (hd:d.Ok) (he:EnvFree Sx w) (hc:CtxF no (bare w) S w1 l os (Vc.Sep 0 (Keep w Sx) (LkO g L A cA D cD css))):
  Calls Tryz.prog 28 #[.pointer (some ⟨g.gs,0,none⟩),.agg (dC d).toArray] w1 (fun en w2=>∃ S',en=.returned (.int .i64 (M8 L.H d).2)/\CtxF no (bare w) S' w2 l os (Vc.Sep 0 (Keep w Sx) (LkO g (A2s L (M8 L.H d).1) A cA D cD css))):=by
 have hc:=hc.now (X:=Vc.Sep 0 (Vc.Sep 0 (Keep w Sx) (HdK g.gl 85 (liC L g.gs A cA D cD) (LiR L A cA D cD css))) (ShelfK g.gs g.gj g.gc g.b L.H)) (fun h=>LkO.open h) (Vc.Sep.stab (Vc.Sep.stab y8 (HdK.stab yf)) ye);obtain⟨S1,Sa,h1,h2,h3,hO⟩:=hc.row;have hen:=A8l hc h1 (h3.left (Keep.stab w Sx)) he;refine (B3F g.gs g.gj g.gc g.b L.H hL.H d hd Sa _ (fun x hx=>hc.ctx.lt x (h2 x hx).1) hen hO).mono fun en wq hq=>?_;obtain⟨e1,hT,Sn,hSn,hO⟩:=hq;have hc:=hc.turnO (Vc.Sep.stab y8 (HdK.stab yf)) h1 h2 h3 hT hSn hO ye;exact⟨_,e1,hc.now (fun h=>(Vc.Sep.outer h).mono (fun _ h=>h) fun _ h=>Vc.Sep.obj h) (Vc.Sep.stab y8 yh)⟩
theorem A8r (n:Int) (hL:L.Ok) (hn:B3 n) (he:EnvFree Sx w) (hc:CtxF no (bare w) S w1 l os (Vc.Sep 0 (Keep w Sx) (LkO g L A cA D cD css))):
  Calls Tryz.prog 94 #[.pointer (some ⟨g.gs,0,none⟩),.int .i64 n] w1 (fun en w2=>∃ S',en=.returned (.int .i64 (enterH L.H n).2)/\CtxF no (bare w) S' w2 l os (Vc.Sep 0 (Keep w Sx) (LkO g (A2s L (enterH L.H n).1) A cA D cD css))):=by
 have hc:=hc.now (X:=Vc.Sep 0 (Vc.Sep 0 (Keep w Sx) (HdK g.gl 85 (liC L g.gs A cA D cD) (LiR L A cA D cD css))) (ShelfK g.gs g.gj g.gc g.b L.H)) (fun h=>LkO.open h) (Vc.Sep.stab (Vc.Sep.stab y8 (HdK.stab yf)) ye);obtain⟨S1,Sa,h1,h2,h3,hO⟩:=hc.row;have hen:=A8l hc h1 (h3.left (Keep.stab w Sx)) he;refine (A8j g.gs g.gj g.gc g.b L.H hL.H n hn Sa _ (fun x hx=>hc.ctx.lt x (h2 x hx).1) hen hO).mono fun en wq hq=>?_;obtain⟨e1,hT,Sn,hSn,hO⟩:=hq;have hc:=hc.turnO (Vc.Sep.stab y8 (HdK.stab yf)) h1 h2 h3 hT hSn hO ye;exact⟨_,e1,hc.now (fun h=>(Vc.Sep.outer h).mono (fun _ h=>h) fun _ h=>Vc.Sep.obj h) (Vc.Sep.stab y8 yh)⟩
end
end Go.Proofs.YtefdfaeieekioaaGreatDoor
end
namespace Go.Proofs.YtefdfaeieekioaaGreatDoor
open Go.Vc Go.RowKit Go.Fl Go.ChangeShapes Go.WideShapes Go.ChangeAt
def A5a (g:Lg) (L:Lk) (f:Nat) (v:Wd) (x:WX) (now:Int) (p:Lk × List Wd):Prop:=∀ (Sx:Nat->Prop) (w:World),(∀ x,Sx x->x<w.heap.size)->EnvFree Sx w->LinkK g L Sx w->∀ (Sv:Nat->Prop),(∀ y,Sv y->y<w.heap.size/\¬ Sx y)->WdR v x Sv w->
 Calls Tryz.prog f #[.pointer (some ⟨g.gl,0,none⟩),.agg (wdC v x).toArray,.int .i64 now] w (RetWL Sx w (LinkK g p.1) p.2)
theorem A2P (g:Lg) (L:Lk) (hL:L.Ok) (v:Wd) (hdk:∀ d∈v.deeds,d.Ok) (hsk:∀ e∈v.st.l,X6 e.key) (x:WX) (now:Int) (ht:v.to=L.id->A51 v=true->v.kind≠2->A5a g L 48 v x now (T7 L v now)) (hl:v.to=L.id->A51 v=true->v.kind=2->A5a g L 47 v x now (A2N L v now)):
  A5a g L 17 v x now (B9Y L v now):=by
 intro Sx w hlt he hK Sv hvd hR;obtain⟨A,cA,D,cD,css,hB⟩:=hK.seen;have sO:=fun L=>LkO.stab g L A cA D cD css;have fin:∀ {L:Lk} {S:Nat->Prop} {w1:World} {l:List LB} {os:List OR},CtxF no (bare w) S w1 l os (Vc.Sep 0 (Keep w Sx) (LkO g L A cA D cD css))->RetWL Sx w (LinkK g L) [] (.returned (.slice none 0 0)) w1:=fun hc=>RetWL.nil ((hc.now (fun h=>h.mono (fun _ h=>h) fun _ h=>LkO.link h) (Vc.Sep.stab y8 yg)).endO _) rfl;have kept:∀ {S:Nat->Prop} {w1:World} {l:List LB} {os:List OR},CtxF no (bare w) S w1 l os (Vc.Sep 0 (Keep w Sx) (LkO g L A cA D cD css))->∃ Sk:Nat->Prop,WdR v x Sk w1:=fun hc=>by obtain⟨S1,So,h1,h2,h3,h4⟩:=hc.row;exact⟨S1,Keep.of h3 yb hR hvd⟩
 have hc:=CtxF.enterO hlt hB (sO L);obtain⟨z,hz⟩:∃ z,z=B9Y L v now:=⟨_,rfl⟩;rw [<-hz];unfold B9Y at hz;refine vE Tryz.func17 ?_;refine hc.n fun g4 wg4 hg4 hc=>?_;have hB2:=(hc.row.right (sO L)).2.1;have hr:=hc;refine vD (.Q [0,1,2,3,4,5,6,7,8,9,10,11,12] (.n 13 (.Q [14,15] .fin) .stop)) (Old _) (Old.start _) ?_;have hk:=hc.old0;have hc:=hc.drew;refine⟨.bool false,fun w=>B7C g.gl _ _ w,?_⟩;refine⟨_,fun x hx=>Keeps.cell hx (hr.blk 0 rfl) (hr.blk 0 rfl).lt rfl,?_⟩;refine⟨_,fun z hz=>Keeps.look hz (hB2.cell 0),?_⟩;by_cases hto:v.to=L.id;rotate_left
 ·rw [y6 (.inl hto)] at hz;subst hz;refine B0 (by show (v.to != L.id)=true;rw [bne_iff_ne];exact hto) ?_;refine⟨?_,trivial⟩;exact fin hc
 refine C3X (by show (v.to != L.id)=false;rw [bne_eq_false_iff_eq];exact hto) ?_;refine⟨wdC v x,rfl,fun x hx=>Keeps.cells hx (hr.blk 0 rfl) (hr.blk 0 rfl).lt,?_⟩;obtain⟨Sk,hW⟩:=kept hc;have hm:=B3A v hdk hsk x Sk _ hW;obtain⟨b1,e1⟩:∃ b,b=A51 v:=⟨_,rfl⟩;rw [<-e1] at hm hz;refine⟨hc.q (hm) fun wA hA hc=>?_,trivial⟩;have hk:=Keeps.below hk (fun _ h=>h) hA;refine⟨hk,?_⟩;clear hk hr;cases b1 with
 | false=>
  rw [y6 (.inr rfl)] at hz;subst hz;exact fin hc
 | true=>
 rw [y7 (fun h=>h.elim (fun h=>h hto) (by decide))] at hz;refine hc.c 0 rfl rfl ?_;have hc:=hc.now (X:=Vc.Sep 0 (Keep w Sx) (LinkK g L)) (fun h=>h.mono (fun _ h=>h) fun _ h=>LkO.link h) (Vc.Sep.stab y8 yg);obtain⟨S1,Sa,h1,h2,h3,hO⟩:=hc.row;have hen:=A8l hc h1 h3 he;by_cases hk:v.kind=2
 ·rw [y6 hk] at hz;subst hz;refine B0 (by show (v.kind==2)=true;rw [hk];rfl) ?_;refine⟨wdC v x,rfl,hc.cells 0 rfl,?_⟩;refine⟨(hl hto e1.symm hk Sa _ (fun x hx=>hc.ctx.lt x (h2 x hx).1) hen hO S1 (fun y hy=>⟨hc.ctx.lt y (h1 y hy).1,(h1 y hy).2⟩) (Keep.of h3 yb hR hvd)).mono fun en wq hq=>?_⟩;have hq0:=hq;obtain⟨A3,c3,css3,N3,Sn,e1,_⟩:=hq0;refine⟨_,e1,?_⟩;rw [e1] at hq;exact hc.tailW0 yg h1 h3 hq
 ·rw [y7 hk] at hz;subst hz;refine C3X (by show (v.kind==2)=false;rw [y4];exact hk) ?_;refine⟨wdC v x,rfl,hc.cells 0 rfl,?_⟩;refine⟨(ht hto e1.symm hk Sa _ (fun x hx=>hc.ctx.lt x (h2 x hx).1) hen hO S1 (fun y hy=>⟨hc.ctx.lt y (h1 y hy).1,(h1 y hy).2⟩) (Keep.of h3 yb hR hvd)).mono fun en wq hq=>?_⟩;have hq0:=hq;obtain⟨A3,c3,css3,N3,Sn,e1,_⟩:=hq0;refine⟨_,e1,?_⟩;rw [e1] at hq;exact hc.tailW0 yg h1 h3 hq
def B9N (id:Int) (H:Sh):Lk:=⟨id,H,Ros0,0,[]⟩
theorem B3R (id:Int) (H:Sh) (gs:Nat) (w:World):Calls Tryz.prog 32 #[.int .i64 id,.pointer (some ⟨gs,0,none⟩)] w (fun en w'=>∃ gl,en=.returned (.pointer (some ⟨gl,0,none⟩))/\New w (liC (B9N id H) gs none 0 none 0) 85 gl w'):=by refine vE Tryz.func32 ?_;intro gl w1 h1;exact⟨gl,rfl,h1⟩
theorem A7h:∀ (l:List D) {H:Sh},H.Ok->(∀ d∈l,d.Ok)->(A0T H l).Ok
 | [],H,h,hd=>h
 | d::t,H,h,hd=>by
  show (if (M8 H d).2≠0 then (M8 H d).1 else A0T (M8 H d).1 t).Ok;have h1:=B1E h (hd d (zu ..));split
  ·exact h1
  ·exact A7h t h1 fun x hx=>hd x (zt _ hx)
theorem A8s (H:Sh) (d:D):(M8 H d).1.k.b=H.k.b/\H.k.seq<=(M8 H d).1.k.seq:=by
 by_cases h:(M8 H d).2=0
 ·rw [B3N h];refine⟨rfl,?_⟩;show H.k.b.seq+((H.k.pend.length:Nat):Int)<=H.k.b.seq+(((H.k.pend++[d]).length:Nat):Int);rw [z6];omega
 ·have e:(M8 H d).1.k=H.k:=by
   unfold M8 at h ⊢;split
   ·rfl
   split
   ·rename_i h1 h2;rw [y7 h1,y6 h2] at h;have h:A9M H (.add d)≠0:=h;show (A07 H (.add d) true).k=_;unfold A9M at h;unfold A07;split
    ·rfl
    ·rename_i h3;rw [y7 h3] at h;exact absurd rfl h
   ·rfl
  rw [e];exact⟨rfl,Int.le_refl _⟩
theorem A2Q:∀ (l:List D) (H:Sh),(A0T H l).k.b=H.k.b/\H.k.seq<=(A0T H l).k.seq
 | [],H=>⟨rfl,Int.le_refl _⟩
 | d::t,H=>by
  obtain⟨a1,a2⟩:=A8s H d;obtain⟨b1,b2⟩:=A2Q t (M8 H d).1;show (if (M8 H d).2≠0 then (M8 H d).1 else A0T (M8 H d).1 t).k.b=_/\_<=(if (M8 H d).2≠0 then (M8 H d).1 else A0T (M8 H d).1 t).k.seq;split
  ·exact⟨a1,a2⟩
  ·exact⟨b1.trans a1,Int.le_trans a2 b2⟩
theorem Lk.Ok.with {L:Lk} {H:Sh} (h:L.Ok) (hH:H.Ok):(A2s L H).Ok:=⟨h.id,hH,h.r,h.nd,h.til⟩
def O8 (L:Lk) (v:Wd):List D:=v.deeds.drop (min (L.k.seq-v.seq) v.deeds.length).toNat
def rsM (n:Nat) (d:Int):Int:=if (n:Int)<IntKind.i64.wrap d then (n:Int) else IntKind.i64.wrap d
def rsB (B:Option Addr) (c:Nat) (m:Int):Option Addr:=if (c:Int)=m then B else B.map (·.add (m.toNat*8))
def rsN (n:Nat) (m:Int):Nat:=((n:Int)-m).toNat
theorem B3S {S:Nat->Prop} {w:World} {B:Option Addr} {c k:Nat} {l:List D} (hk:k<=l.length) (h:Row S w B l.length c (l.map dC).flatten) (m:Int) (hm:m=(k:Int)):Row S w (rsB B c m) (l.drop k).length (rsN c m) ((l.drop k).map dC).flatten:=by
 subst hm;have h1:=RowD8.sub h k hk;have e:rsN c (k:Int)=c-k:=by unfold rsN;omega
 rw [e];exact h1
theorem B7F {L:Lk} (h:L.Ok) (q:Int):(onL L q).1.Ok:=by
 unfold onL;split
 ·unfold K6;have h1:=h.commit h.seq;obtain⟨a1,a2,a3,a4⟩:=B1D ((L.k.pend.map fun d=>d.req).zip (E2 L.H L.k.seq).2.1) (F8 L L.k.seq);have h1:(F8 L L.k.seq).Ok:=h1;exact⟨by rw [a2];exact h1.id,by rw [a1];exact h1.H,by rw [a3];exact h1.r,by rw [a3];exact h1.nd,by rw [a4];exact h1.til⟩
 ·exact h
theorem B5l {L:Lk} (h:L.Ok) (q:Int):(onL L q).2.length<=100000:=by
 have hl:=h.H.k.len;unfold onL;split
 ·unfold K6;have h1:=A0V ((L.k.pend.map fun d=>d.req).zip (E2 L.H L.k.seq).2.1) (F8 L L.k.seq);rw [List.length_zip,zj] at h1;have h2:L.k.pend.length=L.H.k.pend.length:=rfl;omega
 ·exact nle rfl
theorem B1G (g:Lg) (L:Lk) (hL:L.Ok) (hd:L.done.length<=900000) (v:Wd) (hs:B3 v.seq) (hs0:0<=v.seq) (hdk:∀ d∈v.deeds,d.Ok) (x:WX) (now:Int) (hcm0:C4C g now L) (Sx:Nat->Prop) (w:World) (hlt:∀ x,Sx x->x<w.heap.size) (he:EnvFree Sx w) (hK:LinkK g L Sx w)
  (Sv:Nat->Prop) (hvd:∀ y,Sv y->y<w.heap.size/\¬ Sx y) (hR:WdR v x Sv w):
  Calls Tryz.prog 100 #[.pointer (some ⟨g.gl,0,none⟩),.agg (wdC v x).toArray,.int .i64 now] w (RetWL Sx w (LinkK g (A32 L v).1) (A32 L v).2):=by
 obtain⟨A,cA,D,cD,css,hB⟩:=hK.seen;have sO:=fun L=>LkO.stab g L A cA D cD css;have fin:∀ {L:Lk} {S:Nat->Prop} {w1:World} {l:List LB} {os:List OR},CtxF no (bare w) S w1 l os (Vc.Sep 0 (Keep w Sx) (LkO g L A cA D cD css))->RetWL Sx w (LinkK g L) [] (.returned (.slice none 0 0)) w1:=fun hc=>RetWL.nil ((hc.now (fun h=>h.mono (fun _ h=>h) fun _ h=>LkO.link h) (Vc.Sep.stab y8 yg)).endO _) rfl;have kept:∀ {L:Lk} {S:Nat->Prop} {w1:World} {l:List LB} {os:List OR},CtxF no (bare w) S w1 l os (Vc.Sep 0 (Keep w Sx) (LkO g L A cA D cD css))->∃ Sk:Nat->Prop,WdR v x Sk w1:=fun hc=>by obtain⟨S1,So,h1,h2,h3,h4⟩:=hc.row;exact⟨S1,Keep.of h3 yb hR hvd⟩
 have hc:=CtxF.enterO hlt hB (sO L);obtain⟨z,hz⟩:∃ z,z=A32 L v:=⟨_,rfl⟩;rw [<-hz];unfold A32 at hz;obtain⟨f,hf⟩:∃ f,f=V7 L:=⟨_,rfl⟩;rw [<-hf] at hz;have hqs:=hL.seq;refine A2E lay_ok Tryz.func100 rfl (by kernel_rfl) (by kernel_rfl) ?_;refine SemC.cut lay_ok (fun (y:Nat)=>[(0,.pointer (some ⟨g.gl,0,none⟩)),(2,.int .i64 now),(4,.pointer (some ⟨y,0,none⟩)),(8,.int .i64 L.H.k.seq)]) (fun y w'=>(v.seq<=L.H.k.seq/\f≠0/\v.frm=f)/\∃ S,CtxF no (bare w) S w' [(y,43,wdC v x)] [] (Vc.Sep 0 (Keep w Sx) (LkO g L A cA D cD css))) 3 (by kernel_rfl) ?_ ?_
 ·skip
  refine hc.n fun g4 wg4 hg4 hc=>?_;have hB2:=(hc.row.right (sO L)).2.1;have hr:=hc;refine vD (.Q [0,1,2,3,4,5,6,7] (.n 8 (.q 9 .fin) .stop)) (Old _) (Old.start _) ?_;have hk:=hc.old0;have hc:=hc.drew;refine⟨R9 L.r A cA,rfl,fun z hz=>Old.looks hz (Blk.part hB2 2 (R9 L.r A cA) rfl),?_⟩;refine⟨_,fun z hz=>Keeps.look hz (hB2.cell 0),?_⟩;have hro:=A3C L.id (hc.row.right (sO L)).ros;rw [show A04 L.r.l L.id=f from hf.symm] at hro;refine⟨hc.q (hro) fun wA hA hc=>?_,trivial⟩;have hk:=Keeps.below hk (fun _ h=>h) hA;refine⟨hk,?_⟩;clear hk hr;by_cases h0:f=0
  ·rw [y6 (.inl h0)] at hz;subst hz;refine B0 (by show (f==0)=true;rw [h0];rfl) ?_;exact fin hc
  refine C3X (by show (f==0)=false;rw [y4];exact h0) ?_;refine hc.c 0 rfl rfl ?_;by_cases h1:v.frm=f;rotate_left
  ·rw [y6 (.inr h1)] at hz;subst hz;refine B0 (by show (v.frm != f)=true;rw [bne_iff_ne];exact h1) ?_;exact fin hc
  refine C3X (by show (v.frm != f)=false;rw [bne_eq_false_iff_eq];exact h1) ?_;rw [y7 (fun h=>h.elim h0 fun h=>h h1)] at hz;refine⟨_,(hc.row.right (sO L)).2.1.cell 1,?_⟩;refine hc.q (A0o g.gs g.gj g.gc g.b L.H hL.H _ _ (hc.row.right (sO L)).link.shelf) fun wQ hQ hc=>?_;refine hc.c 0 rfl rfl ?_;by_cases h3:L.H.k.seq<v.seq
  ·rw [show (if L.k.seq<v.seq then (L,E4 L (A8k L.k.seq 0)) else _)=(L,E4 L (A8k L.H.k.seq 0)) from y6 h3] at hz;subst hz;refine dt h3 ?_;have hc:=hc.now (X:=Vc.Sep 0 (Keep w Sx) (LinkK g L)) (fun h=>h.mono (fun _ h=>h) fun _ h=>LkO.link h) (Vc.Sep.stab y8 yg);have zp:wdC (A8k L.H.k.seq 0) WX0=[.int .i64 5,.int .i64 0,.int .i64 0,.int .i64 0,.int .i64 L.H.k.seq,.int .i64 0,.int .i64 0,.int .i64 0,.int .i64 0,.int .i64 0,.slice none 0 0,.int .i64 0,.slice none 0 0,.int .i64 0,.slice none 0 0,.slice none 0 0,.int .i64 0,.int .i64 0,.int .i64 0,.int .i64 0,.int .i64 0]:=by kernel_rfl
   have sd:=fun S w hlt hK=>A0W g L hL (A8k L.H.k.seq 0) WX0 S w hlt hK;rw [zp] at sd;obtain⟨S1,Sa,h1,h2,h3,hO⟩:=hc.row;have hen:=A8l hc h1 h3 he;refine⟨((fun Sa w hlt (hen:EnvFree Sa w) hO=>(sd Sa w hlt hO).mono fun en w' h=>(h.quiet ⟨rfl,rfl,rfl⟩ (fun _ _=>⟨⟨A28 _ _,A28 _ _⟩,A15 _ _⟩)).turn hO hlt) Sa _ (fun x hx=>hc.ctx.lt x (h2 x hx).1) hen hO).mono fun en wq hq=>?_⟩;have hq0:=hq;obtain⟨A3,c3,css3,N3,Sn,e1,_⟩:=hq0;refine⟨_,e1,?_⟩;rw [e1] at hq;exact hc.tailW0 yg h1 h3 hq
  refine df h3 ?_;exact⟨g4,⟨rfl,rfl,rfl,rfl,trivial⟩,⟨by omega,h0,h1⟩,_,hc⟩
 clear hc;rintro g4 u w1 ⟨⟨h3,h0,h1⟩,S,hc⟩;rw [y7 (fun h=>h.elim h0 fun h=>h h1),y7 (show ¬ L.k.seq<v.seq from by show ¬ L.H.k.seq<v.seq;omega)] at hz;obtain⟨L1,hL1⟩:∃ L1,L1=A2s L (A0T L.H (O8 L v)):=⟨_,rfl⟩;refine SemC.cut lay_ok (fun (y:Nat)=>[(0,.pointer (some ⟨g.gl,0,none⟩)),(2,.int .i64 now),(4,.pointer (some ⟨g4,0,none⟩)),(8,.int .i64 L.H.k.seq)]) (fun y w'=>∃ S,CtxF no (bare w) S w' [(g4,43,wdC v x)] [] (Vc.Sep 0 (Keep w Sx) (LkO g L1 A cA D cD css))) 0 (by kernel_rfl) ?_ ?_
 ·skip
  refine hc.c 0 rfl rfl ?_;refine hc.c 0 rfl rfl ?_;refine hc.c 0 rfl rfl ?_;have hM:=(kept hc).elim fun _ h=>D4 h.1.2;obtain⟨Sk,hW⟩:=kept hc;have hnc:v.deeds.length<=x.cB:=hW.1.2.1;have hqk:L.H.k.seq<=2199023255552:=by have h1:=hL.H.k.seq;have h2:=hL.H.k.len;have hm:E3=1099511627776:=rfl;unfold Known.seq;omega
  have hw1:IntKind.i64.wrap (L.H.k.seq-v.seq)=L.H.k.seq-v.seq:=IntWalk.i64_in _ ⟨by omega,by omega⟩;obtain⟨k,hk⟩:∃ k:Nat,rsM v.deeds.length (L.H.k.seq-v.seq)=(k:Int):=⟨(rsM v.deeds.length (L.H.k.seq-v.seq)).toNat,by unfold rsM;rw [hw1];split<;>omega⟩;have hkl:k<=v.deeds.length:=by unfold rsM at hk;rw [hw1] at hk;split at hk<;>omega
  have hrs:O8 L v=v.deeds.drop k:=by unfold O8;congr 1;unfold rsM at hk;rw [hw1] at hk;show (min (L.H.k.seq-v.seq) (v.deeds.length:Int)).toNat=k;split at hk<;>omega
  have hlen:rsN v.deeds.length (rsM v.deeds.length (L.H.k.seq-v.seq))=(O8 L v).length:=by rw [hk,hrs,zg];unfold rsN;omega
  refine⟨⟨by show 0<=rsM v.deeds.length (L.H.k.seq-v.seq);omega,by show rsM v.deeds.length (L.H.k.seq-v.seq)<=_;omega,by omega,by omega⟩,?_⟩;obtain⟨rb,hrb⟩:∃ rb,rb=rsB x.B x.cB (rsM v.deeds.length (L.H.k.seq-v.seq)):=⟨_,rfl⟩;have hM2:(O8 L v).length<=v.deeds.length:=by rw [hrs,zg];omega
  refine⟨Nat × Sh,fun (i,_)=>[(0,.pointer (some ⟨g.gl,0,none⟩)),(2,.int .i64 now),(4,.pointer (some ⟨g4,0,none⟩)),(8,.int .i64 L.H.k.seq),(53,.slice rb (rsN v.deeds.length (rsM v.deeds.length (L.H.k.seq-v.seq))) (rsN x.cB (rsM v.deeds.length (L.H.k.seq-v.seq)))),(54,.int .i64 (rsN v.deeds.length (rsM v.deeds.length (L.H.k.seq-v.seq)))),(55,.int .i64 (i:Int))],
   fun (i,H) w'=>i<=(O8 L v).length/\H.Ok/\A0T L.H (O8 L v)=A0T H ((O8 L v).drop i)/\∃ S,CtxF no (bare w) S w' [(g4,43,wdC v x)] [] (Vc.Sep 0 (Keep w Sx) (LkO g (A2s L H) A cA D cD css)),
   fun (i,_) _=>(O8 L v).length-i,(0,L.H),⟨rfl,rfl,rfl,rfl,y5 (fun b=>Value.slice b _ _) hrb.symm,rfl,rfl,trivial⟩,⟨zb _,hL.H,rfl,_,hc⟩,?_⟩
  clear hc;rintro⟨i,H⟩ w2 u2 ⟨hi,hH,hadd,S,hc⟩;by_cases hil:i<(O8 L v).length;rotate_left
  ·refine df (by rw [hlen];omega) ?_;have e:A2s L H=L1:=by rw [hL1,hadd,zq (by omega)];rfl
   rw [e] at hc;exact⟨g4,⟨rfl,rfl,rfl,rfl,trivial⟩,_,hc⟩
  refine dt (by rw [hlen];omega) ?_;obtain⟨Sk2,hW2⟩:=kept hc;have hrow:Row Sk2 w2 rb (O8 L v).length (rsN x.cB (rsM v.deeds.length (L.H.k.seq-v.seq))) ((O8 L v).map dC).flatten:=by rw [hrb,hrs];exact B3S hkl hW2.1.2 _ hk
  obtain⟨ad,had,hcell⟩:=RowD8.elem hrow i hil;subst had;obtain⟨d,hde⟩:∃ d,d=(O8 L v)[i]:=⟨_,rfl⟩;have hdr:(O8 L v).drop i=d::(O8 L v).drop (i+1):=by rw [hde];exact List.drop_eq_getElem_cons hil
  rw [<-hde] at hcell;have hdo:d.Ok:=hdk d (by rw [hde];exact List.mem_of_mem_drop (List.getElem_mem hil));refine⟨⟨by omega,by rw [hlen];omega⟩,?_⟩;refine⟨dC d,rfl,by rw [zh];exact hcell,?_⟩;refine hc.n fun g10 wg10 hg10 hc=>?_;refine hc.s 0 rfl fun wS hS hc=>?_;have hc:=I9 hc (l':=[(g10,45,dC d),(g4,43,wdC v x)]) (by kernel_rfl);rw [hdr] at hadd;refine vD (.Q [0,1,2,3,4] (.n 5 (.q 6 .fin) .stop)) (fun z=>Blk z g.gl 85 (liC L g.gs A cA D cD)/\Blk z g10 45 (dC d)) ⟨(hc.row.right (sO _)).2.1,hc.blk 0 rfl⟩ ?_;have hc:=hc.drew;refine⟨.pointer (some ⟨g.gs,0,none⟩),fun z hz=>(Blk.cell hz.1 1).trans rfl,?_⟩;refine⟨dC d,rfl,fun z hz=>B5 hz.2 0 _ 0 (fun j v hj=>by simpa using hj),?_⟩;refine⟨?_,trivial⟩;have ha:=B3Q d (hL.with hH) hdo he hc;refine⟨ha.mono fun en wq hq=>?_⟩;obtain⟨S9,e1,hc⟩:=hq;refine⟨_,e1,⟨(hc.row.right (sO _)).2.1,hc.blk 0 rfl⟩,?_⟩;have hc:=hc.drop;have hadd:A0T L.H (O8 L v)=if (M8 H d).2≠0 then (M8 H d).1 else A0T (M8 H d).1 ((O8 L v).drop (i+1)):=hadd
  by_cases h9:(M8 H d).2=0
  ·rw [y7 (fun h=>h h9)] at hadd;refine C3X (by show ((M8 H d).2 != 0)=false;rw [bne_eq_false_iff_eq];exact h9) ?_;exact⟨(i+1,(M8 H d).1),⟨rfl,rfl,rfl,rfl,rfl,rfl,y5 _ (C3 (by omega)),trivial⟩,⟨hil,B1E hH hdo,hadd,_,hc⟩,by show (O8 L v).length-(i+1)<(O8 L v).length-i;omega⟩
  ·rw [y6 h9] at hadd;refine B0 (by show ((M8 H d).2 != 0)=true;rw [bne_iff_ne];exact h9) ?_;have e:A2s L (M8 H d).1=L1:=by rw [hL1,hadd]
   have hc:CtxF no (bare w) _ _ [(g4,43,wdC v x)] [] (Vc.Sep 0 (Keep w Sx) (LkO g (A2s L (M8 H d).1) A cA D cD css)):=hc;rw [e] at hc;exact⟨g4,⟨rfl,rfl,rfl,rfl,trivial⟩,_,hc⟩
 clear hc;rintro y u w1 ⟨S,hc⟩;have hok1:L1.Ok:=by rw [hL1];exact hL.with (A7h _ hL.H fun d h=>hdk d (List.mem_of_mem_drop h))
 have hkp:=A2Q (O8 L v) L.H;rw [show A0T L.H (O8 L v)=L1.H from by rw [hL1];rfl] at hkp;have hd1:L1.done.length<=900000:=by rw [hL1];exact hd
 obtain⟨p,hp⟩:∃ p,p=if L.H.k.seq<L1.H.k.seq then onL L1 L.H.k.seq else (L1,[]):=⟨_,rfl⟩
 have hz:z=(p.1,p.2++A2M p.1 L.H.k.seq v.seq):=by rw [hz,hp,hL1];rfl
 have hokp:p.1.Ok:=by
  rw [hp];split
  ·exact B7F hok1 _
  ·exact hok1
 refine SemC.cut lay_ok (fun (y:Option Addr × Nat)=>[(0,.pointer (some ⟨g.gl,0,none⟩)),(2,.int .i64 now),(4,.pointer (some ⟨g4,0,none⟩)),(8,.int .i64 L.H.k.seq),(11,.slice y.1 p.2.length y.2)]) (fun y w'=>∃ css8 S,CtxF no (bare w) S w' [(g4,43,wdC v x)] [orW p.2 y.1 y.2 css8] (Vc.Sep 0 (fun S w'=>Keep w Sx S w'/\Fresh w Sx (WsR p.2 css8) S w') (LinkK g p.1))) 1 (by kernel_rfl) ?_ ?_
 ·skip
  refine⟨_,(hc.row.right (sO L1)).2.1.cell 1,?_⟩;refine hc.q (A0o g.gs g.gj g.gc g.b L1.H hok1.H _ _ (hc.row.right (sO L1)).link.shelf) fun wQ hQ hc=>?_;have hc:=hc.now (X:=Vc.Sep 0 (fun S w'=>Keep w Sx S w'/\True) (LinkK g L1)) (fun h=>h.mono (fun _ h=>⟨h,trivial⟩) fun _ h=>LkO.link h) (Vc.Sep.stab (y8.and Stab.true) yg);by_cases h9:L.H.k.seq<L1.H.k.seq
  ·rw [y6 h9] at hp;subst hp;refine dt h9 ?_;obtain⟨S1,Sa,h1,h2,h3,hO⟩:=hc.row;have hen:=A8l hc h1 h3.1 he;refine⟨(B7E g L1 hok1 hd1 L.H.k.seq now (hcm0 L1 (by rw [hL1];rfl) (by rw [hL1];rfl) hok1.H hd1) (by rw [hkp.1];have:=hL.H.k.len;show L.H.k.b.seq<=L.H.k.b.seq+((L.H.k.pend.length:Nat):Int);omega) (by omega) Sa _ (fun x hx=>hc.ctx.lt x (h2 x hx).1) hen hO).mono fun en wq hq=>?_⟩;obtain⟨A3,c3,css3,N3,Sn,e1,hT,hSn,hO,hr3,hW,hN,hA⟩:=hq;obtain⟨S',hc⟩:=hc.turnB Stab.true h1 h2 h3 hT hSn hO yg hr3 hW hN hA;refine⟨_,e1,?_⟩;exact⟨(A3,c3),⟨rfl,rfl,rfl,rfl,rfl,trivial⟩,css3,_,hc.now (fun h=>h.mono (fun _ h=>⟨h.1,h.2.2⟩) fun _ h=>h) (Vc.Sep.stab (y8.and (Fresh.stab (WsR.stab _ _))) yg)⟩
  ·rw [y7 h9] at hp;subst hp;refine df h9 ?_;have hc:=hc.nil 43 21;exact⟨(none,0),⟨rfl,rfl,rfl,rfl,rfl,trivial⟩,[],_,hc.now (fun h=>h.mono (fun _ h=>⟨h.1,Fresh.none rfl⟩) fun _ h=>h) (Vc.Sep.stab (y8.and (Fresh.stab (WsR.stab _ _))) yg)⟩
 clear hc;rintro⟨A8,c8⟩ u w1 ⟨css8,S,hc⟩;refine SemC.vc lay_ok ?_;have hlp:p.2.length<=100000:=by
  rw [hp];split
  ·exact B5l hok1 _
  ·exact zb _
 obtain⟨A1,cA1,D1,cD1,hB1,hR1⟩:=(hc.row.right yg).cells;refine⟨_,hB1.cell 1,?_⟩;refine⟨(A0S g.gs g.gj g.gc g.b p.1.H hokp.H _ _ (hc.row.right yg).shelf).mono fun en wq hq=>?_⟩;obtain⟨cs,e1,hb,hrep⟩:=hq;obtain⟨y,rfl⟩:=hrep.stX;have hc:=(hc.quiet hb).1;refine⟨_,e1,?_⟩;have ht:=A34 g p.1 _ _ (hc.row.right yg);obtain⟨b2,e2⟩:∃ b,b=A1H p.1:=⟨_,rfl⟩;rw [<-e2] at ht;refine hc.q (ht) fun wQ hQ hc=>?_;obtain⟨A1,cA1,D1,cD1,hB1,hR1⟩:=(hc.row.right yg).cells;cases b2 with
 | true=>
  have hak:A2M p.1 L.H.k.seq v.seq=E4 p.1 (A5X p.1.H.k.seq):=y6 e2.symm;refine⟨_,hB1.cell 1,?_⟩;refine hc.q (A0o g.gs g.gj g.gc g.b p.1.H hokp.H _ _ (hc.row.right yg).shelf) fun wQ hQ hc=>?_;have zp:wdC (A5X p.1.H.k.seq) WX0=[.int .i64 6,.int .i64 0,.int .i64 0,.int .i64 0,.int .i64 p.1.H.k.seq,.int .i64 0,.int .i64 0,.int .i64 0,.int .i64 0,.int .i64 0,.slice none 0 0,.int .i64 0,.slice none 0 0,.int .i64 0,.slice none 0 0,.slice none 0 0,.int .i64 0,.int .i64 0,.int .i64 0,.int .i64 0,.int .i64 0]:=by kernel_rfl
  have sd:=A0W g p.1 hokp (A5X p.1.H.k.seq) WX0 _ _ hc.ctx.lt (hc.row.right yg);rw [zp] at sd;obtain⟨ws,hws⟩:∃ ws,ws=E4 p.1 (A5X p.1.H.k.seq):=⟨_,rfl⟩;have hz:z=(p.1,p.2++ws):=by rw [hz,hak,hws]
  subst hz;refine⟨sd.mono fun en wq hq=>?_⟩;unfold RetAh at hq;rw [<-hws] at hq;obtain⟨A5,c5,cs5,e1,hb5,ho5,hs5⟩:=hq;have hc:=hc.fresh hb5 ho5;have hW5:∀ S w,WsR ws cs5 S w:=fun S w=>by
   rcases hs5 with ⟨h1,h2⟩ | ⟨h1,h2⟩
   ·rw [h1,h2];rfl
   ·rw [h1,h2];exact⟨WX0,[],rfl,⟨⟨A28 _ _,A28 _ _⟩,A15 _ _⟩,rfl⟩
  have hlw:ws.length<=1:=by
   rcases hs5 with ⟨h1,h2⟩ | ⟨h1,h2⟩
   ·rw [h1];exact zb _
   ·rw [h1];exact zc _
  refine⟨_,e1,?_⟩;obtain⟨S8,hrow⟩:=W7 hc;have hf3:Flat 21 cs5:=(hW5 no wq).flat;have hl3:cs5.length=ws.length:=(hW5 no wq).len;refine A1O Tryz.underlying32 B9Z rfl (by decide) hc.swap hrow (by rw [hf3.len,hl3]) hf3.ones (by omega) (by decide) rfl rfl ?_;intro A4 c4 w4 hc;have hc:=hc.swap.rest;have en:(p.2++ws).length=p.2.length+ws.length:=z6;have hc:=hc.castOs (os':=[orW (p.2++ws) A4 c4 (css8++cs5)]) (by unfold orW;rw [en,zr]);have hend:=(hc.now (X:=Vc.Sep 0 (fun S w'=>Keep w Sx S w'/\Fresh w Sx (WsR (p.2++ws) (css8++cs5)) S w') (LinkK g p.1)) (fun h=>h.mono (fun _ h=>⟨h.1,h.2.mono fun S a=>WsR.append a (hW5 S _)⟩) fun _ h=>h) (Vc.Sep.stab (y8.and (Fresh.stab (WsR.stab _ _))) yg)).endW;rw [en] at hend;exact hend
 | false=>
 have hak0:A2M p.1 L.H.k.seq v.seq=if p.1.k.seq=L.H.k.seq/\v.seq<p.1.k.b.seq then E4 p.1 (A5X p.1.H.k.b.seq) else []:=y7 (by rw [<-e2];decide)
 refine⟨_,hB1.cell 1,?_⟩;refine hc.q (A0o g.gs g.gj g.gc g.b p.1.H hokp.H _ _ (hc.row.right yg).shelf) fun wQ hQ hc=>?_;by_cases h7:p.1.H.k.seq=L.H.k.seq;rotate_left
 ·have hz:z=(p.1,p.2):=by rw [hz,hak0,y7 (fun h=>h7 h.1),zw]
  subst hz;refine C3X (by show (p.1.H.k.seq==L.H.k.seq)=false;rw [y4];exact h7) ?_;exact hc.endW
 refine B0 (by show (p.1.H.k.seq==L.H.k.seq)=true;rw [beq_iff_eq];exact h7) ?_;refine hc.c 0 rfl rfl ?_;by_cases h8:v.seq<p.1.H.k.b.seq
 ·have hak:A2M p.1 L.H.k.seq v.seq=E4 p.1 (A5X p.1.H.k.b.seq):=hak0.trans (y6 ⟨h7,h8⟩);refine dt h8 ?_;have zp:wdC (A5X p.1.H.k.b.seq) WX0=[.int .i64 6,.int .i64 0,.int .i64 0,.int .i64 0,.int .i64 p.1.H.k.b.seq,.int .i64 0,.int .i64 0,.int .i64 0,.int .i64 0,.int .i64 0,.slice none 0 0,.int .i64 0,.slice none 0 0,.int .i64 0,.slice none 0 0,.slice none 0 0,.int .i64 0,.int .i64 0,.int .i64 0,.int .i64 0,.int .i64 0]:=by kernel_rfl
  have sd:=A0W g p.1 hokp (A5X p.1.H.k.b.seq) WX0 _ _ hc.ctx.lt (hc.row.right yg);rw [zp] at sd;obtain⟨ws,hws⟩:∃ ws,ws=E4 p.1 (A5X p.1.H.k.b.seq):=⟨_,rfl⟩;have hz:z=(p.1,p.2++ws):=by rw [hz,hak,hws]
  subst hz;refine⟨sd.mono fun en wq hq=>?_⟩;unfold RetAh at hq;rw [<-hws] at hq;obtain⟨A5,c5,cs5,e1,hb5,ho5,hs5⟩:=hq;have hc:=hc.fresh hb5 ho5;have hW5:∀ S w,WsR ws cs5 S w:=fun S w=>by
   rcases hs5 with ⟨h1,h2⟩ | ⟨h1,h2⟩
   ·rw [h1,h2];rfl
   ·rw [h1,h2];exact⟨WX0,[],rfl,⟨⟨A28 _ _,A28 _ _⟩,A15 _ _⟩,rfl⟩
  have hlw:ws.length<=1:=by
   rcases hs5 with ⟨h1,h2⟩ | ⟨h1,h2⟩
   ·rw [h1];exact zb _
   ·rw [h1];exact zc _
  refine⟨_,e1,?_⟩;obtain⟨S8,hrow⟩:=W7 hc;have hf3:Flat 21 cs5:=(hW5 no wq).flat;have hl3:cs5.length=ws.length:=(hW5 no wq).len;refine A1O Tryz.underlying32 B9Z rfl (by decide) hc.swap hrow (by rw [hf3.len,hl3]) hf3.ones (by omega) (by decide) rfl rfl ?_;intro A4 c4 w4 hc;have hc:=hc.swap.rest;have en:(p.2++ws).length=p.2.length+ws.length:=z6;have hc:=hc.castOs (os':=[orW (p.2++ws) A4 c4 (css8++cs5)]) (by unfold orW;rw [en,zr]);have hend:=(hc.now (X:=Vc.Sep 0 (fun S w'=>Keep w Sx S w'/\Fresh w Sx (WsR (p.2++ws) (css8++cs5)) S w') (LinkK g p.1)) (fun h=>h.mono (fun _ h=>⟨h.1,h.2.mono fun S a=>WsR.append a (hW5 S _)⟩) fun _ h=>h) (Vc.Sep.stab (y8.and (Fresh.stab (WsR.stab _ _))) yg)).endW;rw [en] at hend;exact hend
 ·have hz:z=(p.1,p.2):=by rw [hz,hak0,y7 (fun h=>h8 h.2),zw]
  subst hz;refine df h8 ?_;exact hc.endW
theorem A8t (g:Lg) (L:Lk) (hL:L.Ok) (hd:L.done.length<=900000) (v:Wd) (hkd:v.kind=4) (hs:B3 v.seq) (hs0:0<=v.seq) (hdk:∀ d∈v.deeds,d.Ok) (x:WX) (now:Int) (hcm0:C4C g now L):A5a g L 48 v x now (T7 L v now):=by
 intro Sx w hlt he hK Sv hvd hR;obtain⟨A,cA,D,cD,css,hB⟩:=hK.seen;have sO:=fun L=>LkO.stab g L A cA D cD css;have fin:∀ {S:Nat->Prop} {w1:World} {l:List LB} {os:List OR},CtxF no (bare w) S w1 l os (Vc.Sep 0 (Keep w Sx) (LkO g L A cA D cD css))->RetWL Sx w (LinkK g L) [] (.returned (.slice none 0 0)) w1:=fun hc=>RetWL.nil ((hc.now (fun h=>h.mono (fun _ h=>h) fun _ h=>LkO.link h) (Vc.Sep.stab y8 yg)).endO _) rfl;have hc:=CtxF.enterO hlt hB (sO L);obtain⟨z,hz⟩:∃ z,z=T7 L v now:=⟨_,rfl⟩;rw [<-hz];unfold T7 at hz;rw [hkd,y7 (show ¬ (4:Int)=7 by decide)] at hz;refine vE Tryz.func48 ?_;refine hc.n fun g4 wg4 hg4 hc=>?_;refine hc.c 0 rfl rfl ?_;refine C3X (by show (v.kind==7)=false;rw [hkd];rfl) ?_;have hB2:=(hc.row.right (sO L)).2.1;have hr:=hc;refine vD (.Q [0,1,2,3,4,5,6,7,8,9,10,11,12,13,14,15,16] .fin) (Old _) (Old.start _) ?_;have hk:=hc.old0;have hc:=hc.drew;refine⟨_,fun x hx=>Keeps.cell hx (hr.blk 0 rfl) (hr.blk 0 rfl).lt rfl,?_⟩;refine⟨_,fun z hz=>Keeps.look hz (hB2.cell 2),?_⟩;by_cases hep:v.ep=L.r.ep;rotate_left
 ·rw [y6 (.inl hep)] at hz;subst hz;refine B0 (by show (v.ep != L.r.ep)=true;rw [bne_iff_ne];exact hep) ?_;exact fin hc
 refine C3X (by show (v.ep != L.r.ep)=false;rw [bne_eq_false_iff_eq];exact hep) ?_;refine⟨_,fun z hz=>Keeps.look hz (hB2.cell 2),?_⟩;by_cases hep0:L.r.ep=0
 ·rw [y6 (.inr hep0)] at hz;subst hz;refine B0 (by show (L.r.ep==0)=true;rw [hep0];rfl) ?_;exact fin hc
 refine C3X (by show (L.r.ep==0)=false;rw [y4];exact hep0) ?_;clear hk hr;rw [y7 (fun h=>h.elim (fun h=>h hep) hep0)] at hz;rw [y7 (show ¬ (4:Int)=10 by decide),y7 (show ¬ (4:Int)=9 by decide)] at hz;refine hc.c 0 rfl rfl ?_;refine C3X (by show (v.kind==10)=false;rw [hkd];rfl) ?_;refine hc.c 0 rfl rfl ?_;refine C3X (by show (v.kind==9)=false;rw [hkd];rfl) ?_;have ha:=A0p g L now _ _ (hc.row.right (sO L)).link hc.ctx.lt;obtain⟨b1,e1⟩:∃ b,b=H6 L now:=⟨_,rfl⟩;rw [<-e1] at ha hz;refine hc.q (ha) fun wQ hQ hc=>?_;cases b1 with
 | false=>
  rw [y6 rfl] at hz;subst hz;exact fin hc
 | true=>
 rw [y7 (by decide)] at hz;refine hc.c 0 rfl rfl ?_;rw [y7 (show ¬ (4:Int)=3 by decide),y6 rfl] at hz;subst hz;refine C3X (by show (v.kind==3)=false;rw [hkd];rfl) ?_;refine B0 (by show (v.kind==4)=true;rw [hkd];rfl) ?_;refine⟨wdC v x,rfl,hc.cells 0 rfl,?_⟩;have hc:=hc.now (X:=Vc.Sep 0 (Keep w Sx) (LinkK g L)) (fun h=>h.mono (fun _ h=>h) fun _ h=>LkO.link h) (Vc.Sep.stab y8 yg);obtain⟨S1,Sa,h1,h2,h3,hO⟩:=hc.row;have hen:=A8l hc h1 h3 he;refine⟨(B1G g L hL hd v hs hs0 hdk x now hcm0 Sa _ (fun x hx=>hc.ctx.lt x (h2 x hx).1) hen hO S1 (fun y hy=>⟨hc.ctx.lt y (h1 y hy).1,(h1 y hy).2⟩) (Keep.of h3 yb hR hvd)).mono fun en wq hq=>?_⟩;have hq0:=hq;obtain⟨A3,c3,css3,N3,Sn,e1,_⟩:=hq0;refine⟨_,e1,?_⟩;rw [e1] at hq;exact hc.tailW0 yg h1 h3 hq
theorem B9z (g:Lg) (L:Lk) (hL:L.Ok) (v:Wd) (hth:Thin v) (Sx:Nat->Prop) (w:World) (hlt:∀ x,Sx x->x<w.heap.size) (hK:LinkK g L Sx w):
  Calls Tryz.prog 58 #[.pointer (some ⟨g.gl,0,none⟩),.agg (wdC v WX0).toArray] w (RetWL Sx w (LinkK g L) (E4 L v)):=
 (A0W g L hL v WX0 Sx w hlt hK).mono fun en w' h=>(h.quiet hth (fun S w=>by have hr:WdR (B5i 0 r00) WX0 S w:=⟨⟨A28 _ _,A28 _ _⟩,A15 _ _⟩;obtain⟨k,f,t,e,s,q,u,r,ro,ds,st⟩:=v;obtain⟨h1,h2,h3⟩:=hth;cases h1;cases h2;cases h3;exact hr)).turn hK hlt
def B9m (L:Lk) (now:Int):List Wd:=[A1G L C0J]++(if B93 L now=true/\Z2 L=false then E4 L (A8k 0 1) else if B93 L now=true/\L.r.new=L.id then [A1G L B8M] else [])
theorem B9n (L:Lk) (v:Wd):(E4 L v).length<=1:=by
 unfold E4;split
 ·exact zb _
 ·exact zc _
theorem C0u (L:Lk) (now:Int):(B9m L now).length<=2:=by
 have h:=B9n L (A8k 0 1);unfold B9m;rw [z6];split
 ·show 1+_<=2;omega
 split
 ·exact zc _
 ·exact nle rfl
theorem B98 (g:Lg) (L:Lk) (hL:L.Ok) (now:Int) (Sx:Nat->Prop) (w:World) (hlt:∀ x,Sx x->x<w.heap.size) (he:EnvFree Sx w) (hK:LinkK g L Sx w):
  Calls Tryz.prog 24 #[.pointer (some ⟨g.gl,0,none⟩),.int .i64 now] w (RetWL Sx w (LinkK g L) (B9t L now)):=by
 have hc:=(CtxF.enterO hlt hK yg).now (X:=Vc.Sep 0 (fun S w'=>Keep w Sx S w'/\True) (LinkK g L)) (fun h=>h.mono (fun _ h=>⟨h,trivial⟩) fun _ h=>h) (Vc.Sep.stab (y8.and Stab.true) yg);obtain⟨z,hz⟩:∃ z,z=B9t L now:=⟨_,rfl⟩;rw [<-hz];unfold B9t at hz;obtain⟨b0,e0⟩:∃ b,b=L.H.down:=⟨_,rfl⟩;rw [<-e0] at hz;have hZ:∀ k q r:Int,wdC ⟨k,0,0,0,q,r,0,r00,Ros0,[],A4z⟩ WX0=[.int .i64 k,.int .i64 0,.int .i64 0,.int .i64 0,.int .i64 q,.int .i64 r,.int .i64 0,.int .i64 0,.int .i64 0,.int .i64 0,.slice none 0 0,.int .i64 0,.slice none 0 0,.int .i64 0,.slice none 0 0,.slice none 0 0,.int .i64 0,.int .i64 0,.int .i64 0,.int .i64 0,.int .i64 0]:=fun k q r=>by kernel_rfl
 refine A2E lay_ok Tryz.func24 rfl (by kernel_rfl) (by kernel_rfl) ?_;refine SemC.cut lay_ok (fun (y:Option Addr × Nat)=>[(0,.pointer (some ⟨g.gl,0,none⟩)),(1,.int .i64 now),(5,.slice y.1 1 y.2)]) (fun y w'=>b0=false/\∃ css8 S,CtxF no (bare w) S w' [] [orW [A1G L C0J] y.1 y.2 css8] (Vc.Sep 0 (fun S w'=>Keep w Sx S w'/\Fresh w Sx (WsR [A1G L C0J] css8) S w') (LinkK g L))) 2 (by kernel_rfl) ?_ ?_
 ·skip
  refine⟨.bool false,fun w=>B7C g.gl _ _ w,?_⟩;obtain⟨A1,cA1,D1,cD1,hB1,hR1⟩:=(hc.row.right yg).cells;refine⟨_,hB1.cell 1,?_⟩;have hdn:=B3E g.gs g.gj g.gc g.b L.H _ _ (hc.row.right yg).shelf;rw [<-e0] at hdn;refine hc.q (hdn) fun wQ hQ hc=>?_;cases b0 with
  | true=>
   rw [y6 rfl] at hz;subst hz;exact RetWL.nil ((hc.now (fun h=>h.mono (fun _ h=>h.1) fun _ h=>h) (Vc.Sep.stab y8 yg)).endO _) rfl
  | false=>
  obtain⟨S1,Sa,h1,h2,h3,hO⟩:=hc.row;have sd:=B9u g L C0J ⟨rfl,rfl,rfl⟩ (fun h=>hL.id0 h.symm) now Sa _ (fun x hx=>hc.ctx.lt x (h2 x hx).1) hO;rw [show wdC C0J WX0=_ from hZ 1 0 0] at sd;refine⟨sd.mono fun en wq hq=>?_⟩;obtain⟨A3,c3,css3,N3,Sn,e1,hT,hSn,hO,hr3,hW,hN,hA⟩:=hq;obtain⟨S',hc⟩:=hc.turnB Stab.true h1 h2 h3 hT hSn hO yg hr3 hW hN hA;refine⟨_,e1,?_⟩;exact⟨(A3,c3),⟨rfl,rfl,rfl,trivial⟩,rfl,css3,_,hc.now (fun h=>h.mono (fun _ h=>⟨h.1,h.2.2⟩) fun _ h=>h) (Vc.Sep.stab (y8.and (Fresh.stab (WsR.stab _ _))) yg)⟩
 clear hc;rintro⟨A8,c8⟩ u w1 ⟨hb0,css8,S,hc⟩;rw [hb0,y7 (by decide)] at hz;have hT:Lk->True:=fun _=>trivial;obtain⟨ws,hws⟩:∃ ws,ws=[A1G L C0J]:=⟨_,rfl⟩;have hwl:ws.length=1:=by rw [hws];rfl
 rw [<-hws] at hc;refine SemC.cut lay_ok (fun (y:Option Addr × Nat)=>[(0,.pointer (some ⟨g.gl,0,none⟩)),(1,.int .i64 now),(5,.slice y.1 (B9m L now).length y.2)]) (fun y w'=>∃ css8 S,CtxF no (bare w) S w' [] [orW (B9m L now) y.1 y.2 css8] (Vc.Sep 0 (fun S w'=>Keep w Sx S w'/\Fresh w Sx (WsR (B9m L now) css8) S w') (LinkK g L))) 0 (by kernel_rfl) ?_ ?_
 ·skip
  have hnone:∀ {S:Nat->Prop} {w':World},B93 L now=false\/(Z2 L=true/\L.r.new≠L.id)->CtxF no (bare w) S w' [] [orW ws A8 c8 css8] (Vc.Sep 0 (fun S w'=>Keep w Sx S w'/\Fresh w Sx (WsR ws css8) S w') (LinkK g L))->B9m L now=ws:=fun h _=>by
   unfold B9m;rw [<-hws];rcases h with h | ⟨h,k⟩
   ·rw [h,y7 (fun h=>absurd h.1 (by decide)),y7 (fun h=>absurd h.1 (by decide)),zw]
   ·rw [h,y7 (fun h=>absurd h.2 (by decide)),y7 (fun h=>k h.2),zw]
  obtain⟨A,cA,D,cD,hB1,hR1⟩:=(hc.row.right yg).cells;have hr:=hc;refine vD (.Q [0,1,2,3,4,5,6,7] (.n 8 (.Q [9,10,11,12,13,14,15,16,17] .fin) .stop)) (Old _) (Old.start _) ?_;have hk:=hc.old0;have hc:=hc.drew;refine⟨R9 L.r A cA,rfl,fun z hz=>Old.looks hz (Blk.part hB1 2 (R9 L.r A cA) rfl),?_⟩;refine⟨_,fun z hz=>Keeps.look hz (hB1.cell 0),?_⟩;refine⟨hc.q (A7b L.id (RosR.below hR1 (Below.refl _ _).drew)) fun wA hA hc=>?_,trivial⟩;have hk:=Keeps.below hk (fun _ h=>h) hA;refine⟨hk,?_⟩;by_cases hm:L.id∈L.r.l;rotate_left
  ·refine df hm ?_;clear hk hr;have hr:=hc;refine vD (.Q [0,1,2,3,4,5,6,7,8,9,10,11,12,13] .fin) (Old _) (Old.start _) ?_;have hk:=hc.old0;have hc:=hc.drew;have e:=hnone (.inl (by unfold B93;rw [zz hm];rfl)) hc;refine⟨(A8,c8),⟨rfl,rfl,y5 (fun n=>Value.slice A8 n c8) (by rw [e,hwl]),trivial⟩,css8,?_⟩;rw [e];exact⟨_,hc⟩
  refine dt hm ?_;refine⟨_,fun z hz=>Keeps.look hz (hB1.cell 5),?_⟩;clear hk hr;by_cases htl:now<=L.til;rotate_left
  ·refine df htl ?_;have hr:=hc;refine vD (.Q [0,1,2,3,4,5,6,7,8,9,10,11,12,13] .fin) (Old _) (Old.start _) ?_;have hk:=hc.old0;have hc:=hc.drew;refine df htl ?_;have e:=hnone (.inl (by unfold B93;rw [zz htl,Bool.and_false])) hc;refine⟨(A8,c8),⟨rfl,rfl,y5 (fun n=>Value.slice A8 n c8) (by rw [e,hwl]),trivial⟩,css8,?_⟩;rw [e];exact⟨_,hc⟩
  refine dt htl ?_;have hh:B93 L now=true:=by unfold B93;rw [zy hm,zy htl];rfl
  have hle:=A8m g L _ _ (hc.row.right yg) hc.ctx.lt;obtain⟨b1,e1⟩:∃ b,b=Z2 L:=⟨_,rfl⟩;rw [<-e1] at hle;refine hc.q (hle) fun wQ hQ hc=>?_;cases b1 with
  | false=>
   have eh:B9m L now=ws++E4 L (A8k 0 1):=by unfold B9m;rw [<-hws,y6 ⟨hh,e1.symm⟩]
   have hal:=B9n L (A8k 0 1);obtain⟨S1,Sa,h1,h2,h3,hO⟩:=hc.row;have sd:=B9z g L hL (A8k 0 1) ⟨rfl,rfl,rfl⟩ Sa _ (fun x hx=>hc.ctx.lt x (h2 x hx).1) hO;rw [show wdC (A8k 0 1) WX0=_ from hZ 5 0 1] at sd;refine⟨sd.mono fun en wq hq=>?_⟩;obtain⟨A3,c3,css3,N3,Sn,e1,hT,hSn,hO,hr3,hW,hN,hA⟩:=hq;obtain⟨S',hc⟩:=hc.turnB (Fresh.stab (WsR.stab _ _)) h1 h2 h3 hT hSn hO yg hr3 hW hN hA;refine⟨_,e1,?_⟩;obtain⟨S8,hrow⟩:=W7 hc;have hf3:Flat 21 css3:=hW.flat;have hl3:css3.length=(E4 L (A8k 0 1)).length:=hW.len;refine A1O Tryz.underlying32 B9Z rfl (by decide) hc.swap hrow (by rw [hf3.len,hl3]) hf3.ones (by omega) (by decide) (y5 (fun n=>Value.slice A8 n c8) hwl.symm) rfl ?_;intro A4 c4 w4 hc;have hc:=hc.swap.rest;have en:(ws++E4 L (A8k 0 1)).length=ws.length+(E4 L (A8k 0 1)).length:=z6;have hc:=hc.castOs (os':=[orW (ws++E4 L (A8k 0 1)) A4 c4 (css8++css3)]) (by unfold orW;rw [en,zr]);have hc:=hc.now (X:=Vc.Sep 0 (fun S w'=>Keep w Sx S w'/\Fresh w Sx (WsR (ws++E4 L (A8k 0 1)) (css8++css3)) S w') (LinkK g L)) (fun h=>h.mono (fun _ h=>⟨h.1,Fresh.both (WsR.stab _ _) (WsR.stab _ _) h.2.1 h.2.2 fun _ a b=>WsR.append a b⟩) fun _ h=>h) (Vc.Sep.stab (y8.and (Fresh.stab (WsR.stab _ _))) yg);refine⟨(A4,c4),⟨rfl,rfl,y5 (fun n=>Value.slice A4 n c4) (by rw [eh,en,hwl]),trivial⟩,css8++css3,?_⟩;rw [eh];exact⟨_,hc⟩
  | true=>
  obtain⟨A,cA,D,cD,hB1,hR1⟩:=(hc.row.right yg).cells;have hr:=hc;refine vD (.Q [0,1,2,3,4,5,6,7,8,9,10,11,12,13] .fin) (Old _) (Old.start _) ?_;have hk:=hc.old0;have hc:=hc.drew;refine dt htl ?_;refine⟨_,fun z hz=>Keeps.look hz (hB1.cell 4),?_⟩;refine⟨_,fun z hz=>Keeps.look hz (hB1.cell 0),?_⟩;clear hk hr;by_cases hnw:L.r.new=L.id;rotate_left
  ·refine C3X (by show (L.r.new==L.id)=false;rw [y4];exact hnw) ?_;have e:=hnone (.inr ⟨e1.symm,hnw⟩) hc;refine⟨(A8,c8),⟨rfl,rfl,y5 (fun n=>Value.slice A8 n c8) (by rw [e,hwl]),trivial⟩,css8,?_⟩;rw [e];exact⟨_,hc⟩
  refine B0 (by show (L.r.new==L.id)=true;rw [beq_iff_eq];exact hnw) ?_;have eh:B9m L now=ws++[A1G L B8M]:=by unfold B9m;rw [<-hws,y7 (fun h=>absurd (e1.trans h.2) (by decide)),y6 ⟨hh,hnw⟩]
  have hal:([A1G L B8M]).length=1:=rfl;obtain⟨S1,Sa,h1,h2,h3,hO⟩:=hc.row;have sd:=B9u g L B8M ⟨rfl,rfl,rfl⟩ (fun h=>hL.id0 h.symm) now Sa _ (fun x hx=>hc.ctx.lt x (h2 x hx).1) hO;rw [show wdC B8M WX0=_ from hZ 11 0 0] at sd;refine⟨sd.mono fun en wq hq=>?_⟩;obtain⟨A3,c3,css3,N3,Sn,e1,hT,hSn,hO,hr3,hW,hN,hA⟩:=hq;obtain⟨S',hc⟩:=hc.turnB (Fresh.stab (WsR.stab _ _)) h1 h2 h3 hT hSn hO yg hr3 hW hN hA;refine⟨_,e1,?_⟩;obtain⟨S8,hrow⟩:=W7 hc;have hf3:Flat 21 css3:=hW.flat;have hl3:css3.length=([A1G L B8M]).length:=hW.len;refine A1O Tryz.underlying32 B9Z rfl (by decide) hc.swap hrow (by rw [hf3.len,hl3]) hf3.ones (by omega) (by decide) (y5 (fun n=>Value.slice A8 n c8) hwl.symm) rfl ?_;intro A4 c4 w4 hc;have hc:=hc.swap.rest;have en:(ws++[A1G L B8M]).length=ws.length+([A1G L B8M]).length:=z6;have hc:=hc.castOs (os':=[orW (ws++[A1G L B8M]) A4 c4 (css8++css3)]) (by unfold orW;rw [en,zr]);have hc:=hc.now (X:=Vc.Sep 0 (fun S w'=>Keep w Sx S w'/\Fresh w Sx (WsR (ws++[A1G L B8M]) (css8++css3)) S w') (LinkK g L)) (fun h=>h.mono (fun _ h=>⟨h.1,Fresh.both (WsR.stab _ _) (WsR.stab _ _) h.2.1 h.2.2 fun _ a b=>WsR.append a b⟩) fun _ h=>h) (Vc.Sep.stab (y8.and (Fresh.stab (WsR.stab _ _))) yg);refine⟨(A4,c4),⟨rfl,rfl,y5 (fun n=>Value.slice A4 n c4) (by rw [eh,en,hwl]),trivial⟩,css8++css3,?_⟩;rw [eh];exact⟨_,hc⟩
 clear hc;rintro⟨A8,c8⟩ u w1 ⟨css8,S,hc⟩;refine SemC.vc lay_ok ?_;obtain⟨ws,hws⟩:∃ ws,ws=B9m L now:=⟨_,rfl⟩;have hwl:ws.length=(B9m L now).length:=by rw [hws]
 have hw2:=C0u L now;rw [<-hws] at hc;obtain⟨tl,htl⟩:∃ tl,tl=((if A1H L=false/\0<L.k.pend.length then A31 L L.k.b.seq else [])++(if A1H L=true then E4 L (A5X L.k.seq) else [])):=⟨_,rfl⟩;have hz:z=ws++(if H6 L now=false then [] else tl):=by rw [hz,hws,htl];rfl
 have ha:=A0p g L now _ _ (hc.row.right yg) hc.ctx.lt;obtain⟨b1,e1⟩:∃ b,b=H6 L now:=⟨_,rfl⟩;rw [<-e1] at ha hz;refine hc.q (ha) fun wQ hQ hc=>?_;cases b1 with
 | false=>
  rw [y6 rfl,zw] at hz;subst hz;have hend:=hc.endW;rw [hwl] at hend;exact hend
 | true=>
 rw [y7 (by decide)] at hz;have ht:=fun S w h=>A34 g L S w h;obtain⟨b2,e2⟩:∃ b,b=A1H L:=⟨_,rfl⟩;rw [<-e2] at ht htl;refine hc.q (ht _ _ (hc.row.right yg)) fun wQ hQ hc=>?_;cases b2 with
 | true=>
  have htl:tl=E4 L (A5X L.H.k.seq):=by rw [htl];rfl
  rw [htl] at hz;refine hc.q (ht _ _ (hc.row.right yg)) fun wQ hQ hc=>?_;obtain⟨A,cA,D,cD,hB1,hR1⟩:=(hc.row.right yg).cells;refine⟨_,hB1.cell 1,?_⟩;refine hc.q (A0o g.gs g.gj g.gc g.b L.H hL.H _ _ (hc.row.right yg).shelf) fun wQ hQ hc=>?_;have hal:=B9n L (A5X L.H.k.seq);subst hz;obtain⟨S1,Sa,h1,h2,h3,hO⟩:=hc.row;have sd:=B9z g L hL (A5X L.H.k.seq) ⟨rfl,rfl,rfl⟩ Sa _ (fun x hx=>hc.ctx.lt x (h2 x hx).1) hO;rw [show wdC (A5X L.H.k.seq) WX0=_ from hZ 6 L.H.k.seq 0] at sd;refine⟨sd.mono fun en wq hq=>?_⟩;obtain⟨A3,c3,css3,N3,Sn,e1,hT,hSn,hO,hr3,hW,hN,hA⟩:=hq;obtain⟨S',hc⟩:=hc.turnB (Fresh.stab (WsR.stab _ _)) h1 h2 h3 hT hSn hO yg hr3 hW hN hA;refine⟨_,e1,?_⟩;obtain⟨S8,hrow⟩:=W7 hc;have hf3:Flat 21 css3:=hW.flat;have hl3:css3.length=(E4 L (A5X L.H.k.seq)).length:=hW.len;refine A1O Tryz.underlying32 B9Z rfl (by decide) hc.swap hrow (by rw [hf3.len,hl3]) hf3.ones (by omega) (by decide) (y5 (fun n=>Value.slice A8 n c8) hwl.symm) rfl ?_;intro A4 c4 w4 hc;have hc:=hc.swap.rest;have en:(ws++E4 L (A5X L.H.k.seq)).length=ws.length+(E4 L (A5X L.H.k.seq)).length:=z6;have hc:=hc.castOs (os':=[orW (ws++E4 L (A5X L.H.k.seq)) A4 c4 (css8++css3)]) (by unfold orW;rw [en,zr]);have hc:=hc.now (X:=Vc.Sep 0 (fun S w'=>Keep w Sx S w'/\Fresh w Sx (WsR (ws++E4 L (A5X L.H.k.seq)) (css8++css3)) S w') (LinkK g L)) (fun h=>h.mono (fun _ h=>⟨h.1,Fresh.both (WsR.stab _ _) (WsR.stab _ _) h.2.1 h.2.2 fun _ a b=>WsR.append a b⟩) fun _ h=>h) (Vc.Sep.stab (y8.and (Fresh.stab (WsR.stab _ _))) yg);have hend:=hc.endW;rw [en] at hend;exact hend
 | false=>
 obtain⟨A,cA,D,cD,hB1,hR1⟩:=(hc.row.right yg).cells;refine⟨_,hB1.cell 1,?_⟩;refine⟨(A1R g.gs g.gj g.gc g.b L.H hL.H _ _ (hc.row.right yg).shelf).mono fun en wq hq=>?_⟩;obtain⟨A5,c5,e3,hb,ho⟩:=hq;have hc:=(hc.fresh hb ho).rest;refine⟨_,e3,?_⟩;by_cases hp0:0<L.H.k.pend.length;rotate_left
 ·have htl:tl=[]:=by rw [htl,y7 (fun h=>hp0 h.2)];rfl
  rw [htl,zw] at hz;subst hz;refine df (by omega) ?_;refine hc.q (ht _ _ (hc.row.right yg)) fun wQ hQ hc=>?_;have hend:=hc.endW;rw [hwl] at hend;exact hend
 have htl:tl=A31 L L.H.k.b.seq:=by rw [htl,y6 ⟨rfl,hp0⟩];exact zw _
 rw [htl] at hz;subst hz;refine dt (by omega) ?_;obtain⟨A,cA,D,cD,hB1,hR1⟩:=(hc.row.right yg).cells;refine⟨_,hB1.cell 1,?_⟩;refine⟨(A0S g.gs g.gj g.gc g.b L.H hL.H _ _ (hc.row.right yg).shelf).mono fun en wq hq=>?_⟩;obtain⟨cs,e4,hb,hrep⟩:=hq;obtain⟨y,rfl⟩:=hrep.stX;have hc:=(hc.quiet hb).1;refine⟨_,e4,?_⟩;have hal:(A31 L L.H.k.b.seq).length=1:=rfl;obtain⟨S1,Sa,h1,h2,h3,hO⟩:=hc.row;have sd:=(fun Sa w hlt hO=>(A8o g L hL L.H.k.b.seq now (Int.le_refl _) (by show L.H.k.b.seq<=L.H.k.b.seq+((L.H.k.pend.length:Nat):Int);omega) Sa w hlt hO).mono fun en w' h=>RetWq.turn h hO hlt) Sa _ (fun x hx=>hc.ctx.lt x (h2 x hx).1) hO
 skip
 refine⟨sd.mono fun en wq hq=>?_⟩;obtain⟨A3,c3,css3,N3,Sn,e1,hT,hSn,hO,hr3,hW,hN,hA⟩:=hq;obtain⟨S',hc⟩:=hc.turnB (Fresh.stab (WsR.stab _ _)) h1 h2 h3 hT hSn hO yg hr3 hW hN hA;refine⟨_,e1,?_⟩;obtain⟨S8,hrow⟩:=W7 hc;have hf3:Flat 21 css3:=hW.flat;have hl3:css3.length=(A31 L L.H.k.b.seq).length:=hW.len;refine A1O Tryz.underlying32 B9Z rfl (by decide) hc.swap hrow (by rw [hf3.len,hl3]) hf3.ones (by omega) (by decide) (y5 (fun n=>Value.slice A8 n c8) hwl.symm) rfl ?_;intro A4 c4 w4 hc;have hc:=hc.swap.rest;have en:(ws++A31 L L.H.k.b.seq).length=ws.length+(A31 L L.H.k.b.seq).length:=z6;have hc:=hc.castOs (os':=[orW (ws++A31 L L.H.k.b.seq) A4 c4 (css8++css3)]) (by unfold orW;rw [en,zr]);have hc:=hc.now (X:=Vc.Sep 0 (fun S w'=>Keep w Sx S w'/\Fresh w Sx (WsR (ws++A31 L L.H.k.b.seq) (css8++css3)) S w') (LinkK g L)) (fun h=>h.mono (fun _ h=>⟨h.1,Fresh.both (WsR.stab _ _) (WsR.stab _ _) h.2.1 h.2.2 fun _ a b=>WsR.append a b⟩) fun _ h=>h) (Vc.Sep.stab (y8.and (Fresh.stab (WsR.stab _ _))) yg);refine hc.q (ht _ _ (hc.row.right yg)) fun wQ hQ hc=>?_;have hend:=hc.endW;rw [en] at hend;exact hend
end Go.Proofs.YtefdfaeieekioaaGreatDoor
section
namespace Go.Proofs.YtefdfaeieekioaaGreatDoor
open Go.Vc Go.RowKit Go.Fl Go.ChangeShapes Go.WideShapes Go.ChangeAt
section
variable {w0 w:World} {S:Nat->Prop} {l:List LB} {os:List OR} {o:OR} {K R O:Kn} {gl T:Nat} {cs:List Value}
theorem _root_.Go.Vc.CtxF.pullH (hc:CtxF no (bare w0) S w l os (Vc.Sep 0 K (ObjK gl T cs R O))) (sK:Stab K) (sR:Stab R) (sO:Stab O):
  ∃ S',CtxF no (bare w0) S' w ((gl,T,cs)::l) os (Vc.Sep 0 (Vc.Sep 0 K R) O):=by
 obtain⟨S1,Sa,h1,h2,h3,hg,hB,Sr,So,k1,k2,k3,k4⟩:=hc.row;have hgS:S gl:=(h2 gl hg).1;refine⟨fun x=>S x/\x≠gl,⟨⟨hc.ctx.below,fun _ h=>h.elim,fun x hx=>hc.ctx.new x hx.1,fun x hx=>hc.ctx.lt x hx.1,zb _,fun h=>h.2 rfl,hB,fun x hx e=>?_,hc.ctx.locs.mono (fun _ _=>rfl) (fun x hx h=>h.1)⟩,hc.own.step fun o ho a ha=>⟨rfl,fun h=>((hc.own.mem o ho).out a ha).1 h.1,fun x hx=>?_⟩,?_,Vc.Sep.stab (Vc.Sep.stab sK sR) sO⟩⟩
 ·obtain⟨i,hi⟩:=List.getElem?_of_mem hx;obtain⟨g,T,cs⟩:=x;exact (hc.ctx.locs.notS hi).1 ((show g=gl from e)▸hgS)
 ·cases hx with
  | head=>exact fun e=>((hc.own.mem o ho).out a ha).1 ((show gl=a.block from e)▸hgS)
  | tail _ hx=>exact ((hc.own.mem o ho).out a ha).2 x hx
 ·refine⟨fun x=>S1 x\/Sr x,So,fun x hx=>?_,fun x hx=>⟨⟨(h2 x (k2 x hx).1.1).1,(k2 x hx).1.2⟩,zb _⟩,⟨S1,Sr,fun x hx=>⟨.inl hx,fun e=>(h1 x hx).2 (k1 x e).1.1⟩,fun x hx=>⟨.inr hx,zb _⟩,h3,k3⟩,k4⟩;rcases hx with hx | hx
  ·exact⟨⟨(h1 x hx).1,fun e=>(h1 x hx).2 (e▸hg)⟩,fun e=>(h1 x hx).2 (k2 x e).1.1⟩
  ·exact⟨⟨(h2 x (k1 x hx).1.1).1,(k1 x hx).1.2⟩,(k1 x hx).2⟩
theorem _root_.Go.Vc.CtxF.pushH (hc:CtxF no (bare w0) S w ((gl,T,cs)::l) os (Vc.Sep 0 (Vc.Sep 0 K R) O)) (sK:Stab K) (sR:Stab R) (sO:Stab O):
  ∃ S',CtxF no (bare w0) S' w l os (Vc.Sep 0 K (ObjK gl T cs R O)):=by
 obtain⟨S1,So,h1,h2,⟨Sk,Sr,k1,k2,k3,k4⟩,h4⟩:=hc.row;obtain⟨l1,l2,l3,l4,l5⟩:=hc.ctx.locs;refine⟨fun x=>S x\/x=gl,⟨⟨hc.ctx.below,fun _ h=>h.elim,fun x hx=>.inr (zb _),fun x hx=>?_,l5.mono (fun _ _=>rfl) (fun x hx h=>h.elim id fun e=>absurd e (l4 x hx))⟩,hc.own.step fun o ho a ha=>⟨rfl,fun h=>?_,fun x hx=>((hc.own.mem o ho).out a ha).2 x (zt _ hx)⟩,?_,Vc.Sep.stab sK (ObjK.stab sR sO)⟩⟩
 ·rcases hx with hx | rfl
  ·exact hc.ctx.lt x hx
  ·exact l3.lt
 ·rcases h with h | h
  ·exact ((hc.own.mem o ho).out a ha).1 h
  ·exact ((hc.own.mem o ho).out a ha).2 _ (zu ..) h.symm
 ·refine⟨Sk,fun x=>Sr x\/So x\/x=gl,fun x hx=>⟨.inl (h1 x (k1 x hx).1).1,?_⟩,fun x hx=>⟨?_,zb _⟩,k3,.inr (.inr rfl),l3,Sr,So,fun x hx=>⟨⟨.inl hx,fun e=>l2 (e▸(h1 x (k2 x hx).1).1)⟩,(h1 x (k2 x hx).1).2⟩,fun x hx=>⟨⟨.inr (.inl hx),fun e=>l2 (e▸(h2 x hx).1)⟩,zb _⟩,k4,h4⟩
  ·rintro (e | e | e)
   ·exact (k1 x hx).2 e
   ·exact (h1 x (k1 x hx).1).2 e
   ·exact l2 (e▸(h1 x (k1 x hx).1).1)
  ·rcases hx with hx | hx | hx
   ·exact .inl (h1 x (k2 x hx).1).1
   ·exact .inl (h2 x hx).1
   ·exact .inr hx
theorem _root_.Go.Vc.CtxF.toldR (hc:CtxF no (bare w0) S w l (o::os) (Vc.Sep 0 (Vc.Sep 0 K R) O)) (sK:Stab K) (sR:Stab R) (sO:Stab O):
  ∃ S',CtxF no (bare w0) S' w l os (Vc.Sep 0 (Vc.Sep 0 K (Vc.Sep 0 (fun S w=>Row S w o.A o.n o.cap o.xs) R)) O):=by
 have hout:=hc.fst.out;obtain⟨S1,So,h1,h2,⟨Sk,Sr,k1,k2,k3,k4⟩,h4⟩:=hc.row;have hnS:∀ x,(∃ a,o.A=some a/\a.block=x)->¬ S x:=fun x hx h=>by obtain⟨a,ha,rfl⟩:=hx;exact (hout a ha).1 h
 have hr:∀ x,Sr x->S x:=fun x hx=>(h1 x (k2 x hx).1).1;obtain⟨S2,hs,hc2⟩:=hc.told;refine⟨S2,hc2.now (fun hh=>?_) (Vc.Sep.stab (Vc.Sep.stab sK (Vc.Sep.stab (fun _ _ _ _ h f=>h.fut f) sR)) sO)⟩;obtain⟨_,hR1,hR2,hR3⟩:=hh;refine⟨fun x=>S1 x\/(S2 x/\∃ a,o.A=some a/\a.block=x),So,fun x hx=>?_,fun x hx=>⟨hs x (h2 x hx).1,(h2 x hx).2⟩,⟨Sk,fun x=>Sr x\/(S2 x/\∃ a,o.A=some a/\a.block=x),fun x hx=>⟨.inl (k1 x hx).1,?_⟩,fun x hx=>⟨?_,zb _⟩,k3,fun x=>S2 x/\∃ a,o.A=some a/\a.block=x,Sr,fun x hx=>⟨.inr hx,fun e=>hnS x hx.2 (hr x e)⟩,fun x hx=>⟨.inl hx,zb _⟩,⟨hR1,hR2,fun hx=>?_⟩,k4⟩,h4⟩
 ·rcases hx with hx | hx
  ·exact⟨hs x (h1 x hx).1,(h1 x hx).2⟩
  ·exact⟨hx.1,fun h=>hnS x hx.2 (h2 x h).1⟩
 ·rintro (e | e)
  ·exact (k1 x hx).2 e
  ·exact hnS x e.2 (h1 x (k1 x hx).1).1
 ·rcases hx with hx | hx
  ·exact .inl (k2 x hx).1
  ·exact .inr hx
 ·obtain⟨ad,e,hsa,hcl⟩:=hR3 hx;exact⟨ad,e,⟨hsa,ad,e,rfl⟩,hcl⟩
end
theorem B1H {H:Sh} {n:Int} (h:H.Ok) (hn:B3 n):(enterH H n).1.Ok:=by
 unfold enterH;split
 ·exact h
 split
 ·exact h
 ·rename_i hk;show (A07 H (.enter n) true).Ok;unfold A07;split
  ·exact h.fell
  ·rename_i hr;exact h.write (r:=.enter n) hn trivial true (by omega)
def B8y (L:Lk) (r:Ros) (til:Int):Lk:={ L with r:=r,til:=max L.til til }
theorem A8u (g:Lg) (L:Lk) (hL:L.Ok) (hdn:L.done.length<=900000) (v:Wd) (hvr:v.ros.Ok) (hvl:v.ros.l.length<=1000) (x:WX) (now:Int) (hcm0:C4C g now { L with r:=v.ros }):A5a g L 47 v x now (A2N L v now):=by
 intro Sx w hlt he hK Sv hvd hR;obtain⟨A,cA,D,cD,css,hB⟩:=hK.seen;have sO:=fun L=>LkO.stab g L A cA D cD css;have fin:∀ {L:Lk} {A:Option Addr} {cA:Nat} {S:Nat->Prop} {w1:World} {l:List LB} {os:List OR},CtxF no (bare w) S w1 l os (Vc.Sep 0 (Keep w Sx) (LkO g L A cA D cD css))->RetWL Sx w (LinkK g L) [] (.returned (.slice none 0 0)) w1:=fun hc=>RetWL.nil ((hc.now (fun h=>h.mono (fun _ h=>h) fun _ h=>LkO.link h) (Vc.Sep.stab y8 yg)).endO _) rfl;have kept:∀ {L:Lk} {S:Nat->Prop} {w1:World} {l:List LB} {os:List OR},CtxF no (bare w) S w1 l os (Vc.Sep 0 (Keep w Sx) (LkO g L A cA D cD css))->∃ Sk:Nat->Prop,WdR v x Sk w1:=fun hc=>by obtain⟨S1,So,h1,h2,h3,h4⟩:=hc.row;exact⟨S1,Keep.of h3 yb hR hvd⟩
 have hc:=CtxF.enterO hlt hB (sO L);obtain⟨z,hz⟩:∃ z,z=A2N L v now:=⟨_,rfl⟩;rw [<-hz];unfold A2N at hz;obtain⟨L0,hL0⟩:∃ L0,L0=if L.k.ep<v.ros.ep then A0U L v else L:=⟨_,rfl⟩
 have hok0:L0.H.Ok/\L0.id=L.id/\L0.done=L.done:=by
  rw [hL0];split
  ·exact⟨B1H hL.H hvr.ep,rfl,rfl⟩
  ·exact⟨hL.H,rfl,rfl⟩
 refine A2E lay_ok Tryz.func47 rfl (by kernel_rfl) (by kernel_rfl) ?_;refine SemC.cut lay_ok (fun (y:Nat × Nat)=>[(0,.pointer (some ⟨g.gl,0,none⟩)),(2,.int .i64 now),(4,.pointer (some ⟨y.1,0,none⟩)),(7,.pointer (some ⟨y.2,0,none⟩))]) (fun y w'=>z=A33 L0 v now/\∃ S,CtxF no (bare w) S w' [(y.2,31,R9 v.ros x.A x.cA),(y.1,43,wdC v x)] [] (Vc.Sep 0 (Keep w Sx) (LkO g L0 A cA D cD css))) 3 (by kernel_rfl) ?_ ?_
 ·skip
  refine hc.n fun g4 wg4 hg4 hc=>?_;refine⟨R9 v.ros x.A x.cA,rfl,Blk.part (hc.blk 0 rfl) 9 (R9 v.ros x.A x.cA) rfl,?_⟩;refine hc.n fun g7 wg7 hg7 hc=>?_;refine hc.s 0 rfl fun wS hS hc=>?_;have hc:=I9 hc (l':=[(g7,31,R9 v.ros x.A x.cA),(g4,43,wdC v x)]) (by kernel_rfl);have hB2:=(hc.row.right (sO L)).2.1;have hr:=hc;refine vD (.Q [0,1,2,3,4,5,6,7,8] (.n 9 (.Q [10,11,12,13,14,15,16,17,18] (.n 19 (.Q [20,21] .fin) .stop)) .stop)) (Old _) (Old.start _) ?_;have hk:=hc.old0;have hc:=hc.drew;refine⟨_,fun x hx=>Keeps.cell hx (hr.blk 1 rfl) (hr.blk 1 rfl).lt rfl,?_⟩;by_cases hf:v.frm=0;rotate_left
  ·rw [y6 (.inl hf)] at hz;subst hz;refine B0 (by show (v.frm != 0)=true;rw [bne_iff_ne];exact hf) ?_;refine⟨?_,trivial⟩;refine⟨?_,trivial⟩;exact fin hc
  refine C3X (by show (v.frm != 0)=false;rw [hf];rfl) ?_;refine⟨R9 v.ros x.A x.cA,rfl,fun x hx=>Keeps.cells hx (hr.blk 0 rfl) (hr.blk 0 rfl).lt,?_⟩;refine⟨_,fun z hz=>Keeps.look hz (hB2.cell 0),?_⟩;obtain⟨Sk,hW⟩:=kept hc;have h1:=A7b L.id hW.1.1;obtain⟨b1,e1⟩:∃ b,b=decide (L.id∈v.ros.l):=⟨_,rfl⟩;rw [<-e1] at h1;refine⟨hc.q (h1) fun wA hA hc=>?_,trivial⟩;have hk:=Keeps.below hk (fun _ h=>h) hA;refine⟨hk,?_⟩;cases b1 with
  | false=>
   rw [y6 (.inr (.inl (of_decide_eq_false e1.symm)))] at hz;subst hz;refine⟨?_,trivial⟩;exact fin hc
  | true=>
  refine⟨_,fun x hx=>Keeps.cell hx (hr.blk 0 rfl) (hr.blk 0 rfl).lt rfl,?_⟩;refine⟨_,fun z hz=>Keeps.look hz (hB2.cell 1),?_⟩;refine⟨hc.q (A2I g.gs g.gj g.gc g.b L.H _ _ (hc.row.right (sO L)).link.shelf) fun wA hA hc=>?_,trivial⟩;have hk:=Keeps.below hk (fun _ h=>h) hA;refine⟨hk,?_⟩;by_cases hep:v.ros.ep<L.H.k.ep
  ·rw [y6 (.inr (.inr hep))] at hz;subst hz;refine dt hep ?_;exact fin hc
  refine df hep ?_;rw [y7 (fun h=>h.elim (fun h=>h hf) fun h=>h.elim (fun h=>h (of_decide_eq_true e1.symm)) hep)] at hz;clear hk hr;have hB3:=(hc.row.right (sO L)).2.1;have hr:=hc;refine vD (.Q [0,1,2,3,4,5] (.n 6 (.q 7 .fin) .stop)) (Old _) (Old.start _) ?_;have hk:=hc.old0;have hc:=hc.drew;refine⟨_,fun x hx=>Keeps.cell hx (hr.blk 0 rfl) (hr.blk 0 rfl).lt rfl,?_⟩;refine⟨_,fun z hz=>Keeps.look hz (hB3.cell 1),?_⟩;refine⟨hc.q (A2I g.gs g.gj g.gc g.b L.H _ _ (hc.row.right (sO L)).link.shelf) fun wA hA hc=>?_,trivial⟩;have hk:=Keeps.below hk (fun _ h=>h) hA;refine⟨hk,?_⟩;clear hk hr;by_cases hgt:L.H.k.ep<v.ros.ep;rotate_left
  ·refine df hgt ?_;rw [y7 (show ¬ L.k.ep<v.ros.ep from hgt)] at hz hL0;subst hL0;exact⟨(g4,g7),⟨rfl,rfl,rfl,rfl,trivial⟩,hz,_,hc⟩
  refine dt hgt ?_;rw [y6 (show L.k.ep<v.ros.ep from hgt)] at hz hL0;refine vD (.Q [0,1,2,3,4,5] (.n 6 (.q 7 .fin) .stop)) (fun z=>Blk z g.gl 85 (liC L g.gs A cA D cD)/\Blk z g7 31 (R9 v.ros x.A x.cA)) ⟨(hc.row.right (sO L)).2.1,hc.blk 0 rfl⟩ ?_;have hc:=hc.drew;refine⟨.pointer (some ⟨g.gs,0,none⟩),fun z hz=>(Blk.cell hz.1 1).trans rfl,?_⟩;refine⟨.int .i64 v.ros.ep,fun z hz=>(Blk.cell hz.2 0).trans rfl,?_⟩;refine⟨⟨(A8r v.ros.ep hL hvr.ep he hc).mono fun en wq hq=>?_⟩,trivial⟩;obtain⟨S9,e9,hc⟩:=hq;refine⟨_,e9,⟨(hc.row.right (sO (A2s L (enterH L.H v.ros.ep).1))).2.1,hc.blk 0 rfl⟩,?_⟩;by_cases he0:(enterH L.H v.ros.ep).2=0;rotate_left
  ·rw [y6 he0] at hz;subst hz;refine B0 (by show ((enterH L.H v.ros.ep).2 != 0)=true;rw [bne_iff_ne];exact he0) ?_;exact fin (L:=A2s L (enterH L.H v.ros.ep).1) hc
  rw [y7 (fun h=>h he0)] at hz;refine C3X (by show ((enterH L.H v.ros.ep).2 != 0)=false;rw [he0];rfl) ?_;obtain⟨S8,hc⟩:=CtxF.pullH hc y8 yf ye;refine hc.s 0 rfl fun wS hS hc=>?_;have hc:=I9 hc (l':=[(g.gl,85,liC (A0U L v) g.gs A cA D cD),(g7,31,R9 v.ros x.A x.cA),(g4,43,wdC v x)]) (by kernel_rfl);obtain⟨S8,hc⟩:=CtxF.pushH hc y8 yf ye;subst hL0;exact⟨(g4,g7),⟨rfl,rfl,rfl,rfl,trivial⟩,hz,_,hc⟩
 clear hc;rintro⟨g4,g7⟩ u w1 ⟨hz,S,hc⟩;refine SemC.vc lay_ok ?_;obtain⟨kS,hW⟩:=kept hc;obtain⟨S8,hc⟩:=CtxF.pullH hc y8 yf ye;refine vD (.Q [0,1,2,3,4,5,7,8] (.n 6 (.Q [9,10,11] (.n 12 (.Q [13,14] (.n 15 .fin .stop)) .stop)) .stop)) (fun z=>Blk z g7 31 (R9 v.ros x.A x.cA)/\Blk z g4 43 (wdC v x)) ⟨hc.blk 1 rfl,hc.blk 2 rfl⟩ ?_;have hc:=hc.drew;refine⟨R9 v.ros x.A x.cA,rfl,fun z hz=>Blk.part hz.1 0 (R9 v.ros x.A x.cA) rfl,?_⟩;refine⟨.int .i64 v.til,fun z hz=>(Blk.cell hz.2 6).trans rfl,?_⟩;refine⟨⟨_,hc.cell 0 rfl _ rfl,⟨hc.blk 1 rfl,hc.blk 2 rfl⟩,?_⟩,trivial⟩;refine⟨hc.s 0 rfl fun wS hS hc=>?_,trivial⟩;refine⟨⟨hc.blk 1 rfl,hc.blk 2 rfl⟩,?_⟩;refine⟨hc.s 0 rfl fun wS hS hc=>?_,trivial⟩;refine⟨⟨hc.blk 1 rfl,hc.blk 2 rfl⟩,?_⟩;obtain⟨L1,hL1⟩:∃ L1,L1=B8y L0 v.ros v.til:=⟨_,rfl⟩;have hc:=I9 hc (l':=[(g.gl,85,liC L1 g.gs x.A x.cA D cD),(g7,31,R9 v.ros x.A x.cA),(g4,43,wdC v x)]) (by rw [hL1];unfold B8y;rw [show max L0.til v.til=(if v.til > L0.til then v.til else L0.til) by omega];kernel_rfl);refine⟨_,hc.cell 1 rfl 1 rfl,?_⟩;have hrow:RosR v.ros x.A x.cA kS _:=hW.1.1;obtain⟨S1,Sa,h1,h2,⟨Sk,Sr,k1,k2,k3,k4⟩,h4⟩:=hc.row;have hrow:=(Keep.of k3 yb hR hvd).1.1;refine⟨(A8Q x.A v.ros.l.length x.cA _ (B0s _) (zj _) (by omega) Sk _ hrow).mono fun en wq hq=>?_⟩;obtain⟨A9,c9,e9,hb,ho⟩:=hq;have hc:=hc.fresh hb ho;refine⟨_,e9,?_⟩;refine hc.s 0 rfl fun wS hS hc=>?_;have hc:=I9 hc (l':=[(g.gl,85,liC L1 g.gs A9 c9 D cD),(g7,31,R9 v.ros x.A x.cA),(g4,43,wdC v x)]) (by rw [hL1];kernel_rfl);obtain⟨S9,hc⟩:=CtxF.toldR hc y8 yf ye;have hc:=hc.now (X:=Vc.Sep 0 (Vc.Sep 0 (Keep w Sx) (LiR L1 A9 c9 D cD css)) (ShelfK g.gs g.gj g.gc g.b L1.H)) (fun h=>by rw [hL1];exact h.mono (fun _ h=>h.mono (fun _ h=>h) fun _ h=>(Vc.Sep.assoc row_stab ((RosR.stab _ _ _).and (WsR.stab _ _)) h).mono (fun _ h=>⟨h.1,h.2.2⟩) fun _ h=>h) fun _ h=>h) (Vc.Sep.stab (Vc.Sep.stab y8 yf) ye);obtain⟨S9,hc⟩:=CtxF.pushH hc y8 yf ye;have hc:CtxF no (bare w) S9 _ _ [] (Vc.Sep 0 (Keep w Sx) (LkO g L1 A9 c9 D cD css)):=hc;have hz:z=if H6 L1 now=true/\A1H L1=true then K6 L1 else (L1,[]):=by rw [hz,hL1];rfl
 have ha:=A0p g L1 now _ _ (hc.row.right (LkO.stab g L1 A9 c9 D cD css)).link hc.ctx.lt;obtain⟨b1,e1⟩:∃ b,b=H6 L1 now:=⟨_,rfl⟩;rw [<-e1] at ha hz;refine hc.q (ha) fun wQ hQ hc=>?_;cases b1 with
 | false=>
  rw [y7 (fun h=>absurd h.1 (by decide))] at hz;subst hz;exact fin hc
 | true=>
 have ht:=A34 g L1 _ _ (hc.row.right (LkO.stab g L1 A9 c9 D cD css)).link;obtain⟨b2,e2⟩:∃ b,b=A1H L1:=⟨_,rfl⟩;rw [<-e2] at ht hz;refine hc.q (ht) fun wQ hQ hc=>?_;cases b2 with
 | false=>
  rw [y7 (fun h=>absurd h.2 (by decide))] at hz;subst hz;exact fin hc
 | true=>
 rw [y6 ⟨rfl,rfl⟩] at hz;subst hz;have hc:=hc.now (X:=Vc.Sep 0 (Keep w Sx) (LinkK g L1)) (fun h=>h.mono (fun _ h=>h) fun _ h=>LkO.link h) (Vc.Sep.stab y8 yg);have hok1:L1.H.Ok:=by rw [hL1];exact hok0.1
 have hdn1:L1.done.length<=900000:=by rw [hL1];show L0.done.length<=_;rw [hok0.2.2];exact hdn
 obtain⟨S1,Sa,h1,h2,h3,hO⟩:=hc.row;have hen:=A8l hc h1 h3 he;refine⟨((fun Sa w hlt hen hO=>hcm0 L1 (by rw [hL1];exact hok0.2.1) (by rw [hL1];rfl) hok1 hdn1 e2.symm Sa w hlt hen hO) Sa _ (fun x hx=>hc.ctx.lt x (h2 x hx).1) hen hO).mono fun en wq hq=>?_⟩;have hq0:=hq;obtain⟨A3,c3,css3,N3,Sn,e1,_⟩:=hq0;refine⟨_,e1,?_⟩;rw [e1] at hq;exact hc.tailW0 yg h1 h3 hq
end Go.Proofs.YtefdfaeieekioaaGreatDoor
end
namespace Go.Proofs.YtefdfaeieekioaaGreatDoor
open Go.Vc Go.RowKit Go.Fl Go.ChangeShapes Go.WideShapes Go.ChangeAt
end Go.Proofs.YtefdfaeieekioaaGreatDoor
namespace Go.Proofs.YtefdfaeieekioaaGreatDoor
open Go.Vc Go.RowKit Go.Fl
def N8 (k:Known) (j:Nat):Known:=⟨U0 k.b (k.pend.take j),k.pend.drop j,k.ep,k.ln⟩
theorem A5b (k:Known) (n:Int):(C2 k n).1=N8 k (n-k.b.seq).toNat:=rfl
theorem A8v (k:Known) (i j:Nat):N8 (N8 k i) j=N8 k (i+j):=by unfold N8;rw [<-A5J,<-List.take_add,List.drop_drop]
theorem X0 {k:Known} (h:k.Ok) {j:Nat} (hj:j<=k.pend.length):(N8 k j).b.seq=k.b.seq+j:=by show (U0 k.b (k.pend.take j)).seq=_;rw [W4 _ h.may h.lows (fun d hd=>(h.pend d (List.mem_of_mem_take hd)).1) (by have:=h.seq;rw [zf];omega),zf];omega
theorem A3G (k:Known) (j:Nat):(N8 k j).pend.length=k.pend.length-j:=zg ..
def Late (k k':Known):Prop:=∃ j,j<=k.pend.length/\k'=N8 k j
theorem Late.all {k k':Known} (hk:k.Ok) (h:Late k k'):(C2 k' k.seq).1=N8 k k.pend.length/\(C2 k' k.seq).2.length=k'.pend.length/\k'.pend.length<=k.pend.length/\k'.b.seq<=k.seq:=by
 obtain⟨j,hj,rfl⟩:=h;have e1:=X0 hk hj;have e2:=A3G k j;have e3:k.seq=k.b.seq+k.pend.length:=rfl;refine⟨?_,?_,by omega,by omega⟩
 ·rw [A5b,A8v];exact y5 _ (by omega)
 ·rw [(A3F _ _).1];omega
structure More (H H':Sh):Prop where
 base:H'.base=H.base
 np:H'.np=H.np
 l:∃ r:List Rc,(∀ x∈r,∃ n,x=.done n)/\H'.l=H.l++r
theorem More.write {H H':Sh} (h:More H H') (n:Int):More H (H'.write (.done n) false):=by
 obtain⟨h1,h2,r,h3,h4⟩:=h;refine⟨h1,h2,r++[.done n],fun x hx=>?_,?_⟩
 ·rw [List.mem_append,zx] at hx;rcases hx with hx | rfl
  ·exact h3 x hx
  ·exact⟨n,rfl⟩
 ·show H'.l++[.done n]=_;rw [h4,zv]
theorem More.of {H H1 H':Sh} (h:More H H1) {n:Int} (e:H'=H1\/H'=H1.write (.done n) false):More H H':=by
 rcases e with rfl | rfl
 ·exact h
 ·exact h.write n
theorem B4Y:T5 A4z=true:=by kernel_rfl
def wd (k f t e s q:Int) (l:List D):Wd:=⟨k,f,t,e,s,q,0,r00,Ros0,l,A4z⟩
theorem B5m {k f t e s q:Int} {l:List D} (hk:1<=k/\k<=11) (hf:0<=f/\f<=5) (ht:0<=t/\t<=5) (hn:f≠t) (he:0<=e/\e<=E3) (hs:0<=s/\s<=E3) (hq:0<=q/\q<=E3) (hl:l.length<=60) (hd:∀ d∈l,L3 d=true):A51 (wd k f t e s q l)=true:=
 Q5.2 ⟨J7.2 ⟨hk,hf,ht,hn,he,hs,hq,⟨Int.le_refl 0,by show (0:Int)<=1099511627776;decide⟩,⟨Int.le_refl 0,by show (0:Int)<=1099511627776;decide⟩,⟨Int.le_refl 0,by show (0:Int)<=13;decide⟩⟩,.inl rfl,hl,hd,B4Y⟩
def O2 (id:Int) (r:Ros) (til:Int):Wd:=⟨2,0,id,0,0,0,til,r00,r,[],A4z⟩
theorem A8w {id til:Int} {r:Ros} (hi:1<=id/\id<=5) (hr:A6R r=true) (ht:0<=til/\til<=E3):A51 (O2 id r til)=true:=
 have z:(0:Int)<=0/\(0:Int)<=E3:=⟨Int.le_refl 0,by show (0:Int)<=1099511627776;decide⟩
 Q5.2 ⟨J7.2 ⟨⟨by show (1:Int)<=2;decide,by show (2:Int)<=11;decide⟩,⟨Int.le_refl 0,by show (0:Int)<=5;decide⟩,⟨by show (0:Int)<=id;omega,hi.2⟩,(by show (0:Int)≠id;omega),z,z,z,ht,z,⟨Int.le_refl 0,by show (0:Int)<=13;decide⟩⟩,.inr hr,by show 0<=60;decide,(fun d hd=>by cases hd),B4Y⟩
def lk (id:Int) (H:Sh) (r:Ros) (til:Int) (dn:List Wd):Lk:=⟨id,H,r,til,dn⟩
theorem B8N {id:Int} {H:Sh} {n:Nat} {r:Ros} {til:Int} {dn:List Wd} (hi:1<=id/\id<=5) (hf:Fit H n) (hr:A6R r=true) (ht:B3 til):(lk id H r til dn).Ok:=
 ⟨hi,hf.ok,B0q hr,(Q4.1 hr).2.2.2.1,ht⟩
theorem B1I {id:Int} {H:Sh} {n:Nat} {r:Ros} {til now:Int} {dn:List Wd} (hf:Fit H n) (hm:id∈r.l) (hn:r.new≠id) (he:H.k.ep=r.ep) (ht:now<=til):H6 (lk id H r til dn) now=true:=by unfold H6 Z2 lk;simp [hm,hn,hf.down,he,ht]
theorem C09 {L:Lk} {v:Wd} {now:Int} (h:v.to≠L.id\/A51 v=false):B9Y L v now=(L,[]):=y6 h
theorem A8x {L:Lk} {v:Wd} {now:Int} (h1:v.to=L.id) (h2:A51 v=true) (h3:v.kind≠2):B9Y L v now=T7 L v now:=by unfold B9Y;rw [y7 (fun h=>h.elim (fun h=>h h1) (by rw [h2];decide)),y7 h3]
theorem A8y {L:Lk} {v:Wd} {now:Int} (h1:v.to=L.id) (h2:A51 v=true) (h3:v.kind=2):B9Y L v now=A2N L v now:=by unfold B9Y;rw [y7 (fun h=>h.elim (fun h=>h h1) (by rw [h2];decide)),y6 h3]
theorem B1J {L:Lk} {v:Wd} {now:Int} (h7:v.kind≠7) (h10:v.kind≠10) (h9:v.kind≠9) (he:v.ep=L.r.ep) (h0:L.r.ep≠0) (ha:H6 L now=true):
  T7 L v now=if v.kind=3 then B09 L v else if v.kind=4 then A32 L v else if v.kind=5 then (L,B5j L v) else if v.kind=6 then B4X L v
   else if v.kind=8 then (L,if v.frm∈L.r.l/\A1H L=true then [A1G L (B7A L v.frm v.req)] else []) else (L,[]):=by
 unfold T7;rw [y7 h7,y7 (fun h=>h.elim (fun h=>h he) h0),y7 h10,y7 h9,y7 (by rw [ha];decide)]
theorem Fit.enterH {H:Sh} {n:Nat} (h:Fit H n) (hn:n<=400) {m:Int} (hm:B3 m) (hl:H.k.ep<m):∃ H',enterH H m=(H',0)/\H'.k=⟨H.k.b,H.k.pend,m,H.k.ln⟩/\Fit H' (n+1):=by
 rcases h.enter hn hm with ⟨hc,e⟩ | ⟨hc,e⟩
 ·omega
 ·refine⟨_,e,?_,h.write hn (r:=.enter _) hm trivial true⟩;rw [A30];show (⟨H.k.b,H.k.pend,max H.k.ep m,H.k.ln⟩:Known)=_;rw [show max H.k.ep m=m from by omega]
theorem B3T {id:Int} {H:Sh} {n:Nat} {r0 r:Ros} {til0 til now:Int} {dn:List Wd} (hf:Fit H n) (hn:n<=400) (hi:1<=id/\id<=5) (hr:A6R r=true) (hm:id∈r.l) (ht:0<=til/\til<=E3) (hl:H.k.ep<r.ep):
  ∃ H',enterH H r.ep=(H',0)/\H'.k=⟨H.k.b,H.k.pend,r.ep,H.k.ln⟩/\Fit H' (n+1)/\B9Y (lk id H r0 til0 dn) (O2 id r til) now=if H6 (lk id H' r til dn) now=true/\A1H (lk id H' r til dn)=true then K6 (lk id H' r til dn) else (lk id H' r til dn,[]):=by
 have hk:=Q4.1 hr;have hme:E3=1099511627776:=rfl;obtain⟨H',e1,e2,e3⟩:=hf.enterH hn (m:=r.ep) (by unfold B3;omega) hl;refine⟨H',e1,e2,e3,?_⟩;rw [A8y (L:=lk id H r0 til0 dn) (v:=O2 id r til) rfl (A8w hi hr ht) rfl];unfold A2N;rw [y7 (fun h=>h.elim (fun h=>h rfl) fun h=>h.elim (fun h=>h hm) fun h=>by have:r.ep<H.k.ep:=h;omega),y6 (show (lk id H r0 til0 dn).k.ep<(O2 id r til).ros.ep from hl)];have e4:enterH (lk id H r0 til0 dn).H (O2 id r til).ros.ep=(H',0):=e1;rw [e4,y7 (fun h=>h rfl)];have e5:A0U (lk id H r0 til0 dn) (O2 id r til)=lk id H' r0 0 dn:=by unfold A0U;rw [e4];rfl
 rw [e5];unfold A33;have e6:({ lk id H' r0 0 dn with r:=(O2 id r til).ros,til:=max (lk id H' r0 0 dn).til (O2 id r til).til }:Lk)=lk id H' r til dn:=by show lk id H' r (max 0 til) dn=_;rw [show max 0 til=til by omega]
 rw [e6]
theorem B1K {id:Int} {H:Sh} {n:Nat} {r0 r:Ros} {til0 til now:Int} {dn:List Wd} (hf:Fit H n) (hn:n<=400) (hi:1<=id/\id<=5) (hr:A6R r=true) (hm:id∈r.l) (hnt:A2q r.l≠id) (ht:0<=til/\til<=E3) (hl:H.k.ep<r.ep):
  ∃ H',H'.k=⟨H.k.b,H.k.pend,r.ep,H.k.ln⟩/\Fit H' (n+1)/\B9Y (lk id H r0 til0 dn) (O2 id r til) now=(lk id H' r til dn,[]):=by
 obtain⟨H',_,e2,e3,e4⟩:=B3T (now:=now) (r0:=r0) (til0:=til0) (dn:=dn) hf hn hi hr hm ht hl;refine⟨H',e2,e3,?_⟩;rw [e4,y7 (fun h=>hnt (beq_iff_eq.1 h.2))]
def R3 (ep:Int):Ros:=⟨ep,[1,2,3],0⟩
def l2 (H:Sh) (ep til:Int) (dn:List Wd):Lk:=lk 2 H (R3 ep) til dn
def B7I (L L1:Lk) (s:Int):Lk × List Wd:=((if L.k.seq<L1.k.seq then onL L1 L.k.seq else (L1,[])).1,(if L.k.seq<L1.k.seq then onL L1 L.k.seq else (L1,[])).2++A2M (if L.k.seq<L1.k.seq then onL L1 L.k.seq else (L1,[])).1 L.k.seq s)
theorem A6X {id:Int} {H:Sh} {n:Nat} {r:Ros} {til:Int} {dn:List Wd} (hf:Fit H n) (hn:n<=400) {m:Int} (hm:B3 m) (hs:m<=H.k.seq):∃ H',H'.k=N8 H.k (m-H.k.b.seq).toNat/\Fit H' (n+1)/\F8 (lk id H r til dn) m=lk id H' r til dn/\(E2 H m).2.1=(C2 H.k m).2:=by obtain⟨H',e1,e2,e3,_⟩:=hf.done hn hm hs;refine⟨H',e2,e3,?_,by rw [e1]⟩;show lk id (E2 H m).1 r til dn=_;rw [e1]
end Go.Proofs.YtefdfaeieekioaaGreatDoor
section
namespace Go.Proofs.YtefdfaeieekioaaGreatDoor
open Go.Vc Go.RowKit Go.Fl Go.ChangeShapes Go.WideShapes Go.ChangeAt
structure Op8 where
 kind:Int
 n:Int
 d:D
section
variable {H:Type} {enc:TypeId × Value->H} {w:World} {base:Nat} {spare:Nat->Bool} {held:Bool} {fuel:Nat} {cs:List Value} {x:DataW H × List MemPlace}
end
section
variable {H:Type} {enc:TypeId × Value->H} {W:World} {sp:Nat->Bool} {hd:Bool} {v:Value} {d:DataW H} {p:List MemPlace} {base:Nat}
end
end Go.Proofs.YtefdfaeieekioaaGreatDoor
end
