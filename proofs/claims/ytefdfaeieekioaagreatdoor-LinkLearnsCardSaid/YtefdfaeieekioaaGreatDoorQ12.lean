import Derived.Test.YtefdfaeieekioaaGreatDoorQ11
set_option maxRecDepth 100000
set_option maxHeartbeats 40000000
set_option linter.unusedVariables false
set_option linter.unusedSimpArgs false
namespace Go.Proofs.YtefdfaeieekioaaGreatDoor
open Go.Vc Go.RowKit Go.Fl Go.ChangeShapes Go.WideShapes Go.ChangeAt
theorem R9 (g:Lg) (L:Lk) (s:L.Ok) (E:L.done.length<=900000) (v:Wd) (I:v.kind=3) (N:v.to=L.id) (F:∀ d∈v.deeds,d.Ok) (x:WX) (n:Int) (C:A3m g n L) (S:Nat->Prop) (w:World) (J:∀ x,S x->x<w.heap.size) (G:EnvFree S w) (K:LinkK g L S w)
  (e:Nat->Prop) (P:∀ y,e y->y<w.heap.size/\¬ S y) (R:WdR v x e w):
  Calls Tryz.prog 51 #[.pointer (some ⟨g.gl,0,none⟩),.agg (wdC v x).toArray,.int .i64 n] w (RetWL S w (LinkK g (H9 L (N7 L v) n).1) (H9 L (N7 L v) n).2):=by
 obtain⟨A,cA,D,cD,css,B⟩:=K.seen;have h:=CtxF.enterO J B (LkO.stab g L A cA D cD css);have t:WdR (N7 L v) x e w:=R;refine vE Tryz.func51 ?_;refine h.n fun o a1 a0 h=>?_;refine vD (.Q [0,1,2,3,4,5,6,7,8,9] (.n 10 (.q 11 (.z 12)) .stop)) (fun c=>Blk c g.gl 85 (liC L g.gs A cA D cD)) ((h.row.right (LkO.stab g L A cA D cD css)).2.1) ?_;have h:=h.drew;refine⟨.int .i64 L.id,fun c z=>(Blk.cell z 0).trans rfl,.int .i64 L.r.ep,fun c z=>(Blk.cell z 2).trans rfl,h.s 0 rfl fun Q u h=>?_,t6⟩;refine⟨((h.row.right (LkO.stab g L A cA D cD css)).2.1),?_⟩;refine h.s 0 rfl fun Q u h=>?_;have h:=G4 h (l':=[(o,43,wdC (N7 L v) x)]) (by kernel_rfl);have B:=(h.row.right (LkO.stab g L A cA D cD css)).2.1;have r:=h;refine vD (.Q [0,1,2,3,4,5,6] .fin) (Old _) (Old.start _) ?_;have hk:=h.old0;have h:=h.drew;refine⟨_,fun x i=>Keeps.cell i (r.blk 0 rfl) (r.blk 0 rfl).lt rfl,_,fun c z=>Keeps.look z (B.cell 0),?_⟩;refine B5 (by show (v.to==L.id)=true;rw [beq_iff_eq];exact N) ?_;refine⟨wdC (N7 L v) x,rfl,h.cells 0 rfl,?_⟩;have h:=h.now (X:=Vc.Sep 0 (Keep w S) (LinkK g L)) (fun a=>a.mono (fun _ a=>a) fun _ a=>LkO.link a) (Vc.Sep.stab yq xa);obtain⟨l,m,b,p,f,O⟩:=h.row;have H:=A3i h b f G;refine⟨(B0t g L s E (N7 L v) I F x n C m _ (fun x i=>h.ctx.lt x (p x i).1) H O l (fun y k=>⟨h.ctx.lt y (b y k).1,(b y k).2⟩) (Keep.of f yz t P)).mono fun Z wq q=>?_⟩;have M:=q;obtain⟨T,W,Y,U,V,j,_⟩:=M;refine⟨_,j,?_⟩;rw [j] at q;exact h.tailW0 xa b f q
def A4o (L:Lk) (d:D):Wd:=⟨3,0,A1w L.r.l,0,0,0,0,r00,Ros0,[d],Stt0⟩
theorem A8U (b:Lg) (L:Lk) (T:L.Ok) (W:L.done.length<=900000) (d:D) (hd:d.Ok) (now:Int) (U:A3m b now L) (c:Nat->Prop) (w:World) (a5:∀ x,c x->x<w.heap.size) (Y:EnvFree c w) (hK:LinkK b L c w):
  Calls Tryz.prog 20 #[.pointer (some ⟨b.gl,0,none⟩),.agg (dC d).toArray,.int .i64 now] w (RetWL c w (LinkK b (T7 L d now).1) (T7 L d now).2):=by
 obtain⟨A,cA,D,cD,css,hB⟩:=hK.seen;have s:=fun L=>LkO.stab b L A cA D cD css;have a2:∀ {S:Nat->Prop} {w1:World} {l:List LB} {os:List OR},CtxF no (bare w) S w1 l os (Vc.Sep 0 (Keep w c) (LkO b L A cA D cD css))->RetWL c w (LinkK b L) [] (.returned (.slice none 0 0)) w1:=fun h=>RetWL.nil ((h.now (fun a=>a.mono (fun _ a=>a) fun _ a=>LkO.link a) (Vc.Sep.stab yq xa)).endO _) rfl;have h:=CtxF.enterO a5 hB (s L);obtain⟨a3,z⟩:∃ a3,a3=T7 L d now:=⟨_,rfl⟩;rw [<-z];unfold T7 at z;refine vE Tryz.func20 ?_;refine h.n fun g4 a9 a8 h=>?_;refine⟨.bool false,fun w=>B0n b.gl _ _ w,_,(h.row.right (s L)).2.1.cell 2,?_⟩;by_cases a1:L.r.ep=0
 ·rw [yn (.inl a1)] at z;subst z;refine B5 (by show (L.r.ep==0)=true;rw [a1];rfl) ?_;exact a2 h
 refine B4 (by show (L.r.ep==0)=false;rw [ya];exact a1) ?_;refine⟨dC d,rfl,h.cells 0 rfl,?_⟩;have a7:=A0z d hd;obtain⟨b1,e⟩:∃ a4,a4=M0 d:=⟨_,rfl⟩;rw [<-e] at z;have a6:=fun w=>(e▸a7 w:Calls Tryz.prog 50 #[.agg (dC d).toArray] w (D4 (.bool b1) w));refine h.q (a6 _) fun u Q h=>?_;cases b1 with
 | false=>
  rw [yn (.inr rfl)] at z;subst z;exact a2 h
 | true=>
 rw [yo (fun a=>a.elim a1 (by decide))] at z;have v:∀ g,wdC (A4o L d) ⟨none,0,some ⟨g,0,none⟩,1,SX0⟩=[.int .i64 3,.int .i64 0,.int .i64 (A1w L.r.l),.int .i64 0,.int .i64 0,.int .i64 0,.int .i64 0,.int .i64 0,.int .i64 0,.int .i64 0,.slice none 0 0,.int .i64 0,.slice (some ⟨g,0,none⟩) 1 1,.int .i64 0,.slice none 0 0,.slice none 0 0,.int .i64 0,.int .i64 0,.int .i64 0,.int .i64 0,.int .i64 0]:=fun g=>by kernel_rfl
 have V:∀ d'∈(A4o L d).deeds,d'.Ok:=fun d' a=>by rw [List.mem_singleton.1 a];exact hd
 by_cases t:A1w L.r.l=L.id
 ·rw [yn t] at z;subst z;refine vD (.Q [0,1,2,3,9] (.n 4 (.n 5 (.n 6 (.n 7 (.q 8 (.n 10 (.q 11 .fin) .stop)) .stop) .stop) (.n 6 (.n 5 (.n 7 (.q 8 (.n 10 (.q 11 .fin) .stop)) .stop) (.n 7 (.n 5 (.q 8 (.n 10 (.q 11 .fin) .stop)) .stop) .stop)) .stop)) (.n 6 (.n 4 (.n 5 (.n 7 (.q 8 (.n 10 (.q 11 .fin) .stop)) .stop) (.n 7 (.n 5 (.q 8 (.n 10 (.q 11 .fin) .stop)) .stop) .stop)) (.n 7 (.n 4 (.n 5 (.q 8 (.n 10 (.q 11 .fin) .stop)) .stop) .stop) .stop)) .stop))) (fun _=>True) trivial ?_;have h:=h.drew;refine⟨?_,?_⟩
  ·skip
   refine⟨M1 L.r A cA,rfl,Blk.part (h.row.right (s L)).2.1 2 (M1 L.r A cA) rfl,t6,?_,?_⟩
   ·skip
    refine h.q' (F7 (h.row.right (s L)).ros) fun u Q h=>?_;refine⟨⟨dC d,rfl,h.cells 0 rfl,t6,?_⟩,t6⟩;refine⟨fun g P j=>?_,t6⟩;have h:=h.made j 8 1 rfl (by decide);refine⟨t6,?_,t6⟩;have h:=h.now (X:=Vc.Sep 0 (fun S w'=>Keep w c S w'/\True) (LinkK b L)) (fun a=>a.mono (fun _ a=>⟨a,t6⟩) fun _ a=>LkO.link a) (Vc.Sep.stab (yq.and Stab.true) xa);obtain⟨B,h⟩:=h.toldB Stab.true xa;obtain⟨m,C,f,F,i,O⟩:=h.row;have H:=A3i h f i.1 Y;have M:WdR (A4o L d) ⟨none,0,some ⟨g,0,none⟩,1,SX0⟩ m _:=⟨⟨Ros0.rep _ _,i.2.2.plain H8⟩,T3 _ _⟩;have p:=R9 b L T W (A4o L d) rfl t V ⟨none,0,some ⟨g,0,none⟩,1,SX0⟩ now U C _ (fun x N=>h.ctx.lt x (F x N).1) H O m (fun y o=>⟨h.ctx.lt y (f y o).1,(f y o).2⟩) M;rw [v] at p;refine⟨p.mono fun E R q=>?_⟩;have J:=q;obtain⟨k,n,a0,Z,Sn,e,_⟩:=J;refine⟨_,e,t6,?_⟩;rw [e] at q;exact h.tailW f i.1 q
   refine⟨⟨dC d,rfl,h.cells 0 rfl,t6,?_⟩,t6⟩;refine⟨?_,?_⟩
   ·skip
    refine h.q' (F7 (h.row.right (s L)).ros) fun u Q h=>?_;refine⟨fun g P j=>?_,t6⟩;have h:=h.made j 8 1 rfl (by decide);refine⟨t6,?_,t6⟩;have h:=h.now (X:=Vc.Sep 0 (fun S w'=>Keep w c S w'/\True) (LinkK b L)) (fun a=>a.mono (fun _ a=>⟨a,t6⟩) fun _ a=>LkO.link a) (Vc.Sep.stab (yq.and Stab.true) xa);obtain⟨B,h⟩:=h.toldB Stab.true xa;obtain⟨m,C,f,F,i,O⟩:=h.row;have H:=A3i h f i.1 Y;have M:WdR (A4o L d) ⟨none,0,some ⟨g,0,none⟩,1,SX0⟩ m _:=⟨⟨Ros0.rep _ _,i.2.2.plain H8⟩,T3 _ _⟩;have p:=R9 b L T W (A4o L d) rfl t V ⟨none,0,some ⟨g,0,none⟩,1,SX0⟩ now U C _ (fun x N=>h.ctx.lt x (F x N).1) H O m (fun y o=>⟨h.ctx.lt y (f y o).1,(f y o).2⟩) M;rw [v] at p;refine⟨p.mono fun E R q=>?_⟩;have J:=q;obtain⟨k,n,a0,Z,Sn,e,_⟩:=J;refine⟨_,e,t6,?_⟩;rw [e] at q;exact h.tailW f i.1 q
   refine⟨fun g P j=>?_,t6⟩;have h:=h.made j 8 1 rfl (by decide);refine⟨t6,h.q' (F7 (h.row.right (s L)).ros) fun u Q h=>?_,t6⟩;refine⟨?_,t6⟩;have h:=h.now (X:=Vc.Sep 0 (fun S w'=>Keep w c S w'/\True) (LinkK b L)) (fun a=>a.mono (fun _ a=>⟨a,t6⟩) fun _ a=>LkO.link a) (Vc.Sep.stab (yq.and Stab.true) xa);obtain⟨B,h⟩:=h.toldB Stab.true xa;obtain⟨m,C,f,F,i,O⟩:=h.row;have H:=A3i h f i.1 Y;have M:WdR (A4o L d) ⟨none,0,some ⟨g,0,none⟩,1,SX0⟩ m _:=⟨⟨Ros0.rep _ _,i.2.2.plain H8⟩,T3 _ _⟩;have p:=R9 b L T W (A4o L d) rfl t V ⟨none,0,some ⟨g,0,none⟩,1,SX0⟩ now U C _ (fun x N=>h.ctx.lt x (F x N).1) H O m (fun y o=>⟨h.ctx.lt y (f y o).1,(f y o).2⟩) M;rw [v] at p;refine⟨p.mono fun E R q=>?_⟩;have J:=q;obtain⟨k,n,a0,Z,Sn,e,_⟩:=J;refine⟨_,e,t6,?_⟩;rw [e] at q;exact h.tailW f i.1 q
  refine⟨⟨dC d,rfl,h.cells 0 rfl,t6,?_⟩,t6⟩;refine⟨?_,?_⟩
  ·skip
   refine⟨M1 L.r A cA,rfl,Blk.part (h.row.right (s L)).2.1 2 (M1 L.r A cA) rfl,t6,?_,?_⟩
   ·skip
    refine h.q' (F7 (h.row.right (s L)).ros) fun u Q h=>?_;refine⟨fun g P j=>?_,t6⟩;have h:=h.made j 8 1 rfl (by decide);refine⟨t6,?_,t6⟩;have h:=h.now (X:=Vc.Sep 0 (fun S w'=>Keep w c S w'/\True) (LinkK b L)) (fun a=>a.mono (fun _ a=>⟨a,t6⟩) fun _ a=>LkO.link a) (Vc.Sep.stab (yq.and Stab.true) xa);obtain⟨B,h⟩:=h.toldB Stab.true xa;obtain⟨m,C,f,F,i,O⟩:=h.row;have H:=A3i h f i.1 Y;have M:WdR (A4o L d) ⟨none,0,some ⟨g,0,none⟩,1,SX0⟩ m _:=⟨⟨Ros0.rep _ _,i.2.2.plain H8⟩,T3 _ _⟩;have p:=R9 b L T W (A4o L d) rfl t V ⟨none,0,some ⟨g,0,none⟩,1,SX0⟩ now U C _ (fun x N=>h.ctx.lt x (F x N).1) H O m (fun y o=>⟨h.ctx.lt y (f y o).1,(f y o).2⟩) M;rw [v] at p;refine⟨p.mono fun E R q=>?_⟩;have J:=q;obtain⟨k,n,a0,Z,Sn,e,_⟩:=J;refine⟨_,e,t6,?_⟩;rw [e] at q;exact h.tailW f i.1 q
   refine⟨fun g P j=>?_,t6⟩;have h:=h.made j 8 1 rfl (by decide);refine⟨t6,h.q' (F7 (h.row.right (s L)).ros) fun u Q h=>?_,t6⟩;refine⟨?_,t6⟩;have h:=h.now (X:=Vc.Sep 0 (fun S w'=>Keep w c S w'/\True) (LinkK b L)) (fun a=>a.mono (fun _ a=>⟨a,t6⟩) fun _ a=>LkO.link a) (Vc.Sep.stab (yq.and Stab.true) xa);obtain⟨B,h⟩:=h.toldB Stab.true xa;obtain⟨m,C,f,F,i,O⟩:=h.row;have H:=A3i h f i.1 Y;have M:WdR (A4o L d) ⟨none,0,some ⟨g,0,none⟩,1,SX0⟩ m _:=⟨⟨Ros0.rep _ _,i.2.2.plain H8⟩,T3 _ _⟩;have p:=R9 b L T W (A4o L d) rfl t V ⟨none,0,some ⟨g,0,none⟩,1,SX0⟩ now U C _ (fun x N=>h.ctx.lt x (F x N).1) H O m (fun y o=>⟨h.ctx.lt y (f y o).1,(f y o).2⟩) M;rw [v] at p;refine⟨p.mono fun E R q=>?_⟩;have J:=q;obtain⟨k,n,a0,Z,Sn,e,_⟩:=J;refine⟨_,e,t6,?_⟩;rw [e] at q;exact h.tailW f i.1 q
  refine⟨fun g P j=>?_,t6⟩;have h:=h.made j 8 1 rfl (by decide);refine⟨t6,⟨M1 L.r A cA,rfl,Blk.part (h.row.right (s L)).2.1 2 (M1 L.r A cA) rfl,t6,?_⟩,t6⟩;refine⟨h.q' (F7 (h.row.right (s L)).ros) fun u Q h=>?_,t6⟩;refine⟨?_,t6⟩;have h:=h.now (X:=Vc.Sep 0 (fun S w'=>Keep w c S w'/\True) (LinkK b L)) (fun a=>a.mono (fun _ a=>⟨a,t6⟩) fun _ a=>LkO.link a) (Vc.Sep.stab (yq.and Stab.true) xa);obtain⟨B,h⟩:=h.toldB Stab.true xa;obtain⟨m,C,f,F,i,O⟩:=h.row;have H:=A3i h f i.1 Y;have M:WdR (A4o L d) ⟨none,0,some ⟨g,0,none⟩,1,SX0⟩ m _:=⟨⟨Ros0.rep _ _,i.2.2.plain H8⟩,T3 _ _⟩;have p:=R9 b L T W (A4o L d) rfl t V ⟨none,0,some ⟨g,0,none⟩,1,SX0⟩ now U C _ (fun x N=>h.ctx.lt x (F x N).1) H O m (fun y o=>⟨h.ctx.lt y (f y o).1,(f y o).2⟩) M;rw [v] at p;refine⟨p.mono fun E R q=>?_⟩;have J:=q;obtain⟨k,n,a0,Z,Sn,e,_⟩:=J;refine⟨_,e,t6,?_⟩;rw [e] at q;exact h.tailW f i.1 q
 rw [yo t] at z;subst z;refine vD (.Q [0,1,2,3,9] (.n 4 (.n 5 (.n 6 (.n 7 (.q 8 (.n 10 (.q 11 .fin) .stop)) .stop) .stop) (.n 6 (.n 5 (.n 7 (.q 8 (.n 10 (.q 11 .fin) .stop)) .stop) (.n 7 (.n 5 (.q 8 (.n 10 (.q 11 .fin) .stop)) .stop) .stop)) .stop)) (.n 6 (.n 4 (.n 5 (.n 7 (.q 8 (.n 10 (.q 11 .fin) .stop)) .stop) (.n 7 (.n 5 (.q 8 (.n 10 (.q 11 .fin) .stop)) .stop) .stop)) (.n 7 (.n 4 (.n 5 (.q 8 (.n 10 (.q 11 .fin) .stop)) .stop) .stop) .stop)) .stop))) (fun _=>True) trivial ?_;have h:=h.drew;refine⟨?_,?_⟩
 ·skip
  refine⟨M1 L.r A cA,rfl,Blk.part (h.row.right (s L)).2.1 2 (M1 L.r A cA) rfl,t6,?_,?_⟩
  ·skip
   refine h.q' (F7 (h.row.right (s L)).ros) fun u Q h=>?_;refine⟨⟨dC d,rfl,h.cells 0 rfl,t6,?_⟩,t6⟩;refine⟨fun g P j=>?_,t6⟩;have h:=h.made j 8 1 rfl (by decide);refine⟨t6,?_,t6⟩;have h:=h.now (X:=Vc.Sep 0 (fun S w'=>Keep w c S w'/\True) (LinkK b L)) (fun a=>a.mono (fun _ a=>⟨a,t6⟩) fun _ a=>LkO.link a) (Vc.Sep.stab (yq.and Stab.true) xa);obtain⟨B,h⟩:=h.toldB Stab.true xa;have r:=K6 b L (A4o L d) ⟨none,0,some ⟨g,0,none⟩,1,SX0⟩ t now _ _ h.ctx.lt (h.row.right xa);rw [v] at r;refine⟨r.mono fun E R q=>?_⟩;obtain⟨k,n,e,G,I⟩:=q;have h:=h.fresh G I;refine⟨_,e,t6,?_⟩;have h:=h.castOs (os':=[orW [H5 L d] k n [wdC (H5 L d) ⟨none,0,some ⟨g,0,none⟩,1,SX0⟩]]) (by unfold orW;rw [List.flatten_singleton];rfl);have h:=h.now (X:=Vc.Sep 0 (fun S w'=>Keep w c S w'/\Fresh w c (WsR [H5 L d] [wdC (H5 L d) ⟨none,0,some ⟨g,0,none⟩,1,SX0⟩]) S w') (LinkK b L)) (fun a=>a.mono (fun _ a=>⟨a.1,a.2.2.mono fun S K=>⟨_,[],rfl,⟨⟨Ros0.rep _ _,K⟩,T3 _ _⟩,rfl⟩⟩) fun _ a=>a) (Vc.Sep.stab (yq.and (Fresh.stab (WsR.stab _ _))) xa);exact h.endW
  refine⟨⟨dC d,rfl,h.cells 0 rfl,t6,?_⟩,t6⟩;refine⟨?_,?_⟩
  ·skip
   refine h.q' (F7 (h.row.right (s L)).ros) fun u Q h=>?_;refine⟨fun g P j=>?_,t6⟩;have h:=h.made j 8 1 rfl (by decide);refine⟨t6,?_,t6⟩;have h:=h.now (X:=Vc.Sep 0 (fun S w'=>Keep w c S w'/\True) (LinkK b L)) (fun a=>a.mono (fun _ a=>⟨a,t6⟩) fun _ a=>LkO.link a) (Vc.Sep.stab (yq.and Stab.true) xa);obtain⟨B,h⟩:=h.toldB Stab.true xa;have r:=K6 b L (A4o L d) ⟨none,0,some ⟨g,0,none⟩,1,SX0⟩ t now _ _ h.ctx.lt (h.row.right xa);rw [v] at r;refine⟨r.mono fun E R q=>?_⟩;obtain⟨k,n,e,G,I⟩:=q;have h:=h.fresh G I;refine⟨_,e,t6,?_⟩;have h:=h.castOs (os':=[orW [H5 L d] k n [wdC (H5 L d) ⟨none,0,some ⟨g,0,none⟩,1,SX0⟩]]) (by unfold orW;rw [List.flatten_singleton];rfl);have h:=h.now (X:=Vc.Sep 0 (fun S w'=>Keep w c S w'/\Fresh w c (WsR [H5 L d] [wdC (H5 L d) ⟨none,0,some ⟨g,0,none⟩,1,SX0⟩]) S w') (LinkK b L)) (fun a=>a.mono (fun _ a=>⟨a.1,a.2.2.mono fun S K=>⟨_,[],rfl,⟨⟨Ros0.rep _ _,K⟩,T3 _ _⟩,rfl⟩⟩) fun _ a=>a) (Vc.Sep.stab (yq.and (Fresh.stab (WsR.stab _ _))) xa);exact h.endW
  refine⟨fun g P j=>?_,t6⟩;have h:=h.made j 8 1 rfl (by decide);refine⟨t6,h.q' (F7 (h.row.right (s L)).ros) fun u Q h=>?_,t6⟩;refine⟨?_,t6⟩;have h:=h.now (X:=Vc.Sep 0 (fun S w'=>Keep w c S w'/\True) (LinkK b L)) (fun a=>a.mono (fun _ a=>⟨a,t6⟩) fun _ a=>LkO.link a) (Vc.Sep.stab (yq.and Stab.true) xa);obtain⟨B,h⟩:=h.toldB Stab.true xa;have r:=K6 b L (A4o L d) ⟨none,0,some ⟨g,0,none⟩,1,SX0⟩ t now _ _ h.ctx.lt (h.row.right xa);rw [v] at r;refine⟨r.mono fun E R q=>?_⟩;obtain⟨k,n,e,G,I⟩:=q;have h:=h.fresh G I;refine⟨_,e,t6,?_⟩;have h:=h.castOs (os':=[orW [H5 L d] k n [wdC (H5 L d) ⟨none,0,some ⟨g,0,none⟩,1,SX0⟩]]) (by unfold orW;rw [List.flatten_singleton];rfl);have h:=h.now (X:=Vc.Sep 0 (fun S w'=>Keep w c S w'/\Fresh w c (WsR [H5 L d] [wdC (H5 L d) ⟨none,0,some ⟨g,0,none⟩,1,SX0⟩]) S w') (LinkK b L)) (fun a=>a.mono (fun _ a=>⟨a.1,a.2.2.mono fun S K=>⟨_,[],rfl,⟨⟨Ros0.rep _ _,K⟩,T3 _ _⟩,rfl⟩⟩) fun _ a=>a) (Vc.Sep.stab (yq.and (Fresh.stab (WsR.stab _ _))) xa);exact h.endW
 refine⟨⟨dC d,rfl,h.cells 0 rfl,t6,?_⟩,t6⟩;refine⟨?_,?_⟩
 ·skip
  refine⟨M1 L.r A cA,rfl,Blk.part (h.row.right (s L)).2.1 2 (M1 L.r A cA) rfl,t6,?_,?_⟩
  ·skip
   refine h.q' (F7 (h.row.right (s L)).ros) fun u Q h=>?_;refine⟨fun g P j=>?_,t6⟩;have h:=h.made j 8 1 rfl (by decide);refine⟨t6,?_,t6⟩;have h:=h.now (X:=Vc.Sep 0 (fun S w'=>Keep w c S w'/\True) (LinkK b L)) (fun a=>a.mono (fun _ a=>⟨a,t6⟩) fun _ a=>LkO.link a) (Vc.Sep.stab (yq.and Stab.true) xa);obtain⟨B,h⟩:=h.toldB Stab.true xa;have r:=K6 b L (A4o L d) ⟨none,0,some ⟨g,0,none⟩,1,SX0⟩ t now _ _ h.ctx.lt (h.row.right xa);rw [v] at r;refine⟨r.mono fun E R q=>?_⟩;obtain⟨k,n,e,G,I⟩:=q;have h:=h.fresh G I;refine⟨_,e,t6,?_⟩;have h:=h.castOs (os':=[orW [H5 L d] k n [wdC (H5 L d) ⟨none,0,some ⟨g,0,none⟩,1,SX0⟩]]) (by unfold orW;rw [List.flatten_singleton];rfl);have h:=h.now (X:=Vc.Sep 0 (fun S w'=>Keep w c S w'/\Fresh w c (WsR [H5 L d] [wdC (H5 L d) ⟨none,0,some ⟨g,0,none⟩,1,SX0⟩]) S w') (LinkK b L)) (fun a=>a.mono (fun _ a=>⟨a.1,a.2.2.mono fun S K=>⟨_,[],rfl,⟨⟨Ros0.rep _ _,K⟩,T3 _ _⟩,rfl⟩⟩) fun _ a=>a) (Vc.Sep.stab (yq.and (Fresh.stab (WsR.stab _ _))) xa);exact h.endW
  refine⟨fun g P j=>?_,t6⟩;have h:=h.made j 8 1 rfl (by decide);refine⟨t6,h.q' (F7 (h.row.right (s L)).ros) fun u Q h=>?_,t6⟩;refine⟨?_,t6⟩;have h:=h.now (X:=Vc.Sep 0 (fun S w'=>Keep w c S w'/\True) (LinkK b L)) (fun a=>a.mono (fun _ a=>⟨a,t6⟩) fun _ a=>LkO.link a) (Vc.Sep.stab (yq.and Stab.true) xa);obtain⟨B,h⟩:=h.toldB Stab.true xa;have r:=K6 b L (A4o L d) ⟨none,0,some ⟨g,0,none⟩,1,SX0⟩ t now _ _ h.ctx.lt (h.row.right xa);rw [v] at r;refine⟨r.mono fun E R q=>?_⟩;obtain⟨k,n,e,G,I⟩:=q;have h:=h.fresh G I;refine⟨_,e,t6,?_⟩;have h:=h.castOs (os':=[orW [H5 L d] k n [wdC (H5 L d) ⟨none,0,some ⟨g,0,none⟩,1,SX0⟩]]) (by unfold orW;rw [List.flatten_singleton];rfl);have h:=h.now (X:=Vc.Sep 0 (fun S w'=>Keep w c S w'/\Fresh w c (WsR [H5 L d] [wdC (H5 L d) ⟨none,0,some ⟨g,0,none⟩,1,SX0⟩]) S w') (LinkK b L)) (fun a=>a.mono (fun _ a=>⟨a.1,a.2.2.mono fun S K=>⟨_,[],rfl,⟨⟨Ros0.rep _ _,K⟩,T3 _ _⟩,rfl⟩⟩) fun _ a=>a) (Vc.Sep.stab (yq.and (Fresh.stab (WsR.stab _ _))) xa);exact h.endW
 refine⟨fun g P j=>?_,t6⟩;have h:=h.made j 8 1 rfl (by decide);refine⟨t6,⟨M1 L.r A cA,rfl,Blk.part (h.row.right (s L)).2.1 2 (M1 L.r A cA) rfl,t6,?_⟩,t6⟩;refine⟨h.q' (F7 (h.row.right (s L)).ros) fun u Q h=>?_,t6⟩;refine⟨?_,t6⟩;have h:=h.now (X:=Vc.Sep 0 (fun S w'=>Keep w c S w'/\True) (LinkK b L)) (fun a=>a.mono (fun _ a=>⟨a,t6⟩) fun _ a=>LkO.link a) (Vc.Sep.stab (yq.and Stab.true) xa);obtain⟨B,h⟩:=h.toldB Stab.true xa;have r:=K6 b L (A4o L d) ⟨none,0,some ⟨g,0,none⟩,1,SX0⟩ t now _ _ h.ctx.lt (h.row.right xa);rw [v] at r;refine⟨r.mono fun E R q=>?_⟩;obtain⟨k,n,e,G,I⟩:=q;have h:=h.fresh G I;refine⟨_,e,t6,?_⟩;have h:=h.castOs (os':=[orW [H5 L d] k n [wdC (H5 L d) ⟨none,0,some ⟨g,0,none⟩,1,SX0⟩]]) (by unfold orW;rw [List.flatten_singleton];rfl);have h:=h.now (X:=Vc.Sep 0 (fun S w'=>Keep w c S w'/\Fresh w c (WsR [H5 L d] [wdC (H5 L d) ⟨none,0,some ⟨g,0,none⟩,1,SX0⟩]) S w') (LinkK b L)) (fun a=>a.mono (fun _ a=>⟨a.1,a.2.2.mono fun S K=>⟨_,[],rfl,⟨⟨Ros0.rep _ _,K⟩,T3 _ _⟩,rfl⟩⟩) fun _ a=>a) (Vc.Sep.stab (yq.and (Fresh.stab (WsR.stab _ _))) xa);exact h.endW
end Go.Proofs.YtefdfaeieekioaaGreatDoor
section
namespace Go.Proofs.YtefdfaeieekioaaGreatDoor
open Go.Vc Go.RowKit Go.Fl Go.ChangeShapes Go.WideShapes Go.ChangeAt
section
variable {g:Lg} {L:Lk} {A:Option Addr} {cA:Nat} {D:Option Addr} {cD:Nat} {css:List (List Value)} {w w1:World} {S Sx:Nat->Prop} {l:List LB} {os:List OR}
def B0w (L:Lk) (H:Sh):Lk:={ L with H:=H }
theorem B0x (n:Int) (k:L.Ok) (q:B9 n) (o:EnvFree Sx w) (h:CtxF no (bare w) S w1 l os (Vc.Sep 0 (Keep w Sx) (LkO g L A cA D cD css))):
  Calls Tryz.prog 94 #[.pointer (some ⟨g.gs,0,none⟩),.int .i64 n] w1 (fun e t=>∃ f,e=.returned (.int .i64 (enterH L.H n).2)/\CtxF no (bare w) f t l os (Vc.Sep 0 (Keep w Sx) (LkO g (B0w L (enterH L.H n).1) A cA D cD css))):=by
 have h:=h.now (X:=Vc.Sep 0 (Vc.Sep 0 (Keep w Sx) (HdK g.gl 85 (liC L g.gs A cA D cD) (LiR L A cA D cD css))) (ShelfK g.gs g.gj g.gc g.b L.H)) (fun a=>LkO.open a) (Vc.Sep.stab (Vc.Sep.stab yq (HdK.stab xb)) yw);obtain⟨u,i,b,c,d,O⟩:=h.row;have p:=A3i h b (d.left (Keep.stab w Sx)) o;refine (B0i g.gs g.gj g.gc g.b L.H k.H n q i _ (fun x s=>h.ctx.lt x (c x s).1) p O).mono fun e y r=>?_;obtain⟨j,T,v,m,O⟩:=r;have h:=h.turnO (Vc.Sep.stab yq (HdK.stab xb)) b c d T m O yw;exact⟨_,j,h.now (fun a=>(Vc.Sep.outer a).mono (fun _ a=>a) fun _ a=>Vc.Sep.obj a) (Vc.Sep.stab yq x8)⟩
theorem B0y (v:Wd) (x:WX) (r:L.Ok) (E:∀ p∈v.st.l,U7 p.key) (z:∀ d∈v.deeds,d.Ok) (B:v.deeds.length<=100000) (t:EnvFree Sx w) (e:Nat->Prop) (F:∀ y,e y->y<w.heap.size/\¬ Sx y) (R:WdR v x e w) (h:CtxF no (bare w) S w1 l os (Vc.Sep 0 (Keep w Sx) (LkO g L A cA D cD css))):
  Calls Tryz.prog 161 #[.pointer (some ⟨g.gs,0,none⟩),.agg (stX v.st x.y).toArray,.slice x.B v.deeds.length x.cB] w1 (fun n H=>∃ k,n=.returned (.int .i64 (T6 L.H v.st v.deeds).2)/\CtxF no (bare w) k H l os (Vc.Sep 0 (Keep w Sx) (LkO g (B0w L (T6 L.H v.st v.deeds).1) A cA D cD css))):=by
 have h:=h.now (X:=Vc.Sep 0 (Vc.Sep 0 (Keep w Sx) (HdK g.gl 85 (liC L g.gs A cA D cD) (LiR L A cA D cD css))) (ShelfK g.gs g.gj g.gc g.b L.H)) (fun a=>LkO.open a) (Vc.Sep.stab (Vc.Sep.stab yq (HdK.stab xb)) yw);obtain⟨m,o,b,f,c,O⟩:=h.row;have u:=A3i h b (c.left (Keep.stab w Sx)) t;have i:=Keep.of (c.left (Keep.stab w Sx)) yz R F;refine (B0k g.gs g.gj g.gc g.b L.H r.H v.st E v.deeds z B x.y x.B x.cB o _ (fun x G=>h.ctx.lt x (f x G).1) u O m (fun y j=>⟨h.ctx.lt y (b y j).1,(b y j).2⟩) i.2 i.1.2).mono fun n J C=>?_;obtain⟨q,T,I,s,O⟩:=C;have h:=h.turnO (Vc.Sep.stab yq (HdK.stab xb)) b f c T s O yw;exact⟨_,q,h.now (fun a=>(Vc.Sep.outer a).mono (fun _ a=>a) fun _ a=>Vc.Sep.obj a) (Vc.Sep.stab yq x8)⟩
end
end Go.Proofs.YtefdfaeieekioaaGreatDoor
end
namespace Go.Proofs.YtefdfaeieekioaaGreatDoor
open Go.Vc Go.RowKit Go.Fl Go.ChangeShapes Go.WideShapes Go.ChangeAt
theorem B3m {H:Sh} {b:Stt} {p:List D} (h:H.Ok) (a:b.lows.length=5) (e:∀ d∈p,d.Ok):(T6 H b p).1.Ok:=by
 unfold T6;split
 ·exact h
 split
 ·exact h
 rename_i c;have k:=A5f h a e c;show (B4n H ⟨b,p,H.k.ep,H.k.ep⟩).Ok;unfold B4n;split
 ·exact h.fell
 ·exact h.lay k (by omega)
theorem A8V (g:Lg) (L:Lk) (o:L.Ok) (v:Wd) (k:WX) (b4:∀ a2∈v.st.l,U7 a2.key) (Y:∀ d∈v.deeds,d.Ok) (b2:v.deeds.length<=100000) (now:Int) (x:Nat->Prop) (w:World) (a8:∀ k,x k->k<w.heap.size) (N:EnvFree x w) (hK:LinkK g L x w)
  (I:Nat->Prop) (b5:∀ K,I K->K<w.heap.size/\¬ x K) (R:WdR v k I w):
  Calls Tryz.prog 97 #[.pointer (some ⟨g.gl,0,none⟩),.agg (wdC v k).toArray,.int .i64 now] w (RetWL x w (LinkK g (A10 L v now).1) (A10 L v now).2):=by
 obtain⟨A,cA,D,cD,css,hB⟩:=hK.seen;have s:=fun L=>LkO.stab g L A cA D cD css;have r:∀ {L:Lk} {S:Nat->Prop} {w1:World} {l:List LB} {os:List OR},CtxF no (bare w) S w1 l os (Vc.Sep 0 (Keep w x) (LkO g L A cA D cD css))->RetWL x w (LinkK g L) [] (.returned (.slice none 0 0)) w1:=fun h=>RetWL.nil ((h.now (fun a=>a.mono (fun _ a=>a) fun _ a=>LkO.link a) (Vc.Sep.stab yq xa)).endO _) rfl;have h:=CtxF.enterO a8 hB (s L);obtain⟨e,z⟩:∃ e,e=A10 L v now:=⟨_,rfl⟩;rw [<-z];unfold A10 at z;obtain⟨f,P⟩:∃ f,f=A0V L:=⟨_,rfl⟩;rw [<-P] at z;obtain⟨p,E⟩:∃ c,c=T6 L.H v.st v.deeds:=⟨_,rfl⟩;obtain⟨i,u⟩:∃ i,i=B0w L p.1:=⟨_,rfl⟩;obtain⟨b,C⟩:∃ b,b=E3 i i.H.k.seq:=⟨_,rfl⟩;have h5:v.st.lows.length=5:=R.2.five;have y:i.Ok:=by rw [u,E];exact⟨o.id,B3m o.H h5 Y,o.r,o.nd,o.til⟩
 have J:b.Ok:=C▸y.commit y.seq;have a3:∀ w,Blk w g.gl 85 (liC i g.gs A cA D cD)->Blk w g.gl 85 (liC L g.gs A cA D cD):=by rw [u];exact fun w a=>a
 have a4:∀ w,Blk w g.gl 85 (liC b g.gs A cA D cD)->Blk w g.gl 85 (liC i g.gs A cA D cD):=by rw [C];exact fun w a=>a
 refine vE Tryz.func97 ?_;refine h.n fun g4 c1 b8 h=>?_;refine vD (.Q [0,1,2,3,4,5,6,7,8,9,10,11,12,13,14,15,16,17,18,19,20] (.n 21 (.Q [22,23,24,25] (.n 26 (.Q [27,28,29,30,31,32,33,34,35,36,37,38,39,40,41,42,43,44] (.n 45 (.Q [46,47] .fin) .stop)) .stop)) .stop)) (fun e=>Blk e g.gl 85 (liC L g.gs A cA D cD)/\Blk e g4 43 (wdC v k)) ⟨(h.row.right (s L)).2.1,h.blk 0 rfl⟩ ?_;have h:=h.drew;refine⟨.int .i64 L.r.new,fun e z=>(Blk.cell z.1 4).trans rfl,.int .i64 L.id,fun e z=>(Blk.cell z.1 0).trans rfl,?_⟩;by_cases G:L.r.new=L.id;rotate_left
 ·rw [yn (.inl G)] at z;subst z;refine B5 (by show (L.r.new != L.id)=true;rw [bne_iff_ne];exact G) ?_;refine⟨?_,t6⟩;refine⟨?_,t6⟩;refine⟨?_,t6⟩;exact r h
 refine B4 (by show (L.r.new != L.id)=false;rw [bne_eq_false_iff_eq];exact G) ?_;refine⟨.int .i64 v.frm,fun e z=>(Blk.cell z.2 1).trans rfl,M1 L.r A cA,rfl,fun e z=>Blk.part z.1 2 (M1 L.r A cA) rfl,.int .i64 L.id,fun e z=>(Blk.cell z.1 0).trans rfl,?_⟩;have Z:=A4g L.id (h.row.right (s L)).ros;rw [show A2J L.r.l L.id=f from P.symm] at Z;refine⟨h.q Z fun wQ Q h=>?_,t6⟩;refine⟨⟨(h.row.right (s L)).2.1,h.blk 0 rfl⟩,?_⟩;by_cases F:v.frm=f;rotate_left
 ·rw [yn (.inr (.inl F))] at z;subst z;refine B5 (by show (v.frm != f)=true;rw [bne_iff_ne];exact F) ?_;refine⟨?_,t6⟩;refine⟨?_,t6⟩;exact r h
 refine B4 (by show (v.frm != f)=false;rw [bne_eq_false_iff_eq];exact F) ?_;have U:=A11 g L _ _ (h.row.right (s L)).link h.ctx.lt;obtain⟨b1,j⟩:∃ a1,a1=L7 L:=⟨_,rfl⟩;rw [<-j] at U z;refine⟨h.q U fun c0 b7 h=>?_,t6⟩;refine⟨⟨(h.row.right (s L)).2.1,h.blk 0 rfl⟩,?_⟩;cases b1 with
 | true=>
  rw [yn (.inr (.inr (.inl rfl)))] at z;subst z;refine⟨?_,t6⟩;exact r h
 | false=>
 refine⟨.int .i64 L.til,fun e z=>(Blk.cell z.1 5).trans rfl,?_⟩;by_cases H:L.til<now
 ·rw [yn (.inr (.inr (.inr H)))] at z;subst z;refine dt H ?_;refine⟨?_,t6⟩;exact r h
 refine df H ?_;rw [yo (fun a=>a.elim (fun a=>a G) fun a=>a.elim (fun a=>a F) fun a=>a.elim (by decide) H)] at z;refine⟨.pointer (some ⟨g.gs,0,none⟩),fun e z=>(Blk.cell z.1 1).trans rfl,stX v.st k.y,rfl,fun e z=>Blk.part z.2 13 (stX v.st k.y) rfl,_,fun e z=>(Blk.cell z.2 12).trans rfl,?_,t6⟩;have V:=B0y v k o b4 Y b2 N I b5 R h;rw [<-E,show B0w L p.1=i from u.symm] at V;refine⟨V.mono fun n B q=>?_⟩;obtain⟨S9,j,h⟩:=q;refine⟨_,j,⟨a3 _ (h.row.right (s i)).2.1,h.blk 0 rfl⟩,?_⟩;by_cases h0:p.2=0;rotate_left
 ·have z:e=(i,[]):=by rw [z,u];show (if (T6 L.H v.st v.deeds).2≠0 then _ else _)=_;rw [<-E,yn h0];rfl
  subst z;refine B5 (by show (p.2 != 0)=true;rw [bne_iff_ne];exact h0) ?_;exact r h
 refine B4 (by show (p.2 != 0)=false;rw [bne_eq_false_iff_eq];exact h0) ?_;have z:e=(b,N7 b V1::D9 b (A3g b.H.k.seq)):=by rw [z,C,u];show (if (T6 L.H v.st v.deeds).2≠0 then _ else _)=_;rw [<-E,yo (fun a=>a h0)];rfl
 subst z;refine vD (.Q [0,1,2,3,4,5,6,7] (.n 8 (.n 9 .fin .stop) .stop)) (fun e=>Blk e g.gl 85 (liC i g.gs A cA D cD)) ((h.row.right (s i)).2.1) ?_;have h:=h.drew;refine⟨.pointer (some ⟨g.gs,0,none⟩),fun e z=>(Blk.cell z 1).trans rfl,.pointer (some ⟨g.gs,0,none⟩),fun e z=>(Blk.cell z 1).trans rfl,h.q (A0U g.gs g.gj g.gc g.b i.H y.H _ _ (h.row.right (s i)).link.shelf) fun wQ Q h=>?_,t6⟩;refine⟨((h.row.right (s i)).2.1),?_,t6⟩;have M:=A9m i.H.k.seq y y.seq N h;rw [show E3 i i.H.k.seq=b from C.symm] at M;refine⟨M.mono fun n B q=>?_⟩;obtain⟨v9,S9,j,h⟩:=q;refine⟨_,j,a4 _ (h.row.right (s b)).2.1,?_⟩;have zf:wdC V1 WX0=[.int .i64 11,.int .i64 0,.int .i64 0,.int .i64 0,.int .i64 0,.int .i64 0,.int .i64 0,.int .i64 0,.int .i64 0,.int .i64 0,.slice none 0 0,.int .i64 0,.slice none 0 0,.int .i64 0,.slice none 0 0,.slice none 0 0,.int .i64 0,.int .i64 0,.int .i64 0,.int .i64 0,.int .i64 0]:=by kernel_rfl
 have zp:wdC (A3g b.H.k.seq) WX0=[.int .i64 6,.int .i64 0,.int .i64 0,.int .i64 0,.int .i64 b.H.k.seq,.int .i64 0,.int .i64 0,.int .i64 0,.int .i64 0,.int .i64 0,.slice none 0 0,.int .i64 0,.slice none 0 0,.int .i64 0,.slice none 0 0,.slice none 0 0,.int .i64 0,.int .i64 0,.int .i64 0,.int .i64 0,.int .i64 0]:=by kernel_rfl
 have so:=K6 g b V1 WX0 (fun a=>J.id0 a.symm) now _ _ h.ctx.lt (h.row.right (s b)).link;rw [zf] at so;refine⟨so.mono fun n B q=>?_⟩;obtain⟨A3,c3,j,a5,a9⟩:=q;have h:=h.fresh a5 a9;refine⟨_,j,_,(h.row.right (s b)).2.1.cell 1,?_⟩;refine h.q (A0U g.gs g.gj g.gc g.b b.H J.H _ _ (h.row.right (s b)).link.shelf) fun wQ Q h=>?_;have sd:=A3l g b J (A3g b.H.k.seq) WX0 _ _ h.ctx.lt (h.row.right (s b)).link;rw [zp] at sd;obtain⟨ws,b6⟩:∃ ws,ws=D9 b (A3g b.H.k.seq):=⟨_,rfl⟩;refine⟨sd.mono fun n B q=>?_⟩;unfold RetAh at q;rw [<-b6] at q ⊢;obtain⟨A5,c5,cs5,j,a6,b0,a0⟩:=q;have h:=h.fresh a6 b0;have W:∀ S w,WsR ws cs5 S w:=fun S w=>by
  obtain⟨m,t⟩|⟨m,t⟩:=a0
  ·rw [m,t];rfl
  ·rw [m,t];exact⟨WX0,[],rfl,⟨⟨A39 _ _,A39 _ _⟩,T3 _ _⟩,rfl⟩
 have b9:ws.length<=1:=by
  obtain⟨m,t⟩|⟨m,t⟩:=a0
  ·rw [m];exact zb _
  ·rw [m];exact zc _
 refine⟨_,j,?_⟩;obtain⟨S8,b3⟩:=J3 h;have T:Flat 21 cs5:=(W no B).flat;have a7:cs5.length=ws.length:=(W no B).len;refine Y6 Tryz.underlying32 J5 rfl (by decide) h.swap b3 (by rw [T.len,a7]) T.ones (by omega) (by decide) rfl rfl ?_;intro A4 c4 w4 h;have h:=h.swap.rest;have n:(N7 b V1::ws).length=1+ws.length:=by rw [zj,Nat.add_comm]
 have h:=h.castOs (os':=[orW (N7 b V1::ws) A4 c4 (wdC (N7 b V1) WX0::cs5)]) (by unfold orW;rw [n,List.flatten_cons]);have O:=(h.now (X:=Vc.Sep 0 (fun S w'=>Keep w x S w'/\Fresh w x (WsR (N7 b V1::ws) (wdC (N7 b V1) WX0::cs5)) S w') (LinkK g b)) (fun a=>a.mono (fun _ a=>⟨a,Fresh.none ⟨WX0,cs5,rfl,⟨⟨A39 _ _,A39 _ _⟩,T3 _ _⟩,W _ _⟩⟩) fun _ a=>LkO.link a) (Vc.Sep.stab (yq.and (Fresh.stab (WsR.stab _ _))) xa)).endW;rw [n] at O;exact O
theorem A8W (g:Lg) (L:Lk) (G:L.Ok) (v:Wd) (k:v.kind=10) (x:WX) (U:∀ C∈v.st.l,U7 C.key) (P:∀ d∈v.deeds,d.Ok) (Q:v.deeds.length<=100000) (now:Int) (b:Nat->Prop) (w:World) (N:∀ x,b x->x<w.heap.size) (I:EnvFree b w) (K:LinkK g L b w)
  (m:Nat->Prop) (V:∀ y,m y->y<w.heap.size/\¬ b y) (R:WdR v x m w):
  Calls Tryz.prog 48 #[.pointer (some ⟨g.gl,0,none⟩),.agg (wdC v x).toArray,.int .i64 now] w (RetWL b w (LinkK g (H9 L v now).1) (H9 L v now).2):=by
 obtain⟨A,cA,D,cD,css,F⟩:=K.seen;have O:=fun L=>LkO.stab g L A cA D cD css;have o:∀ {S:Nat->Prop} {w1:World} {l:List LB} {os:List OR},CtxF no (bare w) S w1 l os (Vc.Sep 0 (Keep w b) (LkO g L A cA D cD css))->RetWL b w (LinkK g L) [] (.returned (.slice none 0 0)) w1:=fun h=>RetWL.nil ((h.now (fun a=>a.mono (fun _ a=>a) fun _ a=>LkO.link a) (Vc.Sep.stab yq xa)).endO _) rfl;have h:=CtxF.enterO N F (O L);obtain⟨f,z⟩:∃ f,f=H9 L v now:=⟨_,rfl⟩;rw [<-z];unfold H9 at z;rw [k,yo (show ¬ (10:Int)=7 by decide)] at z;refine vE Tryz.func48 ?_;refine h.n fun g4 a2 a1 h=>?_;refine h.c 0 rfl rfl ?_;refine B4 (by show (v.kind==7)=false;rw [k];rfl) ?_;have B:=(h.row.right (O L)).2.1;have r:=h;refine vD (.Q [0,1,2,3,4,5,6,7,8,9,10,11,12,13,14,15,16] .fin) (Old _) (Old.start _) ?_;have M:=h.old0;have h:=h.drew;refine⟨_,fun x j=>Keeps.cell j (r.blk 0 rfl) (r.blk 0 rfl).lt rfl,_,fun f z=>Keeps.look z (B.cell 2),?_⟩;by_cases e:v.ep=L.r.ep;rotate_left
 ·rw [yn (.inl e)] at z;subst z;refine B5 (by show (v.ep != L.r.ep)=true;rw [bne_iff_ne];exact e) ?_;exact o h
 refine B4 (by show (v.ep != L.r.ep)=false;rw [bne_eq_false_iff_eq];exact e) ?_;refine⟨_,fun f z=>Keeps.look z (B.cell 2),?_⟩;by_cases p:L.r.ep=0
 ·rw [yn (.inr p)] at z;subst z;refine B5 (by show (L.r.ep==0)=true;rw [p];rfl) ?_;exact o h
 refine B4 (by show (L.r.ep==0)=false;rw [ya];exact p) ?_;clear M r;rw [yo (fun a=>a.elim (fun a=>a e) p)] at z;rw [yn rfl] at z;subst z;refine h.c 0 rfl rfl ?_;refine B5 (by show (v.kind==10)=true;rw [k];rfl) ?_;refine⟨wdC v x,rfl,h.cells 0 rfl,?_⟩;have h:=h.now (X:=Vc.Sep 0 (Keep w b) (LinkK g L)) (fun a=>a.mono (fun _ a=>a) fun _ a=>LkO.link a) (Vc.Sep.stab yq xa);obtain⟨t,u,c,E,i,H⟩:=h.row;have J:=A3i h c i I;refine⟨(A8V g L G v x U P Q now u _ (fun x j=>h.ctx.lt x (E x j).1) J H t (fun y s=>⟨h.ctx.lt y (c y s).1,(c y s).2⟩) (Keep.of i yz R V)).mono fun en wq q=>?_⟩;have T:=q;obtain⟨W,c3,a0,Y,Z,n,_⟩:=T;refine⟨_,n,?_⟩;rw [n] at q;exact h.tailW0 xa c i q
def A4M (g:Lg) (L:Lk) (f:Nat) (v:Wd) (x:WX) (now:Int) (p:Lk × List Wd):Prop:=∀ (Sx:Nat->Prop) (w:World),(∀ x,Sx x->x<w.heap.size)->EnvFree Sx w->LinkK g L Sx w->∀ (Sv:Nat->Prop),(∀ y,Sv y->y<w.heap.size/\¬ Sx y)->WdR v x Sv w->
 Calls Tryz.prog f #[.pointer (some ⟨g.gl,0,none⟩),.agg (wdC v x).toArray,.int .i64 now] w (RetWL Sx w (LinkK g p.1) p.2)
theorem A1e (g:Lg) (L:Lk) (hL:L.Ok) (v:Wd) (Z:∀ d∈v.deeds,d.Ok) (a1:∀ P∈v.st.l,U7 P.key) (x:WX) (now:Int) (ht:v.to=L.id->A64 v=true->v.kind≠2->A4M g L 48 v x now (H9 L v now)) (hl:v.to=L.id->A64 v=true->v.kind=2->A4M g L 47 v x now (A1d L v now)):
  A4M g L 17 v x now (V2 L v now):=by
 intro Sx w a0 he W Sv p R;obtain⟨A,cA,D,cD,css,U⟩:=W.seen;have F:=fun L=>LkO.stab g L A cA D cD css;have B:∀ {L:Lk} {S:Nat->Prop} {w1:World} {l:List LB} {os:List OR},CtxF no (bare w) S w1 l os (Vc.Sep 0 (Keep w Sx) (LkO g L A cA D cD css))->RetWL Sx w (LinkK g L) [] (.returned (.slice none 0 0)) w1:=fun h=>RetWL.nil ((h.now (fun a=>a.mono (fun _ a=>a) fun _ a=>LkO.link a) (Vc.Sep.stab yq xa)).endO _) rfl;have kept:∀ {S:Nat->Prop} {w1:World} {l:List LB} {os:List OR},CtxF no (bare w) S w1 l os (Vc.Sep 0 (Keep w Sx) (LkO g L A cA D cD css))->∃ m:Nat->Prop,WdR v x m w1:=fun h=>by obtain⟨j,So,b,n,c,h4⟩:=h.row;exact⟨j,Keep.of c yz R p⟩
 have h:=CtxF.enterO a0 U (F L);obtain⟨s,z⟩:∃ s,s=V2 L v now:=⟨_,rfl⟩;rw [<-z];unfold V2 at z;refine vE Tryz.func17 ?_;refine h.n fun g4 a3 a2 h=>?_;have V:=(h.row.right (F L)).2.1;have r:=h;refine vD (.Q [0,1,2,3,4,5,6,7,8,9,10,11,12] (.n 13 (.Q [14,15] .fin) .stop)) (Old _) (Old.start _) ?_;have k:=h.old0;have h:=h.drew;refine⟨.bool false,fun w=>B0n g.gl _ _ w,_,fun x f=>Keeps.cell f (r.blk 0 rfl) (r.blk 0 rfl).lt rfl,_,fun s z=>Keeps.look z (V.cell 0),?_⟩;by_cases t:v.to=L.id;rotate_left
 ·rw [yn (.inl t)] at z;subst z;refine B5 (by show (v.to != L.id)=true;rw [bne_iff_ne];exact t) ?_;refine⟨?_,t6⟩;exact B h
 refine B4 (by show (v.to != L.id)=false;rw [bne_eq_false_iff_eq];exact t) ?_;refine⟨wdC v x,rfl,fun x f=>Keeps.cells f (r.blk 0 rfl) (r.blk 0 rfl).lt,?_⟩;obtain⟨m,Y⟩:=kept h;have E:=B5n v Z a1 x m _ Y;obtain⟨J,e⟩:∃ I,I=A64 v:=⟨_,rfl⟩;rw [<-e] at E z;refine⟨h.q (E) fun wA T h=>?_,t6⟩;have k:=Keeps.below k (fun _ a=>a) T;refine⟨k,?_⟩;clear k r;cases J with
 | false=>
  rw [yn (.inr rfl)] at z;subst z;exact B h
 | true=>
 rw [yo (fun a=>a.elim (fun a=>a t) (by decide))] at z;refine h.c 0 rfl rfl ?_;have h:=h.now (X:=Vc.Sep 0 (Keep w Sx) (LinkK g L)) (fun a=>a.mono (fun _ a=>a) fun _ a=>LkO.link a) (Vc.Sep.stab yq xa);obtain⟨j,u,b,n,c,O⟩:=h.row;have C:=A3i h b c he;by_cases k:v.kind=2
 ·rw [yn k] at z;subst z;refine B5 (by show (v.kind==2)=true;rw [k];rfl) ?_;refine⟨wdC v x,rfl,h.cells 0 rfl,?_⟩;refine⟨(hl t e.symm k u _ (fun x f=>h.ctx.lt x (n x f).1) C O j (fun y i=>⟨h.ctx.lt y (b y i).1,(b y i).2⟩) (Keep.of c yz R p)).mono fun Q wq q=>?_⟩;have o:=q;obtain⟨G,K,M,N,H,e,_⟩:=o;refine⟨_,e,?_⟩;rw [e] at q;exact h.tailW0 xa b c q
 ·rw [yo k] at z;subst z;refine B4 (by show (v.kind==2)=false;rw [ya];exact k) ?_;refine⟨wdC v x,rfl,h.cells 0 rfl,?_⟩;refine⟨(ht t e.symm k u _ (fun x f=>h.ctx.lt x (n x f).1) C O j (fun y i=>⟨h.ctx.lt y (b y i).1,(b y i).2⟩) (Keep.of c yz R p)).mono fun Q wq q=>?_⟩;have o:=q;obtain⟨G,K,M,N,H,e,_⟩:=o;refine⟨_,e,?_⟩;rw [e] at q;exact h.tailW0 xa b c q
def C1L (id:Int) (H:Sh):Lk:=⟨id,H,Ros0,0,[]⟩
theorem A9n (i:Int) (H:Sh) (g:Nat) (w:World):Calls Tryz.prog 32 #[.int .i64 i,.pointer (some ⟨g,0,none⟩)] w (fun e w'=>∃ gl,e=.returned (.pointer (some ⟨gl,0,none⟩))/\New w (liC (C1L i H) g none 0 none 0) 85 gl w'):=by refine vE Tryz.func32 ?_;intro gl w1 h;exact⟨gl,rfl,h⟩
theorem A4p (g:Lg) (L:Lk) (i:L.Ok) (v:Wd) (t:Thin v) (a:Nat->Prop) (w:World) (l:∀ x,a x->x<w.heap.size) (h:LinkK g L a w):
  Calls Tryz.prog 58 #[.pointer (some ⟨g.gl,0,none⟩),.agg (wdC v WX0).toArray] w (RetWL a w (LinkK g L) (D9 L v)):=
 (A3l g L i v WX0 a w l h).mono fun n w' b=>(b.quiet t (fun S w=>by have r:WdR (B3g 0 r00) WX0 S w:=⟨⟨A39 _ _,A39 _ _⟩,T3 _ _⟩;obtain⟨k,f,y,m,s,q,z,o,p,j,u⟩:=v;obtain⟨c,d,e⟩:=t;cases c;cases d;cases e;exact r)).turn h l
def A13 (L:Lk) (now:Int):List Wd:=[N7 L A8S]++(if A5i L now=true/\L7 L=false then D9 L (A1z 0 1) else if A5i L now=true/\L.r.new=L.id then [N7 L V1] else [])
theorem A14 (L:Lk) (v:Wd):(D9 L v).length<=1:=by
 unfold D9;split
 ·exact zb _
 ·exact zc _
theorem B3n (L:Lk) (n:Int):(A13 L n).length<=2:=by
 have h:=A14 L (A1z 0 1);unfold A13;rw [z6];split
 ·show 1+_<=2;omega
 split
 ·exact zc _
 ·exact nle rfl
theorem B3o (g:Lg) (L:Lk) (R:L.Ok) (now:Int) (d:Nat->Prop) (w:World) (a1:∀ x,d x->x<w.heap.size) (he:EnvFree d w) (hK:LinkK g L d w):
  Calls Tryz.prog 24 #[.pointer (some ⟨g.gl,0,none⟩),.int .i64 now] w (RetWL d w (LinkK g L) (B3h L now)):=by
 have h:=(CtxF.enterO a1 hK xa).now (X:=Vc.Sep 0 (fun S w'=>Keep w d S w'/\True) (LinkK g L)) (fun b=>b.mono (fun _ b=>⟨b,t6⟩) fun _ b=>b) (Vc.Sep.stab (yq.and Stab.true) xa);obtain⟨U,z⟩:∃ U,U=B3h L now:=⟨_,rfl⟩;rw [<-z];unfold B3h at z;obtain⟨b0,e0⟩:∃ i,i=L.H.down:=⟨_,rfl⟩;rw [<-e0] at z;have hZ:∀ k q a5:Int,wdC ⟨k,0,0,0,q,a5,0,r00,Ros0,[],Stt0⟩ WX0=[.int .i64 k,.int .i64 0,.int .i64 0,.int .i64 0,.int .i64 q,.int .i64 a5,.int .i64 0,.int .i64 0,.int .i64 0,.int .i64 0,.slice none 0 0,.int .i64 0,.slice none 0 0,.int .i64 0,.slice none 0 0,.slice none 0 0,.int .i64 0,.int .i64 0,.int .i64 0,.int .i64 0,.int .i64 0]:=fun k q a5=>by kernel_rfl
 refine A0S lay_ok Tryz.func24 rfl (by kernel_rfl) (by kernel_rfl) ?_;refine SemC.cut lay_ok (fun (y:Option Addr × Nat)=>[(0,.pointer (some ⟨g.gl,0,none⟩)),(1,.int .i64 now),(5,.slice y.1 1 y.2)]) (fun y w'=>b0=false/\∃ c S,CtxF no (bare w) S w' [] [orW [N7 L A8S] y.1 y.2 c] (Vc.Sep 0 (fun S w'=>Keep w d S w'/\Fresh w d (WsR [N7 L A8S] c) S w') (LinkK g L))) 2 (by kernel_rfl) ?_ ?_
 ·skip
  refine⟨.bool false,fun w=>B0n g.gl _ _ w,?_⟩;obtain⟨A1,b5,D1,b6,B,a0⟩:=(h.row.right xa).cells;refine⟨_,B.cell 1,?_⟩;have a6:=A9h g.gs g.gj g.gc g.b L.H _ _ (h.row.right xa).shelf;rw [<-e0] at a6;refine h.q (a6) fun wQ V h=>?_;cases b0 with
  | true=>
   rw [yn rfl] at z;subst z;exact RetWL.nil ((h.now (fun b=>b.mono (fun _ b=>b.1) fun _ b=>b) (Vc.Sep.stab yq xa)).endO _) rfl
  | false=>
  obtain⟨S1,u,G,j,H,O⟩:=h.row;have s:=A7E g L A8S ⟨rfl,rfl,rfl⟩ (fun b=>R.id0 b.symm) now u _ (fun x P=>h.ctx.lt x (j x P).1) O;rw [show wdC A8S WX0=_ from hZ 1 0 0] at s;refine⟨s.mono fun e wq l=>?_⟩;obtain⟨A3,c3,css3,N3,Sn,f,T,I,O,K,W,N,C⟩:=l;obtain⟨S',h⟩:=h.turnB Stab.true G j H T I O xa K W N C;exact⟨_,f,(A3,c3),⟨rfl,rfl,rfl,t6⟩,rfl,css3,_,h.now (fun b=>b.mono (fun _ b=>⟨b.1,b.2.2⟩) fun _ b=>b) (Vc.Sep.stab (yq.and (Fresh.stab (WsR.stab _ _))) xa)⟩
 clear h;rintro⟨m,o⟩ b4 w1 ⟨a9,c,S,h⟩;rw [a9,yo (by decide)] at z;have T:Lk->True:=fun _=>trivial;obtain⟨ws,M⟩:∃ ws,ws=[N7 L A8S]:=⟨_,rfl⟩;have p:ws.length=1:=by rw [M];rfl
 rw [<-M] at h;refine SemC.cut lay_ok (fun (y:Option Addr × Nat)=>[(0,.pointer (some ⟨g.gl,0,none⟩)),(1,.int .i64 now),(5,.slice y.1 (A13 L now).length y.2)]) (fun y w'=>∃ c S,CtxF no (bare w) S w' [] [orW (A13 L now) y.1 y.2 c] (Vc.Sep 0 (fun S w'=>Keep w d S w'/\Fresh w d (WsR (A13 L now) c) S w') (LinkK g L))) 0 (by kernel_rfl) ?_ ?_
 ·skip
  have a4:∀ {S:Nat->Prop} {w':World},A5i L now=false\/(L7 L=true/\L.r.new≠L.id)->CtxF no (bare w) S w' [] [orW ws m o c] (Vc.Sep 0 (fun S w'=>Keep w d S w'/\Fresh w d (WsR ws c) S w') (LinkK g L))->A13 L now=ws:=fun b _=>by
   unfold A13;rw [<-M];obtain b|⟨b,k⟩:=b
   ·rw [b,yo (fun b=>absurd b.1 (by decide)),yo (fun b=>absurd b.1 (by decide)),zx]
   ·rw [b,yo (fun b=>absurd b.2 (by decide)),yo (fun b=>k b.2),zx]
  obtain⟨A,cA,D,cD,B,a0⟩:=(h.row.right xa).cells;have hr:=h;refine vD (.Q [0,1,2,3,4,5,6,7] (.n 8 (.Q [9,10,11,12,13,14,15,16,17] .fin) .stop)) (Old _) (Old.start _) ?_;have J:=h.old0;have h:=h.drew;refine⟨M1 L.r A cA,rfl,fun U z=>Old.looks z (Blk.part B 2 (M1 L.r A cA) rfl),_,fun U z=>Keeps.look z (B.cell 0),h.q (A5a L.id (RosR.below a0 (Below.refl _ _).drew)) fun wA C h=>?_,t6⟩;have J:=Keeps.below J (fun _ b=>b) C;refine⟨J,?_⟩;by_cases hm:L.id∈L.r.l;rotate_left
  ·refine df hm ?_;clear J hr;have hr:=h;refine vD (.Q [0,1,2,3,4,5,6,7,8,9,10,11,12,13] .fin) (Old _) (Old.start _) ?_;have J:=h.old0;have h:=h.drew;have Q:=a4 (.inl (by unfold A5i;rw [y8 hm];rfl)) h;refine⟨(m,o),⟨rfl,rfl,yb (fun n=>Value.slice m n o) (by rw [Q,p]),t6⟩,c,?_⟩;rw [Q];exact⟨_,h⟩
  refine dt hm ?_;refine⟨_,fun U z=>Keeps.look z (B.cell 5),?_⟩;clear J hr;by_cases t:now<=L.til;rotate_left
  ·refine df t ?_;have hr:=h;refine vD (.Q [0,1,2,3,4,5,6,7,8,9,10,11,12,13] .fin) (Old _) (Old.start _) ?_;have J:=h.old0;have h:=h.drew;refine df t ?_;have Q:=a4 (.inl (by unfold A5i;rw [y8 t,Bool.and_false])) h;refine⟨(m,o),⟨rfl,rfl,yb (fun n=>Value.slice m n o) (by rw [Q,p]),t6⟩,c,?_⟩;rw [Q];exact⟨_,h⟩
  refine dt t ?_;have hh:A5i L now=true:=by unfold A5i;rw [zz hm,zz t];rfl
  have a7:=A11 g L _ _ (h.row.right xa) h.ctx.lt;obtain⟨b1,f⟩:∃ i,i=L7 L:=⟨_,rfl⟩;rw [<-f] at a7;refine h.q (a7) fun wQ V h=>?_;cases b1 with
  | false=>
   have eh:A13 L now=ws++D9 L (A1z 0 1):=by unfold A13;rw [<-M,yn ⟨hh,f.symm⟩]
   have a3:=A14 L (A1z 0 1);obtain⟨S1,u,G,j,H,O⟩:=h.row;have s:=A4p g L R (A1z 0 1) ⟨rfl,rfl,rfl⟩ u _ (fun x P=>h.ctx.lt x (j x P).1) O;rw [show wdC (A1z 0 1) WX0=_ from hZ 5 0 1] at s;refine⟨s.mono fun e wq l=>?_⟩;obtain⟨A3,c3,css3,N3,Sn,f,T,I,O,K,W,N,C⟩:=l;obtain⟨S',h⟩:=h.turnB (Fresh.stab (WsR.stab _ _)) G j H T I O xa K W N C;refine⟨_,f,?_⟩;obtain⟨S8,Z⟩:=J3 h;have F:Flat 21 css3:=W.flat;have Y:css3.length=(D9 L (A1z 0 1)).length:=W.len;refine Y6 Tryz.underlying32 J5 rfl (by decide) h.swap Z (by rw [F.len,Y]) F.ones (by omega) (by decide) (yb (fun n=>Value.slice m n o) p.symm) rfl ?_;intro r v w4 h;have h:=h.swap.rest;have e:(ws++D9 L (A1z 0 1)).length=ws.length+(D9 L (A1z 0 1)).length:=z6;have h:=h.castOs (os':=[orW (ws++D9 L (A1z 0 1)) r v (c++css3)]) (by unfold orW;rw [e,zt]);have h:=h.now (X:=Vc.Sep 0 (fun S w'=>Keep w d S w'/\Fresh w d (WsR (ws++D9 L (A1z 0 1)) (c++css3)) S w') (LinkK g L)) (fun b=>b.mono (fun _ b=>⟨b.1,Fresh.both (WsR.stab _ _) (WsR.stab _ _) b.2.1 b.2.2 fun _ a i=>WsR.append a i⟩) fun _ b=>b) (Vc.Sep.stab (yq.and (Fresh.stab (WsR.stab _ _))) xa);refine⟨(r,v),⟨rfl,rfl,yb (fun n=>Value.slice r n v) (by rw [eh,e,p]),t6⟩,c++css3,?_⟩;rw [eh];exact⟨_,h⟩
  | true=>
  obtain⟨A,cA,D,cD,B,a0⟩:=(h.row.right xa).cells;have hr:=h;refine vD (.Q [0,1,2,3,4,5,6,7,8,9,10,11,12,13] .fin) (Old _) (Old.start _) ?_;have J:=h.old0;have h:=h.drew;refine dt t ?_;refine⟨_,fun U z=>Keeps.look z (B.cell 4),_,fun U z=>Keeps.look z (B.cell 0),?_⟩;clear J hr;by_cases a2:L.r.new=L.id;rotate_left
  ·refine B4 (by show (L.r.new==L.id)=false;rw [ya];exact a2) ?_;have Q:=a4 (.inr ⟨f.symm,a2⟩) h;refine⟨(m,o),⟨rfl,rfl,yb (fun n=>Value.slice m n o) (by rw [Q,p]),t6⟩,c,?_⟩;rw [Q];exact⟨_,h⟩
  refine B5 (by show (L.r.new==L.id)=true;rw [beq_iff_eq];exact a2) ?_;have eh:A13 L now=ws++[N7 L V1]:=by unfold A13;rw [<-M,yo (fun b=>absurd (f.trans b.2) (by decide)),yn ⟨hh,a2⟩]
  have a3:([N7 L V1]).length=1:=rfl;obtain⟨S1,u,G,j,H,O⟩:=h.row;have s:=A7E g L V1 ⟨rfl,rfl,rfl⟩ (fun b=>R.id0 b.symm) now u _ (fun x P=>h.ctx.lt x (j x P).1) O;rw [show wdC V1 WX0=_ from hZ 11 0 0] at s;refine⟨s.mono fun e wq l=>?_⟩;obtain⟨A3,c3,css3,N3,Sn,f,T,I,O,K,W,N,C⟩:=l;obtain⟨S',h⟩:=h.turnB (Fresh.stab (WsR.stab _ _)) G j H T I O xa K W N C;refine⟨_,f,?_⟩;obtain⟨S8,Z⟩:=J3 h;have F:Flat 21 css3:=W.flat;have Y:css3.length=([N7 L V1]).length:=W.len;refine Y6 Tryz.underlying32 J5 rfl (by decide) h.swap Z (by rw [F.len,Y]) F.ones (by omega) (by decide) (yb (fun n=>Value.slice m n o) p.symm) rfl ?_;intro r v w4 h;have h:=h.swap.rest;have e:(ws++[N7 L V1]).length=ws.length+([N7 L V1]).length:=z6;have h:=h.castOs (os':=[orW (ws++[N7 L V1]) r v (c++css3)]) (by unfold orW;rw [e,zt]);have h:=h.now (X:=Vc.Sep 0 (fun S w'=>Keep w d S w'/\Fresh w d (WsR (ws++[N7 L V1]) (c++css3)) S w') (LinkK g L)) (fun b=>b.mono (fun _ b=>⟨b.1,Fresh.both (WsR.stab _ _) (WsR.stab _ _) b.2.1 b.2.2 fun _ a i=>WsR.append a i⟩) fun _ b=>b) (Vc.Sep.stab (yq.and (Fresh.stab (WsR.stab _ _))) xa);refine⟨(r,v),⟨rfl,rfl,yb (fun n=>Value.slice r n v) (by rw [eh,e,p]),t6⟩,c++css3,?_⟩;rw [eh];exact⟨_,h⟩
 clear h;rintro⟨m,o⟩ b4 w1 ⟨c,S,h⟩;refine SemC.vc lay_ok ?_;obtain⟨ws,M⟩:∃ ws,ws=A13 L now:=⟨_,rfl⟩;have p:ws.length=(A13 L now).length:=by rw [M]
 have b7:=B3n L now;rw [<-M] at h;obtain⟨tl,t⟩:∃ tl,tl=((if Z0 L=false/\0<L.k.pend.length then O5 L L.k.b.seq else [])++(if Z0 L=true then D9 L (A3g L.k.seq) else [])):=⟨_,rfl⟩;have z:U=ws++(if E5 L now=false then [] else tl):=by rw [z,M,t];rfl
 have ha:=J4 g L now _ _ (h.row.right xa) h.ctx.lt;obtain⟨b1,f⟩:∃ i,i=E5 L now:=⟨_,rfl⟩;rw [<-f] at ha z;refine h.q (ha) fun wQ V h=>?_;cases b1 with
 | false=>
  rw [yn rfl,zx] at z;subst z;have E:=h.endW;rw [p] at E;exact E
 | true=>
 rw [yo (by decide)] at z;have ht:=fun S w b=>A5j g L S w b;obtain⟨b2,e2⟩:∃ i,i=Z0 L:=⟨_,rfl⟩;rw [<-e2] at ht t;refine h.q (ht _ _ (h.row.right xa)) fun wQ V h=>?_;cases b2 with
 | true=>
  have t:tl=D9 L (A3g L.H.k.seq):=by rw [t];rfl
  rw [t] at z;refine h.q (ht _ _ (h.row.right xa)) fun wQ V h=>?_;obtain⟨A,cA,D,cD,B,a0⟩:=(h.row.right xa).cells;refine⟨_,B.cell 1,?_⟩;refine h.q (A0U g.gs g.gj g.gc g.b L.H R.H _ _ (h.row.right xa).shelf) fun wQ V h=>?_;have a3:=A14 L (A3g L.H.k.seq);subst z;obtain⟨S1,u,G,j,H,O⟩:=h.row;have s:=A4p g L R (A3g L.H.k.seq) ⟨rfl,rfl,rfl⟩ u _ (fun x P=>h.ctx.lt x (j x P).1) O;rw [show wdC (A3g L.H.k.seq) WX0=_ from hZ 6 L.H.k.seq 0] at s;refine⟨s.mono fun e wq l=>?_⟩;obtain⟨A3,c3,css3,N3,Sn,f,T,I,O,K,W,N,C⟩:=l;obtain⟨S',h⟩:=h.turnB (Fresh.stab (WsR.stab _ _)) G j H T I O xa K W N C;refine⟨_,f,?_⟩;obtain⟨S8,Z⟩:=J3 h;have F:Flat 21 css3:=W.flat;have Y:css3.length=(D9 L (A3g L.H.k.seq)).length:=W.len;refine Y6 Tryz.underlying32 J5 rfl (by decide) h.swap Z (by rw [F.len,Y]) F.ones (by omega) (by decide) (yb (fun n=>Value.slice m n o) p.symm) rfl ?_;intro r v w4 h;have h:=h.swap.rest;have e:(ws++D9 L (A3g L.H.k.seq)).length=ws.length+(D9 L (A3g L.H.k.seq)).length:=z6;have h:=h.castOs (os':=[orW (ws++D9 L (A3g L.H.k.seq)) r v (c++css3)]) (by unfold orW;rw [e,zt]);have h:=h.now (X:=Vc.Sep 0 (fun S w'=>Keep w d S w'/\Fresh w d (WsR (ws++D9 L (A3g L.H.k.seq)) (c++css3)) S w') (LinkK g L)) (fun b=>b.mono (fun _ b=>⟨b.1,Fresh.both (WsR.stab _ _) (WsR.stab _ _) b.2.1 b.2.2 fun _ a i=>WsR.append a i⟩) fun _ b=>b) (Vc.Sep.stab (yq.and (Fresh.stab (WsR.stab _ _))) xa);have E:=h.endW;rw [e] at E;exact E
 | false=>
 obtain⟨A,cA,D,cD,B,a0⟩:=(h.row.right xa).cells;refine⟨_,B.cell 1,?_⟩;refine⟨(A0h g.gs g.gj g.gc g.b L.H R.H _ _ (h.row.right xa).shelf).mono fun e wq l=>?_⟩;obtain⟨A5,c5,e3,hb,ho⟩:=l;have h:=(h.fresh hb ho).rest;refine⟨_,e3,?_⟩;by_cases a8:0<L.H.k.pend.length;rotate_left
 ·have t:tl=[]:=by rw [t,yo (fun b=>a8 b.2)];rfl
  rw [t,zx] at z;subst z;refine df (by omega) ?_;refine h.q (ht _ _ (h.row.right xa)) fun wQ V h=>?_;have E:=h.endW;rw [p] at E;exact E
 have t:tl=O5 L L.H.k.b.seq:=by rw [t,yn ⟨rfl,a8⟩];exact zx _
 rw [t] at z;subst z;refine dt (by omega) ?_;obtain⟨A,cA,D,cD,B,a0⟩:=(h.row.right xa).cells;refine⟨_,B.cell 1,?_⟩;refine⟨(K5 g.gs g.gj g.gc g.b L.H R.H _ _ (h.row.right xa).shelf).mono fun e wq l=>?_⟩;obtain⟨cs,e4,hb,b3⟩:=l;obtain⟨y,rfl⟩:=b3.stX;have h:=(h.quiet hb).1;refine⟨_,e4,?_⟩;have a3:(O5 L L.H.k.b.seq).length=1:=rfl;obtain⟨S1,u,G,j,H,O⟩:=h.row;have s:=(fun u w a1 O=>(A12 g L R L.H.k.b.seq now (Int.le_refl _) (by show L.H.k.b.seq<=L.H.k.b.seq+((L.H.k.pend.length:Nat):Int);omega) u w a1 O).mono fun e w' b=>RetWq.turn b O a1) u _ (fun x P=>h.ctx.lt x (j x P).1) O
 skip
 refine⟨s.mono fun e wq l=>?_⟩;obtain⟨A3,c3,css3,N3,Sn,f,T,I,O,K,W,N,C⟩:=l;obtain⟨S',h⟩:=h.turnB (Fresh.stab (WsR.stab _ _)) G j H T I O xa K W N C;refine⟨_,f,?_⟩;obtain⟨S8,Z⟩:=J3 h;have F:Flat 21 css3:=W.flat;have Y:css3.length=(O5 L L.H.k.b.seq).length:=W.len;refine Y6 Tryz.underlying32 J5 rfl (by decide) h.swap Z (by rw [F.len,Y]) F.ones (by omega) (by decide) (yb (fun n=>Value.slice m n o) p.symm) rfl ?_;intro r v w4 h;have h:=h.swap.rest;have e:(ws++O5 L L.H.k.b.seq).length=ws.length+(O5 L L.H.k.b.seq).length:=z6;have h:=h.castOs (os':=[orW (ws++O5 L L.H.k.b.seq) r v (c++css3)]) (by unfold orW;rw [e,zt]);have h:=h.now (X:=Vc.Sep 0 (fun S w'=>Keep w d S w'/\Fresh w d (WsR (ws++O5 L L.H.k.b.seq) (c++css3)) S w') (LinkK g L)) (fun b=>b.mono (fun _ b=>⟨b.1,Fresh.both (WsR.stab _ _) (WsR.stab _ _) b.2.1 b.2.2 fun _ a i=>WsR.append a i⟩) fun _ b=>b) (Vc.Sep.stab (yq.and (Fresh.stab (WsR.stab _ _))) xa);refine h.q (ht _ _ (h.row.right xa)) fun wQ V h=>?_;have E:=h.endW;rw [e] at E;exact E
end Go.Proofs.YtefdfaeieekioaaGreatDoor
section
namespace Go.Proofs.YtefdfaeieekioaaGreatDoor
open Go.Vc Go.RowKit Go.Fl Go.ChangeShapes Go.WideShapes Go.ChangeAt
section
variable {w0 w:World} {S:Nat->Prop} {l:List LB} {os:List OR} {o:OR} {K R O:Kn} {gl T:Nat} {cs:List Value}
theorem _root_.Go.Vc.CtxF.pullH (c:CtxF no (bare w0) S w l os (Vc.Sep 0 K (ObjK gl T cs R O))) (A:Stab K) (D:Stab R) (C:Stab O):
  ∃ s,CtxF no (bare w0) s w ((gl,T,cs)::l) os (Vc.Sep 0 (Vc.Sep 0 K R) O):=by
 obtain⟨n,E,d,f,u,p,B,r,t,k,m,y,z⟩:=c.row;have q:S gl:=(f gl p).1;refine⟨fun x=>S x/\x≠gl,⟨⟨c.ctx.below,fun _ b=>b.elim,fun x h=>c.ctx.new x h.1,fun x h=>c.ctx.lt x h.1,zb _,fun b=>b.2 rfl,B,fun x h e=>?_,c.ctx.locs.mono (fun _ _=>rfl) (fun x h b=>b.1)⟩,c.own.step fun o j a i=>⟨rfl,fun b=>((c.own.mem o j).out a i).1 b.1,fun x h=>?_⟩,?_,Vc.Sep.stab (Vc.Sep.stab A D) C⟩⟩
 ·obtain⟨F,v⟩:=List.getElem?_of_mem h;obtain⟨g,T,cs⟩:=x;exact (c.ctx.locs.notS v).1 ((show g=gl from e)▸q)
 ·cases h with
  | head=>exact fun e=>((c.own.mem o j).out a i).1 ((show gl=a.block from e)▸q)
  | tail _ h=>exact ((c.own.mem o j).out a i).2 x h
 ·refine⟨fun x=>n x\/r x,t,fun x h=>?_,fun x h=>⟨⟨(f x (m x h).1.1).1,(m x h).1.2⟩,zb _⟩,⟨n,r,fun x h=>⟨.inl h,fun e=>(d x h).2 (k x e).1.1⟩,fun x h=>⟨.inr h,zb _⟩,u,y⟩,z⟩;obtain h|h:=h
  ·exact⟨⟨(d x h).1,fun e=>(d x h).2 (e▸p)⟩,fun e=>(d x h).2 (m x e).1.1⟩
  ·exact⟨⟨(f x (k x h).1.1).1,(k x h).1.2⟩,(k x h).2⟩
theorem _root_.Go.Vc.CtxF.pushH (c:CtxF no (bare w0) S w ((gl,T,cs)::l) os (Vc.Sep 0 (Vc.Sep 0 K R) O)) (z:Stab K) (B:Stab R) (A:Stab O):
  ∃ p,CtxF no (bare w0) p w l os (Vc.Sep 0 K (ObjK gl T cs R O)):=by
 obtain⟨C,j,d,m,⟨q,r,k,i,t,u⟩,s⟩:=c.row;obtain⟨D,l2,n,v,y⟩:=c.ctx.locs;refine⟨fun x=>S x\/x=gl,⟨⟨c.ctx.below,fun _ b=>b.elim,fun x h=>.inr (zb _),fun x h=>?_,y.mono (fun _ _=>rfl) (fun x h b=>b.elim id fun e=>absurd e (v x h))⟩,c.own.step fun o g a f=>⟨rfl,fun b=>?_,fun x h=>((c.own.mem o g).out a f).2 x (zu _ h)⟩,?_,Vc.Sep.stab z (ObjK.stab B A)⟩⟩
 ·obtain h|rfl:=h
  ·exact c.ctx.lt x h
  ·exact n.lt
 ·obtain b|b:=b
  ·exact ((c.own.mem o g).out a f).1 b
  ·exact ((c.own.mem o g).out a f).2 _ (zv ..) b.symm
 ·refine⟨q,fun x=>r x\/j x\/x=gl,fun x h=>⟨.inl (d x (k x h).1).1,?_⟩,fun x h=>⟨?_,zb _⟩,t,.inr (.inr rfl),n,r,j,fun x h=>⟨⟨.inl h,fun e=>l2 (e▸(d x (i x h).1).1)⟩,(d x (i x h).1).2⟩,fun x h=>⟨⟨.inr (.inl h),fun e=>l2 (e▸(m x h).1)⟩,zb _⟩,u,s⟩
  ·rintro (e | e | e)
   ·exact (k x h).2 e
   ·exact (d x (k x h).1).2 e
   ·exact l2 (e▸(d x (k x h).1).1)
  ·obtain h|h|h:=h
   ·exact .inl (d x (i x h).1).1
   ·exact .inl (m x h).1
   ·exact .inr h
theorem _root_.Go.Vc.CtxF.toldR (i:CtxF no (bare w0) S w l (o::os) (Vc.Sep 0 (Vc.Sep 0 K R) O)) (L:Stab K) (N:Stab R) (M:Stab O):
  ∃ p,CtxF no (bare w0) p w l os (Vc.Sep 0 (Vc.Sep 0 K (Vc.Sep 0 (fun S w=>Row S w o.A o.n o.cap o.xs) R)) O):=by
 have F:=i.fst.out;obtain⟨q,u,d,g,⟨t,r,k,m,I,J⟩,v⟩:=i.row;have n:∀ x,(∃ a,o.A=some a/\a.block=x)->¬ S x:=fun x h b=>by obtain⟨a,B,rfl⟩:=h;exact (F a B).1 b
 have G:∀ x,r x->S x:=fun x h=>(d x (m x h).1).1;obtain⟨c,s,C⟩:=i.told;refine⟨c,C.now (fun E=>?_) (Vc.Sep.stab (Vc.Sep.stab L (Vc.Sep.stab (fun _ _ _ _ b f=>b.fut f) N)) M)⟩;obtain⟨_,y,z,A⟩:=E;refine⟨fun x=>q x\/(c x/\∃ a,o.A=some a/\a.block=x),u,fun x h=>?_,fun x h=>⟨s x (g x h).1,(g x h).2⟩,⟨t,fun x=>r x\/(c x/\∃ a,o.A=some a/\a.block=x),fun x h=>⟨.inl (k x h).1,?_⟩,fun x h=>⟨?_,zb _⟩,I,fun x=>c x/\∃ a,o.A=some a/\a.block=x,r,fun x h=>⟨.inr h,fun e=>n x h.2 (G x e)⟩,fun x h=>⟨.inl h,zb _⟩,⟨y,z,fun h=>?_⟩,J⟩,v⟩
 ·obtain h|h:=h
  ·exact⟨s x (d x h).1,(d x h).2⟩
  ·exact⟨h.1,fun b=>n x h.2 (g x b).1⟩
 ·rintro (e | e)
  ·exact (k x h).2 e
  ·exact n x e.2 (d x (k x h).1).1
 ·obtain h|h:=h
  ·exact .inl (m x h).1
  ·exact .inr h
 ·obtain⟨j,e,H,D⟩:=A h;exact⟨j,e,⟨H,j,e,rfl⟩,D⟩
end
theorem B3p {H:Sh} {n:Int} (h:H.Ok) (a:B9 n):(enterH H n).1.Ok:=by
 unfold enterH;split
 ·exact h
 split
 ·exact h
 ·rename_i k;show (A2m H (.enter n) true).Ok;unfold A2m;split
  ·exact h.fell
  ·rename_i b;exact h.write (r:=.enter n) a trivial true (by omega)
def C1u (L:Lk) (r:Ros) (til:Int):Lk:={ L with r:=r,til:=max L.til til }
theorem B0z (g:Lg) (L:Lk) (U:L.Ok) (a7:L.done.length<=900000) (v:Wd) (a4:v.ros.Ok) (b5:v.ros.l.length<=1000) (x:WX) (now:Int) (a6:A3m g now { L with r:=v.ros }):A4M g L 47 v x now (A1d L v now):=by
 intro Sx w Z he hK Sv a3 hR;obtain⟨A,cA,D,cD,css,hB⟩:=hK.seen;have s:=fun L=>LkO.stab g L A cA D cD css;have o:∀ {L:Lk} {A:Option Addr} {cA:Nat} {S:Nat->Prop} {w1:World} {l:List LB} {os:List OR},CtxF no (bare w) S w1 l os (Vc.Sep 0 (Keep w Sx) (LkO g L A cA D cD css))->RetWL Sx w (LinkK g L) [] (.returned (.slice none 0 0)) w1:=fun h=>RetWL.nil ((h.now (fun a=>a.mono (fun _ a=>a) fun _ a=>LkO.link a) (Vc.Sep.stab yq xa)).endO _) rfl;have kept:∀ {L:Lk} {S:Nat->Prop} {w1:World} {l:List LB} {os:List OR},CtxF no (bare w) S w1 l os (Vc.Sep 0 (Keep w Sx) (LkO g L A cA D cD css))->∃ F:Nat->Prop,WdR v x F w1:=fun h=>by obtain⟨O,So,n,T,G,h4⟩:=h.row;exact⟨O,Keep.of G yz hR a3⟩
 have h:=CtxF.enterO Z hB (s L);obtain⟨b,z⟩:∃ b,b=A1d L v now:=⟨_,rfl⟩;rw [<-z];unfold A1d at z;obtain⟨c,B⟩:∃ c,c=if L.k.ep<v.ros.ep then A1c L v else L:=⟨_,rfl⟩
 have a0:c.H.Ok/\c.id=L.id/\c.done=L.done:=by
  rw [B];split
  ·exact⟨B3p U.H a4.ep,rfl,rfl⟩
  ·exact⟨U.H,rfl,rfl⟩
 refine A0S lay_ok Tryz.func47 rfl (by kernel_rfl) (by kernel_rfl) ?_;refine SemC.cut lay_ok (fun (C:Nat × Nat)=>[(0,.pointer (some ⟨g.gl,0,none⟩)),(2,.int .i64 now),(4,.pointer (some ⟨C.1,0,none⟩)),(7,.pointer (some ⟨C.2,0,none⟩))]) (fun C w'=>b=A3h c v now/\∃ S,CtxF no (bare w) S w' [(C.2,31,M1 v.ros x.A x.cA),(C.1,43,wdC v x)] [] (Vc.Sep 0 (Keep w Sx) (LkO g c A cA D cD css))) 3 (by kernel_rfl) ?_ ?_
 ·skip
  refine h.n fun j b7 b3 h=>?_;refine⟨M1 v.ros x.A x.cA,rfl,Blk.part (h.blk 0 rfl) 9 (M1 v.ros x.A x.cA) rfl,?_⟩;refine h.n fun e b8 b4 h=>?_;refine h.s 0 rfl fun N H h=>?_;have h:=G4 h (l':=[(e,31,M1 v.ros x.A x.cA),(j,43,wdC v x)]) (by kernel_rfl);have a1:=(h.row.right (s L)).2.1;have d:=h;refine vD (.Q [0,1,2,3,4,5,6,7,8] (.n 9 (.Q [10,11,12,13,14,15,16,17,18] (.n 19 (.Q [20,21] .fin) .stop)) .stop)) (Old _) (Old.start _) ?_;have k:=h.old0;have h:=h.drew;refine⟨_,fun x f=>Keeps.cell f (d.blk 1 rfl) (d.blk 1 rfl).lt rfl,?_⟩;by_cases K:v.frm=0;rotate_left
  ·rw [yn (.inl K)] at z;subst z;refine B5 (by show (v.frm != 0)=true;rw [bne_iff_ne];exact K) ?_;refine⟨?_,t6⟩;refine⟨?_,t6⟩;exact o h
  refine B4 (by show (v.frm != 0)=false;rw [K];rfl) ?_;refine⟨M1 v.ros x.A x.cA,rfl,fun x f=>Keeps.cells f (d.blk 0 rfl) (d.blk 0 rfl).lt,_,fun b z=>Keeps.look z (a1.cell 0),?_⟩;obtain⟨F,W⟩:=kept h;have n:=A5a L.id W.1.1;obtain⟨Q,i⟩:∃ t,t=decide (L.id∈v.ros.l):=⟨_,rfl⟩;rw [<-i] at n;refine⟨h.q (n) fun wA y h=>?_,t6⟩;have k:=Keeps.below k (fun _ a=>a) y;refine⟨k,?_⟩;cases Q with
  | false=>
   rw [yn (.inr (.inl (of_decide_eq_false i.symm)))] at z;subst z;refine⟨?_,t6⟩;exact o h
  | true=>
  refine⟨_,fun x f=>Keeps.cell f (d.blk 0 rfl) (d.blk 0 rfl).lt rfl,_,fun b z=>Keeps.look z (a1.cell 1),h.q (A3b g.gs g.gj g.gc g.b L.H _ _ (h.row.right (s L)).link.shelf) fun wA y h=>?_,t6⟩;have k:=Keeps.below k (fun _ a=>a) y;refine⟨k,?_⟩;by_cases J:v.ros.ep<L.H.k.ep
  ·rw [yn (.inr (.inr J))] at z;subst z;refine dt J ?_;exact o h
  refine df J ?_;rw [yo (fun a=>a.elim (fun a=>a K) fun a=>a.elim (fun a=>a (of_decide_eq_true i.symm)) J)] at z;clear k d;have a5:=(h.row.right (s L)).2.1;have d:=h;refine vD (.Q [0,1,2,3,4,5] (.n 6 (.q 7 .fin) .stop)) (Old _) (Old.start _) ?_;have k:=h.old0;have h:=h.drew;refine⟨_,fun x f=>Keeps.cell f (d.blk 0 rfl) (d.blk 0 rfl).lt rfl,_,fun b z=>Keeps.look z (a5.cell 1),h.q (A3b g.gs g.gj g.gc g.b L.H _ _ (h.row.right (s L)).link.shelf) fun wA y h=>?_,t6⟩;have k:=Keeps.below k (fun _ a=>a) y;refine⟨k,?_⟩;clear k d;by_cases M:L.H.k.ep<v.ros.ep;rotate_left
  ·refine df M ?_;rw [yo (show ¬ L.k.ep<v.ros.ep from M)] at z B;subst B;exact⟨(j,e),⟨rfl,rfl,rfl,rfl,t6⟩,z,_,h⟩
  refine dt M ?_;rw [yn (show L.k.ep<v.ros.ep from M)] at z B;refine vD (.Q [0,1,2,3,4,5] (.n 6 (.q 7 .fin) .stop)) (fun b=>Blk b g.gl 85 (liC L g.gs A cA D cD)/\Blk b e 31 (M1 v.ros x.A x.cA)) ⟨(h.row.right (s L)).2.1,h.blk 0 rfl⟩ ?_;have h:=h.drew;refine⟨.pointer (some ⟨g.gs,0,none⟩),fun b z=>(Blk.cell z.1 1).trans rfl,.int .i64 v.ros.ep,fun b z=>(Blk.cell z.2 0).trans rfl,⟨(B0x v.ros.ep U a4.ep he h).mono fun en wq q=>?_⟩,t6⟩;obtain⟨P,R,h⟩:=q;refine⟨_,R,⟨(h.row.right (s (B0w L (enterH L.H v.ros.ep).1))).2.1,h.blk 0 rfl⟩,?_⟩;by_cases I:(enterH L.H v.ros.ep).2=0;rotate_left
  ·rw [yn I] at z;subst z;refine B5 (by show ((enterH L.H v.ros.ep).2 != 0)=true;rw [bne_iff_ne];exact I) ?_;exact o (L:=B0w L (enterH L.H v.ros.ep).1) h
  rw [yo (fun a=>a I)] at z;refine B4 (by show ((enterH L.H v.ros.ep).2 != 0)=false;rw [I];rfl) ?_;obtain⟨S8,h⟩:=CtxF.pullH h yq xb yw;refine h.s 0 rfl fun N H h=>?_;have h:=G4 h (l':=[(g.gl,85,liC (A1c L v) g.gs A cA D cD),(e,31,M1 v.ros x.A x.cA),(j,43,wdC v x)]) (by kernel_rfl);obtain⟨S8,h⟩:=CtxF.pushH h yq xb yw;subst B;exact⟨(j,e),⟨rfl,rfl,rfl,rfl,t6⟩,z,_,h⟩
 clear h;rintro⟨j,e⟩ b6 w1 ⟨z,S,h⟩;refine SemC.vc lay_ok ?_;obtain⟨kS,W⟩:=kept h;obtain⟨S8,h⟩:=CtxF.pullH h yq xb yw;refine vD (.Q [0,1,2,3,4,5,7,8] (.n 6 (.Q [9,10,11] (.n 12 (.Q [13,14] (.n 15 .fin .stop)) .stop)) .stop)) (fun b=>Blk b e 31 (M1 v.ros x.A x.cA)/\Blk b j 43 (wdC v x)) ⟨h.blk 1 rfl,h.blk 2 rfl⟩ ?_;have h:=h.drew;refine⟨M1 v.ros x.A x.cA,rfl,fun b z=>Blk.part z.1 0 (M1 v.ros x.A x.cA) rfl,.int .i64 v.til,fun b z=>(Blk.cell z.2 6).trans rfl,⟨_,h.cell 0 rfl _ rfl,⟨h.blk 1 rfl,h.blk 2 rfl⟩,?_⟩,t6⟩;refine⟨h.s 0 rfl fun N H h=>?_,t6⟩;refine⟨⟨h.blk 1 rfl,h.blk 2 rfl⟩,h.s 0 rfl fun N H h=>?_,t6⟩;refine⟨⟨h.blk 1 rfl,h.blk 2 rfl⟩,?_⟩;obtain⟨L1,m⟩:∃ L1,L1=C1u c v.ros v.til:=⟨_,rfl⟩;have h:=G4 h (l':=[(g.gl,85,liC L1 g.gs x.A x.cA D cD),(e,31,M1 v.ros x.A x.cA),(j,43,wdC v x)]) (by rw [m];unfold C1u;rw [show max c.til v.til=(if v.til > c.til then v.til else c.til) by omega];kernel_rfl);refine⟨_,h.cell 1 rfl 1 rfl,?_⟩;have a2:RosR v.ros x.A x.cA kS _:=W.1.1;obtain⟨O,E,n,T,⟨F,Sr,k1,k2,k3,k4⟩,h4⟩:=h.row;have a2:=(Keep.of k3 yz hR a3).1.1;refine⟨(B0S x.A v.ros.l.length x.cA _ (B3G _) (zl _) (by omega) F _ a2).mono fun en wq q=>?_⟩;obtain⟨p,u,R,hb,ho⟩:=q;have h:=h.fresh hb ho;refine⟨_,R,?_⟩;refine h.s 0 rfl fun N H h=>?_;have h:=G4 h (l':=[(g.gl,85,liC L1 g.gs p u D cD),(e,31,M1 v.ros x.A x.cA),(j,43,wdC v x)]) (by rw [m];kernel_rfl);obtain⟨P,h⟩:=CtxF.toldR h yq xb yw;have h:=h.now (X:=Vc.Sep 0 (Vc.Sep 0 (Keep w Sx) (LiR L1 p u D cD css)) (ShelfK g.gs g.gj g.gc g.b L1.H)) (fun a=>by rw [m];exact a.mono (fun _ a=>a.mono (fun _ a=>a) fun _ a=>(Vc.Sep.assoc row_stab ((RosR.stab _ _ _).and (WsR.stab _ _)) a).mono (fun _ a=>⟨a.1,a.2.2⟩) fun _ a=>a) fun _ a=>a) (Vc.Sep.stab (Vc.Sep.stab yq xb) yw);obtain⟨P,h⟩:=CtxF.pushH h yq xb yw;have h:CtxF no (bare w) P _ _ [] (Vc.Sep 0 (Keep w Sx) (LkO g L1 p u D cD css)):=h;have z:b=if E5 L1 now=true/\Z0 L1=true then H6 L1 else (L1,[]):=by rw [z,m];rfl
 have ha:=J4 g L1 now _ _ (h.row.right (LkO.stab g L1 p u D cD css)).link h.ctx.lt;obtain⟨Q,i⟩:∃ t,t=E5 L1 now:=⟨_,rfl⟩;rw [<-i] at ha z;refine h.q (ha) fun wQ hQ h=>?_;cases Q with
 | false=>
  rw [yo (fun a=>absurd a.1 (by decide))] at z;subst z;exact o h
 | true=>
 have ht:=A5j g L1 _ _ (h.row.right (LkO.stab g L1 p u D cD css)).link;obtain⟨b2,e2⟩:∃ t,t=Z0 L1:=⟨_,rfl⟩;rw [<-e2] at ht z;refine h.q (ht) fun wQ hQ h=>?_;cases b2 with
 | false=>
  rw [yo (fun a=>absurd a.2 (by decide))] at z;subst z;exact o h
 | true=>
 rw [yn ⟨rfl,rfl⟩] at z;subst z;have h:=h.now (X:=Vc.Sep 0 (Keep w Sx) (LinkK g L1)) (fun a=>a.mono (fun _ a=>a) fun _ a=>LkO.link a) (Vc.Sep.stab yq xa);have a9:L1.H.Ok:=by rw [m];exact a0.1
 have a8:L1.done.length<=900000:=by rw [m];show c.done.length<=_;rw [a0.2.2];exact a7
 obtain⟨O,E,n,T,G,V⟩:=h.row;have Y:=A3i h n G he;refine⟨((fun E w Z Y V=>a6 L1 (by rw [m];exact a0.2.1) (by rw [m];rfl) a9 a8 e2.symm E w Z Y V) E _ (fun x f=>h.ctx.lt x (T x f).1) Y V).mono fun en wq q=>?_⟩;have b0:=q;obtain⟨A3,c3,b1,N3,Sn,i,_⟩:=b0;refine⟨_,i,?_⟩;rw [i] at q;exact h.tailW0 xa n G q
end Go.Proofs.YtefdfaeieekioaaGreatDoor
end
namespace Go.Proofs.YtefdfaeieekioaaGreatDoor
open Go.Vc Go.RowKit Go.Fl Go.ChangeShapes Go.WideShapes Go.ChangeAt
end Go.Proofs.YtefdfaeieekioaaGreatDoor
namespace Go.Proofs.YtefdfaeieekioaaGreatDoor
open Go.Vc Go.RowKit Go.Fl
def Z1 (k:Known) (j:Nat):Known:=⟨W8 k.b (k.pend.take j),k.pend.drop j,k.ep,k.ln⟩
theorem A7F (k:Known) (n:Int):(D8 k n).1=Z1 k (n-k.b.seq).toNat:=rfl
theorem B00 (k:Known) (i j:Nat):Z1 (Z1 k i) j=Z1 k (i+j):=by unfold Z1;rw [<-A6z,<-List.take_add,List.drop_drop]
theorem B53 {k:Known} {j:Nat} (h:k.pend.length<=j):Z1 k j=Z1 k k.pend.length:=by unfold Z1;rw [ym h,ym (zc _),zr h,zr (zc _)]
theorem A0j {k:Known} (h:k.Ok) {j:Nat} (a:j<=k.pend.length):(Z1 k j).b.seq=k.b.seq+j:=by show (W8 k.b (k.pend.take j)).seq=_;rw [A0c _ h.may h.lows (fun d hd=>(h.pend d (List.mem_of_mem_take hd)).1) (by have:=h.seq;rw [zg];omega),zg];omega
theorem A4q (k:Known) (j:Nat):(Z1 k j).pend.length=k.pend.length-j:=zh ..
theorem A7G {k:Known} (h:k.Ok) {j:Nat} (a:j<=k.pend.length):(Z1 k j).seq=k.seq:=by unfold Known.seq;rw [A0j h a,A4q];omega
def Late (k k':Known):Prop:=∃ j,j<=k.pend.length/\k'=Z1 k j
theorem Late.all {k a:Known} (b:k.Ok) (h:Late k a):(D8 a k.seq).1=Z1 k k.pend.length/\(D8 a k.seq).2.length=a.pend.length/\a.pend.length<=k.pend.length/\a.b.seq<=k.seq:=by
 obtain⟨c,j,rfl⟩:=h;have e:=A0j b j;have d:=A4q k c;have f:k.seq=k.b.seq+k.pend.length:=rfl;refine⟨?_,?_,by omega,by omega⟩
 ·rw [A7F,B00];exact yb _ (by omega)
 ·rw [(A4m _ _).1];omega
structure More (H H':Sh):Prop where
 base:H'.base=H.base
 np:H'.np=H.np
 l:∃ r:List Rc,(∀ x∈r,∃ n,x=.done n)/\H'.l=H.l++r
theorem More.write {a H:Sh} (b:More a H) (n:Int):More a (H.write (.done n) false):=by
 obtain⟨c,d,r,e,f⟩:=b;refine⟨c,d,r++[.done n],fun x h=>?_,?_⟩
 ·rw [List.mem_append,zy] at h;obtain h|rfl:=h
  ·exact e x h
  ·exact⟨n,rfl⟩
 ·show H.l++[.done n]=_;rw [f,zw]
theorem More.of {a H H':Sh} (h:More a H) {n:Int} (e:H'=H\/H'=H.write (.done n) false):More a H':=by
 obtain rfl|rfl:=e
 ·exact h
 ·exact h.write n
theorem B7E:P6 Stt0=true:=by kernel_rfl
def wd (k f t e s q:Int) (l:List D):Wd:=⟨k,f,t,e,s,q,0,r00,Ros0,l,Stt0⟩
theorem B3q {k f t e s q:Int} {l:List D} (c:1<=k/\k<=11) (b:0<=f/\f<=5) (m:0<=t/\t<=5) (n:f≠t) (a:0<=e/\e<=G5) (j:0<=s/\s<=G5) (i:0<=q/\q<=G5) (g:l.length<=60) (h:∀ d∈l,M0 d=true):A64 (wd k f t e s q l)=true:=
 X3.2 ⟨O4.2 ⟨c,b,m,n,a,j,i,⟨Int.le_refl 0,by show (0:Int)<=1099511627776;decide⟩,⟨Int.le_refl 0,by show (0:Int)<=1099511627776;decide⟩,⟨Int.le_refl 0,by show (0:Int)<=13;decide⟩⟩,.inl rfl,g,h,B7E⟩
def I4 (id:Int) (r:Ros) (til:Int):Wd:=⟨2,0,id,0,0,0,til,r00,r,[],Stt0⟩
theorem A4r {i t:Int} {r:Ros} (h:1<=i/\i<=5) (a:A7i r=true) (b:0<=t/\t<=G5):A64 (I4 i r t)=true:=
 have z:(0:Int)<=0/\(0:Int)<=G5:=⟨Int.le_refl 0,by show (0:Int)<=1099511627776;decide⟩
 X3.2 ⟨O4.2 ⟨⟨by show (1:Int)<=2;decide,by show (2:Int)<=11;decide⟩,⟨Int.le_refl 0,by show (0:Int)<=5;decide⟩,⟨by show (0:Int)<=i;omega,h.2⟩,(by show (0:Int)≠i;omega),z,z,z,b,z,⟨Int.le_refl 0,by show (0:Int)<=13;decide⟩⟩,.inr a,by show 0<=60;decide,(fun d hd=>by cases hd),B7E⟩
def lk (id:Int) (H:Sh) (r:Ros) (til:Int) (dn:List Wd):Lk:=⟨id,H,r,til,dn⟩
theorem B8d {i:Int} {H:Sh} {n:Nat} {r:Ros} {t:Int} {d:List Wd} (a:1<=i/\i<=5) (f:Fit H n) (h:A7i r=true) (b:B9 t):(lk i H r t d).Ok:=
 ⟨a,f.ok,B3E h,(A0d.1 h).2.2.2.1,b⟩
theorem A7H {i:Int} {H:Sh} {c:Nat} {r:Ros} {t n:Int} {d:List Wd} (f:Fit H c) (m:i∈r.l) (a:r.new≠i) (h:H.k.ep=r.ep) (b:n<=t):E5 (lk i H r t d) n=true:=by unfold E5 L7 lk;simp [m,a,f.down,h,b]
theorem A15 {L:Lk} {v:Wd} {now:Int} (a:v.to=L.id) (b:A64 v=true) (c:v.kind≠2):V2 L v now=H9 L v now:=by unfold V2;rw [yo (fun h=>h.elim (fun h=>h a) (by rw [b];decide)),yo c]
theorem B01 {L:Lk} {v:Wd} {now:Int} (a:v.to=L.id) (b:A64 v=true) (c:v.kind=2):V2 L v now=A1d L v now:=by unfold V2;rw [yo (fun h=>h.elim (fun h=>h a) (by rw [b];decide)),yn c]
theorem A3n {L:Lk} {v:Wd} {n:Int} (c:v.kind≠7) (b:v.kind≠10) (d:v.kind≠9) (f:v.ep=L.r.ep) (a:L.r.ep≠0) (e:E5 L n=true):
  H9 L v n=if v.kind=3 then A3f L v else if v.kind=4 then B98 L v else if v.kind=5 then (L,B0m L v) else if v.kind=6 then B8b L v
   else if v.kind=8 then (L,if v.frm∈L.r.l/\Z0 L=true then [N7 L (B99 L v.frm v.req)] else []) else (L,[]):=by
 unfold H9;rw [yo c,yo (fun h=>h.elim (fun h=>h f) a),yo b,yo d,yo (by rw [e];decide)]
theorem Fit.enterH {H:Sh} {n:Nat} (h:Fit H n) (c:n<=400) {m:Int} (b:B9 m) (l:H.k.ep<m):∃ a,enterH H m=(a,0)/\a.k=⟨H.k.b,H.k.pend,m,H.k.ln⟩/\Fit a (n+1):=by
 obtain⟨d,e⟩|⟨d,e⟩:=h.enter c b
 ·omega
 ·refine⟨_,e,?_,h.write c (r:=.enter _) b trivial true⟩;rw [A5h];show (⟨H.k.b,H.k.pend,max H.k.ep m,H.k.ln⟩:Known)=_;rw [show max H.k.ep m=m from by omega]
theorem A5n {id:Int} {a:Sh} {n:Nat} {r0 r:Ros} {til0 til now:Int} {dn:List Wd} (j:Fit a n) (p:n<=400) (k:1<=id/\id<=5) (c:A7i r=true) (o:id∈r.l) (t:0<=til/\til<=G5) (l:a.k.ep<r.ep):
  ∃ H,enterH a r.ep=(H,0)/\H.k=⟨a.k.b,a.k.pend,r.ep,a.k.ln⟩/\Fit H (n+1)/\V2 (lk id a r0 til0 dn) (I4 id r til) now=if E5 (lk id H r til dn) now=true/\Z0 (lk id H r til dn)=true then H6 (lk id H r til dn) else (lk id H r til dn,[]):=by
 have q:=A0d.1 c;have s:G5=1099511627776:=rfl;obtain⟨H,e,d,f⟩:=j.enterH p (m:=r.ep) (by unfold B9;omega) l;refine⟨H,e,d,f,?_⟩;rw [B01 (L:=lk id a r0 til0 dn) (v:=I4 id r til) rfl (A4r k c t) rfl];unfold A1d;rw [yo (fun h=>h.elim (fun h=>h rfl) fun h=>h.elim (fun h=>h o) fun h=>by have:r.ep<a.k.ep:=h;omega),yn (show (lk id a r0 til0 dn).k.ep<(I4 id r til).ros.ep from l)];have b:enterH (lk id a r0 til0 dn).H (I4 id r til).ros.ep=(H,0):=e;rw [b,yo (fun h=>h rfl)];have g:A1c (lk id a r0 til0 dn) (I4 id r til)=lk id H r0 0 dn:=by unfold A1c;rw [b];rfl
 rw [g];unfold A3h;have i:({ lk id H r0 0 dn with r:=(I4 id r til).ros,til:=max (lk id H r0 0 dn).til (I4 id r til).til }:Lk)=lk id H r til dn:=by show lk id H r (max 0 til) dn=_;rw [show max 0 til=til by omega]
 rw [i]
theorem B3r {id:Int} {H:Sh} {n:Nat} {r0 r:Ros} {til0 til now:Int} {dn:List Wd} (f:Fit H n) (d:n<=400) (i:1<=id/\id<=5) (g:A7i r=true) (m:id∈r.l) (t:A3W r.l≠id) (j:0<=til/\til<=G5) (l:H.k.ep<r.ep):
  ∃ a,a.k=⟨H.k.b,H.k.pend,r.ep,H.k.ln⟩/\Fit a (n+1)/\V2 (lk id H r0 til0 dn) (I4 id r til) now=(lk id a r til dn,[]):=by
 obtain⟨a,_,e,b,c⟩:=A5n (now:=now) (r0:=r0) (til0:=til0) (dn:=dn) f d i g m j l;refine⟨a,e,b,?_⟩;rw [c,yo (fun h=>t (beq_iff_eq.1 h.2))]
def R3 (ep:Int):Ros:=⟨ep,[1,2,3],0⟩
def l2 (H:Sh) (ep til:Int) (dn:List Wd):Lk:=lk 2 H (R3 ep) til dn
theorem Fit.seq {H:Sh} {n:Nat} (a:Fit H n):0<=H.k.b.seq/\0<=H.k.seq/\H.k.seq=H.k.b.seq+H.k.pend.length/\H.k.seq<=G5/\H.k.pend.length<=60:=by have h:=a.ok.k;have b:=(D5.1 h.may).1;have c:=h.seq;have d:=h.len;have e:H.k.seq=H.k.b.seq+H.k.pend.length:=rfl;rw [e];exact⟨b.1,by omega,rfl,c,d⟩
theorem A8X {id:Int} {H:Sh} {n:Nat} {r:Ros} {til:Int} {dn:List Wd} (h:Fit H n) (f:n<=400) {m:Int} (d:B9 m) (s:m<=H.k.seq):∃ a,a.k=Z1 H.k (m-H.k.b.seq).toNat/\Fit a (n+1)/\E3 (lk id H r til dn) m=lk id a r til dn/\(F9 H m).2.1=(D8 H.k m).2:=by obtain⟨a,e,b,c,_⟩:=h.done f d s;refine⟨a,b,c,?_,by rw [e]⟩;show lk id (F9 H m).1 r til dn=_;rw [e]
theorem B54 {k:Known} (h:k.Ok) (j:Nat):(Z1 k j).b.seq=k.b.seq+min j k.pend.length/\(Z1 k j).seq=k.seq/\(Z1 k j).pend=k.pend.drop j/\(Z1 k j).ep=k.ep/\(Z1 k j).ln=k.ln:=by
 by_cases c:j<=k.pend.length
 ·have a:=A0j h c;have b:=A7G h c;exact⟨by rw [a];omega,b,rfl,rfl,rfl⟩
 ·have e:=B53 (k:=k) (j:=j) (by omega);have a:=A0j h (zc _);have b:=A7G h (zc _);refine⟨by rw [e,a];omega,by rw [e,b],rfl,rfl,rfl⟩
end Go.Proofs.YtefdfaeieekioaaGreatDoor
section
namespace Go.Proofs.YtefdfaeieekioaaGreatDoor
open Go.Vc Go.RowKit Go.Fl Go.ChangeShapes Go.WideShapes Go.ChangeAt
structure Op8 where
 kind:Int
 n:Int
 d:D
section
variable {H:Type} {enc:TypeId × Value->H} {w:World} {base:Nat} {spare:Nat->Bool} {held:Bool} {fuel:Nat} {cs:List Value} {x:DataW H × List MemPlace}
end
section
variable {H:Type} {enc:TypeId × Value->H} {W:World} {sp:Nat->Bool} {hd:Bool} {v:Value} {d:DataW H} {p:List MemPlace} {base:Nat}
end
def B02 (k:Known) (d:D):Known × Int:=if M0 d=false then (k,1) else if k.pend.length<60/\k.seq<G5 then (⟨k.b,k.pend++[d],k.ep,k.ln⟩,0) else (k,5)
theorem B8e {H:Sh} {n:Nat} (h:Fit H n) (l:n<=400) {d:D} (k:d.Ok):∃ a,a.k=(B02 H.k d).1/\Fit a (n+1)/\(H.np=H.l.length->a.np=a.l.length)/\((B02 H.k d).2≠0->a=H)/\((B02 H.k d).2=0->a.np=a.l.length)/\
  ∀ (g j f c:Nat) (S:Nat->Prop) (w:World),(∀ x,S x->x<w.heap.size)->EnvFree S w->ShelfK g j f c H S w->Calls Tryz.prog 28 #[.pointer (some ⟨g,0,none⟩),.agg (dC d).toArray] w (RetOb S w (.int .i64 (B02 H.k d).2) (ShelfK g j f c a)):=by
 have b:=fun g j f c S w t o K=>A9j g j f c H h.ok d k S w t o K;unfold B02;obtain⟨m,i,e⟩|⟨m,i,e⟩|⟨m,e⟩:=h.add l k
 ·rw [e] at b;rw [yo (by rw [m];decide),yn (show H.k.pend.length<60/\H.k.seq<G5 from i)];exact⟨_,A03 _ _ _,h.write l (r:=.add _) ⟨m,k⟩ i true,fun _=>A4n _ _,fun h=>absurd rfl h,fun _=>A4n _ _,b⟩
 ·rw [e] at b;rw [yo (by rw [m];decide),yo (show ¬ (H.k.pend.length<60/\H.k.seq<G5) from i)];exact⟨H,rfl,h.mono (by omega),id,fun _=>rfl,(fun h=>by cases h),b⟩
 ·rw [e] at b;rw [yn m];exact⟨H,rfl,h.mono (by omega),id,fun _=>rfl,(fun h=>by cases h),b⟩
def B55 (s:Stt) (p:List D):Bool:=P6 s&&p.all M0&&decide (s.seq<=G5-p.length)
theorem B03 {H:Sh} {n:Nat} (f:Fit H n) (m:n<=400) {s:Stt} {p:List D} (j:s.lows.length=5) (o:∀ d∈p,d.Ok) (r:p.length<=60) (h:B55 s p=true):
  T6 H s p=(H.lay ⟨s,p,H.k.ep,H.k.ep⟩,0)/\(⟨s,p,H.k.ep,H.k.ep⟩:Known).Ok:=by
 unfold B55 at h;rw [z7,z7,y9,List.all_eq_true] at h;obtain⟨⟨g,i⟩,q⟩:=h;have c:¬ (p.any A9d=true\/P6 s=false\/60<p.length\/G5-p.length<s.seq):=by
  rintro (h | h | h | h)
  ·obtain⟨d,l,a⟩:=List.any_eq_true.1 h;unfold A9d at a;rw [i d l] at a;cases a
  ·rw [g] at h;cases h
  ·omega
  ·omega
 have k:=A5f f.ok j o c;refine⟨?_,k⟩;unfold T6;obtain⟨e,b⟩:=f.lays m k;rw [f.down,yo (by decide),yo c,e,b]
end Go.Proofs.YtefdfaeieekioaaGreatDoor
end
namespace Go.Proofs.YtefdfaeieekioaaGreatDoor
open Go.Vc Go.RowKit Go.Fl Go.ChangeShapes Go.WideShapes Go.ChangeAt
structure JS where
 g:Nat
 A:Option Addr
 k:Nat
theorem A4s (g d:Nat) (I:Chest) (c:Int) (r:Scroll) (j:ByteArray) (hC:I=chL c r\/∃ b,I=c0 b/\11<=b/\b<=1000000000/\c=b-D2 bE/\r=⟨G6 bE,D2 bE,true⟩) (T:A2U r.s.data.toList=(j,r.s.size,0)) (c2:0<r.s.size) (hs:r.s.size<=1000000000) (hr:0<=c/\c<=1000000000) (e:Nat->Prop) (w:World) (R:∀ x,e x->x<w.heap.size) (Z:EnvFree e w) (K:ChestK g d I e w):
  Calls Tryz.prog 69 #[.pointer (some ⟨g,0,none⟩)] w (fun G w'=>∃ v,RetOb e w (.tuple #[.pointer (some ⟨v,0,none⟩),.int .i64 0]) (JourK v g d (JL c r j [] false)) G w'):=by
 have h:=ChestK.start R K;refine A0S lay_ok Tryz.func69 rfl (by kernel_rfl) (by kernel_rfl) ?_;refine SemC.cut lay_ok (fun (x:JS)=>[(0,.pointer (some ⟨g,0,none⟩)),(4,.pointer (some ⟨x.g,0,none⟩)),(5,.string r.s)]) (fun x w'=>∃ S,CtxF no (bare w) S w' [(x.g,159,A67 g ⟨#[]⟩ x.A 0 x.k false)] [] (Sep 0 (Keep w e) (ChestK g d (chL c r)))) 5 (by kernel_rfl) ?_ ?_
 ·refine⟨.bool false,fun w=>B28 g _ _ w,?_⟩;obtain rfl|⟨b,rfl,h0,i,b4,rfl⟩:=hC
  ·have l:=fun k w K=>A5V g d (chL c r) A0T ⟨#[79,76,68]⟩ (by decide) (by decide) ⟨by show _<=c;omega,by show c<=_;omega⟩ (by rw [A5d _ _ (by decide)];decide) (by show 1<1000000;decide) k w K;rw [B3Y c r _ (by kernel_rfl)] at l;obtain⟨s,k,i,p,z,O⟩:=h.row;refine⟨(l k _ O).mono fun G wq C=>?_⟩;obtain⟨t,T,X,B,O⟩:=C;have h:=h.turnO yq i p z T B O yv;refine⟨_,t,?_⟩;refine h.n fun f b6 b1 h=>?_;have D:=A9X g d (chL c r) Q4 (by decide) _ _ (h.row.right yv);rw [A4i] at D;refine h.q (D) fun W Q h=>?_;exact⟨⟨f,_,_⟩,⟨rfl,rfl,rfl,t6⟩,_,h⟩
  ·have U:=R7 bE;have l:=fun k w K=>A5V g d (c0 b) A0T ⟨#[79,76,68]⟩ (by decide) (by decide) ⟨by show _<=b;omega,by show b<=_;omega⟩ (by show (0:Nat)<=_;omega) (by show 0<1000000;decide) k w K;rw [B8W b _ (by kernel_rfl)] at l;obtain⟨s,k,i,p,z,O⟩:=h.row;refine⟨(l k _ O).mono fun G wq C=>?_⟩;obtain⟨t,T,X,B,O⟩:=C;have h:=h.turnO yq i p z T B O yv;refine⟨_,t,?_⟩;refine h.n fun f b6 b1 h=>?_;have D:=A9X g d (c0 b) Q4 (by decide) _ _ (h.row.right yv);rw [show (c0 b).f Q4=none from rfl] at D;refine h.q (D) fun W Q h=>?_;refine h.q (A2h bE (by decide) _ (Z.sub0 h)) fun W Q h=>?_;have h:CtxF _ _ _ _ _ _ (Sep 0 (Sep 0 (Keep w e) (RecK 9 none 0 0 [])) (ChestK g d (c0 b))):=h.now (fun M=>by obtain⟨s,J,i,p,z,N⟩:=M;exact⟨s,J,i,p,⟨s,no,fun x E=>⟨E,id⟩,(fun x E=>E.elim),z,RecK.nil _ _ _⟩,N⟩) (Sep.stab (Sep.stab yq yr) yv);have a2:=fun e w R K=>A4j f g d ⟨c0 b,bE,[],false⟩ Q4 (G6 bE) (by decide) ⟨by show _<=b;omega,by show b<=_;omega⟩ (by rw [A02] at U;omega) (by show (0:Nat)<=_;omega) (by show 0<999999;decide) e w R K;have ew:Y9 (c0 b) Q4 (G6 bE)=(chL (b-D2 bE) ⟨G6 bE,D2 bE,true⟩,0):=by rw [B3c b _ (by rw [U,A02];omega),U]
   rw [show (Jour.mk (c0 b) bE [] false).C=c0 b from rfl,ew] at a2;obtain⟨Sm,b2,c1,b3,a6⟩:=h.again;refine⟨(a2 Sm _ b2 ⟨_,_,b3⟩).mono fun G wq C=>?_⟩;obtain⟨t,T,X,B,A2,b7,O⟩:=C;obtain⟨S2,h⟩:=a6 T B O yr yv;refine⟨_,t,?_⟩;have h:CtxF _ _ _ _ _ _ (Sep 0 (Keep w e) (ChestK g d (chL (b-D2 bE) ⟨G6 bE,D2 bE,true⟩))):=h.now (fun M=>by obtain⟨s,J,i,p,⟨Sk,Sr,k1,k2,k3,k4⟩,N⟩:=M;exact⟨Sk,J,fun x E=>i x (k1 x E).1,p,k3,N⟩) (Sep.stab yq yv);subst b4;exact⟨⟨f,_,_⟩,⟨rfl,rfl,rfl,t6⟩,_,h⟩
 clear h K;rintro⟨f,A0,k0⟩ u1 w1 ⟨S,h⟩;dsimp only at h;refine SemC.vc lay_ok ?_;have h:=h.nil 9 1;refine⟨Nat × Nat × Option Addr × Nat,fun y=>[(0,.pointer (some ⟨g,0,none⟩)),(4,.pointer (some ⟨f,0,none⟩)),(5,.string r.s),(8,.int .i64 (y.2.1:Nat)),(9,.slice y.2.2.1 y.1 y.2.2.2)],
  fun y w'=>((y.1=0/\y.2.1=0)\/(y.1=1/\y.2.1=r.s.size))/\∃ S,CtxF no (bare w) S w' [(f,159,A67 g ⟨#[]⟩ A0 0 k0 false)] [⟨9,1,y.2.2.1,y.1,y.2.2.2,([j].take y.1).map Value.string⟩] (Sep 0 (Keep w e) (ChestK g d (chL c r))),fun y _=>1-y.1,(0,0,none,0),⟨rfl,rfl,rfl,rfl,rfl,t6⟩,⟨.inl ⟨rfl,rfl⟩,_,h⟩,?_⟩
 clear h;rintro⟨c3,a,A,cap⟩ w' c4 ⟨hi,S,h⟩;simp only at hi h;obtain⟨rfl,rfl⟩|⟨rfl,rfl⟩:=hi
 ·refine dt (by show ((0:Nat):Int)<r.s.size;omega) ?_;refine⟨⟨by show (0:Int)<=((0:Nat):Int);omega,by show ((0:Nat):Int)<=(r.s.size:Int);omega,Int.le_refl _⟩,?_⟩;have a1:=B5s (r.s.extract 0 r.s.size) (by rw [ByteArray.size_extract];omega) _ (Z.sub0 h);rw [A8R r.s 0 (by omega),show ((⟨(r.s.data.toList.drop 0).toArray⟩:ByteArray)).data.toList=r.s.data.toList from rfl,T,<-A8R r.s 0 (by omega)] at a1;refine h.q (a1) fun W Q h=>?_;refine h.n fun gv c5 b9 h=>?_;refine F0 (m:=1) Tryz.underlying114 B3C rfl (by decide) h (by rfl) (h.cells 0 rfl) rfl (nle rfl) (by decide) rfl rfl ?_;intro q a3 w3 h;have b5:IntKind.i64.wrap (((0:Nat):Int)+(r.s.size:Int))=(r.s.size:Int):=by rw [yh _ ⟨by omega,by omega⟩];omega
  exact⟨(1,r.s.size,q,a3),⟨rfl,rfl,rfl,yb _ b5,rfl,t6⟩,⟨.inr ⟨rfl,rfl⟩,_,h.drop⟩,by show 1-1<1-0;omega⟩
 refine df (by show ¬ (r.s.size:Int)<r.s.size;omega) ?_;obtain⟨ad,hA⟩:∃ ad,A=some ad:=by
  cases A with
  | some ad=>exact⟨ad,rfl⟩
  | none=>exact absurd (h.fst.none' rfl).1 (by show ¬ (1:Nat)=0;decide)
 obtain⟨H,u,eA,a7,l,P,a0,b8⟩:=h.opened hA;clear h;subst eA;have h:=a7;have l:u.length=cap*1:=l;have P:u.take 1=[.string j]:=P;have a0:1<=cap:=a0;have a8:u[0]?=some (.string j):=by
  have F:(u.take 1)[0]?=some (.string j):=by rw [P];rfl
  rw [List.getElem?_take] at F;split at F
  ·exact F
  ·cases F
 have b0:∀ (wF:World) (S:Nat->Prop) (q:Option Addr) (V L:Nat),q=(if (cap:Int)=1 then some (⟨H,0,none⟩:Addr) else (some (⟨H,0,none⟩:Addr)).map (·.add ((1:Int).toNat*1)))->V=0->L=cap-1->CtxF no (bare w) S wF [(H,9,u),(f,159,A67 g j q V L false)] [] (Sep 0 (Keep w e) (ChestK g d (chL c r)))->∃ v,RetOb e w (.tuple #[.pointer (some ⟨v,0,none⟩),.int .i64 0]) (JourK v g d (JL c r j [] false)) (.returned (.tuple #[.pointer (some ⟨f,0,none⟩),.int .i64 0])) wF:=by
  intro wF S q V L Y a5 a4 a9;subst a5 a4;obtain⟨o,ho,eo⟩:∃ o,o+(cap-1)<=u.length/\q=some ⟨H,o,none⟩:=by
   by_cases i:cap=1
   ·exact⟨0,by omega,by rw [Y,yn (by omega)]⟩
   ·exact⟨1,by omega,by rw [Y,yo (by omega),Option.map_some,yi];rfl⟩
  subst eo;exact⟨f,JourK.leave2 (n:=0) (cap:=cap-1) a9 rfl (zb _) (by omega) ho rfl _⟩
 refine df (by show ¬ (r.s.size:Int)<r.s.size;omega) ?_;refine vD (.Q [0,1,2,3,5,6] (.n 4 (.Q [7,8] (.n 9 (.Q [10,11] (.n 12 .fin .stop)) .stop)) .stop)) (fun _=>True) trivial ?_;have h:=h.drew;refine⟨⟨by omega,by omega⟩,⟨by decide,by show (1:Int)<=((1:Nat):Int);omega,by show ((1:Nat):Int)<=(cap:Int)/\(cap:Int)<=(cap:Int);omega⟩,⟨_,h.cell 0 rfl 0 a8,t6,?_⟩,t6⟩;refine⟨h.s' 1 rfl fun wS hS h=>?_,t6⟩;refine⟨h.s' 1 rfl fun wS hS h=>?_,t6⟩;exact b0 _ _ _ _ _ rfl rfl (by show ((cap:Int)-1).toNat=cap-1;omega) h
theorem A4t (c b:Nat) (C:Chest) (H:Sh) (o:Int) (r:Scroll) (d:ByteArray) (K:H.jour=JL o r d [] false) (N:H.down=false)
  (P:∀ (e:Nat->Prop) (w:World),(∀ x,e x->x<w.heap.size)->EnvFree e w->ChestK c b C e w->Calls Tryz.prog 69 #[.pointer (some ⟨c,0,none⟩)] w (fun n w'=>∃ g,RetOb e w (.tuple #[.pointer (some ⟨g,0,none⟩),.int .i64 0]) (JourK g c b (JL o r d [] false)) n w'))
  (W:∀ w,Env w->Calls Tryz.prog 70 #[.string d] w (B3O H.k w)) (f:Nat->Prop) (w:World) (Q:∀ x,f x->x<w.heap.size) (E:EnvFree f w) (L:ChestK c b C f w):
  Calls Tryz.prog 30 #[.pointer (some ⟨c,0,none⟩)] w (fun n w'=>∃ D g,RetOb f w (.tuple #[.pointer (some ⟨D,0,none⟩),.int .i64 0]) (ShelfK D g c b H) n w'):=by
 have h:=ChestK.start Q L;refine vE Tryz.func30 ?_;obtain⟨s,e,m,p,k,O⟩:=h.row;refine⟨(P e _ (fun x a=>h.ctx.lt x (p x a).1) (E.kept fun x a F=>⟨(m x (k x a F).1).2,(k x a F).2⟩) O).mono fun n G q=>?_⟩;obtain⟨g,i,T,z,M,O⟩:=q;have h:=h.turnO yq m p k T M O yx;refine⟨_,i,?_⟩;have h:CtxF _ _ _ _ _ _ (Sep 0 (Sep 0 (Keep w f) (fun _ _=>True)) (JourK g c b (JL o r d [] false))):=h.now (fun j=>by obtain⟨s,I,m,p,k,J⟩:=j;exact⟨s,I,m,p,⟨s,no,fun x a=>⟨a,id⟩,(fun x a=>a.elim),k,t6⟩,J⟩) (Sep.stab (Sep.stab yq Stab.true) yx);refine h.n fun l a3 a1 h=>?_;refine h.q (B3Z g c b (JL o r d [] false) _ _ (h.row.right yx)) fun wQ hQ h=>?_;obtain⟨Sr,_,a0,U⟩:=h.mid (zb _) yq Stab.true yx;refine⟨(W _ (E.now h)).mono fun n G q=>?_⟩;obtain⟨y,A,t,i,u,R⟩:=q;have h:=(U (h.call u) yy (KnR.stab _ _ _ _ _ _ _ _ R ⟨fun a4 X=>X.elim (fun j=>j.elim) .inr,fun _ _=>rfl⟩)).midNow (fun S w j=>j.2) yq yy yx;refine⟨_,i,?_⟩;refine h.s 0 rfl fun wS hS h=>?_;refine⟨(A8Q g c b (JL o r d [] false) (zb _) _ _ (h.row.right yx)).mono fun n G q=>?_⟩;obtain⟨v,B,i,u,V⟩:=q;have h:=h.fresh u V;refine⟨_,i,?_⟩;refine⟨Unit,fun _=>[(6,.pointer (some ⟨l,0,none⟩)),(33,.slice v 0 B),(34,.int .i64 0),(35,.int .i64 0)],
  fun _ w'=>∃ S,CtxF no (bare w) S w' [(l,92,shC g H.k y A t false)] [⟨9,1,v,0,B,[]⟩] (Sep 0 (Sep 0 (Keep w f) (KnR H.k y A t)) (JourK g c b (JL o r d [] false))),fun _ _=>0,(),⟨rfl,rfl,rfl,rfl,t6⟩,⟨_,h⟩,?_⟩
 clear h;rintro⟨⟩ w1 a2 ⟨S,h⟩;obtain⟨Y,Z,z,k3,k4⟩:=ObjK.leave h.rest (.tuple #[.pointer (some ⟨l,0,none⟩),.int .i64 0]);refine⟨l,g,Y,Z,z,k3,y,A,t,?_⟩;rw [N,K];exact k4
theorem B3s {H:Sh} (h:H.l=[]):H.txt=C9 [H.first]:=by show C9 (H.first::H.l.map Q9)=_;rw [h];rfl
theorem A8Y {H:Sh} (h:H.l=[]):H.scr.pressed=H.txt.length:=by show ((C9 (H.texts.take (1+H.np))).length:Int)=_;rw [ym (by show (H.first::H.l.map Q9).length<=1+H.np;rw [h];show 1<=1+H.np;omega)];rfl
theorem B56 {H:Sh} (c:H.Ok) (l:H.l=[]):A2U H.txt=(H.first,H.txt.length,0)/\0<H.txt.length:=by
 have h:=Splits.leaves [H.first] [] (fun x f=>by rw [List.mem_singleton.1 f];have:=c.first.size;omega) (.inl rfl);rw [zx,<-B3s l] at h;obtain⟨n,a,e,b,g,i,j,_⟩:=h;have d:n=H.txt.length:=by omega
 rw [d] at e b;exact⟨e,b⟩
theorem B04 {H:Sh} (h:H.Ok) (l:H.l=[]) {L:Nat} (E:H.scr.pressed<=L) (D:L<=H.txt.length) (g b:Nat) (S:Nat->Prop) (w:World) (t:∀ x,S x->x<w.heap.size) (e:EnvFree S w) (K:ChestK g b (B3e H L) S w):
  Calls Tryz.prog 30 #[.pointer (some ⟨g,0,none⟩)] w (fun n w'=>∃ s m,RetOb S w (.tuple #[.pointer (some ⟨s,0,none⟩),.int .i64 0]) (ShelfK s m g b (H.cut 0)) n w'):=by
 have F:=A8Y l;have o:L=H.txt.length:=by omega
 subst o;have G:=h.room;have M:=h.tot;have I:H.room=H.tot-H.txt.length:=rfl;have J:=h.size;obtain⟨k,B⟩:=B56 h l;have f:H.txt.take H.txt.length=H.txt:=ym (zc _);obtain⟨r,d⟩:∃ r:Scroll,r=⟨⟨(H.txt.take H.txt.length).toArray⟩,H.txt.length,true⟩:=⟨_,rfl⟩;have C:B3e H H.txt.length=chL (H.tot-H.txt.length) r:=by rw [d];rfl
 have i:r.s.data.toList=H.txt:=by rw [d];exact f
 have z:r.s.size=H.txt.length:=by rw [<-W0,i]
 obtain⟨c,a⟩:∃ c,c=H.cut 0:=⟨_,rfl⟩;have q:c.jour=JL (H.tot-H.txt.length) r H.first [] false:=by
  have y:(H.cut 0).txt=H.txt:=by rw [B3s l];rfl
  rw [a,d,f];show JL (H.tot-((H.cut 0).txt.length:Nat)) ⟨⟨(H.cut 0).txt.toArray⟩,((H.cut 0).txt.length:Nat),true⟩ H.first [] false=_;rw [y]
 have p:c.down=false:=by rw [a];rfl
 have u:c.k=H.base:=by rw [a];rfl
 rw [<-a];rw [C] at K;refine A4t g b (chL (H.tot-H.txt.length) r) c _ _ _ q p (fun j w t e K=>A4s g b _ _ r H.first (.inl rfl) (by rw [i,z];exact k) (by omega) (by omega) (by omega) j w t e K) (fun w A=>?_) S w t e K;have v:=B3P H.first H.base h.first w A;rw [u];exact v
theorem B05 (w:World):Calls Tryz.prog 70 #[.string ⟨#[]⟩] w (B3O Known0 w):=by refine vE Tryz.func70 ?_;have h:=CtxF.start w no (fun _ a=>a.elim) (R:=fun _ _=>True) trivial Stab.true;refine h.n fun g d b h=>?_;refine h.s 0 rfl fun c S h=>?_;refine h.a 0 rfl rfl ?_;exact⟨SX0,none,0,rfl,h.below,T3 _ _,A39 _ _⟩
theorem B3t (g b:Nat) (t:Int) (c:11<=t/\t<=1048576) (S:Nat->Prop) (w:World) (l:∀ x,S x->x<w.heap.size) (e:EnvFree S w) (h:ChestK g b (c0 t) S w):
  Calls Tryz.prog 30 #[.pointer (some ⟨g,0,none⟩)] w (fun n w'=>∃ s j,RetOb S w (.tuple #[.pointer (some ⟨s,0,none⟩),.int .i64 0]) (ShelfK s j g b (H0 t)) n w'):=by
 have z:=R7 bE;have N:=A02;have H:(H0 t).jour=JL (t-D2 bE) ⟨G6 bE,D2 bE,true⟩ bE [] false:=by rw [<-H0.jour];unfold B8V;rw [yo (by show ¬ ((11:Nat):Int)<((G6 bE).size:Int);omega)]
 exact A4t g b (c0 t) (H0 t) _ _ bE H rfl (fun a w l e h=>A4s g b (c0 t) (t-D2 bE) ⟨G6 bE,D2 bE,true⟩ bE (.inr ⟨t,rfl,by omega,by omega,rfl,rfl⟩) (by kernel_rfl) (by show 0<(G6 bE).size;omega) (by show (G6 bE).size<=_;omega) (by omega) a w l e h) (fun w d=>B05 w) S w l e h
end Go.Proofs.YtefdfaeieekioaaGreatDoor
section
namespace Go.Proofs.YtefdfaeieekioaaGreatDoor
open Go.Vc Go.RowKit Go.Fl Go.ChangeShapes Go.WideShapes Go.ChangeAt
open Go.Vc (Sep)
theorem B8f {v:Wd} {x y:WX} (h:wdC v x=wdC v y):x=y:=by obtain⟨A,cA,B,O,⟨q,r,s,t,u,w,z,C,D⟩⟩:=x;obtain⟨o,N,p,P,⟨E,F,G,H,I,J,K,L,M⟩⟩:=y;unfold wdC at h;simp only [List.cons.injEq,Value.slice.injEq,Value.int.injEq,true_and,and_true] at h;obtain⟨⟨a,f⟩,⟨g,i⟩,⟨j,k⟩,⟨l,m⟩,n,b,c,d,e⟩:=h;subst a f g i j k l m n b c d e;rfl
section
variable {w0 w w':World} {S:Nat->Prop} {l:List LB} {os:List OR} {R:Kn} {g:Lg} {L L':Lk} {ws:List Wd} {f:Nat} {args:Array Value}
theorem B3u {u:Wd} {x:WX} {a:Addr} (h:Go.Vc.cellsAt w a (wdC u x) 0) (i:Nat) (v:Value) (b:(wdC u x)[i]?=some v):w.cell? (a.add i)=some v:=by have:=K9 _ 0 h i v b;rwa [zn] at this
end
theorem B57:A3W [1,2]≠1:=by rw [(by kernel_rfl:A3W [1,2]=2)];decide
theorem A7I (i:Int) (w:World) (u:Env w):Calls Tryz.prog 16 #[.int .i64 i] w (fun n w'=>∃ g:Lg,n=.returned (.tuple #[.pointer (some ⟨g.gl,0,none⟩),.pointer (some ⟨g.gc,0,none⟩)])/\Below w.heap.size w w'/\LinkK g (lk i (H0 1048576) Ros0 0 []) (ext no w w') w'):=by refine vE Tryz.func16 ?_;have h:=CtxF.start w no (fun _ a=>a.elim) (R:=fun _ _=>True) trivial Stab.true;refine⟨(B8H 1048576 _).mono fun n o q=>?_⟩;rw [B8Z (by decide)] at q;obtain⟨j,f,e,q,O⟩:=q;have h:=h.sepNew q O yv;refine⟨_,e,?_⟩;obtain⟨p,S,k,b,l,O⟩:=h.row;refine⟨(B3t j f 1048576 (by decide) S _ (fun x c=>h.ctx.lt x (b x c).1) (u.free h.below b) O).mono fun n o q=>?_⟩;obtain⟨s,r,e,T,v,t,O⟩:=q;have h:=h.turnO Stab.true k b l T t O yw;refine⟨_,e,?_⟩;refine⟨(A9n i (H0 1048576) s _).mono fun n o q=>?_⟩;obtain⟨gl,e,N⟩:=q;have h:=(h.loc N).1;refine⟨_,e,?_⟩;obtain⟨p,S,k,b,l,O⟩:=h.row;have m:=h.ctx.locs;exact⟨⟨gl,s,r,j,f⟩,rfl,h.below,none,0,none,0,[],.inr ⟨m.1,(h.blk 0 rfl).lt⟩,h.blk 0 rfl,no,S,fun x a=>a.elim,fun x c=>⟨⟨.inr ⟨(b x c).2,h.ctx.lt x (b x c).1⟩,fun d=>by have d:x=gl:=d;subst d;exact m.2.1 (b _ c).1⟩,zb _⟩,⟨no,no,fun x a=>a.elim,fun x a=>a.elim,⟨Ros0.rep _ _,rfl⟩,OwnK.nil _ _ _ _⟩,O⟩
theorem Z2 (i t e n:Int) (l:List Int) (A:Option Addr) (c:Nat):wdC (I4 i ⟨e,l,n⟩ t) ⟨A,c,none,0,SX0⟩=[.int .i64 2,.int .i64 0,.int .i64 i,.int .i64 0,.int .i64 0,.int .i64 0,.int .i64 t,.int .i64 0,.int .i64 0,.int .i64 e,.slice A l.length c,.int .i64 n,.slice none 0 0,.int .i64 0,.slice none 0 0,.slice none 0 0,.int .i64 0,.int .i64 0,.int .i64 0,.int .i64 0,.int .i64 0]:=rfl
theorem A1f {i t:Int} {r:Ros} {A:Option Addr} {c:Nat} {S:Nat->Prop} {w:World} (h:Row S w A r.l.length c (A0p r.l)):WdR (I4 i r t) ⟨A,c,none,0,SX0⟩ S w:=⟨⟨h,A39 _ _⟩,T3 _ _⟩
theorem P0 (g:Lg) (L:Lk) (a:L.Ok) (h:L.done.length<=900000) (i t n:Int) (r:Ros) (b:A7i r=true) (x:WX) (m:A3m g n { L with r:=r }):A4M g L 17 (I4 i r t) x n (V2 L (I4 i r t) n):=
 A1e g L a _ (fun d h=>by cases h) (fun f e=>by cases e) x n (fun _ _ c=>absurd rfl c) (fun _ _ _=>B0z g L a h _ (B3E b) (by have:=(A0d.1 b).2.1.2;show r.l.length<=1000;omega) x n m)
theorem A5o (g:Lg) (L:Lk) (a:L.Ok) (f t e s q:Int) (x:WX) (n:Int):A4M g L 17 (wd 5 f t e s q []) x n (V2 L (wd 5 f t e s q []) n):=
 A1e g L a _ (fun d hd=>by cases hd) (fun e h=>by cases h) x n (fun _ m _ Sx w l h K S v R=>B0u g L a _ rfl x n Sx w l h K) (fun _ _ b=>by cases b)
theorem A7J (g:Lg) (L:Lk) (a:L.Ok) (f t e s q:Int) (c:B9 s) (x:WX) (n:Int):A4M g L 17 (wd 6 f t e s q []) x n (V2 L (wd 6 f t e s q []) n):=
 A1e g L a _ (fun d hd=>by cases hd) (fun e h=>by cases h) x n (fun _ m _ Sx w l h K S v R=>B0v g L a _ rfl c x n Sx w l h K) (fun _ _ b=>by cases b)
end Go.Proofs.YtefdfaeieekioaaGreatDoor
end
