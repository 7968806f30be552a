import Derived.Test.YtefdfaeieekioaaGreatDoorP14
set_option maxRecDepth 100000
set_option maxHeartbeats 40000000
set_option linter.unusedVariables false
set_option linter.unusedSimpArgs false
/- Walk: armariumlaw13.LinkForeign. -/
namespace Go.Proofs.YtefdfaeieekioaaGreatDoor
open Go.Vc Go.RowKit Go.Fl Go.ChangeShapes Go.WideShapes Go.ChangeAt
structure Foreign (u:Wd):Prop where
 ep:u.ep=1
 to:u.to=2->(u.kind=4\/u.kind=5\/u.kind=6\/u.kind=10)/\u.frm≠1/\u.frm≠3
theorem C1v {H:Sh} {n:Nat} (hf:Fit H n) (he:H.k.ep=1) {u:Wd} (hu:Foreign u):B9Y (l2 H 1 100 []) u 1=(l2 H 1 100 [],[]):=by
 by_cases ht:u.to=2
 rotate_left
 ·exact C09 (.inl ht)
 cases hm:A51 u with
 | false=>exact C09 (.inr hm)
 | true=>
  obtain⟨hk,h1,h3⟩:=hu.to ht
  rw [A8x ht hm (by omega)]
  by_cases h10:u.kind=10
  ·unfold T7
   rw [if_neg (by omega),if_neg (fun h=>h.elim (fun h=>h hu.ep) (by show (1:Int)≠0;decide)),if_pos h10]
   unfold B5k
   rw [if_pos (.inl (by show (0:Int)≠2;decide))]
  ·rw [B1J (by omega) h10 (by omega) hu.ep (by show (1:Int)≠0;decide) (B7H hf he (by decide)),if_neg (by omega)]
   rcases hk with hk | hk | hk | hk
   ·rw [if_pos hk]
    unfold A32
    rw [A7i,if_pos (.inr h1)]
   ·rw [if_neg (by omega),if_pos hk]
    unfold B5j
    rw [B1M,if_pos (.inr h3)]
   ·rw [if_neg (by omega),if_neg (by omega),if_pos hk]
    unfold B4X
    rw [B1M,if_pos (.inr h3)]
   ·exact absurd hk h10
theorem C4G (g:Lg) {H:Sh} {n:Nat} (hf:Fit H n) (he:H.k.ep=1) {u:Wd} (ku:u.Ok) (hu:Foreign u) (x:WX):A5a g (l2 H 1 100 []) 17 u x 1 (l2 H 1 100 [],[]):=by
 have hL:=B7G (ep:=1) (til:=100) (dn:=[]) hf (by decide) (by unfold B3;decide)
 rw [<-C1v hf he hu]
 refine A2P g _ hL u ku.deeds (fun e h=>(ku.st.l e h).key) x 1 (fun ht hm hk=>?_) (fun ht hm hk=>?_)
 ·obtain⟨hk,h1,h3⟩:=hu.to ht
  rw [<-A8x ht hm (by omega),C1v hf he hu]
  exact fun Sx w hlt he hK Sv hvd hR=>C35 g _ u x 1 hk (by show (0:Int)≠2;decide) (fun _=>by rw [A7i];exact h1) (fun _=>by rw [B1M];exact h3) Sx w hlt he hK
 ·obtain⟨hk2,_⟩:=hu.to ht
  omega
theorem C1l (a:Wd) (ka:a.Ok) (y:WX) (w:World) (hw:Env w) (hR:WdR a y (inW w) w):Calls Tryz.prog 12 #[.agg (wdC a y).toArray] w (C8 (.bool true) w):=by
 obtain⟨b,hb⟩:∃ b,b=C3n a:=⟨_,rfl⟩
 have hwb:=C17 a ka y
 have kb:=C2i ka
 rw [<-hb] at hwb kb
 clear hb
 have k1:({ b with ep:=1 }:Wd).Ok:=⟨kb.kind,kb.frm,kb.to,by show B3 1;unfold B3;decide,kb.seq,kb.req,kb.til,kb.err,kb.ver,kb.ros,kb.deeds,kb.st,kb.five⟩
 refine vE Tryz.func12 ?_
 have hc:=CtxF.start w no (fun _ h=>h.elim) (R:=fun _ _=>True) trivial Stab.true
 refine hc.n fun g1 wg1 hg1 hc=>?_
 refine hc.q (A6n _ (hw.below hc.below)) fun wQ hQ hc=>?_
 refine⟨(A80 _ (hw.below hc.below)).mono fun en wq hq=>?_⟩
 obtain⟨g,H,e1,hb,hf,hk,hO⟩:=hq
 have hc:=hc.sepNew hb hO (LinkK.stab _ _)
 refine⟨_,e1,?_⟩
 refine⟨.bool false,fun w=>B7C g.gl _ _ w,?_⟩
 intro gb wgb hgb
 have hc:=hc.made hgb 8 1 rfl (by decide)
 obtain⟨S2,hc⟩:=hc.sepTold Stab.true (LinkK.stab _ _)
 have hc:CtxF no w S2 wgb [(g1,43,wdC a y)] [] (Sep w.heap.size (fun S w=>True/\Row S w (some ⟨gb,0,none⟩) 1 1 (([B2C 0].map dC).flatten)) (LinkK g (l2 H 1 100 []))):=hc
 obtain⟨H1,hf1,hk1,hs1⟩:=B4G (i:=0) hf (by decide) hk
 refine⟨(hc.heard0 hw (Stab.true.and A2F) (L':=l2 H1 1 100 []) (ws:=[B5n 1 0 [B2C 0]]) (fun Sx S1 hlt he hK hvd hr=>?_)).mono fun en wq hq=>?_⟩
 ·have sd:=A8z g (l2 H 1 100 []) (B7G hf (by decide) (by unfold B3;decide)) (Nat.zero_le _) 0 (by unfold B3;decide) [B2C 0] (fun d hd=>by rw [List.mem_singleton.1 hd];exact B17 (by decide)) (some ⟨gb,0,none⟩) 1 (C4D (B1N _ _ _ _)) Sx _ hlt he hK S1 hvd hr.2
  rw [show B9Y (l2 H 1 100 []) (B1O 1 0 [B2C 0]) 1=_ from hs1] at sd
  exact sd
 obtain⟨A9,c9,S3,e1,hc⟩:=hq
 have hc:=hc.sepNow (R':=fun _ _=>True) (fun _ _=>trivial) (fun _ h=>h) Stab.true (LinkK.stab _ _)
 refine⟨_,e1,?_⟩
 have hep:H1.k.ep=1:=by rw [hk1]
 have hsq:H1.k.seq=1:=by rw [hk1];rfl
 refine⟨wdC a y,rfl,hc.cells 0 rfl,?_⟩
 refine⟨(hwb (inW w) _ (hR.below hc.below)).mono fun en wq hq=>?_⟩
 obtain⟨y1,e1,hq,hrep⟩:=hq
 have hc:=hc.sepKnow Stab.true (LinkK.stab _ _) hq hrep (WdR.stab _ _)
 refine⟨_,e1,?_⟩
 refine hc.s 0 rfl fun wS hS hc=>?_
 have hc:=I9 hc (l':=[(g1,43,wdC b y1)]) (by kernel_rfl)
 refine hc.s 0 rfl fun wS hS hc=>?_
 have hc:=I9 hc (l':=[(g1,43,wdC { b with ep:=1 } y1)]) (by kernel_rfl)
 refine hc.c 0 rfl rfl ?_
 by_cases ht:b.to=2
 rotate_left
 ·refine C3X (by show (b.to==2)=false;rw [beq_eq_false_iff_ne];exact ht) ?_
  refine hc.c 0 rfl rfl ?_
  refine C3X (by show (b.to==2)=false;rw [beq_eq_false_iff_ne];exact ht) ?_
  have u1:Foreign { b with ep:=1 }:=⟨rfl,fun h=>absurd h ht⟩
  refine⟨wdC { b with ep:=1 } y1,rfl,hc.cells 0 rfl,?_⟩
  have hm:=R2 { b with ep:=1 } k1 y1 _ _ (hc.row.left (Stab.true.and (WdR.stab _ _))).2
  obtain⟨b1,e1⟩:∃ b9:Bool,b9=A51 { b with ep:=1 }:=⟨_,rfl⟩
  rw [<-e1] at hm
  refine hc.q (hm) fun wQ hQ hc=>?_
  cases b1 with
  | false=>exact⟨rfl,hc.below⟩
  | true=>
   refine⟨wdC { b with ep:=1 } y1,rfl,hc.cells 0 rfl,?_⟩
   refine⟨(hc.heard0 hw (Stab.true.and (WdR.stab _ _)) (L':=l2 H1 1 100 []) (ws:=[]) (fun Sx S1 hlt he hK hvd hr=>C4G g hf1 hep k1 u1 y1 Sx _ hlt he hK S1 hvd hr.2)).mono fun en wq hq=>?_⟩
   obtain⟨A9,c9,S9,e9,hc⟩:=hq
   refine⟨_,e9,?_⟩
   refine⟨(hc.heard0 hw (Stab.true.and (WdR.stab _ _)) (L':=l2 H1 1 100 []) (ws:=[]) (fun Sx S1 hlt he hK hvd hr=>C0w g (l2 H1 1 100 []) (fun v hv=>by cases hv) Sx _ hlt hK)).mono fun en wq hq=>?_⟩
   obtain⟨A8,c8,S8,e8,hc⟩:=hq
   refine⟨_,e8,?_⟩
   refine hc.q (W9 g _ _ _ (hc.row.right (LinkK.stab _ _))) fun wQ hQ hc=>?_
   refine hc.q (A0o g.gs g.gj g.gc g.b H1 hf1.ok _ _ (hc.row.right (LinkK.stab _ _)).shelf) fun wQ hQ hc=>?_
   refine B0 (by show (H1.k.seq==(1:Int))=true;rw [hsq];rfl) ?_
   refine hc.q (W9 g _ _ _ (hc.row.right (LinkK.stab _ _))) fun wQ hQ hc=>?_
   refine⟨(A0S g.gs g.gj g.gc g.b H1 hf1.ok _ _ (hc.row.right (LinkK.stab _ _)).shelf).mono fun en wq hq=>?_⟩
   obtain⟨cB,e7,hq,hrB⟩:=hq
   obtain⟨z,rfl⟩:=hrB.stX
   have hc:=(hc.quiet hq).1
   refine⟨_,e7,?_⟩
   refine⟨B7 ?_,hc.below⟩
   show (H1.k.b.seq==(0:Int))=true
   rw [hk1]
   rfl
 refine B0 (by show (b.to==2)=true;rw [ht];rfl) ?_
 refine hc.c 0 rfl rfl ?_
 by_cases k4:b.kind=4
 ·refine C3X (by show (b.kind != 4)=false;rw [k4];rfl) ?_
  have hkd:b.kind=4\/b.kind=5\/b.kind=6\/b.kind=10:=.inl k4
  refine hc.c 0 rfl rfl ?_
  refine B0 (by show (b.to==2)=true;rw [ht];rfl) ?_
  refine hc.c 0 rfl rfl ?_
  by_cases h1:b.frm=1
  ·refine B0 (by show (b.frm==1)=true;rw [h1];rfl) ?_
   refine hc.s 0 rfl fun wS hS hc=>?_
   have hc:=I9 hc (l':=[(g1,43,wdC { b with ep:=1,frm:=4 } y1)]) (by kernel_rfl)
   have k4:({ b with ep:=1,frm:=4 }:Wd).Ok:=⟨kb.kind,by show B3 4;unfold B3;decide,kb.to,by show B3 1;unfold B3;decide,kb.seq,kb.req,kb.til,kb.err,kb.ver,kb.ros,kb.deeds,kb.st,kb.five⟩
   have u4:Foreign { b with ep:=1,frm:=4 }:=⟨rfl,fun _=>⟨hkd,by show (4:Int)≠1;decide,by show (4:Int)≠3;decide⟩⟩
   refine⟨wdC { b with ep:=1,frm:=4 } y1,rfl,hc.cells 0 rfl,?_⟩
   have hm:=R2 { b with ep:=1,frm:=4 } k4 y1 _ _ (hc.row.left (Stab.true.and (WdR.stab _ _))).2
   obtain⟨b1,e1⟩:∃ b9:Bool,b9=A51 { b with ep:=1,frm:=4 }:=⟨_,rfl⟩
   rw [<-e1] at hm
   refine hc.q (hm) fun wQ hQ hc=>?_
   cases b1 with
   | false=>exact⟨rfl,hc.below⟩
   | true=>
    refine⟨wdC { b with ep:=1,frm:=4 } y1,rfl,hc.cells 0 rfl,?_⟩
    refine⟨(hc.heard0 hw (Stab.true.and (WdR.stab _ _)) (L':=l2 H1 1 100 []) (ws:=[]) (fun Sx S1 hlt he hK hvd hr=>C4G g hf1 hep k4 u4 y1 Sx _ hlt he hK S1 hvd hr.2)).mono fun en wq hq=>?_⟩
    obtain⟨A9,c9,S9,e9,hc⟩:=hq
    refine⟨_,e9,?_⟩
    refine⟨(hc.heard0 hw (Stab.true.and (WdR.stab _ _)) (L':=l2 H1 1 100 []) (ws:=[]) (fun Sx S1 hlt he hK hvd hr=>C0w g (l2 H1 1 100 []) (fun v hv=>by cases hv) Sx _ hlt hK)).mono fun en wq hq=>?_⟩
    obtain⟨A8,c8,S8,e8,hc⟩:=hq
    refine⟨_,e8,?_⟩
    refine hc.q (W9 g _ _ _ (hc.row.right (LinkK.stab _ _))) fun wQ hQ hc=>?_
    refine hc.q (A0o g.gs g.gj g.gc g.b H1 hf1.ok _ _ (hc.row.right (LinkK.stab _ _)).shelf) fun wQ hQ hc=>?_
    refine B0 (by show (H1.k.seq==(1:Int))=true;rw [hsq];rfl) ?_
    refine hc.q (W9 g _ _ _ (hc.row.right (LinkK.stab _ _))) fun wQ hQ hc=>?_
    refine⟨(A0S g.gs g.gj g.gc g.b H1 hf1.ok _ _ (hc.row.right (LinkK.stab _ _)).shelf).mono fun en wq hq=>?_⟩
    obtain⟨cB,e7,hq,hrB⟩:=hq
    obtain⟨z,rfl⟩:=hrB.stX
    have hc:=(hc.quiet hq).1
    refine⟨_,e7,?_⟩
    refine⟨B7 ?_,hc.below⟩
    show (H1.k.b.seq==(0:Int))=true
    rw [hk1]
    rfl
  refine C3X (by show (b.frm==1)=false;rw [beq_eq_false_iff_ne];exact h1) ?_
  refine hc.c 0 rfl rfl ?_
  by_cases h3:b.frm=3
  ·refine B0 (by show (b.frm==3)=true;rw [h3];rfl) ?_
   refine hc.s 0 rfl fun wS hS hc=>?_
   have hc:=I9 hc (l':=[(g1,43,wdC { b with ep:=1,frm:=4 } y1)]) (by kernel_rfl)
   have k4:({ b with ep:=1,frm:=4 }:Wd).Ok:=⟨kb.kind,by show B3 4;unfold B3;decide,kb.to,by show B3 1;unfold B3;decide,kb.seq,kb.req,kb.til,kb.err,kb.ver,kb.ros,kb.deeds,kb.st,kb.five⟩
   have u4:Foreign { b with ep:=1,frm:=4 }:=⟨rfl,fun _=>⟨hkd,by show (4:Int)≠1;decide,by show (4:Int)≠3;decide⟩⟩
   refine⟨wdC { b with ep:=1,frm:=4 } y1,rfl,hc.cells 0 rfl,?_⟩
   have hm:=R2 { b with ep:=1,frm:=4 } k4 y1 _ _ (hc.row.left (Stab.true.and (WdR.stab _ _))).2
   obtain⟨b1,e1⟩:∃ b9:Bool,b9=A51 { b with ep:=1,frm:=4 }:=⟨_,rfl⟩
   rw [<-e1] at hm
   refine hc.q (hm) fun wQ hQ hc=>?_
   cases b1 with
   | false=>exact⟨rfl,hc.below⟩
   | true=>
    refine⟨wdC { b with ep:=1,frm:=4 } y1,rfl,hc.cells 0 rfl,?_⟩
    refine⟨(hc.heard0 hw (Stab.true.and (WdR.stab _ _)) (L':=l2 H1 1 100 []) (ws:=[]) (fun Sx S1 hlt he hK hvd hr=>C4G g hf1 hep k4 u4 y1 Sx _ hlt he hK S1 hvd hr.2)).mono fun en wq hq=>?_⟩
    obtain⟨A9,c9,S9,e9,hc⟩:=hq
    refine⟨_,e9,?_⟩
    refine⟨(hc.heard0 hw (Stab.true.and (WdR.stab _ _)) (L':=l2 H1 1 100 []) (ws:=[]) (fun Sx S1 hlt he hK hvd hr=>C0w g (l2 H1 1 100 []) (fun v hv=>by cases hv) Sx _ hlt hK)).mono fun en wq hq=>?_⟩
    obtain⟨A8,c8,S8,e8,hc⟩:=hq
    refine⟨_,e8,?_⟩
    refine hc.q (W9 g _ _ _ (hc.row.right (LinkK.stab _ _))) fun wQ hQ hc=>?_
    refine hc.q (A0o g.gs g.gj g.gc g.b H1 hf1.ok _ _ (hc.row.right (LinkK.stab _ _)).shelf) fun wQ hQ hc=>?_
    refine B0 (by show (H1.k.seq==(1:Int))=true;rw [hsq];rfl) ?_
    refine hc.q (W9 g _ _ _ (hc.row.right (LinkK.stab _ _))) fun wQ hQ hc=>?_
    refine⟨(A0S g.gs g.gj g.gc g.b H1 hf1.ok _ _ (hc.row.right (LinkK.stab _ _)).shelf).mono fun en wq hq=>?_⟩
    obtain⟨cB,e7,hq,hrB⟩:=hq
    obtain⟨z,rfl⟩:=hrB.stX
    have hc:=(hc.quiet hq).1
    refine⟨_,e7,?_⟩
    refine⟨B7 ?_,hc.below⟩
    show (H1.k.b.seq==(0:Int))=true
    rw [hk1]
    rfl
  refine C3X (by show (b.frm==3)=false;rw [beq_eq_false_iff_ne];exact h3) ?_
  have u1:Foreign { b with ep:=1 }:=⟨rfl,fun _=>⟨hkd,h1,h3⟩⟩
  refine⟨wdC { b with ep:=1 } y1,rfl,hc.cells 0 rfl,?_⟩
  have hm:=R2 { b with ep:=1 } k1 y1 _ _ (hc.row.left (Stab.true.and (WdR.stab _ _))).2
  obtain⟨b1,e1⟩:∃ b9:Bool,b9=A51 { b with ep:=1 }:=⟨_,rfl⟩
  rw [<-e1] at hm
  refine hc.q (hm) fun wQ hQ hc=>?_
  cases b1 with
  | false=>exact⟨rfl,hc.below⟩
  | true=>
   refine⟨wdC { b with ep:=1 } y1,rfl,hc.cells 0 rfl,?_⟩
   refine⟨(hc.heard0 hw (Stab.true.and (WdR.stab _ _)) (L':=l2 H1 1 100 []) (ws:=[]) (fun Sx S1 hlt he hK hvd hr=>C4G g hf1 hep k1 u1 y1 Sx _ hlt he hK S1 hvd hr.2)).mono fun en wq hq=>?_⟩
   obtain⟨A9,c9,S9,e9,hc⟩:=hq
   refine⟨_,e9,?_⟩
   refine⟨(hc.heard0 hw (Stab.true.and (WdR.stab _ _)) (L':=l2 H1 1 100 []) (ws:=[]) (fun Sx S1 hlt he hK hvd hr=>C0w g (l2 H1 1 100 []) (fun v hv=>by cases hv) Sx _ hlt hK)).mono fun en wq hq=>?_⟩
   obtain⟨A8,c8,S8,e8,hc⟩:=hq
   refine⟨_,e8,?_⟩
   refine hc.q (W9 g _ _ _ (hc.row.right (LinkK.stab _ _))) fun wQ hQ hc=>?_
   refine hc.q (A0o g.gs g.gj g.gc g.b H1 hf1.ok _ _ (hc.row.right (LinkK.stab _ _)).shelf) fun wQ hQ hc=>?_
   refine B0 (by show (H1.k.seq==(1:Int))=true;rw [hsq];rfl) ?_
   refine hc.q (W9 g _ _ _ (hc.row.right (LinkK.stab _ _))) fun wQ hQ hc=>?_
   refine⟨(A0S g.gs g.gj g.gc g.b H1 hf1.ok _ _ (hc.row.right (LinkK.stab _ _)).shelf).mono fun en wq hq=>?_⟩
   obtain⟨cB,e7,hq,hrB⟩:=hq
   obtain⟨z,rfl⟩:=hrB.stX
   have hc:=(hc.quiet hq).1
   refine⟨_,e7,?_⟩
   refine⟨B7 ?_,hc.below⟩
   show (H1.k.b.seq==(0:Int))=true
   rw [hk1]
   rfl
 refine B0 (by show (b.kind != 4)=true;rw [bne_iff_ne];exact k4) ?_
 refine hc.c 0 rfl rfl ?_
 by_cases k5:b.kind=5
 ·refine C3X (by show (b.kind != 5)=false;rw [k5];rfl) ?_
  have hkd:b.kind=4\/b.kind=5\/b.kind=6\/b.kind=10:=.inr (.inl k5)
  refine hc.c 0 rfl rfl ?_
  refine B0 (by show (b.to==2)=true;rw [ht];rfl) ?_
  refine hc.c 0 rfl rfl ?_
  by_cases h1:b.frm=1
  ·refine B0 (by show (b.frm==1)=true;rw [h1];rfl) ?_
   refine hc.s 0 rfl fun wS hS hc=>?_
   have hc:=I9 hc (l':=[(g1,43,wdC { b with ep:=1,frm:=4 } y1)]) (by kernel_rfl)
   have k4:({ b with ep:=1,frm:=4 }:Wd).Ok:=⟨kb.kind,by show B3 4;unfold B3;decide,kb.to,by show B3 1;unfold B3;decide,kb.seq,kb.req,kb.til,kb.err,kb.ver,kb.ros,kb.deeds,kb.st,kb.five⟩
   have u4:Foreign { b with ep:=1,frm:=4 }:=⟨rfl,fun _=>⟨hkd,by show (4:Int)≠1;decide,by show (4:Int)≠3;decide⟩⟩
   refine⟨wdC { b with ep:=1,frm:=4 } y1,rfl,hc.cells 0 rfl,?_⟩
   have hm:=R2 { b with ep:=1,frm:=4 } k4 y1 _ _ (hc.row.left (Stab.true.and (WdR.stab _ _))).2
   obtain⟨b1,e1⟩:∃ b9:Bool,b9=A51 { b with ep:=1,frm:=4 }:=⟨_,rfl⟩
   rw [<-e1] at hm
   refine hc.q (hm) fun wQ hQ hc=>?_
   cases b1 with
   | false=>exact⟨rfl,hc.below⟩
   | true=>
    refine⟨wdC { b with ep:=1,frm:=4 } y1,rfl,hc.cells 0 rfl,?_⟩
    refine⟨(hc.heard0 hw (Stab.true.and (WdR.stab _ _)) (L':=l2 H1 1 100 []) (ws:=[]) (fun Sx S1 hlt he hK hvd hr=>C4G g hf1 hep k4 u4 y1 Sx _ hlt he hK S1 hvd hr.2)).mono fun en wq hq=>?_⟩
    obtain⟨A9,c9,S9,e9,hc⟩:=hq
    refine⟨_,e9,?_⟩
    refine⟨(hc.heard0 hw (Stab.true.and (WdR.stab _ _)) (L':=l2 H1 1 100 []) (ws:=[]) (fun Sx S1 hlt he hK hvd hr=>C0w g (l2 H1 1 100 []) (fun v hv=>by cases hv) Sx _ hlt hK)).mono fun en wq hq=>?_⟩
    obtain⟨A8,c8,S8,e8,hc⟩:=hq
    refine⟨_,e8,?_⟩
    refine hc.q (W9 g _ _ _ (hc.row.right (LinkK.stab _ _))) fun wQ hQ hc=>?_
    refine hc.q (A0o g.gs g.gj g.gc g.b H1 hf1.ok _ _ (hc.row.right (LinkK.stab _ _)).shelf) fun wQ hQ hc=>?_
    refine B0 (by show (H1.k.seq==(1:Int))=true;rw [hsq];rfl) ?_
    refine hc.q (W9 g _ _ _ (hc.row.right (LinkK.stab _ _))) fun wQ hQ hc=>?_
    refine⟨(A0S g.gs g.gj g.gc g.b H1 hf1.ok _ _ (hc.row.right (LinkK.stab _ _)).shelf).mono fun en wq hq=>?_⟩
    obtain⟨cB,e7,hq,hrB⟩:=hq
    obtain⟨z,rfl⟩:=hrB.stX
    have hc:=(hc.quiet hq).1
    refine⟨_,e7,?_⟩
    refine⟨B7 ?_,hc.below⟩
    show (H1.k.b.seq==(0:Int))=true
    rw [hk1]
    rfl
  refine C3X (by show (b.frm==1)=false;rw [beq_eq_false_iff_ne];exact h1) ?_
  refine hc.c 0 rfl rfl ?_
  by_cases h3:b.frm=3
  ·refine B0 (by show (b.frm==3)=true;rw [h3];rfl) ?_
   refine hc.s 0 rfl fun wS hS hc=>?_
   have hc:=I9 hc (l':=[(g1,43,wdC { b with ep:=1,frm:=4 } y1)]) (by kernel_rfl)
   have k4:({ b with ep:=1,frm:=4 }:Wd).Ok:=⟨kb.kind,by show B3 4;unfold B3;decide,kb.to,by show B3 1;unfold B3;decide,kb.seq,kb.req,kb.til,kb.err,kb.ver,kb.ros,kb.deeds,kb.st,kb.five⟩
   have u4:Foreign { b with ep:=1,frm:=4 }:=⟨rfl,fun _=>⟨hkd,by show (4:Int)≠1;decide,by show (4:Int)≠3;decide⟩⟩
   refine⟨wdC { b with ep:=1,frm:=4 } y1,rfl,hc.cells 0 rfl,?_⟩
   have hm:=R2 { b with ep:=1,frm:=4 } k4 y1 _ _ (hc.row.left (Stab.true.and (WdR.stab _ _))).2
   obtain⟨b1,e1⟩:∃ b9:Bool,b9=A51 { b with ep:=1,frm:=4 }:=⟨_,rfl⟩
   rw [<-e1] at hm
   refine hc.q (hm) fun wQ hQ hc=>?_
   cases b1 with
   | false=>exact⟨rfl,hc.below⟩
   | true=>
    refine⟨wdC { b with ep:=1,frm:=4 } y1,rfl,hc.cells 0 rfl,?_⟩
    refine⟨(hc.heard0 hw (Stab.true.and (WdR.stab _ _)) (L':=l2 H1 1 100 []) (ws:=[]) (fun Sx S1 hlt he hK hvd hr=>C4G g hf1 hep k4 u4 y1 Sx _ hlt he hK S1 hvd hr.2)).mono fun en wq hq=>?_⟩
    obtain⟨A9,c9,S9,e9,hc⟩:=hq
    refine⟨_,e9,?_⟩
    refine⟨(hc.heard0 hw (Stab.true.and (WdR.stab _ _)) (L':=l2 H1 1 100 []) (ws:=[]) (fun Sx S1 hlt he hK hvd hr=>C0w g (l2 H1 1 100 []) (fun v hv=>by cases hv) Sx _ hlt hK)).mono fun en wq hq=>?_⟩
    obtain⟨A8,c8,S8,e8,hc⟩:=hq
    refine⟨_,e8,?_⟩
    refine hc.q (W9 g _ _ _ (hc.row.right (LinkK.stab _ _))) fun wQ hQ hc=>?_
    refine hc.q (A0o g.gs g.gj g.gc g.b H1 hf1.ok _ _ (hc.row.right (LinkK.stab _ _)).shelf) fun wQ hQ hc=>?_
    refine B0 (by show (H1.k.seq==(1:Int))=true;rw [hsq];rfl) ?_
    refine hc.q (W9 g _ _ _ (hc.row.right (LinkK.stab _ _))) fun wQ hQ hc=>?_
    refine⟨(A0S g.gs g.gj g.gc g.b H1 hf1.ok _ _ (hc.row.right (LinkK.stab _ _)).shelf).mono fun en wq hq=>?_⟩
    obtain⟨cB,e7,hq,hrB⟩:=hq
    obtain⟨z,rfl⟩:=hrB.stX
    have hc:=(hc.quiet hq).1
    refine⟨_,e7,?_⟩
    refine⟨B7 ?_,hc.below⟩
    show (H1.k.b.seq==(0:Int))=true
    rw [hk1]
    rfl
  refine C3X (by show (b.frm==3)=false;rw [beq_eq_false_iff_ne];exact h3) ?_
  have u1:Foreign { b with ep:=1 }:=⟨rfl,fun _=>⟨hkd,h1,h3⟩⟩
  refine⟨wdC { b with ep:=1 } y1,rfl,hc.cells 0 rfl,?_⟩
  have hm:=R2 { b with ep:=1 } k1 y1 _ _ (hc.row.left (Stab.true.and (WdR.stab _ _))).2
  obtain⟨b1,e1⟩:∃ b9:Bool,b9=A51 { b with ep:=1 }:=⟨_,rfl⟩
  rw [<-e1] at hm
  refine hc.q (hm) fun wQ hQ hc=>?_
  cases b1 with
  | false=>exact⟨rfl,hc.below⟩
  | true=>
   refine⟨wdC { b with ep:=1 } y1,rfl,hc.cells 0 rfl,?_⟩
   refine⟨(hc.heard0 hw (Stab.true.and (WdR.stab _ _)) (L':=l2 H1 1 100 []) (ws:=[]) (fun Sx S1 hlt he hK hvd hr=>C4G g hf1 hep k1 u1 y1 Sx _ hlt he hK S1 hvd hr.2)).mono fun en wq hq=>?_⟩
   obtain⟨A9,c9,S9,e9,hc⟩:=hq
   refine⟨_,e9,?_⟩
   refine⟨(hc.heard0 hw (Stab.true.and (WdR.stab _ _)) (L':=l2 H1 1 100 []) (ws:=[]) (fun Sx S1 hlt he hK hvd hr=>C0w g (l2 H1 1 100 []) (fun v hv=>by cases hv) Sx _ hlt hK)).mono fun en wq hq=>?_⟩
   obtain⟨A8,c8,S8,e8,hc⟩:=hq
   refine⟨_,e8,?_⟩
   refine hc.q (W9 g _ _ _ (hc.row.right (LinkK.stab _ _))) fun wQ hQ hc=>?_
   refine hc.q (A0o g.gs g.gj g.gc g.b H1 hf1.ok _ _ (hc.row.right (LinkK.stab _ _)).shelf) fun wQ hQ hc=>?_
   refine B0 (by show (H1.k.seq==(1:Int))=true;rw [hsq];rfl) ?_
   refine hc.q (W9 g _ _ _ (hc.row.right (LinkK.stab _ _))) fun wQ hQ hc=>?_
   refine⟨(A0S g.gs g.gj g.gc g.b H1 hf1.ok _ _ (hc.row.right (LinkK.stab _ _)).shelf).mono fun en wq hq=>?_⟩
   obtain⟨cB,e7,hq,hrB⟩:=hq
   obtain⟨z,rfl⟩:=hrB.stX
   have hc:=(hc.quiet hq).1
   refine⟨_,e7,?_⟩
   refine⟨B7 ?_,hc.below⟩
   show (H1.k.b.seq==(0:Int))=true
   rw [hk1]
   rfl
 refine B0 (by show (b.kind != 5)=true;rw [bne_iff_ne];exact k5) ?_
 refine hc.c 0 rfl rfl ?_
 by_cases k6:b.kind=6
 ·refine C3X (by show (b.kind != 6)=false;rw [k6];rfl) ?_
  have hkd:b.kind=4\/b.kind=5\/b.kind=6\/b.kind=10:=.inr (.inr (.inl k6))
  refine hc.c 0 rfl rfl ?_
  refine B0 (by show (b.to==2)=true;rw [ht];rfl) ?_
  refine hc.c 0 rfl rfl ?_
  by_cases h1:b.frm=1
  ·refine B0 (by show (b.frm==1)=true;rw [h1];rfl) ?_
   refine hc.s 0 rfl fun wS hS hc=>?_
   have hc:=I9 hc (l':=[(g1,43,wdC { b with ep:=1,frm:=4 } y1)]) (by kernel_rfl)
   have k4:({ b with ep:=1,frm:=4 }:Wd).Ok:=⟨kb.kind,by show B3 4;unfold B3;decide,kb.to,by show B3 1;unfold B3;decide,kb.seq,kb.req,kb.til,kb.err,kb.ver,kb.ros,kb.deeds,kb.st,kb.five⟩
   have u4:Foreign { b with ep:=1,frm:=4 }:=⟨rfl,fun _=>⟨hkd,by show (4:Int)≠1;decide,by show (4:Int)≠3;decide⟩⟩
   refine⟨wdC { b with ep:=1,frm:=4 } y1,rfl,hc.cells 0 rfl,?_⟩
   have hm:=R2 { b with ep:=1,frm:=4 } k4 y1 _ _ (hc.row.left (Stab.true.and (WdR.stab _ _))).2
   obtain⟨b1,e1⟩:∃ b9:Bool,b9=A51 { b with ep:=1,frm:=4 }:=⟨_,rfl⟩
   rw [<-e1] at hm
   refine hc.q (hm) fun wQ hQ hc=>?_
   cases b1 with
   | false=>exact⟨rfl,hc.below⟩
   | true=>
    refine⟨wdC { b with ep:=1,frm:=4 } y1,rfl,hc.cells 0 rfl,?_⟩
    refine⟨(hc.heard0 hw (Stab.true.and (WdR.stab _ _)) (L':=l2 H1 1 100 []) (ws:=[]) (fun Sx S1 hlt he hK hvd hr=>C4G g hf1 hep k4 u4 y1 Sx _ hlt he hK S1 hvd hr.2)).mono fun en wq hq=>?_⟩
    obtain⟨A9,c9,S9,e9,hc⟩:=hq
    refine⟨_,e9,?_⟩
    refine⟨(hc.heard0 hw (Stab.true.and (WdR.stab _ _)) (L':=l2 H1 1 100 []) (ws:=[]) (fun Sx S1 hlt he hK hvd hr=>C0w g (l2 H1 1 100 []) (fun v hv=>by cases hv) Sx _ hlt hK)).mono fun en wq hq=>?_⟩
    obtain⟨A8,c8,S8,e8,hc⟩:=hq
    refine⟨_,e8,?_⟩
    refine hc.q (W9 g _ _ _ (hc.row.right (LinkK.stab _ _))) fun wQ hQ hc=>?_
    refine hc.q (A0o g.gs g.gj g.gc g.b H1 hf1.ok _ _ (hc.row.right (LinkK.stab _ _)).shelf) fun wQ hQ hc=>?_
    refine B0 (by show (H1.k.seq==(1:Int))=true;rw [hsq];rfl) ?_
    refine hc.q (W9 g _ _ _ (hc.row.right (LinkK.stab _ _))) fun wQ hQ hc=>?_
    refine⟨(A0S g.gs g.gj g.gc g.b H1 hf1.ok _ _ (hc.row.right (LinkK.stab _ _)).shelf).mono fun en wq hq=>?_⟩
    obtain⟨cB,e7,hq,hrB⟩:=hq
    obtain⟨z,rfl⟩:=hrB.stX
    have hc:=(hc.quiet hq).1
    refine⟨_,e7,?_⟩
    refine⟨B7 ?_,hc.below⟩
    show (H1.k.b.seq==(0:Int))=true
    rw [hk1]
    rfl
  refine C3X (by show (b.frm==1)=false;rw [beq_eq_false_iff_ne];exact h1) ?_
  refine hc.c 0 rfl rfl ?_
  by_cases h3:b.frm=3
  ·refine B0 (by show (b.frm==3)=true;rw [h3];rfl) ?_
   refine hc.s 0 rfl fun wS hS hc=>?_
   have hc:=I9 hc (l':=[(g1,43,wdC { b with ep:=1,frm:=4 } y1)]) (by kernel_rfl)
   have k4:({ b with ep:=1,frm:=4 }:Wd).Ok:=⟨kb.kind,by show B3 4;unfold B3;decide,kb.to,by show B3 1;unfold B3;decide,kb.seq,kb.req,kb.til,kb.err,kb.ver,kb.ros,kb.deeds,kb.st,kb.five⟩
   have u4:Foreign { b with ep:=1,frm:=4 }:=⟨rfl,fun _=>⟨hkd,by show (4:Int)≠1;decide,by show (4:Int)≠3;decide⟩⟩
   refine⟨wdC { b with ep:=1,frm:=4 } y1,rfl,hc.cells 0 rfl,?_⟩
   have hm:=R2 { b with ep:=1,frm:=4 } k4 y1 _ _ (hc.row.left (Stab.true.and (WdR.stab _ _))).2
   obtain⟨b1,e1⟩:∃ b9:Bool,b9=A51 { b with ep:=1,frm:=4 }:=⟨_,rfl⟩
   rw [<-e1] at hm
   refine hc.q (hm) fun wQ hQ hc=>?_
   cases b1 with
   | false=>exact⟨rfl,hc.below⟩
   | true=>
    refine⟨wdC { b with ep:=1,frm:=4 } y1,rfl,hc.cells 0 rfl,?_⟩
    refine⟨(hc.heard0 hw (Stab.true.and (WdR.stab _ _)) (L':=l2 H1 1 100 []) (ws:=[]) (fun Sx S1 hlt he hK hvd hr=>C4G g hf1 hep k4 u4 y1 Sx _ hlt he hK S1 hvd hr.2)).mono fun en wq hq=>?_⟩
    obtain⟨A9,c9,S9,e9,hc⟩:=hq
    refine⟨_,e9,?_⟩
    refine⟨(hc.heard0 hw (Stab.true.and (WdR.stab _ _)) (L':=l2 H1 1 100 []) (ws:=[]) (fun Sx S1 hlt he hK hvd hr=>C0w g (l2 H1 1 100 []) (fun v hv=>by cases hv) Sx _ hlt hK)).mono fun en wq hq=>?_⟩
    obtain⟨A8,c8,S8,e8,hc⟩:=hq
    refine⟨_,e8,?_⟩
    refine hc.q (W9 g _ _ _ (hc.row.right (LinkK.stab _ _))) fun wQ hQ hc=>?_
    refine hc.q (A0o g.gs g.gj g.gc g.b H1 hf1.ok _ _ (hc.row.right (LinkK.stab _ _)).shelf) fun wQ hQ hc=>?_
    refine B0 (by show (H1.k.seq==(1:Int))=true;rw [hsq];rfl) ?_
    refine hc.q (W9 g _ _ _ (hc.row.right (LinkK.stab _ _))) fun wQ hQ hc=>?_
    refine⟨(A0S g.gs g.gj g.gc g.b H1 hf1.ok _ _ (hc.row.right (LinkK.stab _ _)).shelf).mono fun en wq hq=>?_⟩
    obtain⟨cB,e7,hq,hrB⟩:=hq
    obtain⟨z,rfl⟩:=hrB.stX
    have hc:=(hc.quiet hq).1
    refine⟨_,e7,?_⟩
    refine⟨B7 ?_,hc.below⟩
    show (H1.k.b.seq==(0:Int))=true
    rw [hk1]
    rfl
  refine C3X (by show (b.frm==3)=false;rw [beq_eq_false_iff_ne];exact h3) ?_
  have u1:Foreign { b with ep:=1 }:=⟨rfl,fun _=>⟨hkd,h1,h3⟩⟩
  refine⟨wdC { b with ep:=1 } y1,rfl,hc.cells 0 rfl,?_⟩
  have hm:=R2 { b with ep:=1 } k1 y1 _ _ (hc.row.left (Stab.true.and (WdR.stab _ _))).2
  obtain⟨b1,e1⟩:∃ b9:Bool,b9=A51 { b with ep:=1 }:=⟨_,rfl⟩
  rw [<-e1] at hm
  refine hc.q (hm) fun wQ hQ hc=>?_
  cases b1 with
  | false=>exact⟨rfl,hc.below⟩
  | true=>
   refine⟨wdC { b with ep:=1 } y1,rfl,hc.cells 0 rfl,?_⟩
   refine⟨(hc.heard0 hw (Stab.true.and (WdR.stab _ _)) (L':=l2 H1 1 100 []) (ws:=[]) (fun Sx S1 hlt he hK hvd hr=>C4G g hf1 hep k1 u1 y1 Sx _ hlt he hK S1 hvd hr.2)).mono fun en wq hq=>?_⟩
   obtain⟨A9,c9,S9,e9,hc⟩:=hq
   refine⟨_,e9,?_⟩
   refine⟨(hc.heard0 hw (Stab.true.and (WdR.stab _ _)) (L':=l2 H1 1 100 []) (ws:=[]) (fun Sx S1 hlt he hK hvd hr=>C0w g (l2 H1 1 100 []) (fun v hv=>by cases hv) Sx _ hlt hK)).mono fun en wq hq=>?_⟩
   obtain⟨A8,c8,S8,e8,hc⟩:=hq
   refine⟨_,e8,?_⟩
   refine hc.q (W9 g _ _ _ (hc.row.right (LinkK.stab _ _))) fun wQ hQ hc=>?_
   refine hc.q (A0o g.gs g.gj g.gc g.b H1 hf1.ok _ _ (hc.row.right (LinkK.stab _ _)).shelf) fun wQ hQ hc=>?_
   refine B0 (by show (H1.k.seq==(1:Int))=true;rw [hsq];rfl) ?_
   refine hc.q (W9 g _ _ _ (hc.row.right (LinkK.stab _ _))) fun wQ hQ hc=>?_
   refine⟨(A0S g.gs g.gj g.gc g.b H1 hf1.ok _ _ (hc.row.right (LinkK.stab _ _)).shelf).mono fun en wq hq=>?_⟩
   obtain⟨cB,e7,hq,hrB⟩:=hq
   obtain⟨z,rfl⟩:=hrB.stX
   have hc:=(hc.quiet hq).1
   refine⟨_,e7,?_⟩
   refine⟨B7 ?_,hc.below⟩
   show (H1.k.b.seq==(0:Int))=true
   rw [hk1]
   rfl
 refine B0 (by show (b.kind != 6)=true;rw [bne_iff_ne];exact k6) ?_
 refine hc.c 0 rfl rfl ?_
 by_cases k10:b.kind=10
 ·refine C3X (by show (b.kind != 10)=false;rw [k10];rfl) ?_
  have hkd:b.kind=4\/b.kind=5\/b.kind=6\/b.kind=10:=.inr (.inr (.inr k10))
  refine hc.c 0 rfl rfl ?_
  refine B0 (by show (b.to==2)=true;rw [ht];rfl) ?_
  refine hc.c 0 rfl rfl ?_
  by_cases h1:b.frm=1
  ·refine B0 (by show (b.frm==1)=true;rw [h1];rfl) ?_
   refine hc.s 0 rfl fun wS hS hc=>?_
   have hc:=I9 hc (l':=[(g1,43,wdC { b with ep:=1,frm:=4 } y1)]) (by kernel_rfl)
   have k4:({ b with ep:=1,frm:=4 }:Wd).Ok:=⟨kb.kind,by show B3 4;unfold B3;decide,kb.to,by show B3 1;unfold B3;decide,kb.seq,kb.req,kb.til,kb.err,kb.ver,kb.ros,kb.deeds,kb.st,kb.five⟩
   have u4:Foreign { b with ep:=1,frm:=4 }:=⟨rfl,fun _=>⟨hkd,by show (4:Int)≠1;decide,by show (4:Int)≠3;decide⟩⟩
   refine⟨wdC { b with ep:=1,frm:=4 } y1,rfl,hc.cells 0 rfl,?_⟩
   have hm:=R2 { b with ep:=1,frm:=4 } k4 y1 _ _ (hc.row.left (Stab.true.and (WdR.stab _ _))).2
   obtain⟨b1,e1⟩:∃ b9:Bool,b9=A51 { b with ep:=1,frm:=4 }:=⟨_,rfl⟩
   rw [<-e1] at hm
   refine hc.q (hm) fun wQ hQ hc=>?_
   cases b1 with
   | false=>exact⟨rfl,hc.below⟩
   | true=>
    refine⟨wdC { b with ep:=1,frm:=4 } y1,rfl,hc.cells 0 rfl,?_⟩
    refine⟨(hc.heard0 hw (Stab.true.and (WdR.stab _ _)) (L':=l2 H1 1 100 []) (ws:=[]) (fun Sx S1 hlt he hK hvd hr=>C4G g hf1 hep k4 u4 y1 Sx _ hlt he hK S1 hvd hr.2)).mono fun en wq hq=>?_⟩
    obtain⟨A9,c9,S9,e9,hc⟩:=hq
    refine⟨_,e9,?_⟩
    refine⟨(hc.heard0 hw (Stab.true.and (WdR.stab _ _)) (L':=l2 H1 1 100 []) (ws:=[]) (fun Sx S1 hlt he hK hvd hr=>C0w g (l2 H1 1 100 []) (fun v hv=>by cases hv) Sx _ hlt hK)).mono fun en wq hq=>?_⟩
    obtain⟨A8,c8,S8,e8,hc⟩:=hq
    refine⟨_,e8,?_⟩
    refine hc.q (W9 g _ _ _ (hc.row.right (LinkK.stab _ _))) fun wQ hQ hc=>?_
    refine hc.q (A0o g.gs g.gj g.gc g.b H1 hf1.ok _ _ (hc.row.right (LinkK.stab _ _)).shelf) fun wQ hQ hc=>?_
    refine B0 (by show (H1.k.seq==(1:Int))=true;rw [hsq];rfl) ?_
    refine hc.q (W9 g _ _ _ (hc.row.right (LinkK.stab _ _))) fun wQ hQ hc=>?_
    refine⟨(A0S g.gs g.gj g.gc g.b H1 hf1.ok _ _ (hc.row.right (LinkK.stab _ _)).shelf).mono fun en wq hq=>?_⟩
    obtain⟨cB,e7,hq,hrB⟩:=hq
    obtain⟨z,rfl⟩:=hrB.stX
    have hc:=(hc.quiet hq).1
    refine⟨_,e7,?_⟩
    refine⟨B7 ?_,hc.below⟩
    show (H1.k.b.seq==(0:Int))=true
    rw [hk1]
    rfl
  refine C3X (by show (b.frm==1)=false;rw [beq_eq_false_iff_ne];exact h1) ?_
  refine hc.c 0 rfl rfl ?_
  by_cases h3:b.frm=3
  ·refine B0 (by show (b.frm==3)=true;rw [h3];rfl) ?_
   refine hc.s 0 rfl fun wS hS hc=>?_
   have hc:=I9 hc (l':=[(g1,43,wdC { b with ep:=1,frm:=4 } y1)]) (by kernel_rfl)
   have k4:({ b with ep:=1,frm:=4 }:Wd).Ok:=⟨kb.kind,by show B3 4;unfold B3;decide,kb.to,by show B3 1;unfold B3;decide,kb.seq,kb.req,kb.til,kb.err,kb.ver,kb.ros,kb.deeds,kb.st,kb.five⟩
   have u4:Foreign { b with ep:=1,frm:=4 }:=⟨rfl,fun _=>⟨hkd,by show (4:Int)≠1;decide,by show (4:Int)≠3;decide⟩⟩
   refine⟨wdC { b with ep:=1,frm:=4 } y1,rfl,hc.cells 0 rfl,?_⟩
   have hm:=R2 { b with ep:=1,frm:=4 } k4 y1 _ _ (hc.row.left (Stab.true.and (WdR.stab _ _))).2
   obtain⟨b1,e1⟩:∃ b9:Bool,b9=A51 { b with ep:=1,frm:=4 }:=⟨_,rfl⟩
   rw [<-e1] at hm
   refine hc.q (hm) fun wQ hQ hc=>?_
   cases b1 with
   | false=>exact⟨rfl,hc.below⟩
   | true=>
    refine⟨wdC { b with ep:=1,frm:=4 } y1,rfl,hc.cells 0 rfl,?_⟩
    refine⟨(hc.heard0 hw (Stab.true.and (WdR.stab _ _)) (L':=l2 H1 1 100 []) (ws:=[]) (fun Sx S1 hlt he hK hvd hr=>C4G g hf1 hep k4 u4 y1 Sx _ hlt he hK S1 hvd hr.2)).mono fun en wq hq=>?_⟩
    obtain⟨A9,c9,S9,e9,hc⟩:=hq
    refine⟨_,e9,?_⟩
    refine⟨(hc.heard0 hw (Stab.true.and (WdR.stab _ _)) (L':=l2 H1 1 100 []) (ws:=[]) (fun Sx S1 hlt he hK hvd hr=>C0w g (l2 H1 1 100 []) (fun v hv=>by cases hv) Sx _ hlt hK)).mono fun en wq hq=>?_⟩
    obtain⟨A8,c8,S8,e8,hc⟩:=hq
    refine⟨_,e8,?_⟩
    refine hc.q (W9 g _ _ _ (hc.row.right (LinkK.stab _ _))) fun wQ hQ hc=>?_
    refine hc.q (A0o g.gs g.gj g.gc g.b H1 hf1.ok _ _ (hc.row.right (LinkK.stab _ _)).shelf) fun wQ hQ hc=>?_
    refine B0 (by show (H1.k.seq==(1:Int))=true;rw [hsq];rfl) ?_
    refine hc.q (W9 g _ _ _ (hc.row.right (LinkK.stab _ _))) fun wQ hQ hc=>?_
    refine⟨(A0S g.gs g.gj g.gc g.b H1 hf1.ok _ _ (hc.row.right (LinkK.stab _ _)).shelf).mono fun en wq hq=>?_⟩
    obtain⟨cB,e7,hq,hrB⟩:=hq
    obtain⟨z,rfl⟩:=hrB.stX
    have hc:=(hc.quiet hq).1
    refine⟨_,e7,?_⟩
    refine⟨B7 ?_,hc.below⟩
    show (H1.k.b.seq==(0:Int))=true
    rw [hk1]
    rfl
  refine C3X (by show (b.frm==3)=false;rw [beq_eq_false_iff_ne];exact h3) ?_
  have u1:Foreign { b with ep:=1 }:=⟨rfl,fun _=>⟨hkd,h1,h3⟩⟩
  refine⟨wdC { b with ep:=1 } y1,rfl,hc.cells 0 rfl,?_⟩
  have hm:=R2 { b with ep:=1 } k1 y1 _ _ (hc.row.left (Stab.true.and (WdR.stab _ _))).2
  obtain⟨b1,e1⟩:∃ b9:Bool,b9=A51 { b with ep:=1 }:=⟨_,rfl⟩
  rw [<-e1] at hm
  refine hc.q (hm) fun wQ hQ hc=>?_
  cases b1 with
  | false=>exact⟨rfl,hc.below⟩
  | true=>
   refine⟨wdC { b with ep:=1 } y1,rfl,hc.cells 0 rfl,?_⟩
   refine⟨(hc.heard0 hw (Stab.true.and (WdR.stab _ _)) (L':=l2 H1 1 100 []) (ws:=[]) (fun Sx S1 hlt he hK hvd hr=>C4G g hf1 hep k1 u1 y1 Sx _ hlt he hK S1 hvd hr.2)).mono fun en wq hq=>?_⟩
   obtain⟨A9,c9,S9,e9,hc⟩:=hq
   refine⟨_,e9,?_⟩
   refine⟨(hc.heard0 hw (Stab.true.and (WdR.stab _ _)) (L':=l2 H1 1 100 []) (ws:=[]) (fun Sx S1 hlt he hK hvd hr=>C0w g (l2 H1 1 100 []) (fun v hv=>by cases hv) Sx _ hlt hK)).mono fun en wq hq=>?_⟩
   obtain⟨A8,c8,S8,e8,hc⟩:=hq
   refine⟨_,e8,?_⟩
   refine hc.q (W9 g _ _ _ (hc.row.right (LinkK.stab _ _))) fun wQ hQ hc=>?_
   refine hc.q (A0o g.gs g.gj g.gc g.b H1 hf1.ok _ _ (hc.row.right (LinkK.stab _ _)).shelf) fun wQ hQ hc=>?_
   refine B0 (by show (H1.k.seq==(1:Int))=true;rw [hsq];rfl) ?_
   refine hc.q (W9 g _ _ _ (hc.row.right (LinkK.stab _ _))) fun wQ hQ hc=>?_
   refine⟨(A0S g.gs g.gj g.gc g.b H1 hf1.ok _ _ (hc.row.right (LinkK.stab _ _)).shelf).mono fun en wq hq=>?_⟩
   obtain⟨cB,e7,hq,hrB⟩:=hq
   obtain⟨z,rfl⟩:=hrB.stX
   have hc:=(hc.quiet hq).1
   refine⟨_,e7,?_⟩
   refine⟨B7 ?_,hc.below⟩
   show (H1.k.b.seq==(0:Int))=true
   rw [hk1]
   rfl
 refine B0 (by show (b.kind != 10)=true;rw [bne_iff_ne];exact k10) ?_
 exact⟨rfl,hc.below⟩
theorem C1g {H:Type} (enc:TypeId × Value->H) (W:World) (hw:Env W) {base:Nat}
  (v0:Value) (d0:DataW H) (p0:List MemPlace) (h0:DataW.Trod enc Tryz.prog W 0 (fun _=>true) true 43 v0 d0 p0) (k0:Value.okWide Tryz.prog W .any base 43 v0):
  Calls Tryz.prog 12 #[v0] W (C8 (.bool true) W):=by
 obtain⟨a0,y0,rfl,r0,o0⟩:=C2R h0 k0
 exact (C1l a0 o0 y0 W hw r0)
end Go.Proofs.YtefdfaeieekioaaGreatDoor
