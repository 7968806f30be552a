import Derived.Test.YtefdfaeieekioaaGreatDoorP14
set_option maxRecDepth 100000
set_option maxHeartbeats 40000000
set_option linter.unusedVariables false
set_option linter.unusedSimpArgs false
/- Walk: armariumlaw13.LinkOld. -/
namespace Go.Proofs.YtefdfaeieekioaaGreatDoor
open Go.Vc Go.RowKit Go.Fl Go.ChangeShapes Go.WideShapes Go.ChangeAt
theorem C3l {x:Int} (h:B3 x) (h0:x≠0):IntKind.i64.wrap (5+x)≠5:=by
 unfold B3 at h
 rw [IntKind.wrap_i64]
 omega
theorem C3e (x:Int):B3 (IntKind.i64.wrap x):=by
 unfold B3
 rw [IntKind.wrap_i64]
 omega
theorem C3i (a:Wd) (ka:a.Ok) (y:WX) (x:Int) (hx:B3 x) (ds:List D) (A:Option Addr) (ca:Nat) (hdk:∀ d∈ds,d.Ok) (w:World) (hw:Env w) (hR:WdR a y (inW w) w) (hA:Row (inW w) w A ds.length ca (ds.map dC).flatten):Calls Tryz.prog 5 #[.agg (wdC a y).toArray,.int .i64 x,.slice A ds.length ca] w (C8 (.bool true) w):=by
 have hmA:=D4 hA
 obtain⟨b,hb⟩:∃ b,b=C3n a:=⟨_,rfl⟩
 have hwb:=C17 a ka y
 have kb:=C2i ka
 rw [<-hb] at hwb kb
 clear hb
 obtain⟨H0',hk0,hf0,hs0⟩:=B1K (id:=2) (r0:=Ros0) (til0:=0) (now:=0) (dn:=[]) (til:=9) (r:=R3 5) Fit.h0 (by decide) (by decide) (B1L (by decide)) (by show (2:Int)∈[(1:Int),2,3];decide) B3W (by decide) (by show (0:Int)<5;decide)
 refine vE Tryz.func5 ?_
 have hc:=CtxF.start w no (fun _ h=>h.elim) (R:=fun _ _=>True) trivial Stab.true
 refine hc.n fun g3 wg3 hg3 hc=>?_
 refine hc.q (A6n _ (hw.below hc.below)) fun wQ hQ hc=>?_
 refine⟨(B1Q 2 _ (hw.below hc.below)).mono fun en wq hq=>?_⟩
 obtain⟨g,e1,hb,hO⟩:=hq
 have hc:=hc.sepNew hb hO (LinkK.stab _ _)
 refine⟨_,e1,?_⟩
 refine⟨.bool false,fun w=>B7C g.gl _ _ w,?_⟩
 intro gb wgb hgb
 have hc:=hc.made hgb 1 3 rfl (by decide)
 obtain⟨S2,hc⟩:=hc.sepTold Stab.true (LinkK.stab _ _)
 have hc:CtxF no w S2 wgb [(g3,43,wdC a y)] [] (Sep w.heap.size (fun S w=>True/\Row S w (some ⟨gb,0,none⟩) 3 3 (A1F [1,2,3])) (LinkK g (lk 2 (H0 1048576) Ros0 0 []))):=hc
 refine⟨(hc.heard0 hw (Stab.true.and A2F) (L':=l2 H0' 5 9 []) (ws:=[]) (fun Sx S1 hlt he hK hvd hr=>?_)).mono fun en wq hq=>?_⟩
 ·have sd:=A2t g (lk 2 (H0 1048576) Ros0 0 []) ⟨by decide,Fit.h0.ok,⟨by unfold B3 Ros0;decide,(fun n hn=>by cases hn),by unfold B3 Ros0;decide⟩,List.nodup_nil,by unfold B3 lk;decide⟩ (Nat.zero_le _) 2 9 0 (R3 5) (B1L (by decide)) ⟨some ⟨gb,0,none⟩,3,none,0,SX0⟩ (C4D (B1N (H0 1048576) 5 0 [])) Sx _ hlt he hK S1 hvd (B1R hr.2)
  rw [hs0,show wdC (O2 2 (R3 5) 9) ⟨some ⟨gb,0,none⟩,3,none,0,SX0⟩=_ from A6Y 2 9 5 0 [1,2,3] (some ⟨gb,0,none⟩) 3] at sd
  exact sd
 obtain⟨A9,c9,S3,e1,hc⟩:=hq
 have hc:=hc.sepNow (R':=fun _ _=>True) (fun _ _=>trivial) (fun _ h=>h) Stab.true (LinkK.stab _ _)
 refine⟨_,e1,?_⟩
 refine⟨Nat × Sh,fun (i,H)=>[(1,.int .i64 x),(2,.slice A ds.length ca),(3,.pointer (some ⟨g3,0,none⟩)),(8,.pointer (some ⟨g.gl,0,none⟩)),(10,.int .i64 (i:Int))],
  fun (i,H) w'=>i<=ds.length/\i<=5/\Fit H (1+i)/\H.k.b.seq=0/\H.k.ep=5/\H.k.pend.length<=i/\∃ S,CtxF no w S w' [(g3,43,wdC a y)] [] (Sep w.heap.size (fun _ _=>True) (LinkK g (l2 H 5 9 []))),fun (i,_) _=>5-i,(0,H0'),⟨rfl,rfl,rfl,rfl,rfl,trivial⟩,⟨Nat.zero_le _,Nat.zero_le _,hf0,by rw [hk0];rfl,by rw [hk0];rfl,by rw [hk0];exact Nat.zero_le _,_,hc⟩,?_⟩
 clear hc
 rintro⟨i,H⟩ w1 u1 ⟨hi,hi5,hf,hb0,he,hpl,S,hc⟩
 by_cases hlt:i<ds.length
 rotate_left
 ·refine df (by omega) ?_
  refine⟨(hc.heard0 hw Stab.true (L':=l2 H 5 9 []) (ws:=[]) (fun Sx S1 hlt he hK hvd hr=>C0w g (l2 H 5 9 []) (fun v hv=>by cases hv) Sx _ hlt hK)).mono fun en wq hq=>?_⟩
  obtain⟨A8,c8,S8,e8,hc⟩:=hq
  refine⟨_,e8,?_⟩
  refine⟨wdC a y,rfl,hc.cells 0 rfl,?_⟩
  refine⟨(hwb (inW w) _ (hR.below hc.below)).mono fun en wq hq=>?_⟩
  obtain⟨y1,e1,hq,hrep⟩:=hq
  have hc:=hc.sepKnow Stab.true (LinkK.stab _ _) hq hrep (WdR.stab _ _)
  refine⟨_,e1,?_⟩
  refine hc.s 0 rfl fun wS hS hc=>?_
  have hc:=I9 hc (l':=[(g3,43,wdC b y1)]) (by kernel_rfl)
  refine hc.s 0 rfl fun wS hS hc=>?_
  have hc:=I9 hc (l':=[(g3,43,wdC { b with to:=2 } y1)]) (by kernel_rfl)
  refine hc.s 0 rfl fun wS hS hc=>?_
  have hc:=I9 hc (l':=[(g3,43,wdC { b with to:=2,ep:=IntKind.i64.wrap (5+x) } y1)]) (by kernel_rfl)
  obtain⟨u,hu⟩:∃ u:Wd,u={ b with to:=2,ep:=IntKind.i64.wrap (5+x) }:=⟨_,rfl⟩
  have ku:u.Ok:=by rw [hu];exact⟨kb.kind,kb.frm,by show B3 2;unfold B3;decide,C3e _,kb.seq,kb.req,kb.til,kb.err,kb.ver,kb.ros,kb.deeds,kb.st,kb.five⟩
  have hep:x≠0->u.ep≠5:=fun h0=>by rw [hu];exact C3l hx h0
  have hc:=hc.sepNow (R':=fun S w=>True/\WdR u y1 S w) (fun S h=>by rw [hu];exact h) (fun _ h=>h) (Stab.true.and (WdR.stab _ _)) (LinkK.stab _ _)
  rw [<-hu] at hc
  clear hu
  refine⟨wdC u y1,rfl,hc.cells 0 rfl,?_⟩
  have hm:=R2 u ku y1 _ _ (hc.row.left (Stab.true.and (WdR.stab _ _))).2
  obtain⟨b1,e1⟩:∃ b1,b1=A51 u:=⟨_,rfl⟩
  rw [<-e1] at hm
  refine hc.q (hm) fun wQ hQ hc=>?_
  cases b1 with
  | false=>exact⟨rfl,hc.below⟩
  | true=>
   by_cases h0:x=0
   ·refine B0 (by show (x==0)=true;rw [h0];rfl) ?_
    exact⟨rfl,hc.below⟩
   refine C3X (by show (x==0)=false;rw [beq_eq_false_iff_ne];exact h0) ?_
   refine hc.c 0 rfl rfl ?_
   by_cases h2:u.kind=2
   ·refine B0 (by show (u.kind==2)=true;rw [h2];rfl) ?_
    exact⟨rfl,hc.below⟩
   refine C3X (by show (u.kind==2)=false;rw [beq_eq_false_iff_ne];exact h2) ?_
   refine hc.c 0 rfl rfl ?_
   by_cases h7:u.kind=7
   ·refine B0 (by show (u.kind==7)=true;rw [h7];rfl) ?_
    exact⟨rfl,hc.below⟩
   refine C3X (by show (u.kind==7)=false;rw [beq_eq_false_iff_ne];exact h7) ?_
   refine hc.q (W9 g _ _ _ (hc.row.right (LinkK.stab _ _))) fun wQ hQ hc=>?_
   refine⟨(A0S g.gs g.gj g.gc g.b H hf.ok _ _ (hc.row.right (LinkK.stab _ _)).shelf).mono fun en wq hq=>?_⟩
   obtain⟨cB,e7,hq,hrB⟩:=hq
   obtain⟨z,rfl⟩:=hrB.stX
   have s1:Stab (fun S w=>True/\WdR u y1 S w):=Stab.true.and (WdR.stab _ _)
   have hc:=hc.sepKnow (X:=fun S w=>RepS S w H.k.b (stX H.k.b z)) s1 (LinkK.stab _ _) hq hrB (A7S _ _)
   have s2:=s1.and (A7S H.k.b (stX H.k.b z))
   refine⟨_,e7,?_⟩
   refine hc.q (W9 g _ _ _ (hc.row.right (LinkK.stab _ _))) fun wQ hQ hc=>?_
   refine⟨(A1R g.gs g.gj g.gc g.b H hf.ok _ _ (hc.row.right (LinkK.stab _ _)).shelf).mono fun en wq hq=>?_⟩
   obtain⟨A3,c3,e4,hq,ho⟩:=hq
   have hc:=hc.sepKnow (X:=fun S w=>Row S w A3 H.k.pend.length c3 (H.k.pend.map dC).flatten) s2 (LinkK.stab _ _) hq (C0I hq ho no) (fun _ _ _ _ h f=>h.fut f)
   have s3:Stab (fun S w=>((True/\WdR u y1 S w)/\RepS S w H.k.b (stX H.k.b z))/\Row S w A3 H.k.pend.length c3 (H.k.pend.map dC).flatten):=s2.and (fun _ _ _ _ h f=>h.fut f)
   refine⟨_,e4,?_⟩
   refine hc.n fun g11 wg11 hg11 hc=>?_
   refine hc.s 0 rfl fun wS hS hc=>?_
   have hc:=I9 hc (l':=[(g11,41,stX H.k.b z),(g3,43,wdC u y1)]) (by kernel_rfl)
   refine vD (.q 0 (.n 1 (.n 2 (.Q [3,4,5,6] (.n 7 (.Q [8,9,10,11,12] (.n 13 (.n 14 (.n 15 (.n 16 (.Q [17,18,19,22] (.n 20 (.n 21 (.n 23 (.Q [24,25,26] (.n 27 (.Q [28,29,30] .fin) .stop)) .stop) .stop) .stop)) .stop) .stop) (.n 15 (.n 14 (.n 16 (.Q [17,18,19,22] (.n 20 (.n 21 (.n 23 (.Q [24,25,26] (.n 27 (.Q [28,29,30] .fin) .stop)) .stop) .stop) .stop)) .stop) .stop) .stop)) (.n 15 (.n 13 (.n 14 (.n 16 (.Q [17,18,19,22] (.n 20 (.n 21 (.n 23 (.Q [24,25,26] (.n 27 (.Q [28,29,30] .fin) .stop)) .stop) .stop) .stop)) .stop) .stop) .stop) .stop))) .stop)) .stop) .stop)) (fun _=>True) trivial ?_
   have hc:=hc.drew
   refine⟨⟨wdC u y1,rfl,hc.cells 1 rfl,trivial,?_⟩,trivial⟩
   refine⟨⟨(hc.heard0 hw s3 (L':=l2 H 5 9 []) (ws:=[]) (fun Sx S1 hlt he hK hvd hr=>C3b g (l2 H 5 9 []) (B7G hf (by decide) (by unfold B3;decide)) u ku 1 h2 h7 (hep h0) y1 Sx _ hlt he hK S1 hvd hr.1.1.2)).mono fun en wq hq=>?_⟩,trivial⟩
   obtain⟨A6,c6,S6,e6,hc⟩:=hq
   refine⟨_,e6,trivial,?_⟩
   refine⟨⟨(hc.heard0 hw s3 (L':=l2 H 5 9 []) (ws:=[]) (fun Sx S1 hlt he hK hvd hr=>C0w g (l2 H 5 9 []) (fun v hv=>by cases hv) Sx _ hlt hK)).mono fun en wq hq=>?_⟩,trivial⟩
   obtain⟨A5,c5,S5,e5,hc⟩:=hq
   refine⟨_,e5,trivial,?_⟩
   refine⟨?_,?_⟩
   ·skip
    refine hc.q' (W9 g _ _ _ (hc.row.right (LinkK.stab _ _))) fun wQ hQ hc=>?_
    refine⟨?_,?_⟩
    ·skip
     refine⟨(A0S g.gs g.gj g.gc g.b H hf.ok _ _ (hc.row.right (LinkK.stab _ _)).shelf).mono fun en wq hq=>?_⟩
     obtain⟨cB,e1,hq,hrB⟩:=hq
     obtain⟨z2,rfl⟩:=hrB.stX
     have hc:=hc.sepKnow (X:=fun S w=>RepS S w H.k.b (stX H.k.b z2)) s3 (LinkK.stab _ _) hq hrB (A7S _ _)
     have s4:=s3.and (A7S H.k.b (stX H.k.b z2))
     refine⟨_,e1,trivial,?_⟩
     refine⟨hc.a' 0 rfl rfl ?_,trivial⟩
     refine⟨?_,trivial⟩
     have heq:=C3Z H.k.b H.k.b _ _ _ _ (hc.row.left s4).2 (hc.row.left s4).1.1.2
     rw [C3a.2 rfl] at heq
     refine hc.q' (heq) fun wQ hQ hc=>?_
     refine⟨hc.q' (W9 g _ _ _ (hc.row.right (LinkK.stab _ _))) fun wQ hQ hc=>?_,trivial⟩
     refine⟨⟨(A1R g.gs g.gj g.gc g.b H hf.ok _ _ (hc.row.right (LinkK.stab _ _)).shelf).mono fun en wq hq=>?_⟩,trivial⟩
     obtain⟨A4,c4,e4,hq,ho⟩:=hq
     have hrow5:=C0I hq ho no
     have hc:=(hc.quiet hq).1
     refine⟨_,e4,trivial,?_⟩
     refine⟨?_,trivial⟩
     have hed:=B9g H.k.pend H.k.pend A4 A3 c4 c3 _ _ _ hrow5 (hc.row.left s4).1.2
     rw [B9s] at hed
     refine hc.q' (hed) fun wQ hQ hc=>?_
     refine⟨hc.q' (C3Y g _ _ _ (hc.row.right (LinkK.stab _ _))) fun wQ hQ hc=>?_,trivial⟩
     exact⟨rfl,hc.below⟩
    refine⟨hc.a' 0 rfl rfl ?_,trivial⟩
    refine⟨⟨(A0S g.gs g.gj g.gc g.b H hf.ok _ _ (hc.row.right (LinkK.stab _ _)).shelf).mono fun en wq hq=>?_⟩,trivial⟩
    obtain⟨cB,e1,hq,hrB⟩:=hq
    obtain⟨z2,rfl⟩:=hrB.stX
    have hc:=hc.sepKnow (X:=fun S w=>RepS S w H.k.b (stX H.k.b z2)) s3 (LinkK.stab _ _) hq hrB (A7S _ _)
    have s4:=s3.and (A7S H.k.b (stX H.k.b z2))
    refine⟨_,e1,trivial,?_⟩
    refine⟨?_,trivial⟩
    have heq:=C3Z H.k.b H.k.b _ _ _ _ (hc.row.left s4).2 (hc.row.left s4).1.1.2
    rw [C3a.2 rfl] at heq
    refine hc.q' (heq) fun wQ hQ hc=>?_
    refine⟨hc.q' (W9 g _ _ _ (hc.row.right (LinkK.stab _ _))) fun wQ hQ hc=>?_,trivial⟩
    refine⟨⟨(A1R g.gs g.gj g.gc g.b H hf.ok _ _ (hc.row.right (LinkK.stab _ _)).shelf).mono fun en wq hq=>?_⟩,trivial⟩
    obtain⟨A4,c4,e4,hq,ho⟩:=hq
    have hrow5:=C0I hq ho no
    have hc:=(hc.quiet hq).1
    refine⟨_,e4,trivial,?_⟩
    refine⟨?_,trivial⟩
    have hed:=B9g H.k.pend H.k.pend A4 A3 c4 c3 _ _ _ hrow5 (hc.row.left s4).1.2
    rw [B9s] at hed
    refine hc.q' (hed) fun wQ hQ hc=>?_
    refine⟨hc.q' (C3Y g _ _ _ (hc.row.right (LinkK.stab _ _))) fun wQ hQ hc=>?_,trivial⟩
    exact⟨rfl,hc.below⟩
   refine⟨hc.a' 0 rfl rfl ?_,trivial⟩
   refine⟨hc.q' (W9 g _ _ _ (hc.row.right (LinkK.stab _ _))) fun wQ hQ hc=>?_,trivial⟩
   refine⟨⟨(A0S g.gs g.gj g.gc g.b H hf.ok _ _ (hc.row.right (LinkK.stab _ _)).shelf).mono fun en wq hq=>?_⟩,trivial⟩
   obtain⟨cB,e1,hq,hrB⟩:=hq
   obtain⟨z2,rfl⟩:=hrB.stX
   have hc:=hc.sepKnow (X:=fun S w=>RepS S w H.k.b (stX H.k.b z2)) s3 (LinkK.stab _ _) hq hrB (A7S _ _)
   have s4:=s3.and (A7S H.k.b (stX H.k.b z2))
   refine⟨_,e1,trivial,?_⟩
   refine⟨?_,trivial⟩
   have heq:=C3Z H.k.b H.k.b _ _ _ _ (hc.row.left s4).2 (hc.row.left s4).1.1.2
   rw [C3a.2 rfl] at heq
   refine hc.q' (heq) fun wQ hQ hc=>?_
   refine⟨hc.q' (W9 g _ _ _ (hc.row.right (LinkK.stab _ _))) fun wQ hQ hc=>?_,trivial⟩
   refine⟨⟨(A1R g.gs g.gj g.gc g.b H hf.ok _ _ (hc.row.right (LinkK.stab _ _)).shelf).mono fun en wq hq=>?_⟩,trivial⟩
   obtain⟨A4,c4,e4,hq,ho⟩:=hq
   have hrow5:=C0I hq ho no
   have hc:=(hc.quiet hq).1
   refine⟨_,e4,trivial,?_⟩
   refine⟨?_,trivial⟩
   have hed:=B9g H.k.pend H.k.pend A4 A3 c4 c3 _ _ _ hrow5 (hc.row.left s4).1.2
   rw [B9s] at hed
   refine hc.q' (hed) fun wQ hQ hc=>?_
   refine⟨hc.q' (C3Y g _ _ _ (hc.row.right (LinkK.stab _ _))) fun wQ hQ hc=>?_,trivial⟩
   exact⟨rfl,hc.below⟩
 refine dt (by omega) ?_
 by_cases h5:i<5
 rotate_left
 ·refine df (by omega) ?_
  refine⟨(hc.heard0 hw Stab.true (L':=l2 H 5 9 []) (ws:=[]) (fun Sx S1 hlt he hK hvd hr=>C0w g (l2 H 5 9 []) (fun v hv=>by cases hv) Sx _ hlt hK)).mono fun en wq hq=>?_⟩
  obtain⟨A8,c8,S8,e8,hc⟩:=hq
  refine⟨_,e8,?_⟩
  refine⟨wdC a y,rfl,hc.cells 0 rfl,?_⟩
  refine⟨(hwb (inW w) _ (hR.below hc.below)).mono fun en wq hq=>?_⟩
  obtain⟨y1,e1,hq,hrep⟩:=hq
  have hc:=hc.sepKnow Stab.true (LinkK.stab _ _) hq hrep (WdR.stab _ _)
  refine⟨_,e1,?_⟩
  refine hc.s 0 rfl fun wS hS hc=>?_
  have hc:=I9 hc (l':=[(g3,43,wdC b y1)]) (by kernel_rfl)
  refine hc.s 0 rfl fun wS hS hc=>?_
  have hc:=I9 hc (l':=[(g3,43,wdC { b with to:=2 } y1)]) (by kernel_rfl)
  refine hc.s 0 rfl fun wS hS hc=>?_
  have hc:=I9 hc (l':=[(g3,43,wdC { b with to:=2,ep:=IntKind.i64.wrap (5+x) } y1)]) (by kernel_rfl)
  obtain⟨u,hu⟩:∃ u:Wd,u={ b with to:=2,ep:=IntKind.i64.wrap (5+x) }:=⟨_,rfl⟩
  have ku:u.Ok:=by rw [hu];exact⟨kb.kind,kb.frm,by show B3 2;unfold B3;decide,C3e _,kb.seq,kb.req,kb.til,kb.err,kb.ver,kb.ros,kb.deeds,kb.st,kb.five⟩
  have hep:x≠0->u.ep≠5:=fun h0=>by rw [hu];exact C3l hx h0
  have hc:=hc.sepNow (R':=fun S w=>True/\WdR u y1 S w) (fun S h=>by rw [hu];exact h) (fun _ h=>h) (Stab.true.and (WdR.stab _ _)) (LinkK.stab _ _)
  rw [<-hu] at hc
  clear hu
  refine⟨wdC u y1,rfl,hc.cells 0 rfl,?_⟩
  have hm:=R2 u ku y1 _ _ (hc.row.left (Stab.true.and (WdR.stab _ _))).2
  obtain⟨b1,e1⟩:∃ b1,b1=A51 u:=⟨_,rfl⟩
  rw [<-e1] at hm
  refine hc.q (hm) fun wQ hQ hc=>?_
  cases b1 with
  | false=>exact⟨rfl,hc.below⟩
  | true=>
   by_cases h0:x=0
   ·refine B0 (by show (x==0)=true;rw [h0];rfl) ?_
    exact⟨rfl,hc.below⟩
   refine C3X (by show (x==0)=false;rw [beq_eq_false_iff_ne];exact h0) ?_
   refine hc.c 0 rfl rfl ?_
   by_cases h2:u.kind=2
   ·refine B0 (by show (u.kind==2)=true;rw [h2];rfl) ?_
    exact⟨rfl,hc.below⟩
   refine C3X (by show (u.kind==2)=false;rw [beq_eq_false_iff_ne];exact h2) ?_
   refine hc.c 0 rfl rfl ?_
   by_cases h7:u.kind=7
   ·refine B0 (by show (u.kind==7)=true;rw [h7];rfl) ?_
    exact⟨rfl,hc.below⟩
   refine C3X (by show (u.kind==7)=false;rw [beq_eq_false_iff_ne];exact h7) ?_
   refine hc.q (W9 g _ _ _ (hc.row.right (LinkK.stab _ _))) fun wQ hQ hc=>?_
   refine⟨(A0S g.gs g.gj g.gc g.b H hf.ok _ _ (hc.row.right (LinkK.stab _ _)).shelf).mono fun en wq hq=>?_⟩
   obtain⟨cB,e7,hq,hrB⟩:=hq
   obtain⟨z,rfl⟩:=hrB.stX
   have s1:Stab (fun S w=>True/\WdR u y1 S w):=Stab.true.and (WdR.stab _ _)
   have hc:=hc.sepKnow (X:=fun S w=>RepS S w H.k.b (stX H.k.b z)) s1 (LinkK.stab _ _) hq hrB (A7S _ _)
   have s2:=s1.and (A7S H.k.b (stX H.k.b z))
   refine⟨_,e7,?_⟩
   refine hc.q (W9 g _ _ _ (hc.row.right (LinkK.stab _ _))) fun wQ hQ hc=>?_
   refine⟨(A1R g.gs g.gj g.gc g.b H hf.ok _ _ (hc.row.right (LinkK.stab _ _)).shelf).mono fun en wq hq=>?_⟩
   obtain⟨A3,c3,e4,hq,ho⟩:=hq
   have hc:=hc.sepKnow (X:=fun S w=>Row S w A3 H.k.pend.length c3 (H.k.pend.map dC).flatten) s2 (LinkK.stab _ _) hq (C0I hq ho no) (fun _ _ _ _ h f=>h.fut f)
   have s3:Stab (fun S w=>((True/\WdR u y1 S w)/\RepS S w H.k.b (stX H.k.b z))/\Row S w A3 H.k.pend.length c3 (H.k.pend.map dC).flatten):=s2.and (fun _ _ _ _ h f=>h.fut f)
   refine⟨_,e4,?_⟩
   refine hc.n fun g11 wg11 hg11 hc=>?_
   refine hc.s 0 rfl fun wS hS hc=>?_
   have hc:=I9 hc (l':=[(g11,41,stX H.k.b z),(g3,43,wdC u y1)]) (by kernel_rfl)
   refine vD (.q 0 (.n 1 (.n 2 (.Q [3,4,5,6] (.n 7 (.Q [8,9,10,11,12] (.n 13 (.n 14 (.n 15 (.n 16 (.Q [17,18,19,22] (.n 20 (.n 21 (.n 23 (.Q [24,25,26] (.n 27 (.Q [28,29,30] .fin) .stop)) .stop) .stop) .stop)) .stop) .stop) (.n 15 (.n 14 (.n 16 (.Q [17,18,19,22] (.n 20 (.n 21 (.n 23 (.Q [24,25,26] (.n 27 (.Q [28,29,30] .fin) .stop)) .stop) .stop) .stop)) .stop) .stop) .stop)) (.n 15 (.n 13 (.n 14 (.n 16 (.Q [17,18,19,22] (.n 20 (.n 21 (.n 23 (.Q [24,25,26] (.n 27 (.Q [28,29,30] .fin) .stop)) .stop) .stop) .stop)) .stop) .stop) .stop) .stop))) .stop)) .stop) .stop)) (fun _=>True) trivial ?_
   have hc:=hc.drew
   refine⟨⟨wdC u y1,rfl,hc.cells 1 rfl,trivial,?_⟩,trivial⟩
   refine⟨⟨(hc.heard0 hw s3 (L':=l2 H 5 9 []) (ws:=[]) (fun Sx S1 hlt he hK hvd hr=>C3b g (l2 H 5 9 []) (B7G hf (by decide) (by unfold B3;decide)) u ku 1 h2 h7 (hep h0) y1 Sx _ hlt he hK S1 hvd hr.1.1.2)).mono fun en wq hq=>?_⟩,trivial⟩
   obtain⟨A6,c6,S6,e6,hc⟩:=hq
   refine⟨_,e6,trivial,?_⟩
   refine⟨⟨(hc.heard0 hw s3 (L':=l2 H 5 9 []) (ws:=[]) (fun Sx S1 hlt he hK hvd hr=>C0w g (l2 H 5 9 []) (fun v hv=>by cases hv) Sx _ hlt hK)).mono fun en wq hq=>?_⟩,trivial⟩
   obtain⟨A5,c5,S5,e5,hc⟩:=hq
   refine⟨_,e5,trivial,?_⟩
   refine⟨?_,?_⟩
   ·skip
    refine hc.q' (W9 g _ _ _ (hc.row.right (LinkK.stab _ _))) fun wQ hQ hc=>?_
    refine⟨?_,?_⟩
    ·skip
     refine⟨(A0S g.gs g.gj g.gc g.b H hf.ok _ _ (hc.row.right (LinkK.stab _ _)).shelf).mono fun en wq hq=>?_⟩
     obtain⟨cB,e1,hq,hrB⟩:=hq
     obtain⟨z2,rfl⟩:=hrB.stX
     have hc:=hc.sepKnow (X:=fun S w=>RepS S w H.k.b (stX H.k.b z2)) s3 (LinkK.stab _ _) hq hrB (A7S _ _)
     have s4:=s3.and (A7S H.k.b (stX H.k.b z2))
     refine⟨_,e1,trivial,?_⟩
     refine⟨hc.a' 0 rfl rfl ?_,trivial⟩
     refine⟨?_,trivial⟩
     have heq:=C3Z H.k.b H.k.b _ _ _ _ (hc.row.left s4).2 (hc.row.left s4).1.1.2
     rw [C3a.2 rfl] at heq
     refine hc.q' (heq) fun wQ hQ hc=>?_
     refine⟨hc.q' (W9 g _ _ _ (hc.row.right (LinkK.stab _ _))) fun wQ hQ hc=>?_,trivial⟩
     refine⟨⟨(A1R g.gs g.gj g.gc g.b H hf.ok _ _ (hc.row.right (LinkK.stab _ _)).shelf).mono fun en wq hq=>?_⟩,trivial⟩
     obtain⟨A4,c4,e4,hq,ho⟩:=hq
     have hrow5:=C0I hq ho no
     have hc:=(hc.quiet hq).1
     refine⟨_,e4,trivial,?_⟩
     refine⟨?_,trivial⟩
     have hed:=B9g H.k.pend H.k.pend A4 A3 c4 c3 _ _ _ hrow5 (hc.row.left s4).1.2
     rw [B9s] at hed
     refine hc.q' (hed) fun wQ hQ hc=>?_
     refine⟨hc.q' (C3Y g _ _ _ (hc.row.right (LinkK.stab _ _))) fun wQ hQ hc=>?_,trivial⟩
     exact⟨rfl,hc.below⟩
    refine⟨hc.a' 0 rfl rfl ?_,trivial⟩
    refine⟨⟨(A0S g.gs g.gj g.gc g.b H hf.ok _ _ (hc.row.right (LinkK.stab _ _)).shelf).mono fun en wq hq=>?_⟩,trivial⟩
    obtain⟨cB,e1,hq,hrB⟩:=hq
    obtain⟨z2,rfl⟩:=hrB.stX
    have hc:=hc.sepKnow (X:=fun S w=>RepS S w H.k.b (stX H.k.b z2)) s3 (LinkK.stab _ _) hq hrB (A7S _ _)
    have s4:=s3.and (A7S H.k.b (stX H.k.b z2))
    refine⟨_,e1,trivial,?_⟩
    refine⟨?_,trivial⟩
    have heq:=C3Z H.k.b H.k.b _ _ _ _ (hc.row.left s4).2 (hc.row.left s4).1.1.2
    rw [C3a.2 rfl] at heq
    refine hc.q' (heq) fun wQ hQ hc=>?_
    refine⟨hc.q' (W9 g _ _ _ (hc.row.right (LinkK.stab _ _))) fun wQ hQ hc=>?_,trivial⟩
    refine⟨⟨(A1R g.gs g.gj g.gc g.b H hf.ok _ _ (hc.row.right (LinkK.stab _ _)).shelf).mono fun en wq hq=>?_⟩,trivial⟩
    obtain⟨A4,c4,e4,hq,ho⟩:=hq
    have hrow5:=C0I hq ho no
    have hc:=(hc.quiet hq).1
    refine⟨_,e4,trivial,?_⟩
    refine⟨?_,trivial⟩
    have hed:=B9g H.k.pend H.k.pend A4 A3 c4 c3 _ _ _ hrow5 (hc.row.left s4).1.2
    rw [B9s] at hed
    refine hc.q' (hed) fun wQ hQ hc=>?_
    refine⟨hc.q' (C3Y g _ _ _ (hc.row.right (LinkK.stab _ _))) fun wQ hQ hc=>?_,trivial⟩
    exact⟨rfl,hc.below⟩
   refine⟨hc.a' 0 rfl rfl ?_,trivial⟩
   refine⟨hc.q' (W9 g _ _ _ (hc.row.right (LinkK.stab _ _))) fun wQ hQ hc=>?_,trivial⟩
   refine⟨⟨(A0S g.gs g.gj g.gc g.b H hf.ok _ _ (hc.row.right (LinkK.stab _ _)).shelf).mono fun en wq hq=>?_⟩,trivial⟩
   obtain⟨cB,e1,hq,hrB⟩:=hq
   obtain⟨z2,rfl⟩:=hrB.stX
   have hc:=hc.sepKnow (X:=fun S w=>RepS S w H.k.b (stX H.k.b z2)) s3 (LinkK.stab _ _) hq hrB (A7S _ _)
   have s4:=s3.and (A7S H.k.b (stX H.k.b z2))
   refine⟨_,e1,trivial,?_⟩
   refine⟨?_,trivial⟩
   have heq:=C3Z H.k.b H.k.b _ _ _ _ (hc.row.left s4).2 (hc.row.left s4).1.1.2
   rw [C3a.2 rfl] at heq
   refine hc.q' (heq) fun wQ hQ hc=>?_
   refine⟨hc.q' (W9 g _ _ _ (hc.row.right (LinkK.stab _ _))) fun wQ hQ hc=>?_,trivial⟩
   refine⟨⟨(A1R g.gs g.gj g.gc g.b H hf.ok _ _ (hc.row.right (LinkK.stab _ _)).shelf).mono fun en wq hq=>?_⟩,trivial⟩
   obtain⟨A4,c4,e4,hq,ho⟩:=hq
   have hrow5:=C0I hq ho no
   have hc:=(hc.quiet hq).1
   refine⟨_,e4,trivial,?_⟩
   refine⟨?_,trivial⟩
   have hed:=B9g H.k.pend H.k.pend A4 A3 c4 c3 _ _ _ hrow5 (hc.row.left s4).1.2
   rw [B9s] at hed
   refine hc.q' (hed) fun wQ hQ hc=>?_
   refine⟨hc.q' (C3Y g _ _ _ (hc.row.right (LinkK.stab _ _))) fun wQ hQ hc=>?_,trivial⟩
   exact⟨rfl,hc.below⟩
 refine dt (by omega) ?_
 obtain⟨ad,rfl,hcell⟩:=RowD8.elem (hA.below hc.below) i hlt
 obtain⟨d,hd⟩:∃ d,d=ds[i]:=⟨_,rfl⟩
 have hdo:d.Ok:=by rw [hd];exact hdk _ (List.getElem_mem _)
 have hcd:=C0H hdo
 obtain⟨e,hee⟩:∃ e,e=B92 d:=⟨_,rfl⟩
 have hde:=B97 d hdo
 rw [<-hee] at hde hcd
 obtain⟨s1,s2,s3,s4,s5⟩:=hf.seq
 obtain⟨H1,hH1,hf1,hs1⟩:∃ H1,(H1.k.b=H.k.b/\H1.k.ep=5/\H1.k.pend.length<=i+1)/\Fit H1 (1+(i+1))/\(B9Y (l2 H 5 9 []) (wd 4 1 2 5 H.k.seq 0 [e]) 1).1=l2 H1 5 9 []:=by
  cases hm:L3 e with
  | false=>exact⟨H,⟨rfl,he,by omega⟩,hf.mono (by omega),by rw [show B9Y (l2 H 5 9 []) (wd 4 1 2 5 H.k.seq 0 [e]) 1=_ from C1O hm]⟩
  | true=>
   obtain⟨H1,k1,f1,s1⟩:=B3U (now:=1) (til:=9) (dn:=[]) hf (by omega) (ep:=5) (by decide) he (by decide) hcd hm (by omega) (by rw [s3,hb0];show (0:Int)+(H.k.pend.length:Int)<1099511627776;omega)
   exact⟨H1,⟨by rw [k1],by rw [k1];exact he,by rw [k1];show (H.k.pend++[e]).length<=_;rw [List.length_append];exact Nat.succ_le_succ hpl⟩,f1,by rw [show B9Y (l2 H 5 9 []) (wd 4 1 2 5 H.k.seq 0 [e]) 1=_ from s1]⟩
 refine vD (.Q [0,1,4,5,6] (.n 2 (.n 3 (.n 7 (.n 8 (.n 9 (.q 10 (.n 11 .fin .stop)) .stop) .stop) .stop) (.n 7 (.n 3 (.n 8 (.n 9 (.q 10 (.n 11 .fin .stop)) .stop) .stop) .stop) .stop)) (.n 7 (.n 2 (.n 3 (.n 8 (.n 9 (.q 10 (.n 11 .fin .stop)) .stop) .stop) .stop) .stop) .stop))) (fun _=>True) trivial ?_
 have hc:=hc.drew
 refine⟨⟨by omega,by omega⟩,?_⟩
 refine⟨?_,?_⟩
 ·skip
  refine hc.q' (W9 g _ _ _ (hc.row.right (LinkK.stab _ _))) fun wQ hQ hc=>?_
  refine⟨?_,?_⟩
  ·skip
   refine hc.q' (A0o g.gs g.gj g.gc g.b H hf.ok _ _ (hc.row.right (LinkK.stab _ _)).shelf) fun wQ hQ hc=>?_
   refine⟨?_,trivial⟩
   obtain⟨ad2,hA2,hcr⟩:=RowD8.elem (hA.below hc.below) i hlt
   cases hA2
   rw [<-hd] at hcr
   refine⟨dC d,rfl,by rw [Int.toNat_natCast];exact hcr,trivial,?_⟩
   refine⟨hc.q' (hde _) fun wQ hQ hc=>?_,trivial⟩
   refine⟨fun gd wgd hgd=>?_,trivial⟩
   have hc:=hc.made hgd 8 1 rfl (by decide)
   refine⟨trivial,?_⟩
   refine⟨?_,trivial⟩
   obtain⟨S2,hc⟩:=hc.sepTold Stab.true (LinkK.stab _ _)
   have hc:CtxF no w S2 _ [(g3,43,wdC a y)] [] (Sep w.heap.size (fun S w=>True/\Row S w (some ⟨gd,0,none⟩) 1 1 (([e].map dC).flatten)) (LinkK g (l2 H 5 9 []))):=hc
   refine⟨(hc.heard0 hw (Stab.true.and A2F) (L':=l2 H1 5 9 []) (ws:=(B9Y (l2 H 5 9 []) (wd 4 1 2 5 H.k.seq 0 [e]) 1).2) (fun Sx S1 hlt hen hK hvd hr=>?_)).mono fun en wq hq=>?_⟩
   ·have sd:=A39 g (l2 H 5 9 []) (B7G hf (by decide) (by unfold B3;decide)) (Nat.zero_le _) 1 2 5 H.k.seq 0 (by have hme:E3=1099511627776:=rfl;unfold B3;omega) [e] (fun d hd=>by rw [List.mem_singleton.1 hd];exact hcd) ⟨none,0,some ⟨gd,0,none⟩,1,SX0⟩ 1 (C4D (B1N _ _ _ _)) Sx _ hlt hen hK S1 hvd (B7J hr.2)
    rw [hs1,A7k] at sd
    exact sd
   obtain⟨A9,c9,S3,e1,hc⟩:=hq
   have hc:=hc.sepNow (R':=fun _ _=>True) (fun _ _=>trivial) (fun _ h=>h) Stab.true (LinkK.stab _ _)
   refine⟨_,e1,trivial,?_⟩
   exact⟨(i+1,H1),⟨rfl,rfl,rfl,rfl,congrArg _ (C3 (by omega)),trivial⟩,⟨by omega,by omega,hf1,by rw [hH1.1];exact hb0,hH1.2.1,hH1.2.2,_,hc⟩,by show 5-(i+1)<5-i;omega⟩
  refine⟨?_,trivial⟩
  obtain⟨ad2,hA2,hcr⟩:=RowD8.elem (hA.below hc.below) i hlt
  cases hA2
  rw [<-hd] at hcr
  refine⟨dC d,rfl,by rw [Int.toNat_natCast];exact hcr,trivial,?_⟩
  refine⟨hc.q' (A0o g.gs g.gj g.gc g.b H hf.ok _ _ (hc.row.right (LinkK.stab _ _)).shelf) fun wQ hQ hc=>?_,trivial⟩
  refine⟨hc.q' (hde _) fun wQ hQ hc=>?_,trivial⟩
  refine⟨fun gd wgd hgd=>?_,trivial⟩
  have hc:=hc.made hgd 8 1 rfl (by decide)
  refine⟨trivial,?_⟩
  refine⟨?_,trivial⟩
  obtain⟨S2,hc⟩:=hc.sepTold Stab.true (LinkK.stab _ _)
  have hc:CtxF no w S2 _ [(g3,43,wdC a y)] [] (Sep w.heap.size (fun S w=>True/\Row S w (some ⟨gd,0,none⟩) 1 1 (([e].map dC).flatten)) (LinkK g (l2 H 5 9 []))):=hc
  refine⟨(hc.heard0 hw (Stab.true.and A2F) (L':=l2 H1 5 9 []) (ws:=(B9Y (l2 H 5 9 []) (wd 4 1 2 5 H.k.seq 0 [e]) 1).2) (fun Sx S1 hlt hen hK hvd hr=>?_)).mono fun en wq hq=>?_⟩
  ·have sd:=A39 g (l2 H 5 9 []) (B7G hf (by decide) (by unfold B3;decide)) (Nat.zero_le _) 1 2 5 H.k.seq 0 (by have hme:E3=1099511627776:=rfl;unfold B3;omega) [e] (fun d hd=>by rw [List.mem_singleton.1 hd];exact hcd) ⟨none,0,some ⟨gd,0,none⟩,1,SX0⟩ 1 (C4D (B1N _ _ _ _)) Sx _ hlt hen hK S1 hvd (B7J hr.2)
   rw [hs1,A7k] at sd
   exact sd
  obtain⟨A9,c9,S3,e1,hc⟩:=hq
  have hc:=hc.sepNow (R':=fun _ _=>True) (fun _ _=>trivial) (fun _ h=>h) Stab.true (LinkK.stab _ _)
  refine⟨_,e1,trivial,?_⟩
  exact⟨(i+1,H1),⟨rfl,rfl,rfl,rfl,congrArg _ (C3 (by omega)),trivial⟩,⟨by omega,by omega,hf1,by rw [hH1.1];exact hb0,hH1.2.1,hH1.2.2,_,hc⟩,by show 5-(i+1)<5-i;omega⟩
 refine⟨?_,trivial⟩
 obtain⟨ad2,hA2,hcr⟩:=RowD8.elem (hA.below hc.below) i hlt
 cases hA2
 rw [<-hd] at hcr
 refine⟨dC d,rfl,by rw [Int.toNat_natCast];exact hcr,trivial,?_⟩
 refine⟨hc.q' (W9 g _ _ _ (hc.row.right (LinkK.stab _ _))) fun wQ hQ hc=>?_,trivial⟩
 refine⟨hc.q' (A0o g.gs g.gj g.gc g.b H hf.ok _ _ (hc.row.right (LinkK.stab _ _)).shelf) fun wQ hQ hc=>?_,trivial⟩
 refine⟨hc.q' (hde _) fun wQ hQ hc=>?_,trivial⟩
 refine⟨fun gd wgd hgd=>?_,trivial⟩
 have hc:=hc.made hgd 8 1 rfl (by decide)
 refine⟨trivial,?_⟩
 refine⟨?_,trivial⟩
 obtain⟨S2,hc⟩:=hc.sepTold Stab.true (LinkK.stab _ _)
 have hc:CtxF no w S2 _ [(g3,43,wdC a y)] [] (Sep w.heap.size (fun S w=>True/\Row S w (some ⟨gd,0,none⟩) 1 1 (([e].map dC).flatten)) (LinkK g (l2 H 5 9 []))):=hc
 refine⟨(hc.heard0 hw (Stab.true.and A2F) (L':=l2 H1 5 9 []) (ws:=(B9Y (l2 H 5 9 []) (wd 4 1 2 5 H.k.seq 0 [e]) 1).2) (fun Sx S1 hlt hen hK hvd hr=>?_)).mono fun en wq hq=>?_⟩
 ·have sd:=A39 g (l2 H 5 9 []) (B7G hf (by decide) (by unfold B3;decide)) (Nat.zero_le _) 1 2 5 H.k.seq 0 (by have hme:E3=1099511627776:=rfl;unfold B3;omega) [e] (fun d hd=>by rw [List.mem_singleton.1 hd];exact hcd) ⟨none,0,some ⟨gd,0,none⟩,1,SX0⟩ 1 (C4D (B1N _ _ _ _)) Sx _ hlt hen hK S1 hvd (B7J hr.2)
  rw [hs1,A7k] at sd
  exact sd
 obtain⟨A9,c9,S3,e1,hc⟩:=hq
 have hc:=hc.sepNow (R':=fun _ _=>True) (fun _ _=>trivial) (fun _ h=>h) Stab.true (LinkK.stab _ _)
 refine⟨_,e1,trivial,?_⟩
 exact⟨(i+1,H1),⟨rfl,rfl,rfl,rfl,congrArg _ (C3 (by omega)),trivial⟩,⟨by omega,by omega,hf1,by rw [hH1.1];exact hb0,hH1.2.1,hH1.2.2,_,hc⟩,by show 5-(i+1)<5-i;omega⟩
theorem C3f {H:Type} (enc:TypeId × Value->H) (W:World) (hw:Env W) {base:Nat}
  (v0:Value) (d0:DataW H) (p0:List MemPlace) (h0:DataW.Trod enc Tryz.prog W 0 (fun _=>true) true 43 v0 d0 p0) (k0:Value.okWide Tryz.prog W .any base 43 v0)
  (v1:Value) (d1:DataW H) (p1:List MemPlace) (h1:DataW.Trod enc Tryz.prog W 0 (fun _=>true) true 2 v1 d1 p1) (k1:Value.okWide Tryz.prog W .any base 2 v1)
  (v2:Value) (d2:DataW H) (p2:List MemPlace) (h2:DataW.Trod enc Tryz.prog W 0 (fun _=>true) true 22 v2 d2 p2) (k2:Value.okWide Tryz.prog W .any base 22 v2):
  Calls Tryz.prog 5 #[v0,v1,v2] W (C8 (.bool true) W):=by
 obtain⟨a0,y0,rfl,r0,o0⟩:=C2R h0 k0
 obtain⟨a1,rfl,o1⟩:=B2t Tryz.underlying2 h1 k1
 obtain⟨A2,c2,a2,rfl,r2,o2⟩:=B9x h2 k2
 exact (C3i a0 o0 y0 a1 o1 a2 A2 c2 o2 W hw r0 r2)
end Go.Proofs.YtefdfaeieekioaaGreatDoor
