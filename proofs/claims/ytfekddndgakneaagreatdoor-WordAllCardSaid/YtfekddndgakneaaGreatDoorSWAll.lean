import Derived.Test.YtfekddndgakneaaGreatDoorM14
set_option maxRecDepth 100000
set_option maxHeartbeats 40000000
set_option linter.unusedVariables false
set_option linter.unusedSimpArgs false
/- Walk: armariumlaw11.WordAll. -/
namespace Go.Proofs.YtfekddndgakneaaGreatDoor
open Go.Vc Go.RowKit Go.Fl Go.ChangeShapes Go.WideShapes Go.ChangeAt
theorem A53 (a b:Wd) (x y:WX):Stab (fun S w=>WdR a x S w/\WdR b y S w):=(WdR.stab _ _).and (WdR.stab _ _)
theorem B46 (v1 v2:Wd) (k1:v1.Ok) (k2:v2.Ok) (x1 x2:WX) (w:World) (hw:Env w) (hR1:WdR v1 x1 (inW w) w) (hR2:WdR v2 x2 (inW w) w):Calls Tryz.prog 3 #[.agg (wdC v1 x1).toArray,.agg (wdC v2 x2).toArray] w (C7 (.bool true) w):=by
 obtain⟨a,ha⟩:∃ a,a=I1 v1:=⟨_,rfl⟩
 have hwa:=O9 v1 k1 x1
 have ka:=Z3 k1
 rw [<-ha] at hwa ka
 obtain⟨b,hb⟩:∃ b,b=I1 v2:=⟨_,rfl⟩
 have hwb:=O9 v2 k2 x2
 have kb:=Z3 k2
 rw [<-hb] at hwb kb
 have pa:=fun x S w=>K8 a ka.bare x S w
 have pb:=fun x S w=>K8 b kb.bare x S w
 have sa:=R0 ka
 have ga:=A1w (txW a) (by omega)
 rw [Z4] at ga
 refine vE Tryz.func3 ?_
 have hc:=CtxF.start w no (fun _ h=>h.elim) (R:=fun _ _=>True) trivial Stab.true
 refine hc.n fun g2 wg2 hg2 hc=>?_
 refine hc.n fun g3 wg3 hg3 hc=>?_
 refine hc.q (M5 _ (hw.below hc.below)) fun wQ hQ hc=>?_
 refine Drawn.join (α:=WX × WX) (fun _=>[(2,.pointer (some ⟨g2,0,none⟩)),(3,.pointer (some ⟨g3,0,none⟩))])
  (fun x wS=>∃ S,CtxF no w S wS [(g3,35,wdC b x.2),(g2,35,wdC a x.1)] [] (fun S w=>WdR a x.1 S w/\WdR b x.2 S w)) ?_ ?_
 ·refine vD (.n 0 (.n 1 (.n 2 (.n 3 (.n 4 (.z 5) .stop) .stop) .stop) (.n 2 (.n 1 (.n 3 (.n 4 (.z 5) .stop) .stop) .stop) .stop)) (.n 2 (.n 0 (.n 1 (.n 3 (.n 4 (.z 5) .stop) .stop) .stop) .stop) .stop)) (fun _=>True) trivial ?_
  have hc:=hc.drew
  refine⟨?_,?_⟩
  ·skip
   refine⟨wdC v1 x1,rfl,hc.cells 1 rfl,trivial,?_⟩
   refine⟨?_,?_⟩
   ·skip
    refine⟨(hwa (inW w) _ (hR1.below hc.below)).mono fun en wq hq=>?_⟩
    obtain⟨ya,e1,hq,hrep⟩:=hq
    have hc:=(hc.call hq).1.know (X:=WdR a ya) (hrep.sub fun b h=>h.elim (fun h=>h.elim) .inr) (WdR.stab _ _)
    refine⟨_,e1,trivial,?_⟩
    refine⟨⟨wdC v2 x2,rfl,hc.cells 0 rfl,trivial,?_⟩,trivial⟩
    refine⟨⟨(hwb (inW w) _ (hR2.below hc.below)).mono fun en wq hq=>?_⟩,trivial⟩
    obtain⟨yb,e1,hq,hrep⟩:=hq
    have hc:=(hc.call hq).1.know (X:=WdR b yb) (hrep.sub fun b h=>h.elim (fun h=>h.elim) .inr) (WdR.stab _ _)
    refine⟨_,e1,trivial,?_⟩
    refine⟨hc.s' 1 rfl fun wS hS hc=>?_,trivial⟩
    refine hc.s 0 rfl fun wS hS hc=>?_
    have hc:=B8 hc (l':=[(g3,35,wdC b yb),(g2,35,wdC a ya)]) (by kernel_rfl)
    exact⟨(ya,yb),⟨rfl,rfl,trivial⟩,_,hc.now (fun h=>⟨h.1.2,h.2⟩) (A53 _ _ _ _)⟩
   refine⟨⟨wdC v2 x2,rfl,hc.cells 0 rfl,trivial,?_⟩,trivial⟩
   refine⟨⟨(hwa (inW w) _ (hR1.below hc.below)).mono fun en wq hq=>?_⟩,trivial⟩
   obtain⟨ya,e1,hq,hrep⟩:=hq
   have hc:=(hc.call hq).1.know (X:=WdR a ya) (hrep.sub fun b h=>h.elim (fun h=>h.elim) .inr) (WdR.stab _ _)
   refine⟨_,e1,trivial,?_⟩
   refine⟨⟨(hwb (inW w) _ (hR2.below hc.below)).mono fun en wq hq=>?_⟩,trivial⟩
   obtain⟨yb,e1,hq,hrep⟩:=hq
   have hc:=(hc.call hq).1.know (X:=WdR b yb) (hrep.sub fun b h=>h.elim (fun h=>h.elim) .inr) (WdR.stab _ _)
   refine⟨_,e1,trivial,?_⟩
   refine⟨hc.s' 1 rfl fun wS hS hc=>?_,trivial⟩
   refine hc.s 0 rfl fun wS hS hc=>?_
   have hc:=B8 hc (l':=[(g3,35,wdC b yb),(g2,35,wdC a ya)]) (by kernel_rfl)
   exact⟨(ya,yb),⟨rfl,rfl,trivial⟩,_,hc.now (fun h=>⟨h.1.2,h.2⟩) (A53 _ _ _ _)⟩
  refine⟨⟨wdC v2 x2,rfl,hc.cells 0 rfl,trivial,?_⟩,trivial⟩
  refine⟨⟨wdC v1 x1,rfl,hc.cells 1 rfl,trivial,?_⟩,trivial⟩
  refine⟨⟨(hwa (inW w) _ (hR1.below hc.below)).mono fun en wq hq=>?_⟩,trivial⟩
  obtain⟨ya,e1,hq,hrep⟩:=hq
  have hc:=(hc.call hq).1.know (X:=WdR a ya) (hrep.sub fun b h=>h.elim (fun h=>h.elim) .inr) (WdR.stab _ _)
  refine⟨_,e1,trivial,?_⟩
  refine⟨⟨(hwb (inW w) _ (hR2.below hc.below)).mono fun en wq hq=>?_⟩,trivial⟩
  obtain⟨yb,e1,hq,hrep⟩:=hq
  have hc:=(hc.call hq).1.know (X:=WdR b yb) (hrep.sub fun b h=>h.elim (fun h=>h.elim) .inr) (WdR.stab _ _)
  refine⟨_,e1,trivial,?_⟩
  refine⟨hc.s' 1 rfl fun wS hS hc=>?_,trivial⟩
  refine hc.s 0 rfl fun wS hS hc=>?_
  have hc:=B8 hc (l':=[(g3,35,wdC b yb),(g2,35,wdC a ya)]) (by kernel_rfl)
  exact⟨(ya,yb),⟨rfl,rfl,trivial⟩,_,hc.now (fun h=>⟨h.1.2,h.2⟩) (A53 _ _ _ _)⟩
 clear hc
 rintro⟨y1,y2⟩ u wS hc
 obtain⟨S,hc⟩:=hc
 simp only at hc
 have hr:=hc
 refine vD (.Q [0,2] (.n 1 (.n 3 (.Q [4,5,6,7,9,10] (.n 8 (.n 11 (.Q [12,13,14,15,16] (.n 17 (.Q [18,19] .fin) .stop)) .stop) .stop)) .stop) .stop)) (Old _) (Old.start _) ?_
 have hk:=hc.old0
 have hc:=hc.drew
 refine⟨wdC a y1,rfl,fun x hx=>Keeps.cells hx (hr.blk 1 rfl) (hr.blk 1 rfl).lt,?_⟩
 refine⟨wdC a y1,rfl,fun x hx=>Keeps.cells hx (hr.blk 1 rfl) (hr.blk 1 rfl).lt,?_⟩
 refine⟨hc.q (A0s a ka.bare.deeds ka.bare.key _ _ _ hc.row.1) fun wA hA hc=>?_,trivial⟩
 have hk:=Keeps.below hk (fun _ h=>h) hA
 refine⟨hk,?_⟩
 refine⟨hc.q (K9 a ka _ _ _ hc.row.1) fun wA hA hc=>?_,trivial⟩
 have hk:=Keeps.below hk (fun _ h=>h) hA
 refine⟨hk,?_⟩
 refine B4 (by cases J5 a<;>rfl) ?_
 refine⟨wdC a y1,rfl,fun x hx=>Keeps.cells hx (hr.blk 1 rfl) (hr.blk 1 rfl).lt,?_⟩
 refine⟨wdC b y2,rfl,fun x hx=>Keeps.cells hx (hr.blk 0 rfl) (hr.blk 0 rfl).lt,?_⟩
 refine⟨wdC a y1,rfl,fun x hx=>Keeps.cells hx (hr.blk 1 rfl) (hr.blk 1 rfl).lt,?_⟩
 refine⟨wdC b y2,rfl,fun x hx=>Keeps.cells hx (hr.blk 0 rfl) (hr.blk 0 rfl).lt,?_⟩
 refine⟨hc.q (A5t a b _ _ _ _ _ hc.row.1 hc.row.2) fun wA hA hc=>?_,trivial⟩
 have hk:=Keeps.below hk (fun _ h=>h) hA
 refine⟨hk,?_⟩
 refine⟨hc.q (F9 a b _ _ _ _ _ hc.row.1 hc.row.2) fun wA hA hc=>?_,trivial⟩
 have hk:=Keeps.below hk (fun _ h=>h) hA
 refine⟨hk,?_⟩
 refine B4 (by cases eqW a b<;>rfl) ?_
 refine⟨wdC a y1,rfl,fun x hx=>Keeps.cells hx (hr.blk 1 rfl) (hr.blk 1 rfl).lt,?_⟩
 refine⟨wdC a y1,rfl,fun x hx=>Keeps.cells hx (hr.blk 1 rfl) (hr.blk 1 rfl).lt,?_⟩
 have hE:=A5t a a _ _ _ _ _ hc.row.1 hc.row.1
 rw [M4.2 rfl] at hE
 refine⟨hc.q (hE) fun wA hA hc=>?_,trivial⟩
 have hk:=Keeps.below hk (fun _ h=>h) hA
 refine⟨hk,?_⟩
 clear hk hr
 have hr:=hc
 refine vD (.Q [0,2] (.n 1 (.n 3 (.Q [4,5] .fin) .stop) .stop)) (Old _) (Old.start _) ?_
 have hk:=hc.old0
 have hc:=hc.drew
 refine⟨wdC a y1,rfl,fun x hx=>Keeps.cells hx (hr.blk 1 rfl) (hr.blk 1 rfl).lt,?_⟩
 refine⟨wdC b y2,rfl,fun x hx=>Keeps.cells hx (hr.blk 0 rfl) (hr.blk 0 rfl).lt,?_⟩
 refine⟨hc.q (pa _ _ _ hc.row.1 (hw.below hc.below)) fun wA hA hc=>?_,trivial⟩
 have hk:=Keeps.below hk (fun _ h=>h) hA
 refine⟨hk,?_⟩
 refine⟨hc.q (pb _ _ _ hc.row.2 (hw.below hc.below)) fun wA hA hc=>?_,trivial⟩
 have hk:=Keeps.below hk (fun _ h=>h) hA
 refine⟨hk,?_⟩
 clear hk hr
 refine⟨wdC a y1,rfl,hc.cells 1 rfl,?_⟩
 have hM:=K9 a ka _ _ _ hc.row.1
 cases hm:J5 a with
 | false=>
  rw [hm] at hM
  refine hc.q (hM) fun wQ hQ hc=>?_
  exact⟨B7 (by
   have:=Q0 a
   rw [hm] at this
   exact this),hc.below⟩
 | true=>
 rw [hm] at hM
 refine hc.q (hM) fun wQ hQ hc=>?_
 rw [A0q ka hm] at ga
 refine⟨(ga _ (hw.below hc.below)).mono fun en wq hq=>?_⟩
 obtain⟨x3,e1,hb3,hr3⟩:=hq
 have hc:=(hc.call hb3).1.know (X:=WdR a x3) (hr3.sub fun b h=>h.elim (fun h=>h.elim) .inr) (WdR.stab _ _)
 refine⟨_,e1,?_⟩
 refine hc.n fun g8 wg8 hg8 hc=>?_
 rw [L7] at hc
 refine hc.s 0 rfl fun wS hS hc=>?_
 have hc:=B8 hc (l':=[(g8,35,wdC a x3),(g3,35,wdC b y2),(g2,35,wdC a y1)]) (by kernel_rfl)
 refine B6 (by
  show (!C8 (txW a) ⟨#[]⟩)=true
  rw [B5Z hm]
  rfl) ?_
 refine⟨wdC a x3,rfl,hc.cells 0 rfl,?_⟩
 refine⟨wdC a y1,rfl,hc.cells 2 rfl,?_⟩
 have hE:=F9 a a _ _ _ _ _ hc.row.2 hc.row.1.1
 rw [M4.2 rfl] at hE
 refine hc.q (hE) fun wQ hQ hc=>?_
 cases hn:J5 b with
 | false=>
  refine B6 (by
   show C8 (txW b) ⟨#[]⟩=true
   rw [Q0,hn]
   rfl) ?_
  exact⟨rfl,hc.below⟩
 | true=>
  refine B4 (by
   show C8 (txW b) ⟨#[]⟩=false
   rw [Q0,hn]
   rfl) ?_
  refine⟨wdC a y1,rfl,hc.cells 2 rfl,?_⟩
  refine⟨wdC b y2,rfl,hc.cells 1 rfl,?_⟩
  refine hc.q (F9 a b _ _ _ _ _ hc.row.1.1 hc.row.1.2) fun wQ hQ hc=>?_
  refine⟨B7 ?_,hc.below⟩
  show (C8 (txW a) (txW b)==eqW a b)=true
  rw [B5a ka kb hm hn]
  exact beq_self_eq_true _
theorem B0U {H:Type} (enc:TypeId × Value->H) (W:World) (hw:Env W) {base:Nat}
  (v0:Value) (d0:DataW H) (p0:List MemPlace) (h0:DataW.Trod enc Tryz.prog W 0 (fun _=>true) true 35 v0 d0 p0) (k0:Value.okWide Tryz.prog W .any base 35 v0)
  (v1:Value) (d1:DataW H) (p1:List MemPlace) (h1:DataW.Trod enc Tryz.prog W 0 (fun _=>true) true 35 v1 d1 p1) (k1:Value.okWide Tryz.prog W .any base 35 v1):
  Calls Tryz.prog 3 #[v0,v1] W (C7 (.bool true) W):=by
 obtain⟨a0,y0,rfl,r0,o0⟩:=A0g h0 k0
 obtain⟨a1,y1,rfl,r1,o1⟩:=A0g h1 k1
 exact B46 a0 a1 o0 o1 y0 y1 W hw r0 r1
end Go.Proofs.YtfekddndgakneaaGreatDoor
