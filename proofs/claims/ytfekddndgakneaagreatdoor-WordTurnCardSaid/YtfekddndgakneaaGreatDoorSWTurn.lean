import Derived.Test.YtfekddndgakneaaGreatDoorM14
set_option maxRecDepth 100000
set_option maxHeartbeats 40000000
set_option linter.unusedVariables false
set_option linter.unusedSimpArgs false
/- Walk: armariumlaw11.WordTurn. -/
namespace Go.Proofs.YtfekddndgakneaaGreatDoor
open Go.Vc Go.RowKit Go.Fl Go.ChangeShapes Go.WideShapes Go.ChangeAt
theorem B87 (n:Int):∃ k:Nat,(IntKind.i64.wrap (n.tmod 9+9)).tmod 9=(k:Int)/\k<9:=by
 have h1 : -9<n.tmod 9/\n.tmod 9<9:=by
  rcases Int.le_total 0 n with h | h
  ·rw [Int.tmod_eq_emod_of_nonneg h]
   omega
  ·have:=Int.neg_tmod (-n) 9
   rw [Int.neg_neg] at this
   rw [this,Int.tmod_eq_emod_of_nonneg (by omega)]
   omega
 have e2:IntKind.i64.wrap (n.tmod 9+9)=n.tmod 9+9:=IntWalk.i64_in _ ⟨by omega,by omega⟩
 rw [e2,Int.tmod_eq_emod_of_nonneg (by omega)]
 exact⟨((n.tmod 9+9) % 9).toNat,by omega,by omega⟩
theorem B3P (v1:Wd) (k1:v1.Ok) (x1:WX) (which x:Int) (hx:B9 x) (w:World) (hw:Env w) (hR1:WdR v1 x1 (inW w) w):Calls Tryz.prog 5 #[.agg (wdC v1 x1).toArray,.int .i64 which,.int .i64 x] w (C7 (.bool true) w):=by
 obtain⟨a,ha⟩:∃ a,a=I1 v1:=⟨_,rfl⟩
 have hwa:=O9 v1 k1 x1
 have ka:=Z3 k1
 rw [<-ha] at hwa ka
 obtain⟨b0,hb0⟩:∃ b,b=I1 a:=⟨_,rfl⟩
 have hwb:=fun y=>O9 a ka y
 have kb0:=Z3 ka
 rw [<-hb0] at hwb kb0
 clear ha hb0
 refine A0c lay_ok Tryz.func5 rfl (by kernel_rfl) (by kernel_rfl) ?_
 refine SemC.cut lay_ok (fun (z:Nat × Nat × Nat × WX × WX)=>[(3,.pointer (some ⟨z.1,0,none⟩)),(8,.pointer (some ⟨z.2.1,0,none⟩))]) (fun z w'=>∃ S,CtxF no w S w' [(z.2.1,35,wdC (A7A b0 x z.2.2.1) z.2.2.2.2),(z.1,35,wdC a z.2.2.2.1)] [] (fun S w=>WdR a z.2.2.2.1 S w/\WdR (A7A b0 x z.2.2.1) z.2.2.2.2 S w)) 5 (by kernel_rfl) ?_ ?_
 ·have hc:=CtxF.start w no (fun _ h=>h.elim) (R:=fun _ _=>True) trivial Stab.true
  refine hc.n fun g3 wg3 hg3 hc=>?_
  refine hc.q (M5 _ (hw.below hc.below)) fun wQ hQ hc=>?_
  refine⟨wdC v1 x1,rfl,hc.cells 0 rfl,?_⟩
  refine⟨(hwa (inW w) _ (hR1.below hc.below)).mono fun en wq hq=>?_⟩
  obtain⟨y1,e1,hq,hrep⟩:=hq
  have hc:=(hc.call hq).1.know (X:=WdR a y1) (hrep.sub fun b h=>h.elim (fun h=>h.elim) .inr) (WdR.stab _ _)
  refine⟨_,e1,?_⟩
  refine hc.s 0 rfl fun wS hS hc=>?_
  have hc:=B8 hc (l':=[(g3,35,wdC a y1)]) (by kernel_rfl)
  refine⟨wdC a y1,rfl,hc.cells 0 rfl,?_⟩
  refine⟨(hwb y1 _ _ hc.row.2).mono fun en wq hq=>?_⟩
  obtain⟨y2,e1,hq,hrep⟩:=hq
  have hc:=(hc.call hq).1.know (X:=WdR b0 y2) (hrep.sub fun b h=>h.elim (fun h=>h.elim) .inr) (WdR.stab _ _)
  refine⟨_,e1,?_⟩
  refine hc.n fun g8 wg8 hg8 hc=>?_
  rw [L7] at hc
  refine hc.s 0 rfl fun wS hS hc=>?_
  have hc:=B8 hc (l':=[(g8,35,wdC b0 y2),(g3,35,wdC a y1)]) (by kernel_rfl)
  have fin:∀ (k:Nat) (S:Nat->Prop) (w5:World),CtxF no w S w5 [(g8,35,wdC (A7A b0 x k) y2),(g3,35,wdC a y1)] [] (fun S w=>(True/\WdR a y1 S w)/\WdR b0 y2 S w)->∃ S,CtxF no w S w5 [(g8,35,wdC (A7A b0 x k) y2),(g3,35,wdC a y1)] [] (fun S w=>WdR a y1 S w/\WdR (A7A b0 x k) y2 S w):=fun k S w5 h=>⟨S,h.now (fun h=>⟨h.1.2,B44 h.2 x k⟩) ((WdR.stab _ _).and (WdR.stab _ _))⟩
  obtain⟨k,hk,hk9⟩:=B87 which
  refine J7 (by decide) ?_
  refine J7 (by decide) ?_
  rw [hk]
  rcases (show k=0\/k=1\/k=2\/k=3\/k=4\/k=5\/k=6\/k=7\/k=8 by omega) with rfl | rfl | rfl | rfl | rfl | rfl | rfl | rfl | rfl
  ·refine hc.s 0 rfl fun wS hS hc=>?_
   have hc:=B8 hc (l':=[(g8,35,wdC (A7A b0 x 0) y2),(g3,35,wdC a y1)]) (by kernel_rfl)
   exact⟨(g3,g8,0,y1,y2),⟨rfl,rfl,trivial⟩,fin 0 _ _ hc⟩
  ·refine hc.s 0 rfl fun wS hS hc=>?_
   have hc:=B8 hc (l':=[(g8,35,wdC (A7A b0 x 1) y2),(g3,35,wdC a y1)]) (by kernel_rfl)
   exact⟨(g3,g8,1,y1,y2),⟨rfl,rfl,trivial⟩,fin 1 _ _ hc⟩
  ·refine hc.s 0 rfl fun wS hS hc=>?_
   have hc:=B8 hc (l':=[(g8,35,wdC (A7A b0 x 2) y2),(g3,35,wdC a y1)]) (by kernel_rfl)
   exact⟨(g3,g8,2,y1,y2),⟨rfl,rfl,trivial⟩,fin 2 _ _ hc⟩
  ·refine hc.s 0 rfl fun wS hS hc=>?_
   have hc:=B8 hc (l':=[(g8,35,wdC (A7A b0 x 3) y2),(g3,35,wdC a y1)]) (by kernel_rfl)
   exact⟨(g3,g8,3,y1,y2),⟨rfl,rfl,trivial⟩,fin 3 _ _ hc⟩
  ·refine hc.s 0 rfl fun wS hS hc=>?_
   have hc:=B8 hc (l':=[(g8,35,wdC (A7A b0 x 4) y2),(g3,35,wdC a y1)]) (by kernel_rfl)
   exact⟨(g3,g8,4,y1,y2),⟨rfl,rfl,trivial⟩,fin 4 _ _ hc⟩
  ·refine hc.s 0 rfl fun wS hS hc=>?_
   have hc:=B8 hc (l':=[(g8,35,wdC (A7A b0 x 5) y2),(g3,35,wdC a y1)]) (by kernel_rfl)
   exact⟨(g3,g8,5,y1,y2),⟨rfl,rfl,trivial⟩,fin 5 _ _ hc⟩
  ·refine hc.s 0 rfl fun wS hS hc=>?_
   have hc:=B8 hc (l':=[(g8,35,wdC (A7A b0 x 6) y2),(g3,35,wdC a y1)]) (by kernel_rfl)
   exact⟨(g3,g8,6,y1,y2),⟨rfl,rfl,trivial⟩,fin 6 _ _ hc⟩
  ·refine hc.s 0 rfl fun wS hS hc=>?_
   have hc:=B8 hc (l':=[(g8,35,wdC (A7A b0 x 7) y2),(g3,35,wdC a y1)]) (by kernel_rfl)
   exact⟨(g3,g8,7,y1,y2),⟨rfl,rfl,trivial⟩,fin 7 _ _ hc⟩
  ·refine hc.s 0 rfl fun wS hS hc=>?_
   have hc:=B8 hc (l':=[(g8,35,wdC (A7A b0 x 8) y2),(g3,35,wdC a y1)]) (by kernel_rfl)
   exact⟨(g3,g8,8,y1,y2),⟨rfl,rfl,trivial⟩,fin 8 _ _ hc⟩
 rintro⟨g3,g8,k,y1,y2⟩ u w1 ⟨S,hc⟩
 simp only at hc
 obtain⟨b,hb⟩:∃ b,b=A7A b0 x k:=⟨_,rfl⟩
 have kb:=B6z kb0 hx k
 rw [<-hb] at hc kb
 clear hb hwb hwa kb0
 have pa:=fun x S w=>K8 a ka.bare x S w
 have pb:=fun x S w=>K8 b kb.bare x S w
 refine SemC.vc lay_ok ?_
 have hr:=hc
 refine vD (.Q [0,2] (.n 1 (.n 3 (.Q [4,5] .fin) .stop) .stop)) (Old _) (Old.start _) ?_
 have hk:=hc.old0
 have hc:=hc.drew
 refine⟨wdC a y1,rfl,fun x hx=>Keeps.cells hx (hr.blk 1 rfl) (hr.blk 1 rfl).lt,?_⟩
 refine⟨wdC b y2,rfl,fun x hx=>Keeps.cells hx (hr.blk 0 rfl) (hr.blk 0 rfl).lt,?_⟩
 refine⟨hc.q (pa _ _ _ hc.row.1 (hw.below hc.below)) fun wA hA hc=>?_,trivial⟩
 have hk:=Keeps.below hk (fun _ h=>h) hA
 refine⟨hk,?_⟩
 refine⟨hc.q (pb _ _ _ hc.row.2 (hw.below hc.below)) fun wA hA hc=>?_,trivial⟩
 have hk:=Keeps.below hk (fun _ h=>h) hA
 refine⟨hk,?_⟩
 clear hk hr
 have hr:=hc
 refine vD (.Q [0,2] (.n 1 (.n 3 (.Q [4,5,6,7,9,10] (.n 8 (.n 11 (.Q [12,13,14,15,16,17,18,19,20,21,22,23,24,25,26] (.n 27 (.Q [28,29,30,31] .fin) .stop)) .stop) .stop)) .stop) .stop)) (Old _) (Old.start _) ?_
 have hk:=hc.old0
 have hc:=hc.drew
 refine⟨wdC b y2,rfl,fun x hx=>Keeps.cells hx (hr.blk 0 rfl) (hr.blk 0 rfl).lt,?_⟩
 refine⟨wdC b y2,rfl,fun x hx=>Keeps.cells hx (hr.blk 0 rfl) (hr.blk 0 rfl).lt,?_⟩
 refine⟨hc.q (A0s b kb.bare.deeds kb.bare.key _ _ _ hc.row.2) fun wA hA hc=>?_,trivial⟩
 have hk:=Keeps.below hk (fun _ h=>h) hA
 refine⟨hk,?_⟩
 refine⟨hc.q (K9 b kb _ _ _ hc.row.2) fun wA hA hc=>?_,trivial⟩
 have hk:=Keeps.below hk (fun _ h=>h) hA
 refine⟨hk,?_⟩
 refine B6 (by cases J5 b<;>rfl) ?_
 refine⟨wdC a y1,rfl,fun x hx=>Keeps.cells hx (hr.blk 1 rfl) (hr.blk 1 rfl).lt,?_⟩
 refine⟨wdC b y2,rfl,fun x hx=>Keeps.cells hx (hr.blk 0 rfl) (hr.blk 0 rfl).lt,?_⟩
 refine⟨wdC a y1,rfl,fun x hx=>Keeps.cells hx (hr.blk 1 rfl) (hr.blk 1 rfl).lt,?_⟩
 refine⟨wdC b y2,rfl,fun x hx=>Keeps.cells hx (hr.blk 0 rfl) (hr.blk 0 rfl).lt,?_⟩
 refine⟨hc.q (A5t a b _ _ _ _ _ hc.row.1 hc.row.2) fun wA hA hc=>?_,trivial⟩
 have hk:=Keeps.below hk (fun _ h=>h) hA
 refine⟨hk,?_⟩
 refine⟨hc.q (F9 a b _ _ _ _ _ hc.row.1 hc.row.2) fun wA hA hc=>?_,trivial⟩
 have hk:=Keeps.below hk (fun _ h=>h) hA
 refine⟨hk,?_⟩
 refine B6 (by cases eqW a b<;>rfl) ?_
 cases hm:J5 a with
 | false=>
  refine B6 (by
   show C8 (txW a) ⟨#[]⟩=true
   rw [Q0,hm]
   rfl) ?_
  refine⟨?_,trivial⟩
  exact⟨rfl,hc.below⟩
 | true=>
 refine B4 (by
  show C8 (txW a) ⟨#[]⟩=false
  rw [Q0,hm]
  rfl) ?_
 cases hn:J5 b with
 | false=>
  refine B6 (by
   show C8 (txW b) ⟨#[]⟩=true
   rw [Q0,hn]
   rfl) ?_
  refine⟨?_,trivial⟩
  exact⟨rfl,hc.below⟩
 | true=>
 refine B4 (by
  show C8 (txW b) ⟨#[]⟩=false
  rw [Q0,hn]
  rfl) ?_
 refine⟨wdC a y1,rfl,fun x hx=>Keeps.cells hx (hr.blk 1 rfl) (hr.blk 1 rfl).lt,?_⟩
 refine⟨wdC b y2,rfl,fun x hx=>Keeps.cells hx (hr.blk 0 rfl) (hr.blk 0 rfl).lt,?_⟩
 refine⟨hc.q (F9 a b _ _ _ _ _ hc.row.1 hc.row.2) fun wA hA hc=>?_,trivial⟩
 have hk:=Keeps.below hk (fun _ h=>h) hA
 refine⟨hk,?_⟩
 refine⟨B7 ?_,hc.below⟩
 show (C8 (txW a) (txW b)==eqW a b)=true
 rw [B5a ka kb hm hn]
 exact beq_self_eq_true _
theorem A8G {H:Type} (enc:TypeId × Value->H) (W:World) (hw:Env W) {base:Nat}
  (v0:Value) (d0:DataW H) (p0:List MemPlace) (h0:DataW.Trod enc Tryz.prog W 0 (fun _=>true) true 35 v0 d0 p0) (k0:Value.okWide Tryz.prog W .any base 35 v0)
  (v1:Value) (d1:DataW H) (p1:List MemPlace) (h1:DataW.Trod enc Tryz.prog W 0 (fun _=>true) true 3 v1 d1 p1) (k1:Value.okWide Tryz.prog W .any base 3 v1)
  (v2:Value) (d2:DataW H) (p2:List MemPlace) (h2:DataW.Trod enc Tryz.prog W 0 (fun _=>true) true 2 v2 d2 p2) (k2:Value.okWide Tryz.prog W .any base 2 v2):
  Calls Tryz.prog 5 #[v0,v1,v2] W (C7 (.bool true) W):=by
 obtain⟨a0,y0,rfl,r0,o0⟩:=A0g h0 k0
 obtain⟨a1,rfl,o1⟩:=A2w Tryz.underlying3 h1 k1
 obtain⟨a2,rfl,o2⟩:=A2w Tryz.underlying2 h2 k2
 exact B3P a0 o0 y0 a1 a2 o2 W hw r0
end Go.Proofs.YtfekddndgakneaaGreatDoor
