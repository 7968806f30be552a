import Derived.Test.YtefdfaeieekioaaGreatDoorM14
set_option maxRecDepth 100000
set_option maxHeartbeats 40000000
set_option linter.unusedVariables false
set_option linter.unusedSimpArgs false
/- Walk: armariumlaw13.LinkAcks. -/
namespace Go.Proofs.YtefdfaeieekioaaGreatDoor
open Go.Vc Go.RowKit Go.Fl Go.ChangeShapes Go.WideShapes Go.ChangeAt
theorem A9I (n:Int) (al:List Int) (A:Option Addr) (ca:Nat) (w:World) (hw:Env w) (hA:Row (inW w) w A al.length ca (al.map fun n=>[Value.int .i64 n]).flatten):Calls Tryz.prog 9 #[.int .i64 n,.slice A al.length ca] w (C8 (.bool true) w):=by
 obtain⟨m0,hm,hm8⟩:=B9V n 8 (by decide) (by decide)
 obtain⟨m,hmm⟩:∃ m:Nat,m=1+m0:=⟨_,rfl⟩
 have hraw:IntKind.i64.wrap (1+(IntKind.i64.wrap (n.tmod 8+8)).tmod 8)=(m:Int):=by rw [hm,IntWalk.i64_in _ ⟨by omega,by omega⟩];omega
 have hmA:=D4 hA
 refine vE Tryz.func9 ?_
 have hc:=CtxF.start w no (fun _ h=>h.elim) (R:=fun _ _=>True) trivial Stab.true
 refine hc.q (A6n _ (hw.below hc.below)) fun wQ hQ hc=>?_
 refine⟨(A80 _ (hw.below hc.below)).mono fun en wq hq=>?_⟩
 obtain⟨g,H,e1,hb,hf,hk,hO⟩:=hq
 have hc:=hc.sepNew hb hO (LinkK.stab _ _)
 refine⟨_,e1,?_⟩
 refine⟨by decide,?_⟩
 refine⟨by decide,?_⟩
 refine⟨Nat × Sh,fun (i,H)=>[(0,.int .i64 (m:Int)),(1,.slice A al.length ca),(6,.pointer (some ⟨g.gl,0,none⟩)),(7,.int .i64 (i:Int))],
  fun (i,H) w'=>i<=m/\Fit H (1+i)/\H.k=⟨A4z,B4E i,1,0⟩/\∃ S,CtxF no w S w' [] [] (Sep w.heap.size (fun _ _=>True) (LinkK g (l2 H 1 100 []))),fun (i,_) _=>m-i,(0,H),⟨(show Value.int .i64 (IntKind.i64.wrap (1+(IntKind.i64.wrap (n.tmod 8+8)).tmod 8))=.int .i64 m by rw [hraw]),rfl,rfl,rfl,trivial⟩,⟨Nat.zero_le _,hf,hk,_,hc⟩,?_⟩
 clear hc hf hk hO H
 rintro⟨i,H⟩ w1 u1 ⟨hi,hf,hk,S,hc⟩
 by_cases hlt:i<m
 ·refine dt (by omega) ?_
  refine⟨.bool true,fun w=>B1B g.gl _ _ w,?_⟩
  have hd0:B2C i=⟨2,⟨#[107]⟩,⟨#[]⟩,0,0,⟨#[]⟩,IntKind.i64.wrap (4294967296+IntKind.i64.wrap ((i:Int)+1)),0⟩:=by
   unfold B2C
   rw [C3 (by omega),IntWalk.i64_in _ ⟨by omega,by omega⟩]
   rfl
  intro gb wgb hgb
  have hc:=hc.made hgb 8 1 rfl (by decide)
  obtain⟨S2,hc⟩:=hc.sepTold Stab.true (LinkK.stab _ _)
  have hc:CtxF no w S2 wgb [] [] (Sep w.heap.size (fun S w=>True/\Row S w (some ⟨gb,0,none⟩) 1 1 (([(⟨2,⟨#[107]⟩,⟨#[]⟩,0,0,⟨#[]⟩,IntKind.i64.wrap (4294967296+IntKind.i64.wrap ((i:Int)+1)),0⟩:D)].map dC).flatten)) (LinkK g (l2 H 1 100 []))):=hc
  rw [<-hd0] at hc
  obtain⟨H1,hf1,hk1,hs1⟩:=B4G hf (by omega) hk
  refine⟨(hc.heard0 hw (Stab.true.and A2F) (L':=l2 H1 1 100 []) (ws:=[B5n 1 (i:Int) [B2C i]]) (fun Sx S1 hlt he hK hvd hr=>?_)).mono fun en wq hq=>?_⟩
  ·have sd:=A8z g (l2 H 1 100 []) (B7G hf (by decide) (by unfold B3;decide)) (Nat.zero_le _) (i:Int) (by unfold B3;omega) [B2C i] (fun d hd=>by rw [List.mem_singleton.1 hd];exact B17 (by omega)) (some ⟨gb,0,none⟩) 1 Sx _ hlt he hK S1 hvd hr.2
   rw [hs1] at sd
   exact sd
  obtain⟨A9,c9,S3,e1,hc⟩:=hq
  have hc:=hc.sepNow (R':=fun _ _=>True) (fun _ _=>trivial) (fun _ h=>h) Stab.true (LinkK.stab _ _)
  refine⟨_,e1,?_⟩
  exact⟨(i+1,H1),⟨rfl,rfl,rfl,congrArg _ (C3 (by omega)),trivial⟩,⟨hlt,hf1,hk1,_,hc⟩,by show m-(i+1)<m-i;omega⟩
 refine df (by omega) ?_
 obtain rfl:i=m:=by omega
 refine⟨Nat × Nat × Sh,fun (j,a,H)=>[(0,.int .i64 (i:Int)),(1,.slice A al.length ca),(6,.pointer (some ⟨g.gl,0,none⟩)),(8,.int .i64 (a:Int)),(9,.int .i64 (j:Int))],
  fun (j,a,H) w'=>j<=al.length/\j<=20/\a<=i/\Fit H (20+j)/\H.k.b.seq=a/\H.k.pend.length=i-a/\H.k.ep=1/\∃ S,CtxF no w S w' [] [] (Sep w.heap.size (fun _ _=>True) (LinkK g (l2 H 1 100 []))),fun (j,_,_) _=>20-j,(0,0,H),⟨rfl,rfl,rfl,rfl,rfl,trivial⟩,⟨Nat.zero_le _,Nat.zero_le _,Nat.zero_le _,hf.mono (by omega),by rw [hk];rfl,by rw [hk];exact A4R i,by rw [hk],_,hc⟩,?_⟩
 clear hc hf hk H
 rintro⟨j,a,H⟩ w2 u2 ⟨hj,hj20,ha,hf,hsq,hpl,hep,S,hc⟩
 by_cases hlt:j<al.length/\j<20
 ·refine dt (by omega) ?_
  refine dt (by omega) ?_
  obtain⟨ad,rfl,hcell⟩:=RowI.elem (hA.below hc.below) j hlt.1
  obtain⟨y,hy⟩:∃ y,y=al[j]:=⟨_,rfl⟩
  rw [<-hy] at hcell
  refine⟨⟨by omega,by omega⟩,?_⟩
  refine⟨_,by rw [Int.toNat_natCast];exact hcell.1,?_⟩
  obtain⟨b0,hb0⟩:0<=bits .and .i64 y 15/\bits .and .i64 y 15<=15:=by rw [A4l];omega
  obtain⟨s,hs⟩:∃ s:Nat,bits .and .i64 y 15=s:=⟨(bits .and .i64 y 15).toNat,by omega⟩
  obtain⟨H1,hk1,hf1,hs1⟩:=B5o (now:=1) (til:=100) (dn:=[]) hf (by omega) (ep:=1) (by decide) hep (by decide) (s:=bits .and .i64 y 15) ⟨b0,by show _<=(1099511627776:Int);omega⟩
  obtain⟨l1,l2',l3,l4,_⟩:=B3V hf.ok.k (bits .and .i64 y 15-H.k.b.seq).toNat
  rw [<-hk1] at l1 l2' l3 l4
  obtain⟨r,hr⟩:∃ r:Nat,r=max a (min s i):=⟨_,rfl⟩
  have hrw:(if (if (i:Int)<bits .and .i64 y 15 then (i:Int) else bits .and .i64 y 15) > (a:Int) then (if (i:Int)<bits .and .i64 y 15 then (i:Int) else bits .and .i64 y 15) else (a:Int))=(r:Int):=by
   rw [hs]
   split<;>split<;>omega
  have hsq1:H1.k.b.seq=r:=by rw [l1,hsq,hpl];omega
  have hpl1:H1.k.pend.length=i-r:=by rw [l3,List.length_drop,hpl,hsq];omega
  have hep1:H1.k.ep=1:=by rw [l4,hep]
  have hb:=fun S w hK=>A0S g.gs g.gj g.gc g.b H1 hf1.ok S w hK
  have sd:=fun Sx w hlt he hK S1 hvd=>A5d g (l2 H 1 100 []) (B7G hf (by decide) (by unfold B3;decide)) 3 2 1 (bits .and .i64 y 15) 0 (by unfold B3;omega) WX0 1 Sx w hlt he hK S1 hvd ⟨⟨Ros0.rep _ _,A28 _ _⟩,A15 _ _⟩
  rw [show B9Y (l2 H 1 100 []) (wd 6 3 2 1 (bits .and .i64 y 15) 0 []) 1=_ from hs1,show wdC (wd 6 3 2 1 (bits .and .i64 y 15) 0 []) WX0=_ from A7k 6 3 2 1 (bits .and .i64 y 15) 0 [] none 0] at sd
  by_cases hgt:a<r
  ·rw [if_pos (show H.k.b.seq<H1.k.b.seq by omega)] at sd
   refine⟨(hc.heard1 hw Stab.true (L':=l2 H1 1 100 []) (u:=wd 6 2 1 1 H1.k.b.seq 0 []) (fun Sx S1 hlt he hK hvd hr=>sd Sx _ hlt he hK S1 hvd)).mono fun en wq hq=>?_⟩
   obtain⟨a9,x9,c9,S3,e1,hcl,hc⟩:=hq
   refine⟨_,e1,?_⟩
   refine A6 (by
    show (true != decide ((a:Int)<(if (if (i:Int)<bits .and .i64 y 15 then (i:Int) else bits .and .i64 y 15) > (a:Int) then (if (i:Int)<bits .and .i64 y 15 then (i:Int) else bits .and .i64 y 15) else (a:Int))))=false
    rw [hrw,decide_eq_true (by omega)]
    rfl) ?_
   refine B0 (by
    show decide ((a:Int)<(if (if (i:Int)<bits .and .i64 y 15 then (i:Int) else bits .and .i64 y 15) > (a:Int) then (if (i:Int)<bits .and .i64 y 15 then (i:Int) else bits .and .i64 y 15) else (a:Int)))=true
    rw [hrw,decide_eq_true (by omega)]) ?_
   refine⟨⟨by decide,by decide⟩,?_⟩
   refine⟨.int .i64 6,A2R hcl 0 _ rfl,?_⟩
   refine⟨⟨by decide,by decide⟩,?_⟩
   refine⟨.int .i64 1,A2R hcl 2 _ rfl,?_⟩
   refine⟨⟨by decide,by decide⟩,?_⟩
   refine⟨.int .i64 H1.k.b.seq,A2R hcl 4 _ rfl,?_⟩
   refine A6 (by
    show (H1.k.b.seq != (if (if (i:Int)<bits .and .i64 y 15 then (i:Int) else bits .and .i64 y 15) > (a:Int) then (if (i:Int)<bits .and .i64 y 15 then (i:Int) else bits .and .i64 y 15) else (a:Int)))=false
    rw [hrw,hsq1,bne_self_eq_false]) ?_
   have hc:=hc.rest.sepNow (R':=fun _ _=>True) (fun _ _=>trivial) (fun _ h=>h) Stab.true (LinkK.stab _ _)
   refine hc.q (W9 g _ _ _ (hc.row.right (LinkK.stab _ _))) fun wQ hQ hc=>?_
   refine⟨(hb _ _ (hc.row.right (LinkK.stab _ _)).shelf).mono fun en wq hq=>?_⟩
   obtain⟨cB,e1,hq,hrB⟩:=hq
   obtain⟨z,rfl⟩:=hrB.stX
   have hc:=(hc.quiet hq).1
   refine⟨_,e1,?_⟩
   refine A6 (by
    show (H1.k.b.seq != (if (if (i:Int)<bits .and .i64 y 15 then (i:Int) else bits .and .i64 y 15) > (a:Int) then (if (i:Int)<bits .and .i64 y 15 then (i:Int) else bits .and .i64 y 15) else (a:Int)))=false
    rw [hrw,hsq1,bne_self_eq_false]) ?_
   exact⟨(j+1,r,H1),⟨rfl,rfl,rfl,congrArg (Value.int .i64) hrw,congrArg _ (C3 (by omega)),trivial⟩,⟨by omega,by omega,by omega,hf1,hsq1,hpl1,hep1,_,hc⟩,by show 20-(j+1)<20-j;omega⟩
  ·rw [if_neg (show ¬ H.k.b.seq<H1.k.b.seq by omega)] at sd
   refine⟨(hc.heard0 hw Stab.true (L':=l2 H1 1 100 []) (ws:=[]) (fun Sx S1 hlt he hK hvd hr=>sd Sx _ hlt he hK S1 hvd)).mono fun en wq hq=>?_⟩
   obtain⟨A9,c9,S3,e1,hc⟩:=hq
   refine⟨_,e1,?_⟩
   refine A6 (by
    show (false != decide ((a:Int)<(if (if (i:Int)<bits .and .i64 y 15 then (i:Int) else bits .and .i64 y 15) > (a:Int) then (if (i:Int)<bits .and .i64 y 15 then (i:Int) else bits .and .i64 y 15) else (a:Int))))=false
    rw [hrw,decide_eq_false (by omega)]
    rfl) ?_
   refine A6 (by
    show decide ((a:Int)<(if (if (i:Int)<bits .and .i64 y 15 then (i:Int) else bits .and .i64 y 15) > (a:Int) then (if (i:Int)<bits .and .i64 y 15 then (i:Int) else bits .and .i64 y 15) else (a:Int)))=false
    rw [hrw,decide_eq_false (by omega)]) ?_
   refine hc.q (W9 g _ _ _ (hc.row.right (LinkK.stab _ _))) fun wQ hQ hc=>?_
   refine⟨(hb _ _ (hc.row.right (LinkK.stab _ _)).shelf).mono fun en wq hq=>?_⟩
   obtain⟨cB,e1,hq,hrB⟩:=hq
   obtain⟨z,rfl⟩:=hrB.stX
   have hc:=(hc.quiet hq).1
   refine⟨_,e1,?_⟩
   refine A6 (by
    show (H1.k.b.seq != (if (if (i:Int)<bits .and .i64 y 15 then (i:Int) else bits .and .i64 y 15) > (a:Int) then (if (i:Int)<bits .and .i64 y 15 then (i:Int) else bits .and .i64 y 15) else (a:Int)))=false
    rw [hrw,hsq1,bne_self_eq_false]) ?_
   exact⟨(j+1,r,H1),⟨rfl,rfl,rfl,congrArg (Value.int .i64) hrw,congrArg _ (C3 (by omega)),trivial⟩,⟨by omega,by omega,by omega,hf1,hsq1,hpl1,hep1,_,hc⟩,by show 20-(j+1)<20-j;omega⟩
 by_cases hl2:j<al.length
 ·refine dt (by omega) ?_
  refine df (by omega) ?_
  refine⟨.bool true,fun w=>B1B g.gl _ _ w,?_⟩
  refine hc.q (W9 g _ _ _ (hc.row.right (LinkK.stab _ _))) fun wQ hQ hc=>?_
  refine⟨(A1R g.gs g.gj g.gc g.b H hf.ok _ _ (hc.row.right (LinkK.stab _ _)).shelf).mono fun en wq hq=>?_⟩
  obtain⟨A3,c3,e4,hq,ho⟩:=hq
  have hc:=(hc.quiet hq).1
  refine⟨_,e4,?_⟩
  refine⟨B7 ?_,hc.below⟩
  show ((H.k.pend.length:Int)==IntKind.i64.wrap ((i:Int)-(a:Int)))=true
  rw [hpl,IntWalk.i64_in _ ⟨by omega,by omega⟩,beq_iff_eq]
  omega
 ·refine df (by omega) ?_
  refine⟨.bool true,fun w=>B1B g.gl _ _ w,?_⟩
  refine hc.q (W9 g _ _ _ (hc.row.right (LinkK.stab _ _))) fun wQ hQ hc=>?_
  refine⟨(A1R g.gs g.gj g.gc g.b H hf.ok _ _ (hc.row.right (LinkK.stab _ _)).shelf).mono fun en wq hq=>?_⟩
  obtain⟨A3,c3,e4,hq,ho⟩:=hq
  have hc:=(hc.quiet hq).1
  refine⟨_,e4,?_⟩
  refine⟨B7 ?_,hc.below⟩
  show ((H.k.pend.length:Int)==IntKind.i64.wrap ((i:Int)-(a:Int)))=true
  rw [hpl,IntWalk.i64_in _ ⟨by omega,by omega⟩,beq_iff_eq]
  omega
theorem A6o {H:Type} (enc:TypeId × Value->H) (W:World) (hw:Env W) {base:Nat}
  (v0:Value) (d0:DataW H) (p0:List MemPlace) (h0:DataW.Trod enc Tryz.prog W 0 (fun _=>true) true 3 v0 d0 p0) (k0:Value.okWide Tryz.prog W .any base 3 v0)
  (v1:Value) (d1:DataW H) (p1:List MemPlace) (h1:DataW.Trod enc Tryz.prog W 0 (fun _=>true) true 77 v1 d1 p1) (k1:Value.okWide Tryz.prog W .any base 77 v1):
  Calls Tryz.prog 9 #[v0,v1] W (C8 (.bool true) W):=by
 obtain⟨a0,rfl,o0⟩:=B2t Tryz.underlying3 h0 k0
 obtain⟨A1,c1,a1,rfl,r1,o1⟩:=A6W h1 k1
 exact A9I a0 a1 A1 c1 W hw r1
end Go.Proofs.YtefdfaeieekioaaGreatDoor
