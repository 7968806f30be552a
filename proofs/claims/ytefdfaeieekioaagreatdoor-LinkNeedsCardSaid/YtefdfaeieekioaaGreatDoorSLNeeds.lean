import Derived.Test.YtefdfaeieekioaaGreatDoorM14
set_option maxRecDepth 100000
set_option maxHeartbeats 40000000
set_option linter.unusedVariables false
set_option linter.unusedSimpArgs false
/- Walk: armariumlaw13.LinkNeeds. -/
namespace Go.Proofs.YtefdfaeieekioaaGreatDoor
open Go.Vc Go.RowKit Go.Fl Go.ChangeShapes Go.WideShapes Go.ChangeAt
theorem C0K (n sq:Int) (lb:Bool) (w:World) (hw:Env w):Calls Tryz.prog 10 #[.int .i64 n,.int .i64 sq,.bool lb] w (C8 (.bool true) w):=by
 obtain⟨m0,hm,hm8⟩:=B9V n 15 (by decide) (by decide)
 obtain⟨m,hmm⟩:∃ m:Nat,m=1+m0:=⟨_,rfl⟩
 have hraw:IntKind.i64.wrap (1+(IntKind.i64.wrap (n.tmod 15+15)).tmod 15)=(m:Int):=by rw [hm,IntWalk.i64_in _ ⟨by omega,by omega⟩];omega
 obtain⟨b0,hb0⟩:0<=bits .and .i64 sq 31/\bits .and .i64 sq 31<=31:=by rw [C0z];omega
 obtain⟨s,hs⟩:∃ s:Nat,bits .and .i64 sq 31=s:=⟨(bits .and .i64 sq 31).toNat,by omega⟩
 refine vE Tryz.func10 ?_
 have hc:=CtxF.start w no (fun _ h=>h.elim) (R:=fun _ _=>True) trivial Stab.true
 refine hc.q (A6n _ (hw.below hc.below)) fun wQ hQ hc=>?_
 refine⟨(A80 _ (hw.below hc.below)).mono fun en wq hq=>?_⟩
 obtain⟨g,H,e1,hb,hf,hk,hO⟩:=hq
 have hc:=hc.sepNew hb hO (LinkK.stab _ _)
 refine⟨_,e1,?_⟩
 refine⟨by decide,?_⟩
 refine⟨by decide,?_⟩
 refine⟨Nat × Sh,fun (i,H)=>[(0,.int .i64 (m:Int)),(1,.int .i64 sq),(2,.bool lb),(8,.pointer (some ⟨g.gl,0,none⟩)),(9,.int .i64 (i:Int))],
  fun (i,H) w'=>i<=m/\Fit H (1+i)/\H.k=⟨A4z,B4E i,1,0⟩/\∃ S,CtxF no w S w' [] [] (Sep w.heap.size (fun _ _=>True) (LinkK g (l2 H 1 100 []))),fun (i,_) _=>m-i,(0,H),⟨(show Value.int .i64 (IntKind.i64.wrap (1+(IntKind.i64.wrap (n.tmod 15+15)).tmod 15))=.int .i64 m by rw [hraw]),rfl,rfl,rfl,rfl,trivial⟩,⟨Nat.zero_le _,hf,hk,_,hc⟩,?_⟩
 clear hc hf hk hO H
 rintro⟨i,H⟩ w1 u1 ⟨hi,hf,hk,S,hc⟩
 by_cases hlt:i<m
 ·refine dt (by omega) ?_
  refine⟨.bool true,fun w=>B1B g.gl _ _ w,?_⟩
  have hd0:B2C i=⟨2,⟨#[107]⟩,⟨#[]⟩,0,0,⟨#[]⟩,IntKind.i64.wrap (4294967296+IntKind.i64.wrap ((i:Int)+1)),0⟩:=by
   unfold B2C
   rw [C3 (by omega),IntWalk.i64_in _ ⟨by omega,by omega⟩]
   rfl
  intro gb wgb hgb
  have hc:=hc.made hgb 8 1 rfl (by decide)
  obtain⟨S2,hc⟩:=hc.sepTold Stab.true (LinkK.stab _ _)
  have hc:CtxF no w S2 wgb [] [] (Sep w.heap.size (fun S w=>True/\Row S w (some ⟨gb,0,none⟩) 1 1 (([(⟨2,⟨#[107]⟩,⟨#[]⟩,0,0,⟨#[]⟩,IntKind.i64.wrap (4294967296+IntKind.i64.wrap ((i:Int)+1)),0⟩:D)].map dC).flatten)) (LinkK g (l2 H 1 100 []))):=hc
  rw [<-hd0] at hc
  obtain⟨H1,hf1,hk1,hs1⟩:=B4G hf (by omega) hk
  refine⟨(hc.heard0 hw (Stab.true.and A2F) (L':=l2 H1 1 100 []) (ws:=[B5n 1 (i:Int) [B2C i]]) (fun Sx S1 hlt he hK hvd hr=>?_)).mono fun en wq hq=>?_⟩
  ·have sd:=A8z g (l2 H 1 100 []) (B7G hf (by decide) (by unfold B3;decide)) (Nat.zero_le _) (i:Int) (by unfold B3;omega) [B2C i] (fun d hd=>by rw [List.mem_singleton.1 hd];exact B17 (by omega)) (some ⟨gb,0,none⟩) 1 Sx _ hlt he hK S1 hvd hr.2
   rw [hs1] at sd
   exact sd
  obtain⟨A9,c9,S3,e1,hc⟩:=hq
  have hc:=hc.sepNow (R':=fun _ _=>True) (fun _ _=>trivial) (fun _ h=>h) Stab.true (LinkK.stab _ _)
  refine⟨_,e1,?_⟩
  exact⟨(i+1,H1),⟨rfl,rfl,rfl,rfl,congrArg _ (C3 (by omega)),trivial⟩,⟨hlt,hf1,hk1,_,hc⟩,by show m-(i+1)<m-i;omega⟩
 refine df (by omega) ?_
 obtain rfl:i=m:=by omega
 refine⟨.bool false,fun w=>B7C g.gl _ _ w,?_⟩
 have hseq:H.k.seq=(i:Int):=by rw [hk];show (0:Int)+((B4E i).length:Int)=i;rw [A4R];omega
 refine hc.n fun g10 wg10 hg10 hc=>?_
 rw [C05] at hc
 refine hc.s 0 rfl fun wS hS hc=>?_
 cases lb with
 | true=>
  refine hc.s 0 rfl fun wS hS hc=>?_
  have hc:=I9 hc (l':=[(g10,43,wdC (wd 5 3 2 1 (bits .and .i64 sq 31) 1 []) WX0)]) (by kernel_rfl)
  refine⟨wdC (wd 5 3 2 1 (bits .and .i64 sq 31) 1 []) WX0,rfl,hc.cells 0 rfl,?_⟩
  have hs1:=C0U (now:=1) (til:=100) (dn:=[]) hf (ep:=1) (by decide) (by rw [hk]) (by decide) (s:=bits .and .i64 sq 31) (q:=1) ⟨b0,by show _<=(1099511627776:Int);omega⟩ (by decide) (by rw [hk];exact b0)
  rw [hseq] at hs1
  have sd:=fun Sx w hlt he hK S1 hvd=>B9l g (l2 H 1 100 []) (B7G hf (by decide) (by unfold B3;decide)) 3 2 1 (bits .and .i64 sq 31) 1 WX0 1 Sx w hlt he hK S1 hvd ⟨⟨Ros0.rep _ _,A28 _ _⟩,A15 _ _⟩
  rw [hs1] at sd
  by_cases hge:(i:Int)<=bits .and .i64 sq 31
  ·rw [if_neg (by omega)] at sd
   refine⟨(hc.heard0 hw Stab.true (L':=l2 H 1 100 []) (ws:=[]) (fun Sx S1 hlt he hK hvd hr=>sd Sx _ hlt he hK S1 hvd)).mono fun en wq hq=>?_⟩
   obtain⟨A9,c9,S3,e1,hc⟩:=hq
   refine⟨_,e1,?_⟩
   refine dt hge ?_
   exact⟨rfl,hc.below⟩
  rw [if_pos (by omega)] at sd
  refine⟨(hc.heard1 hw Stab.true (L':=l2 H 1 100 []) (u:=B5n 1 (bits .and .i64 sq 31) ((H.k.pend.drop (bits .and .i64 sq 31-H.k.b.seq).toNat).take 6)) (fun Sx S1 hlt he hK hvd hr=>sd Sx _ hlt he hK S1 hvd)).mono fun en wq hq=>?_⟩
  obtain⟨a9,x9,c9,S3,e1,hcl,hc⟩:=hq
  refine⟨_,e1,?_⟩
  refine df hge ?_
  have hdl:(H.k.pend.drop (bits .and .i64 sq 31-H.k.b.seq).toNat).take 6=((B4E i).drop s).take 6:=by
   rw [hk]
   show ((B4E i).drop (bits .and .i64 sq 31-0).toNat).take 6=_
   rw [show (bits .and .i64 sq 31-0).toNat=s by omega]
  rw [hdl] at hcl hc
  have hln:(((B4E i).drop s).take 6).length=min 6 (i-s):=by rw [List.length_take,List.length_drop,A4R]
  have hk6:(if IntKind.i64.wrap ((i:Int)-bits .and .i64 sq 31)<6 then IntKind.i64.wrap ((i:Int)-bits .and .i64 sq 31) else 6)=(((((B4E i).drop s).take 6).length:Nat):Int):=by
   rw [hln,IntWalk.i64_in _ ⟨by omega,by omega⟩]
   split<;>omega
  obtain⟨A1,cA1,B1,cB1,y1⟩:=x9
  obtain⟨ad,hB1,hcd⟩:=RowD8.elem ((hc.row.left (Stab.true.and (WdR.stab _ _))).2.1.2:Row S3 _ B1 (((B4E i).drop s).take 6).length cB1 ((((B4E i).drop s).take 6).map dC).flatten) 0 (by show 0<(((B4E i).drop s).take 6).length;rw [hln];omega)
  subst hB1
  have hd0:(((B4E i).drop s).take 6)[0]'(by rw [hln];omega)=B2C s:=by
   unfold B4E
   simp
  replace hcd:Go.Vc.cellsAt _ (ad.add (0*8)) (dC ((((B4E i).drop s).take 6)[0]'(by rw [hln];omega))) 0:=hcd
  rw [hd0] at hcd
  refine⟨⟨by decide,by decide⟩,?_⟩
  refine⟨.int .i64 4,A2R hcl 0 _ rfl,?_⟩
  refine⟨⟨by decide,by decide⟩,?_⟩
  refine⟨.int .i64 3,A2R hcl 2 _ rfl,?_⟩
  refine⟨⟨by decide,by decide⟩,?_⟩
  refine⟨.int .i64 (bits .and .i64 sq 31),A2R hcl 4 _ rfl,?_⟩
  refine B0 (beq_self_eq_true _) ?_
  refine⟨⟨by decide,by decide⟩,?_⟩
  refine⟨.slice (some ad) (((B4E i).drop s).take 6).length cB1,A2R hcl 12 _ rfl,?_⟩
  refine B0 (by
   show ((((((B4E i).drop s).take 6).length:Nat):Int)==(if IntKind.i64.wrap ((i:Int)-bits .and .i64 sq 31)<6 then IntKind.i64.wrap ((i:Int)-bits .and .i64 sq 31) else 6))=true
   rw [hk6,beq_self_eq_true]) ?_
  refine⟨⟨by decide,by decide⟩,?_⟩
  refine⟨.slice (some ad) (((B4E i).drop s).take 6).length cB1,A2R hcl 12 _ rfl,?_⟩
  refine⟨⟨by decide,by omega⟩,?_⟩
  refine⟨.int .i64 (4294967296+((s:Int)+1)),(G9 _ 0 hcd 6 _ rfl),?_⟩
  refine⟨B7 ?_,hc.below⟩
  show (4294967296+((s:Int)+1)==IntKind.i64.wrap (IntKind.i64.wrap (4294967296+bits .and .i64 sq 31)+1))=true
  rw [hs,IntWalk.i64_in (4294967296+(s:Int)) ⟨by omega,by omega⟩,IntWalk.i64_in _ ⟨by omega,by omega⟩,beq_iff_eq]
  omega
 | false=>
  skip
  have hc:=I9 hc (l':=[(g10,43,wdC (wd 5 3 2 1 (bits .and .i64 sq 31) 0 []) WX0)]) (by kernel_rfl)
  refine⟨wdC (wd 5 3 2 1 (bits .and .i64 sq 31) 0 []) WX0,rfl,hc.cells 0 rfl,?_⟩
  have hs1:=C0U (now:=1) (til:=100) (dn:=[]) hf (ep:=1) (by decide) (by rw [hk]) (by decide) (s:=bits .and .i64 sq 31) (q:=0) ⟨b0,by show _<=(1099511627776:Int);omega⟩ (by decide) (by rw [hk];exact b0)
  rw [hseq] at hs1
  have sd:=fun Sx w hlt he hK S1 hvd=>B9l g (l2 H 1 100 []) (B7G hf (by decide) (by unfold B3;decide)) 3 2 1 (bits .and .i64 sq 31) 0 WX0 1 Sx w hlt he hK S1 hvd ⟨⟨Ros0.rep _ _,A28 _ _⟩,A15 _ _⟩
  rw [hs1] at sd
  by_cases hge:(i:Int)<=bits .and .i64 sq 31
  ·rw [if_neg (by omega)] at sd
   refine⟨(hc.heard0 hw Stab.true (L':=l2 H 1 100 []) (ws:=[]) (fun Sx S1 hlt he hK hvd hr=>sd Sx _ hlt he hK S1 hvd)).mono fun en wq hq=>?_⟩
   obtain⟨A9,c9,S3,e1,hc⟩:=hq
   refine⟨_,e1,?_⟩
   refine dt hge ?_
   exact⟨rfl,hc.below⟩
  rw [if_pos (by omega)] at sd
  refine⟨(hc.heard1 hw Stab.true (L':=l2 H 1 100 []) (u:=B5n 1 (bits .and .i64 sq 31) ((H.k.pend.drop (bits .and .i64 sq 31-H.k.b.seq).toNat).take 6)) (fun Sx S1 hlt he hK hvd hr=>sd Sx _ hlt he hK S1 hvd)).mono fun en wq hq=>?_⟩
  obtain⟨a9,x9,c9,S3,e1,hcl,hc⟩:=hq
  refine⟨_,e1,?_⟩
  refine df hge ?_
  have hdl:(H.k.pend.drop (bits .and .i64 sq 31-H.k.b.seq).toNat).take 6=((B4E i).drop s).take 6:=by
   rw [hk]
   show ((B4E i).drop (bits .and .i64 sq 31-0).toNat).take 6=_
   rw [show (bits .and .i64 sq 31-0).toNat=s by omega]
  rw [hdl] at hcl hc
  have hln:(((B4E i).drop s).take 6).length=min 6 (i-s):=by rw [List.length_take,List.length_drop,A4R]
  have hk6:(if IntKind.i64.wrap ((i:Int)-bits .and .i64 sq 31)<6 then IntKind.i64.wrap ((i:Int)-bits .and .i64 sq 31) else 6)=(((((B4E i).drop s).take 6).length:Nat):Int):=by
   rw [hln,IntWalk.i64_in _ ⟨by omega,by omega⟩]
   split<;>omega
  obtain⟨A1,cA1,B1,cB1,y1⟩:=x9
  obtain⟨ad,hB1,hcd⟩:=RowD8.elem ((hc.row.left (Stab.true.and (WdR.stab _ _))).2.1.2:Row S3 _ B1 (((B4E i).drop s).take 6).length cB1 ((((B4E i).drop s).take 6).map dC).flatten) 0 (by show 0<(((B4E i).drop s).take 6).length;rw [hln];omega)
  subst hB1
  have hd0:(((B4E i).drop s).take 6)[0]'(by rw [hln];omega)=B2C s:=by
   unfold B4E
   simp
  replace hcd:Go.Vc.cellsAt _ (ad.add (0*8)) (dC ((((B4E i).drop s).take 6)[0]'(by rw [hln];omega))) 0:=hcd
  rw [hd0] at hcd
  refine⟨⟨by decide,by decide⟩,?_⟩
  refine⟨.int .i64 4,A2R hcl 0 _ rfl,?_⟩
  refine⟨⟨by decide,by decide⟩,?_⟩
  refine⟨.int .i64 3,A2R hcl 2 _ rfl,?_⟩
  refine⟨⟨by decide,by decide⟩,?_⟩
  refine⟨.int .i64 (bits .and .i64 sq 31),A2R hcl 4 _ rfl,?_⟩
  refine B0 (beq_self_eq_true _) ?_
  refine⟨⟨by decide,by decide⟩,?_⟩
  refine⟨.slice (some ad) (((B4E i).drop s).take 6).length cB1,A2R hcl 12 _ rfl,?_⟩
  refine B0 (by
   show ((((((B4E i).drop s).take 6).length:Nat):Int)==(if IntKind.i64.wrap ((i:Int)-bits .and .i64 sq 31)<6 then IntKind.i64.wrap ((i:Int)-bits .and .i64 sq 31) else 6))=true
   rw [hk6,beq_self_eq_true]) ?_
  refine⟨⟨by decide,by decide⟩,?_⟩
  refine⟨.slice (some ad) (((B4E i).drop s).take 6).length cB1,A2R hcl 12 _ rfl,?_⟩
  refine⟨⟨by decide,by omega⟩,?_⟩
  refine⟨.int .i64 (4294967296+((s:Int)+1)),(G9 _ 0 hcd 6 _ rfl),?_⟩
  refine⟨B7 ?_,hc.below⟩
  show (4294967296+((s:Int)+1)==IntKind.i64.wrap (IntKind.i64.wrap (4294967296+bits .and .i64 sq 31)+1))=true
  rw [hs,IntWalk.i64_in (4294967296+(s:Int)) ⟨by omega,by omega⟩,IntWalk.i64_in _ ⟨by omega,by omega⟩,beq_iff_eq]
  omega
theorem B99 {H:Type} (enc:TypeId × Value->H) (W:World) (hw:Env W) {base:Nat}
  (v0:Value) (d0:DataW H) (p0:List MemPlace) (h0:DataW.Trod enc Tryz.prog W 0 (fun _=>true) true 3 v0 d0 p0) (k0:Value.okWide Tryz.prog W .any base 3 v0)
  (v1:Value) (d1:DataW H) (p1:List MemPlace) (h1:DataW.Trod enc Tryz.prog W 0 (fun _=>true) true 2 v1 d1 p1) (k1:Value.okWide Tryz.prog W .any base 2 v1)
  (v2:Value) (d2:DataW H) (p2:List MemPlace) (h2:DataW.Trod enc Tryz.prog W 0 (fun _=>true) true 4 v2 d2 p2) (k2:Value.okWide Tryz.prog W .any base 4 v2):
  Calls Tryz.prog 10 #[v0,v1,v2] W (C8 (.bool true) W):=by
 obtain⟨a0,rfl,o0⟩:=B2t Tryz.underlying3 h0 k0
 obtain⟨a1,rfl,o1⟩:=B2t Tryz.underlying2 h1 k1
 obtain⟨a2,rfl⟩:=C1I h2 k2
 exact (C0K a0 a1 a2 W hw)
end Go.Proofs.YtefdfaeieekioaaGreatDoor
