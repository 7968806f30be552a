import Derived.Test.YtefdfaeieekioaaGreatDoorM14
set_option maxRecDepth 100000
set_option maxHeartbeats 40000000
set_option linter.unusedVariables false
set_option linter.unusedSimpArgs false
/- Walk: armariumlaw13.LinkReads. -/
namespace Go.Proofs.YtefdfaeieekioaaGreatDoor
open Go.Vc Go.RowKit Go.Fl Go.ChangeShapes Go.WideShapes Go.ChangeAt
theorem C0C {α:Type} {p:α->Bool}:∀ {l:List α},(∀ a∈l,p a=false)->l.any p=false
 | [],_=>rfl
 | a::r,h=>by rw [List.any_cons,h a (List.mem_cons_self ..),C0C fun b hb=>h b (List.mem_cons_of_mem _ hb)];rfl
theorem C1C {α:Type} {p:α->Bool}:∀ {l:List α},(∀ a∈l,p a=true)->l.any p=!(l.length==0)
 | [],_=>rfl
 | a::r,h=>by rw [List.any_cons,h a (List.mem_cons_self ..)];rfl
theorem C0M {H:Sh} {n:Nat} {dn:List Wd} (hf:Fit H n) (he:H.k.ep=1) (hk:∀ d∈H.k.pend,d.key=⟨#[107]⟩) (key:ByteArray) (h:D3 key ⟨#[]⟩=true\/D3 ⟨#[107]⟩ key=true):readyL (l2 H 1 100 dn) key 1=(H.k.pend.length==0):=by
 unfold readyL
 rw [B7H hf he (by decide),Bool.true_and]
 show (!H.k.pend.any fun d=>D3 key ⟨#[]⟩||D3 d.key key)=_
 rw [C1C (fun d hd=>by
  rw [hk d hd]
  rcases h with h | h
  ·rw [h];rfl
  ·rw [h,Bool.or_true]),Bool.not_not]
theorem C1P {H:Sh} {n:Nat} {dn:List Wd} (hf:Fit H n) (he:H.k.ep=1) (hk:∀ d∈H.k.pend,d.key=⟨#[107]⟩) (key:ByteArray) (h:D3 key ⟨#[]⟩=false/\D3 ⟨#[107]⟩ key=false):readyL (l2 H 1 100 dn) key 1=true:=by
 unfold readyL
 rw [B7H hf he (by decide),Bool.true_and]
 show (!H.k.pend.any fun d=>D3 key ⟨#[]⟩||D3 d.key key)=_
 rw [C0C (fun d hd=>by rw [hk d hd,h.1,h.2];rfl)]
 rfl
theorem C1D {i:Nat}:∀ d∈B4E i,d.key=⟨#[107]⟩:=fun d hd=>by
 unfold B4E at hd
 obtain⟨j,_,rfl⟩:=List.mem_map.1 hd
 rfl
theorem C1U:B2 8589934599=2:=by unfold B2;decide
theorem C0N (n told:Int) (w:World) (hw:Env w):Calls Tryz.prog 14 #[.int .i64 n,.int .i64 told] w (C8 (.bool true) w):=by
 obtain⟨m,hraw,hm8⟩:=B9V n 8 (by decide) (by decide)
 obtain⟨b0,hb0⟩:0<=bits .and .i64 told 15/\bits .and .i64 told 15<=15:=by rw [A4l];omega
 obtain⟨s,hs⟩:∃ s:Nat,bits .and .i64 told 15=s:=⟨(bits .and .i64 told 15).toNat,by omega⟩
 refine vE Tryz.func14 ?_
 have hc:=CtxF.start w no (fun _ h=>h.elim) (R:=fun _ _=>True) trivial Stab.true
 refine hc.q (A6n _ (hw.below hc.below)) fun wQ hQ hc=>?_
 refine⟨(A80 _ (hw.below hc.below)).mono fun en wq hq=>?_⟩
 obtain⟨g,H,e1,hb,hf,hk,hO⟩:=hq
 have hc:=hc.sepNew hb hO (LinkK.stab _ _)
 refine⟨_,e1,?_⟩
 refine⟨by decide,?_⟩
 refine⟨by decide,?_⟩
 refine⟨Nat × Sh,fun (i,H)=>[(0,.int .i64 (m:Int)),(1,.int .i64 told),(6,.pointer (some ⟨g.gl,0,none⟩)),(7,.int .i64 (i:Int))],
  fun (i,H) w'=>i<=m/\Fit H (1+i)/\H.k=⟨A4z,B4E i,1,0⟩/\∃ S,CtxF no w S w' [] [] (Sep w.heap.size (fun _ _=>True) (LinkK g (l2 H 1 100 []))),fun (i,_) _=>m-i,(0,H),⟨(show Value.int .i64 ((IntKind.i64.wrap (n.tmod 8+8)).tmod 8)=.int .i64 m by rw [hraw]),rfl,rfl,rfl,trivial⟩,⟨Nat.zero_le _,hf,hk,_,hc⟩,?_⟩
 clear hc hf hk hO H
 rintro⟨i,H⟩ w1 u1 ⟨hi,hf,hk,S,hc⟩
 by_cases hlt:i<m
 ·refine dt (by omega) ?_
  refine⟨.bool true,fun w=>B1B g.gl _ _ w,?_⟩
  have hd0:B2C i=⟨2,⟨#[107]⟩,⟨#[]⟩,0,0,⟨#[]⟩,IntKind.i64.wrap (4294967296+IntKind.i64.wrap ((i:Int)+1)),0⟩:=by
   unfold B2C
   rw [C3 (by omega),IntWalk.i64_in _ ⟨by omega,by omega⟩]
   rfl
  intro gb wgb hgb
  have hc:=hc.made hgb 8 1 rfl (by decide)
  obtain⟨S2,hc⟩:=hc.sepTold Stab.true (LinkK.stab _ _)
  have hc:CtxF no w S2 wgb [] [] (Sep w.heap.size (fun S w=>True/\Row S w (some ⟨gb,0,none⟩) 1 1 (([(⟨2,⟨#[107]⟩,⟨#[]⟩,0,0,⟨#[]⟩,IntKind.i64.wrap (4294967296+IntKind.i64.wrap ((i:Int)+1)),0⟩:D)].map dC).flatten)) (LinkK g (l2 H 1 100 []))):=hc
  rw [<-hd0] at hc
  obtain⟨H1,hf1,hk1,hs1⟩:=B4G hf (by omega) hk
  refine⟨(hc.heard0 hw (Stab.true.and A2F) (L':=l2 H1 1 100 []) (ws:=[B5n 1 (i:Int) [B2C i]]) (fun Sx S1 hlt he hK hvd hr=>?_)).mono fun en wq hq=>?_⟩
  ·have sd:=A8z g (l2 H 1 100 []) (B7G hf (by decide) (by unfold B3;decide)) (Nat.zero_le _) (i:Int) (by unfold B3;omega) [B2C i] (fun d hd=>by rw [List.mem_singleton.1 hd];exact B17 (by omega)) (some ⟨gb,0,none⟩) 1 Sx _ hlt he hK S1 hvd hr.2
   rw [hs1] at sd
   exact sd
  obtain⟨A9,c9,S3,e1,hc⟩:=hq
  have hc:=hc.sepNow (R':=fun _ _=>True) (fun _ _=>trivial) (fun _ h=>h) Stab.true (LinkK.stab _ _)
  refine⟨_,e1,?_⟩
  exact⟨(i+1,H1),⟨rfl,rfl,rfl,congrArg _ (C3 (by omega)),trivial⟩,⟨hlt,hf1,hk1,_,hc⟩,by show m-(i+1)<m-i;omega⟩
 refine df (by omega) ?_
 obtain rfl:i=m:=by omega
 have hok:=B7G (ep:=1) (til:=100) (dn:=[]) hf (by decide) (by unfold B3;decide)
 have hpl:H.k.pend.length=i:=by rw [hk];exact A4R i
 have hky:∀ d∈H.k.pend,d.key=⟨#[107]⟩:=by rw [hk];exact C1D
 have hep:H.k.ep=1:=by rw [hk]
 have rk:=C0M (dn:=[]) hf hep hky ⟨#[107]⟩ (.inr (by kernel_rfl))
 have re:=C0M (dn:=[]) hf hep hky ⟨#[]⟩ (.inl (by kernel_rfl))
 have ro:=C1P (dn:=[]) hf hep hky ⟨#[111,116,104,101,114]⟩ ⟨by kernel_rfl,by kernel_rfl⟩
 have hi0:(H.k.pend.length==0)=((i:Int)==0):=by rw [hpl,Bool.eq_iff_iff,beq_iff_eq,beq_iff_eq];omega
 rw [hi0] at rk re
 have rd:=fun key S w hlt hK=>B9k g (l2 H 1 100 []) hok key 1 S w hlt hK
 have rdk:=rd ⟨#[107]⟩
 have rdo:=rd ⟨#[111,116,104,101,114]⟩
 have rde:=rd ⟨#[]⟩
 rw [rk] at rdk
 rw [ro] at rdo
 rw [re] at rde
 refine⟨.bool false,fun w=>B7C g.gl _ _ w,?_⟩
 refine hc.q (rdk _ _ hc.ctx.lt (hc.row.right (LinkK.stab _ _))) fun wQ hQ hc=>?_
 refine A6 (bne_self_eq_false _) ?_
 refine hc.q (rdo _ _ hc.ctx.lt (hc.row.right (LinkK.stab _ _))) fun wQ hQ hc=>?_
 refine hc.q (rde _ _ hc.ctx.lt (hc.row.right (LinkK.stab _ _))) fun wQ hQ hc=>?_
 refine A6 (bne_self_eq_false _) ?_
 refine⟨(hc.heard1 hw Stab.true (L':=l2 H 1 100 []) (u:=wd 8 2 3 1 0 8589934599 []) (fun Sx S1 hlt he hK hvd hr=>?_)).mono fun en wq hq=>?_⟩
 ·have sd:=C08 g (l2 H 1 100 []) 8589934599 1 (by show (1:Int)≠0;decide) B3W Sx _ hlt he hK
  rw [show A1G (l2 H 1 100 []) (B08 8 (A2q (l2 H 1 100 []).r.l) 0 8589934599 r00)=wd 8 2 3 1 0 8589934599 [] by kernel_rfl] at sd
  exact sd
 obtain⟨a9,x9,c9,S3,e1,hcl,hc⟩:=hq
 refine⟨_,e1,?_⟩
 refine⟨⟨by decide,by decide⟩,?_⟩
 refine⟨.int .i64 8,A2R hcl 0 _ rfl,?_⟩
 refine⟨⟨by decide,by decide⟩,?_⟩
 refine⟨.int .i64 3,A2R hcl 2 _ rfl,?_⟩
 refine⟨⟨by decide,by decide⟩,?_⟩
 refine⟨.int .i64 8589934599,A2R hcl 5 _ rfl,?_⟩
 have hc:=hc.rest.sepNow (R':=fun _ _=>True) (fun _ _=>trivial) (fun _ h=>h) Stab.true (LinkK.stab _ _)
 obtain⟨H1,hk1,hf1,hs1⟩:=C1A (now:=1) (til:=100) (dn:=[]) hf (by omega) (ep:=1) (by decide) (s:=bits .and .i64 told 15) (req:=8589934599) ⟨b0,by show _<=(1099511627776:Int);omega⟩ (by decide) C1U
 obtain⟨l1,l2',l3,l4,_⟩:=B3V hf.ok.k (bits .and .i64 told 15-H.k.b.seq).toNat
 rw [<-hk1] at l1 l2' l3 l4
 have hsq:H.k.b.seq=0:=by rw [hk];rfl
 have hsq1:H1.k.b.seq=((min s i:Nat):Int):=by rw [l1,hsq,hpl];omega
 have hpl1:H1.k.pend.length=i-s:=by rw [l3,List.length_drop,hpl,hsq];omega
 have hep1:H1.k.ep=1:=by rw [l4,hep]
 have hky1:∀ d∈H1.k.pend,d.key=⟨#[107]⟩:=fun d hd=>hky d (by rw [l3] at hd;exact List.mem_of_mem_drop hd)
 refine⟨(hc.heard0 hw Stab.true (L':=l2 H1 1 100 [C0d 1 8589934599 (bits .and .i64 told 15)]) (ws:=[]) (fun Sx S1 hlt he hK hvd hr=>?_)).mono fun en wq hq=>?_⟩
 ·have sd:=B94 g (l2 H 1 100 []) hok (Nat.zero_le _) 3 2 1 (bits .and .i64 told 15) 8589934599 (by unfold B3;omega) 1 Sx _ hlt he hK S1 hvd ⟨⟨Ros0.rep _ _,A28 _ _⟩,A15 _ _⟩
  rw [show B9Y (l2 H 1 100 []) (wd 9 3 2 1 (bits .and .i64 told 15) 8589934599 []) 1=_ from hs1,show wdC (wd 9 3 2 1 (bits .and .i64 told 15) 8589934599 []) WX0=_ from A7k 9 3 2 1 (bits .and .i64 told 15) 8589934599 [] none 0] at sd
  exact sd
 obtain⟨A8,c8,S4,e1,hc⟩:=hq
 refine⟨_,e1,?_⟩
 refine⟨(hc.heard1 hw Stab.true (L':=l2 H1 1 100 []) (u:=C0d 1 8589934599 (bits .and .i64 told 15)) (fun Sx S1 hlt he hK hvd hr=>?_)).mono fun en wq hq=>?_⟩
 ·exact C0w g (l2 H1 1 100 [C0d 1 8589934599 (bits .and .i64 told 15)]) (fun v hv=>by rw [List.mem_singleton.1 hv];exact⟨rfl,rfl,rfl⟩) Sx _ hlt hK
 obtain⟨a9,x9,c9,S5,e1,hcl,hc⟩:=hq
 refine⟨_,e1,?_⟩
 refine⟨⟨by decide,by decide⟩,?_⟩
 refine⟨.int .i64 9,A2R hcl 0 _ rfl,?_⟩
 refine⟨⟨by decide,by decide⟩,?_⟩
 refine⟨.int .i64 8589934599,A2R hcl 5 _ rfl,?_⟩
 refine⟨⟨by decide,by decide⟩,?_⟩
 refine⟨.int .i64 (bits .and .i64 told 15),A2R hcl 4 _ rfl,?_⟩
 refine B0 (beq_self_eq_true _) ?_
 have hc:=hc.rest.sepNow (R':=fun _ _=>True) (fun _ _=>trivial) (fun _ h=>h) Stab.true (LinkK.stab _ _)
 refine hc.q (W9 g _ _ _ (hc.row.right (LinkK.stab _ _))) fun wQ hQ hc=>?_
 refine⟨(A0S g.gs g.gj g.gc g.b H1 hf1.ok _ _ (hc.row.right (LinkK.stab _ _)).shelf).mono fun en wq hq=>?_⟩
 obtain⟨cB,e1,hq,hrB⟩:=hq
 obtain⟨z,rfl⟩:=hrB.stX
 have hc:=(hc.quiet hq).1
 refine⟨_,e1,?_⟩
 refine B0 (by
  show (H1.k.b.seq==(if (i:Int)<bits .and .i64 told 15 then (i:Int) else bits .and .i64 told 15))=true
  rw [hsq1,hs,beq_iff_eq]
  split<;>omega) ?_
 have rk:=C0M (dn:=[]) hf1 hep1 hky1 ⟨#[107]⟩ (.inr (by kernel_rfl))
 have hi1:(H1.k.pend.length==0)=decide ((i:Int)<=bits .and .i64 told 15):=by rw [hpl1,Bool.eq_iff_iff,beq_iff_eq,decide_eq_true_eq];omega
 rw [hi1] at rk
 have rdk:=B9k g (l2 H1 1 100 []) (B7G (ep:=1) (til:=100) (dn:=[]) hf1 (by decide) (by unfold B3;decide)) ⟨#[107]⟩ 1
 rw [rk] at rdk
 refine hc.q (rdk _ _ hc.ctx.lt (hc.row.right (LinkK.stab _ _))) fun wQ hQ hc=>?_
 refine⟨B7 ?_,hc.below⟩
 exact beq_self_eq_true _
theorem C0D {H:Type} (enc:TypeId × Value->H) (W:World) (hw:Env W) {base:Nat}
  (v0:Value) (d0:DataW H) (p0:List MemPlace) (h0:DataW.Trod enc Tryz.prog W 0 (fun _=>true) true 3 v0 d0 p0) (k0:Value.okWide Tryz.prog W .any base 3 v0)
  (v1:Value) (d1:DataW H) (p1:List MemPlace) (h1:DataW.Trod enc Tryz.prog W 0 (fun _=>true) true 2 v1 d1 p1) (k1:Value.okWide Tryz.prog W .any base 2 v1):
  Calls Tryz.prog 14 #[v0,v1] W (C8 (.bool true) W):=by
 obtain⟨a0,rfl,o0⟩:=B2t Tryz.underlying3 h0 k0
 obtain⟨a1,rfl,o1⟩:=B2t Tryz.underlying2 h1 k1
 exact (C0N a0 a1 W hw)
end Go.Proofs.YtefdfaeieekioaaGreatDoor
