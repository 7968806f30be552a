import Derived.Test.YtefdfaeieekioaaGreatDoorQ14
set_option maxRecDepth 100000
set_option maxHeartbeats 40000000
set_option linter.unusedVariables false
set_option linter.unusedSimpArgs false
/- Walk: armariumlaw13.LinkWrites. -/
namespace Go.Proofs.YtefdfaeieekioaaGreatDoor
open Go.Vc Go.RowKit Go.Fl Go.ChangeShapes Go.WideShapes Go.ChangeAt
def l1 (H:Sh):Lk:=lk 1 H (R2 1) 100 []
theorem C0h {H:Sh} {n:Nat} (hf:Fit H n):(l1 H).Ok:=B8N (by decide) hf (B9p (by decide)) (by unfold B3;decide)
theorem C00 {H:Sh} {n:Nat} (hf:Fit H n) (he:H.k.ep=1) {now:Int} (h:now<=100):H6 (l1 H) now=true:=B1I hf (by show (1:Int)∈[(1:Int),2];decide) (by show (0:Int)≠1;decide) he h
theorem C1F (H:Sh):V7 (l1 H)=0:=(by kernel_rfl:A04 [1,2] 1=0)
theorem C0P (H:Sh):A1I (l1 H)=2:=(by kernel_rfl:A5O [1,2] 1=2)
theorem C01 (H:Sh):A1H (l1 H)=false:=(by kernel_rfl:(A2q [1,2]==1)=false)
theorem C1Q (H:Sh):B8J (l1 H).r.l=(l1 H).id:=(by kernel_rfl:B8J [1,2]=1)
/-- The deed that node f writes. -/
def wrD (f:Int):D:=⟨1,⟨#[107]⟩,⟨#[118]⟩,0,0,⟨#[]⟩,f*4294967296+1,0⟩
theorem B9w {f:Int} (h2:2<=f) (h5:f<=5):L3 (wrD f)=true/\B2 (wrD f).req=f/\B6t (U0 A4z [wrD f]) (wrD f).req=(⟨0,1⟩,true):=by
 rcases (show f=2\/f=3\/f=4\/f=5 by omega) with rfl | rfl | rfl | rfl<;>exact⟨by kernel_rfl,by kernel_rfl,by kernel_rfl⟩
theorem C0E {f:Int} (h2:2<=f) (h5:f<=5):(wrD f).Ok:=by
 have z:B3 0:=by unfold B3;decide
 exact⟨by show B3 1;unfold B3;decide,(by show 1<=9223372036854775807;decide),(by show 1<=9223372036854775807;decide),z,z,(by show 0<=9223372036854775807;decide),by show B3 (f*4294967296+1);unfold B3;omega,z⟩
def B9d (f:Int):Wd:=wd 3 f 1 1 0 0 [wrD f]
def C1W (f:Int):Wd:=⟨7,1,f,1,0,f*4294967296+1,0,⟨0,1⟩,Ros0,[],A4z⟩
theorem B9h {H:Sh} {n:Nat} (hf:Fit H n) (he:H.k.ep=1) {f now:Int} (h2:2<=f) (h5:f<=5) (hn:now<=100):
  B9Y (l1 H) (B9d f) now=if (B6t H.k.b (wrD f).req).2=true then toldL (l1 H) (wrD f).req (B6t H.k.b (wrD f).req).1 else if H.k.pend.any (fun x=>x.req==(wrD f).req)=true then (l1 H,[]) else if (M8 H (wrD f)).2≠0 then ({ l1 H with H:=(M8 H (wrD f)).1 },[]) else onL { l1 H with H:=(M8 H (wrD f)).1 } H.k.seq:=by
 have hz:(0:Int)<=E3:=by show (0:Int)<=1099511627776;decide
 have hm:A51 (B9d f)=true:=B5m (by decide) (by omega) (by decide) (by omega) (by decide) ⟨Int.le_refl _,hz⟩ ⟨Int.le_refl _,hz⟩ (by show 1<=60;decide) (fun d hd=>by rw [List.mem_singleton.1 hd];exact (B9w h2 h5).1)
 rw [A8x rfl hm (by show (3:Int)≠2;decide),B1J (by show (3:Int)≠7;decide) (by show (3:Int)≠10;decide) (by show (3:Int)≠9;decide) rfl (by show (1:Int)≠0;decide) (C00 hf he hn),if_pos (show (B9d f).kind=3 from rfl)]
 unfold B09
 rw [if_neg (fun h=>h (C1Q H))]
 rfl
theorem C0Q {H:Sh} {n:Nat} (hf:Fit H n) (hn:n<=100) (hk:H.k=⟨A4z,[],1,0⟩) {f:Int} (h2:2<=f) (h5:f<=5):∃ H',Fit H' (n+1)/\H'.k=⟨A4z,[wrD f],1,0⟩/\B9Y (l1 H) (B9d f) 1=(l1 H',[wd 4 1 2 1 0 0 [wrD f]]):=by
 have hm:=(B9w h2 h5).1
 rcases hf.add (by omega) (C0E h2 h5) with ⟨_,hc,e⟩ | ⟨_,hc,e⟩ | ⟨hm',e⟩
 rotate_left
 ·exact absurd (show B2B H.k (.add (wrD f)) from by rw [hk];exact⟨by decide,by show (0:Int)+0<1099511627776;decide⟩) hc
 ·rw [hm] at hm';cases hm'
 have ek:(H.write (.add (wrD f)) true).k=⟨A4z,[wrD f],1,0⟩:=by rw [A2K,hk];rfl
 refine⟨H.write (.add (wrD f)) true,hf.write (by omega) (r:=.add (wrD f)) ⟨hm,C0E h2 h5⟩ hc true,ek,?_⟩
 rw [B9h hf (by rw [hk]) h2 h5 (by decide),e]
 have e1:(B6t H.k.b (wrD f).req).2=false:=by rw [hk];rfl
 have e2:H.k.pend.any (fun x=>x.req==(wrD f).req)=false:=by rw [hk];rfl
 have e3:H.k.seq=0:=by rw [hk];rfl
 rw [e1,e2,e3,if_neg (by decide),if_neg (by decide),if_neg (fun h=>h rfl)]
 show onL (l1 (H.write (.add (wrD f)) true)) 0=_
 unfold onL
 rw [C01,if_neg (by decide)]
 unfold A31 A2L
 rw [C0P]
 show (_,[A1G (l1 (H.write (.add (wrD f)) true)) ⟨4,0,2,0,0,0,0,r00,Ros0,(((H.write (.add (wrD f)) true)).k.pend.drop (0-(H.write (.add (wrD f)) true).k.b.seq).toNat).take 6,A4z⟩])=_
 rw [ek]
 rfl
theorem C0i {H:Sh} {n:Nat} (hf:Fit H n) {f:Int} (hk:H.k=⟨A4z,[wrD f],1,0⟩) (h2:2<=f) (h5:f<=5):B9Y (l1 H) (B9d f) 2=(l1 H,[]):=by
 rw [B9h hf (by rw [hk]) h2 h5 (by decide)]
 have e1:(B6t H.k.b (wrD f).req).2=false:=by rw [hk];rfl
 have e2:H.k.pend.any (fun x=>x.req==(wrD f).req)=true:=by rw [hk];show ((wrD f).req==(wrD f).req||false)=true;rw [beq_self_eq_true];rfl
 rw [e1,e2,if_neg (by decide),if_pos rfl]
theorem C02 {H:Sh} {n:Nat} (hf:Fit H n) (hn:n<=100) {f:Int} (hk:H.k=⟨A4z,[wrD f],1,0⟩):∃ H',Fit H' (n+1)/\H'.k=⟨U0 A4z [wrD f],[],1,0⟩/\B9Y (l1 H) (wd 6 2 1 1 1 0 []) 1=(l1 H',[]):=by
 have hz:(0:Int)<=E3:=by show (0:Int)<=1099511627776;decide
 have hs:H.k.seq=1:=by rw [hk];rfl
 have hb:H.k.b.seq=0:=by rw [hk];rfl
 obtain⟨H',e1,e2,e3,_⟩:=A6X (id:=1) (r:=R2 1) (til:=100) (dn:=[]) hf (by omega) (m:=1) (by unfold B3;decide) (by rw [hs];decide)
 refine⟨H',e2,?_,?_⟩
 ·rw [e1,hb,hk]
  rfl
 have hm:A51 (wd 6 2 1 1 1 0 [])=true:=by kernel_rfl
 rw [A8x rfl hm (by show (6:Int)≠2;decide),B1J (by show (6:Int)≠7;decide) (by show (6:Int)≠10;decide) (by show (6:Int)≠9;decide) rfl (by show (1:Int)≠0;decide) (C00 hf (by rw [hk]) (by decide)),if_neg (by show (6:Int)≠3;decide),if_neg (by show (6:Int)≠4;decide),if_neg (by show (6:Int)≠5;decide),if_pos (show (wd 6 2 1 1 1 0 []).kind=6 from rfl)]
 unfold B4X
 rw [C0P,if_neg (fun h=>h.elim (by decide) fun h=>h rfl)]
 have e5:F8 (l1 H) (min (wd 6 2 1 1 1 0 []).seq (l1 H).k.seq)=l1 H':=by
  show F8 (l1 H) (min 1 H.k.seq)=_
  rw [hs]
  exact e3
 rw [e5]
 show (_,if _ then E4 (l1 H') _ else [])=_
 unfold E4
 rw [C1F,if_pos rfl]
 split<;>rfl
theorem C0j {H:Sh} {n:Nat} (hf:Fit H n) {f:Int} (hk:H.k=⟨U0 A4z [wrD f],[],1,0⟩) (h2:2<=f) (h5:f<=5):B9Y (l1 H) (B9d f) 2=(l1 H,[C1W f]):=by
 obtain⟨_,p2,p3⟩:=B9w h2 h5
 rw [B9h hf (by rw [hk]) h2 h5 (by decide)]
 have e1:B6t H.k.b (wrD f).req=(⟨0,1⟩,true):=by rw [hk];exact p3
 rw [e1,if_pos rfl]
 unfold toldL A5W
 rw [if_neg (show ¬ (B5i (wrD f).req ((⟨0,1⟩:Res),true).1).to=(l1 H).id from (by show ¬ B2 (wrD f).req=1;rw [p2];omega))]
 show ((_:Lk),[(⟨7,1,B2 (wrD f).req,1,0,(wrD f).req,0,⟨0,1⟩,Ros0,[],A4z⟩:Wd)])=_
 rw [p2]
 rfl
theorem B95 {H:Sh} {n:Nat} (hf:Fit H n) (he:H.k.ep=1):B9t (l1 H) 3=[wd 1 1 0 1 0 0 []]++if 0<H.k.pend.length then [wd 4 1 2 1 H.k.b.seq 0 ((H.k.pend.drop (H.k.b.seq-H.k.b.seq).toNat).take 6)] else []:=by
 unfold B9t
 rw [if_neg (by show ¬ H.down=true;rw [hf.down];decide),if_neg (fun h=>by
  have:=h.2
  unfold Z2 at this
  simp [l1,lk,R2] at this),if_neg (fun h=>absurd h.2 (by show (0:Int)≠1;decide)),List.append_nil,if_neg (by rw [C00 hf he (by decide)];decide),C01,if_neg (show ¬ ((false:Bool)=true) by decide),List.append_nil]
 by_cases hp:0<H.k.pend.length
 ·rw [if_pos ⟨rfl,hp⟩,if_pos hp]
  unfold A31 A2L
  rw [C0P]
  rfl
 ·rw [if_neg (fun h=>hp h.2),if_neg hp]
  rfl
def C1J (l:List Wd):Nat:=(l.filter fun v=>v.kind==4).length
theorem C0F {l:List Wd} {j:Nat} (hj:j<l.length):C1J (l.take (j+1))=C1J (l.take j)+if l[j].kind=4 then 1 else 0:=by
 unfold C1J
 rw [List.take_succ_eq_append_getElem hj,List.filter_append,List.length_append]
 congr 1
 by_cases h:l[j].kind=4
 ·rw [if_pos h,List.filter_cons_of_pos (by rw [h];rfl)]
  rfl
 ·rw [if_neg h,List.filter_cons_of_neg (by rw [beq_eq_false_iff_ne.2 h];decide)]
  rfl
theorem C03 (l:List Wd):C1J l<=l.length:=List.length_filter_le _ _
theorem C0G (t f:Int) (lb:Bool) (w:World) (hw:Env w):Calls Tryz.prog 11 #[.int .i64 t,.bool lb,.int .i64 f] w (C8 (.bool true) w):=by
 obtain⟨m,hraw,hm5⟩:=B9V t 5 (by decide) (by decide)
 obtain⟨H,hk,hf,hs0⟩:=B1K (id:=1) (r0:=Ros0) (til0:=0) (now:=0) (dn:=[]) (til:=100) (r:=R2 1) Fit.h0 (by decide) (by decide) (B9p (by decide)) (by show (1:Int)∈[(1:Int),2];decide) C1B (by decide) (by show (0:Int)<1;decide)
 refine vE Tryz.func11 ?_
 have hc:=CtxF.start w no (fun _ h=>h.elim) (R:=fun _ _=>True) trivial Stab.true
 refine hc.q (A6n _ (hw.below hc.below)) fun wQ hQ hc=>?_
 refine⟨(B1Q 1 _ (hw.below hc.below)).mono fun en wq hq=>?_⟩
 obtain⟨g,e1,hb,hO⟩:=hq
 have hc:=hc.sepNew hb hO (LinkK.stab _ _)
 refine⟨_,e1,?_⟩
 refine⟨.bool false,fun w=>B7C g.gl _ _ w,?_⟩
 by_cases h2:2<=f
 rotate_left
 ·refine dt (by omega) ?_
  refine⟨.bool true,fun w=>B1B g.gl _ _ w,?_⟩
  exact⟨rfl,hc.below⟩
 refine df (by omega) ?_
 by_cases h5:f<=5
 rotate_left
 ·refine dt (by omega) ?_
  refine⟨.bool true,fun w=>B1B g.gl _ _ w,?_⟩
  exact⟨rfl,hc.below⟩
 refine df (by omega) ?_
 intro gb wgb hgb
 have hc:=hc.made hgb 1 2 rfl (by decide)
 obtain⟨S2,hc⟩:=hc.sepTold Stab.true (LinkK.stab _ _)
 have hc:CtxF no w S2 wgb [] [] (Sep w.heap.size (fun S w=>True/\Row S w (some ⟨gb,0,none⟩) 2 2 (A1F [1,2])) (LinkK g (lk 1 (H0 1048576) Ros0 0 []))):=hc
 refine⟨(hc.heard0 hw (Stab.true.and A2F) (L':=l1 H) (ws:=[]) (fun Sx S1 hlt he hK hvd hr=>?_)).mono fun en wq hq=>?_⟩
 ·have sd:=A2t g (lk 1 (H0 1048576) Ros0 0 []) ⟨by decide,Fit.h0.ok,⟨by unfold B3 Ros0;decide,(fun n hn=>by cases hn),by unfold B3 Ros0;decide⟩,List.nodup_nil,by unfold B3 lk;decide⟩ (Nat.zero_le _) 1 100 0 (R2 1) (B9p (by decide)) ⟨some ⟨gb,0,none⟩,2,none,0,SX0⟩ (C4D (C01 (H0 1048576))) Sx _ hlt he hK S1 hvd (B1R hr.2)
  rw [hs0,show wdC (O2 1 (R2 1) 100) ⟨some ⟨gb,0,none⟩,2,none,0,SX0⟩=_ from A6Y 1 100 1 0 [1,2] (some ⟨gb,0,none⟩) 2] at sd
  exact sd
 obtain⟨A9,c9,S3,e1,hc⟩:=hq
 have hc:=hc.sepNow (R':=fun _ _=>True) (fun _ _=>trivial) (fun _ h=>h) Stab.true (LinkK.stab _ _)
 refine⟨_,e1,?_⟩
 have hrq:IntKind.i64.wrap (IntKind.i64.wrap (f*4294967296)+1)=f*4294967296+1:=by
  rw [IntWalk.i64_in (f*4294967296) ⟨by omega,by omega⟩,IntWalk.i64_in _ ⟨by omega,by omega⟩]
 refine hc.n fun g10 wg10 hg10 hc=>?_
 refine hc.s 0 rfl fun wS hS hc=>?_
 have hc:=I9 hc (l':=[(g10,45,dC ⟨1,⟨#[107]⟩,⟨#[118]⟩,0,0,⟨#[]⟩,IntKind.i64.wrap (IntKind.i64.wrap (f*4294967296)+1),0⟩)]) (by kernel_rfl)
 rw [hrq] at hc
 have hc:CtxF no w S3 _ [(g10,45,dC (wrD f))] [] (Sep w.heap.size (fun _ _=>True) (LinkK g (l1 H))):=hc
 refine⟨dC (wrD f),rfl,hc.cells 0 rfl,?_⟩
 intro gd wgd hgd
 have hc:=hc.drop.made hgd 8 1 rfl (by decide)
 obtain⟨S4,hc⟩:=hc.sepTold Stab.true (LinkK.stab _ _)
 have hc:CtxF no w S4 wgd [] [] (Sep w.heap.size (fun S w=>True/\Row S w (some ⟨gd,0,none⟩) 1 1 (([wrD f].map dC).flatten)) (LinkK g (l1 H))):=hc
 refine hc.n fun g11 wg11 hg11 hc=>?_
 rw [C05] at hc
 refine hc.s 0 rfl fun wS hS hc=>?_
 have hc:=I9 hc (l':=[(g11,43,wdC (B9d f) ⟨none,0,some ⟨gd,0,none⟩,1,SX0⟩)]) (by kernel_rfl)
 refine⟨wdC (B9d f) ⟨none,0,some ⟨gd,0,none⟩,1,SX0⟩,rfl,hc.cells 0 rfl,?_⟩
 obtain⟨H1,hf1,hk1,hs1⟩:=C0Q hf (by decide) hk h2 h5
 refine⟨(hc.heard1 hw (Stab.true.and A2F) (L':=l1 H1) (u:=wd 4 1 2 1 0 0 [wrD f]) (fun Sx S1 hlt he hK hvd hr=>?_)).mono fun en wq hq=>?_⟩
 ·have sd:=B9a g (l1 H) (C0h hf) (Nat.zero_le _) f 1 1 0 0 [wrD f] (fun d hd=>by rw [List.mem_singleton.1 hd];exact C0E h2 h5) ⟨none,0,some ⟨gd,0,none⟩,1,SX0⟩ 1 (C4D (C01 _)) Sx _ hlt he hK S1 hvd (B7J hr.2)
  rw [show B9Y (l1 H) (wd 3 f 1 1 0 0 [wrD f]) 1=_ from hs1] at sd
  exact sd
 obtain⟨a0,x0,c0,S5,e1,hcl,hc⟩:=hq
 have hc:=hc.sepNow (R':=fun S w=>True/\Row S w (some ⟨gd,0,none⟩) 1 1 (([wrD f].map dC).flatten)) (fun _ h=>h.1) (fun _ h=>h) (Stab.true.and A2F) (LinkK.stab _ _)
 clear hcl
 refine⟨_,e1,?_⟩
 have hq1:H1.k.seq=1:=by rw [hk1];rfl
 cases lb with
 | false=>
  refine⟨by decide,?_⟩
  refine⟨by decide,?_⟩
  refine⟨Nat,fun i=>[(1,.bool false),(2,.int .i64 f),(8,.pointer (some ⟨g.gl,0,none⟩)),(11,.pointer (some ⟨g11,0,none⟩)),(12,.slice (some a0) 1 c0),(13,.int .i64 (i:Int))],
   fun i w'=>i<=m/\∃ S,CtxF no w S w' [(g11,43,wdC (B9d f) ⟨none,0,some ⟨gd,0,none⟩,1,SX0⟩)] [orW [wd 4 1 2 1 0 0 [wrD f]] (some a0) c0 [wdC (wd 4 1 2 1 0 0 [wrD f]) x0]] (Sep w.heap.size (fun S w=>True/\Row S w (some ⟨gd,0,none⟩) 1 1 (([wrD f].map dC).flatten)) (LinkK g (l1 H1))),fun i _=>i,m,⟨rfl,rfl,rfl,rfl,rfl,(show Value.int .i64 ((IntKind.i64.wrap (t.tmod 5+5)).tmod 5)=.int .i64 m by rw [hraw]),trivial⟩,⟨Nat.le_refl _,_,hc⟩,?_⟩
  clear hc
  rintro i w6 u6 ⟨hi,S,hc⟩
  by_cases hlt:0<i
  ·refine dt (by omega) ?_
   refine⟨wdC (B9d f) ⟨none,0,some ⟨gd,0,none⟩,1,SX0⟩,rfl,hc.cells 0 rfl,?_⟩
   have sd:=fun Sx w hlt he hK Sv hvd hR=>B9a g (l1 H1) (C0h hf1) (Nat.zero_le _) f 1 1 0 0 [wrD f] (fun d hd=>by rw [List.mem_singleton.1 hd];exact C0E h2 h5) ⟨none,0,some ⟨gd,0,none⟩,1,SX0⟩ 2 (C4D (C01 _)) Sx w hlt he hK Sv hvd hR
   refine⟨(hc.heard0 hw (Stab.true.and A2F) (L':=l1 H1) (ws:=[]) (fun Sx S1 hlt he hK hvd hr=>?_)).mono fun en wq hq=>?_⟩
   ·have sd:=sd Sx _ hlt he hK S1 hvd (B7J hr.2)
    rw [show B9Y (l1 H1) (wd 3 f 1 1 0 0 [wrD f]) 2=_ from C0i hf1 hk1 h2 h5] at sd
    exact sd
   obtain⟨A9,c9,S9,e1,hc⟩:=hq
   refine⟨_,e1,?_⟩
   exact⟨i-1,⟨rfl,rfl,rfl,rfl,rfl,(by rw [show IntKind.i64.wrap ((i:Int)-1)=((i-1:Nat):Int) by rw [IntWalk.i64_in _ ⟨by omega,by omega⟩];omega];rfl),trivial⟩,⟨by omega,_,hc⟩,by show i-1<i;omega⟩
  refine df (by omega) ?_
  have hcl:=B9e hc (fun c hc=>by rw [List.mem_singleton.1 hc];exact A7g _ _) (by decide) (k:=0) rfl
  have hc:=hc.drop
  refine⟨(hc.heard hw (Stab.true.and A2F) (L':=l1 H1) (ws:=B9t (l1 H1) 3) (fun Sx S1 hlt he hK hvd hr=>B98 g (l1 H1) (C0h hf1) 3 Sx _ hlt he hK)).mono fun en wq hq=>?_⟩
  obtain⟨A7,c7,css7,S7,e1,hc⟩:=hq
  have sR7:Stab (fun S w=>(True/\Row S w (some ⟨gd,0,none⟩) 1 1 (([wrD f].map dC).flatten))/\WsR (B9t (l1 H1) 3) css7 S w):=(Stab.true.and A2F).and (WsR.stab _ _)
  refine⟨_,e1,?_⟩
  obtain⟨ws,hws⟩:∃ ws,ws=B9t (l1 H1) 3:=⟨_,rfl⟩
  rw [<-hws] at hc sR7
  have hlen:ws.length<=2:=by rw [hws,B95 hf1 (by rw [hk1]),List.length_append];split<;>exact nle rfl
  refine⟨Nat,fun j=>[(1,.bool false),(8,.pointer (some ⟨g.gl,0,none⟩)),(12,.slice (some a0) 1 c0),(15,.int .i64 (C1J (ws.take j):Int)),(107,.slice A7 ws.length c7),(108,.int .i64 (ws.length:Int)),(109,.int .i64 (j:Int))],
   fun j w'=>j<=ws.length/\∃ S,CtxF no w S w' [] [orW ws A7 c7 css7,orW [wd 4 1 2 1 0 0 [wrD f]] (some a0) c0 [wdC (wd 4 1 2 1 0 0 [wrD f]) x0]] (Sep w.heap.size (fun S w=>(True/\Row S w (some ⟨gd,0,none⟩) 1 1 (([wrD f].map dC).flatten))/\WsR ws css7 S w) (LinkK g (l1 H1))),fun j _=>ws.length-j,0,⟨rfl,rfl,rfl,rfl,by rw [hws];rfl,by rw [hws];rfl,rfl,trivial⟩,⟨Nat.zero_le _,_,hc⟩,?_⟩
  clear hc
  rintro j w8 u8 ⟨hj,S,hc⟩
  by_cases hjl:j<ws.length
  ·refine dt (by omega) ?_
   obtain⟨a9,x9,hA9,hcj⟩:=B9f hc ⟨_,(hc.row.left sR7).2⟩ j hjl
   subst hA9
   have hc4:=C0F hjl
   have hcm:=C03 (ws.take j)
   rw [List.length_take] at hcm
   refine⟨⟨by omega,by omega⟩,?_⟩
   refine⟨wdC ws[j] x9,rfl,by rw [Int.toNat_natCast];exact hcj,?_⟩
   refine hc.n fun g17 wg17 hg17 hc=>?_
   rw [C05] at hc
   refine hc.s 0 rfl fun wS hS hc=>?_
   have hc:=I9 hc (l':=[(g17,43,wdC ws[j] x9)]) (by kernel_rfl)
   refine hc.c 0 rfl rfl ?_
   by_cases hk4:ws[j].kind=4
   ·refine B0 (by show (ws[j].kind==4)=true;rw [hk4];rfl) ?_
    rw [if_pos hk4] at hc4
    exact⟨j+1,⟨rfl,rfl,rfl,(by rw [hc4];exact congrArg _ (C3 (by omega))),rfl,rfl,congrArg _ (C3 (by omega)),trivial⟩,⟨hjl,_,hc.drop⟩,by show ws.length-(j+1)<ws.length-j;omega⟩
   ·refine C3X (by show (ws[j].kind==4)=false;rw [beq_eq_false_iff_ne];exact hk4) ?_
    rw [if_neg hk4] at hc4
    exact⟨j+1,⟨rfl,rfl,rfl,(by rw [hc4];rfl),rfl,rfl,congrArg _ (C3 (by omega)),trivial⟩,⟨hjl,_,hc.drop⟩,by show ws.length-(j+1)<ws.length-j;omega⟩
  refine df (by omega) ?_
  have hjw:j=ws.length:=by omega
  have hcl:=B9e hc.rest (fun c hc=>by rw [List.mem_singleton.1 hc];exact A7g _ _) (by decide) (k:=0) rfl
  refine⟨⟨by decide,by decide⟩,?_⟩
  refine⟨.int .i64 4,A2R hcl 0 _ rfl,?_⟩
  refine hc.q (W9 g _ _ _ (hc.row.right (LinkK.stab _ _))) fun wQ hQ hc=>?_
  refine hc.q (A0o g.gs g.gj g.gc g.b H1 hf1.ok _ _ (hc.row.right (LinkK.stab _ _)).shelf) fun wQ hQ hc=>?_
  refine B0 (by show (H1.k.seq==(1:Int))=true;rw [hq1];rfl) ?_
  refine⟨B7 ?_,hc.below⟩
  show (((C1J (ws.take j):Int)==1)==true)=true
  rw [hjw,List.take_length,hws,B95 hf1 (by rw [hk1])]
  have hp:H1.k.pend=[wrD f]:=by rw [hk1]
  have hb:H1.k.b.seq=0:=by rw [hk1];rfl
  rw [hp,hb]
  rfl
 | true=>
  obtain⟨H2,hf2,hk2,hs2⟩:=C02 hf1 (by decide) hk1
  refine⟨(hc.heard0 hw (Stab.true.and A2F) (L':=l1 H2) (ws:=[]) (fun Sx S1 hlt he hK hvd hr=>?_)).mono fun en wq hq=>?_⟩
  ·have sd:=A5d g (l1 H1) (C0h hf1) 2 1 1 1 0 (by unfold B3;decide) WX0 1 Sx _ hlt he hK S1 hvd ⟨⟨Ros0.rep _ _,A28 _ _⟩,A15 _ _⟩
   rw [hs2,show wdC (wd 6 2 1 1 1 0 []) WX0=_ from A7k 6 2 1 1 1 0 [] none 0] at sd
   exact sd
  obtain⟨A9,c9,S6,e1,hc⟩:=hq
  refine⟨_,e1,?_⟩
  refine⟨by decide,?_⟩
  refine⟨by decide,?_⟩
  have hq2:H2.k.seq=1:=by
   rw [hk2]
   rcases (show f=2\/f=3\/f=4\/f=5 by omega) with rfl | rfl | rfl | rfl<;>kernel_rfl
  refine⟨Nat,fun i=>[(1,.bool true),(2,.int .i64 f),(8,.pointer (some ⟨g.gl,0,none⟩)),(11,.pointer (some ⟨g11,0,none⟩)),(12,.slice (some a0) 1 c0),(13,.int .i64 (i:Int))],
   fun i w'=>i<=m/\∃ S,CtxF no w S w' [(g11,43,wdC (B9d f) ⟨none,0,some ⟨gd,0,none⟩,1,SX0⟩)] [orW [wd 4 1 2 1 0 0 [wrD f]] (some a0) c0 [wdC (wd 4 1 2 1 0 0 [wrD f]) x0]] (Sep w.heap.size (fun S w=>True/\Row S w (some ⟨gd,0,none⟩) 1 1 (([wrD f].map dC).flatten)) (LinkK g (l1 H2))),fun i _=>i,m,⟨rfl,rfl,rfl,rfl,rfl,(show Value.int .i64 ((IntKind.i64.wrap (t.tmod 5+5)).tmod 5)=.int .i64 m by rw [hraw]),trivial⟩,⟨Nat.le_refl _,_,hc⟩,?_⟩
  clear hc
  rintro i w6 u6 ⟨hi,S,hc⟩
  by_cases hlt:0<i
  ·refine dt (by omega) ?_
   refine⟨wdC (B9d f) ⟨none,0,some ⟨gd,0,none⟩,1,SX0⟩,rfl,hc.cells 0 rfl,?_⟩
   have sd:=fun Sx w hlt he hK Sv hvd hR=>B9a g (l1 H2) (C0h hf2) (Nat.zero_le _) f 1 1 0 0 [wrD f] (fun d hd=>by rw [List.mem_singleton.1 hd];exact C0E h2 h5) ⟨none,0,some ⟨gd,0,none⟩,1,SX0⟩ 2 (C4D (C01 _)) Sx w hlt he hK Sv hvd hR
   refine⟨(hc.heard1 hw (Stab.true.and A2F) (L':=l1 H2) (u:=C1W f) (fun Sx S1 hlt he hK hvd hr=>?_)).mono fun en wq hq=>?_⟩
   ·have sd:=sd Sx _ hlt he hK S1 hvd (B7J hr.2)
    rw [show B9Y (l1 H2) (wd 3 f 1 1 0 0 [wrD f]) 2=_ from C0j hf2 hk2 h2 h5] at sd
    exact sd
   obtain⟨a9,x9,c9,S9,e1,hcl,hc⟩:=hq
   refine⟨_,e1,?_⟩
   refine⟨⟨by decide,by decide⟩,?_⟩
   refine⟨.int .i64 7,A2R hcl 0 _ rfl,?_⟩
   refine⟨⟨by decide,by decide⟩,?_⟩
   refine⟨.int .i64 f,A2R hcl 2 _ rfl,?_⟩
   refine C3X (bne_self_eq_false _) ?_
   refine⟨⟨by decide,by decide⟩,?_⟩
   refine⟨X8 ⟨0,1⟩,rfl,⟨A2R hcl 7 _ rfl,A2R hcl 8 _ rfl,trivial⟩,?_⟩
   refine⟨.bool false,fun w=>C0s ⟨0,1⟩ _ _ w,?_⟩
   have hc:=hc.rest.sepNow (R':=fun S w=>True/\Row S w (some ⟨gd,0,none⟩) 1 1 (([wrD f].map dC).flatten)) (fun _ h=>h.1) (fun _ h=>h) (Stab.true.and A2F) (LinkK.stab _ _)
   exact⟨i-1,⟨rfl,rfl,rfl,rfl,rfl,(by rw [show IntKind.i64.wrap ((i:Int)-1)=((i-1:Nat):Int) by rw [IntWalk.i64_in _ ⟨by omega,by omega⟩];omega];rfl),trivial⟩,⟨by omega,_,hc⟩,by show i-1<i;omega⟩
  refine df (by omega) ?_
  have hcl:=B9e hc (fun c hc=>by rw [List.mem_singleton.1 hc];exact A7g _ _) (by decide) (k:=0) rfl
  have hc:=hc.drop
  refine⟨(hc.heard hw (Stab.true.and A2F) (L':=l1 H2) (ws:=B9t (l1 H2) 3) (fun Sx S1 hlt he hK hvd hr=>B98 g (l1 H2) (C0h hf2) 3 Sx _ hlt he hK)).mono fun en wq hq=>?_⟩
  obtain⟨A7,c7,css7,S7,e1,hc⟩:=hq
  have sR7:Stab (fun S w=>(True/\Row S w (some ⟨gd,0,none⟩) 1 1 (([wrD f].map dC).flatten))/\WsR (B9t (l1 H2) 3) css7 S w):=(Stab.true.and A2F).and (WsR.stab _ _)
  refine⟨_,e1,?_⟩
  obtain⟨ws,hws⟩:∃ ws,ws=B9t (l1 H2) 3:=⟨_,rfl⟩
  rw [<-hws] at hc sR7
  have hlen:ws.length<=2:=by rw [hws,B95 hf2 (by rw [hk2]),List.length_append];split<;>exact nle rfl
  refine⟨Nat,fun j=>[(1,.bool true),(8,.pointer (some ⟨g.gl,0,none⟩)),(12,.slice (some a0) 1 c0),(15,.int .i64 (C1J (ws.take j):Int)),(107,.slice A7 ws.length c7),(108,.int .i64 (ws.length:Int)),(109,.int .i64 (j:Int))],
   fun j w'=>j<=ws.length/\∃ S,CtxF no w S w' [] [orW ws A7 c7 css7,orW [wd 4 1 2 1 0 0 [wrD f]] (some a0) c0 [wdC (wd 4 1 2 1 0 0 [wrD f]) x0]] (Sep w.heap.size (fun S w=>(True/\Row S w (some ⟨gd,0,none⟩) 1 1 (([wrD f].map dC).flatten))/\WsR ws css7 S w) (LinkK g (l1 H2))),fun j _=>ws.length-j,0,⟨rfl,rfl,rfl,rfl,by rw [hws];rfl,by rw [hws];rfl,rfl,trivial⟩,⟨Nat.zero_le _,_,hc⟩,?_⟩
  clear hc
  rintro j w8 u8 ⟨hj,S,hc⟩
  by_cases hjl:j<ws.length
  ·refine dt (by omega) ?_
   obtain⟨a9,x9,hA9,hcj⟩:=B9f hc ⟨_,(hc.row.left sR7).2⟩ j hjl
   subst hA9
   have hc4:=C0F hjl
   have hcm:=C03 (ws.take j)
   rw [List.length_take] at hcm
   refine⟨⟨by omega,by omega⟩,?_⟩
   refine⟨wdC ws[j] x9,rfl,by rw [Int.toNat_natCast];exact hcj,?_⟩
   refine hc.n fun g17 wg17 hg17 hc=>?_
   rw [C05] at hc
   refine hc.s 0 rfl fun wS hS hc=>?_
   have hc:=I9 hc (l':=[(g17,43,wdC ws[j] x9)]) (by kernel_rfl)
   refine hc.c 0 rfl rfl ?_
   by_cases hk4:ws[j].kind=4
   ·refine B0 (by show (ws[j].kind==4)=true;rw [hk4];rfl) ?_
    rw [if_pos hk4] at hc4
    exact⟨j+1,⟨rfl,rfl,rfl,(by rw [hc4];exact congrArg _ (C3 (by omega))),rfl,rfl,congrArg _ (C3 (by omega)),trivial⟩,⟨hjl,_,hc.drop⟩,by show ws.length-(j+1)<ws.length-j;omega⟩
   ·refine C3X (by show (ws[j].kind==4)=false;rw [beq_eq_false_iff_ne];exact hk4) ?_
    rw [if_neg hk4] at hc4
    exact⟨j+1,⟨rfl,rfl,rfl,(by rw [hc4];rfl),rfl,rfl,congrArg _ (C3 (by omega)),trivial⟩,⟨hjl,_,hc.drop⟩,by show ws.length-(j+1)<ws.length-j;omega⟩
  refine df (by omega) ?_
  have hjw:j=ws.length:=by omega
  have hcl:=B9e hc.rest (fun c hc=>by rw [List.mem_singleton.1 hc];exact A7g _ _) (by decide) (k:=0) rfl
  refine⟨⟨by decide,by decide⟩,?_⟩
  refine⟨.int .i64 4,A2R hcl 0 _ rfl,?_⟩
  refine hc.q (W9 g _ _ _ (hc.row.right (LinkK.stab _ _))) fun wQ hQ hc=>?_
  refine hc.q (A0o g.gs g.gj g.gc g.b H2 hf2.ok _ _ (hc.row.right (LinkK.stab _ _)).shelf) fun wQ hQ hc=>?_
  refine B0 (by show (H2.k.seq==(1:Int))=true;rw [hq2];rfl) ?_
  refine⟨B7 ?_,hc.below⟩
  show (((C1J (ws.take j):Int)==1)==false)=true
  rw [hjw,List.take_length,hws,B95 hf2 (by rw [hk2])]
  have hp:H2.k.pend=[]:=by rw [hk2]
  rw [hp]
  rfl
theorem B96 {H:Type} (enc:TypeId × Value->H) (W:World) (hw:Env W) {base:Nat}
  (v0:Value) (d0:DataW H) (p0:List MemPlace) (h0:DataW.Trod enc Tryz.prog W 0 (fun _=>true) true 3 v0 d0 p0) (k0:Value.okWide Tryz.prog W .any base 3 v0)
  (v1:Value) (d1:DataW H) (p1:List MemPlace) (h1:DataW.Trod enc Tryz.prog W 0 (fun _=>true) true 4 v1 d1 p1) (k1:Value.okWide Tryz.prog W .any base 4 v1)
  (v2:Value) (d2:DataW H) (p2:List MemPlace) (h2:DataW.Trod enc Tryz.prog W 0 (fun _=>true) true 3 v2 d2 p2) (k2:Value.okWide Tryz.prog W .any base 3 v2):
  Calls Tryz.prog 11 #[v0,v1,v2] W (C8 (.bool true) W):=by
 obtain⟨a0,rfl,o0⟩:=B2t Tryz.underlying3 h0 k0
 obtain⟨a1,rfl⟩:=C1I h1 k1
 obtain⟨a2,rfl,o2⟩:=B2t Tryz.underlying3 h2 k2
 exact (C0G a0 a2 a1 W hw)
end Go.Proofs.YtefdfaeieekioaaGreatDoor
