import Derived.Test.YtefdfaeieekioaaGreatDoorP14
set_option maxRecDepth 100000
set_option maxHeartbeats 40000000
set_option linter.unusedVariables false
set_option linter.unusedSimpArgs false
/- Walk: armariumlaw13.LinkLease. -/
namespace Go.Proofs.YtefdfaeieekioaaGreatDoor
open Go.Vc Go.RowKit Go.Fl Go.ChangeShapes Go.WideShapes Go.ChangeAt
def R13:Ros:=⟨2,[1,3],0⟩
theorem C3y:A6R R13=true:=by kernel_rfl
def l13 (H:Sh):Lk:=lk 1 H R13 9 []
theorem C30 {H:Sh} {n:Nat} (hf:Fit H n):(l13 H).Ok:=B8N (by decide) hf C3y (by unfold B3;decide)
theorem C33 {H:Sh} {n:Nat} (hf:Fit H n) (hn:n<=100) (hk:H.k=⟨A4z,[],2,0⟩) {d:D} (hd:d.Ok):∃ H',Fit H' (n+1)/\(C3q (l13 H) d 1).1=l13 H':=by
 unfold C3q
 by_cases hm:L3 d=false
 ·rw [if_pos (.inr hm)]
  exact⟨H,hf.mono (by omega),rfl⟩
 rw [if_neg (fun h=>h.elim (by show ¬ (2:Int)=0;decide) hm),if_pos (show B8J (l13 H).r.l=(l13 H).id from (by kernel_rfl:B8J [1,3]=1))]
 have hm:L3 d=true:=by cases h:L3 d with | true=>rfl | false=>exact absurd h hm
 have ha:H6 (l13 H) 1=true:=B1I hf (by show (1:Int)∈[(1:Int),3];decide) (by show (0:Int)≠1;decide) (by rw [hk];rfl) (by decide)
 rw [B1J (by show (3:Int)≠7;decide) (by show (3:Int)≠10;decide) (by show (3:Int)≠9;decide) rfl (by show (2:Int)≠0;decide) ha,if_pos (show (C3m (l13 H) d).kind=3 from rfl)]
 unfold B09
 rw [if_neg (fun h=>h (by kernel_rfl:B8J [1,3]=1))]
 rcases hf.add (by omega) hd with ⟨_,hc,e⟩ | ⟨_,hc,e⟩ | ⟨hm',e⟩
 rotate_left
 ·exact absurd (show B2B H.k (.add d) from by rw [hk];exact⟨by decide,by show (0:Int)+0<1099511627776;decide⟩) hc
 ·rw [hm] at hm';cases hm'
 refine⟨H.write (.add d) true,hf.write (by omega) (r:=.add d) ⟨hm,hd⟩ hc true,?_⟩
 show (if (B6t H.k.b d.req).2=true then _ else if H.k.pend.any (fun x=>x.req==d.req)=true then _ else if (M8 H d).2≠0 then _ else onL { l13 H with H:=(M8 H d).1 } H.k.seq:Lk × List Wd).1=_
 have e1:(B6t H.k.b d.req).2=false:=by rw [hk];rfl
 have e2:H.k.pend.any (fun x=>x.req==d.req)=false:=by rw [hk];rfl
 rw [e,e1,e2,if_neg (by decide),if_neg (by decide),if_neg (fun h=>h rfl)]
 unfold onL
 have e3:A1H ({ l13 H with H:=H.write (.add d) true }:Lk)=false:=(by kernel_rfl:(A2q [1,3]==1)=false)
 rw [e3,if_neg (by decide)]
 rfl
theorem C34 {H:Sh} {n:Nat} (hf:Fit H n) {now:Int} (h:9<now):B9t (l13 H) now=[wd 1 1 0 2 0 0 []]:=by
 have hh:B93 (l13 H) now=false:=by
  unfold B93 l13 lk
  simp [Int.not_le.2 h]
 unfold B9t
 rw [if_neg (by show ¬ H.down=true;rw [hf.down];decide),if_neg (fun e=>by rw [hh] at e;cases e.1),if_neg (fun e=>by rw [hh] at e;cases e.1),show H6 (l13 H) now=false from C3r h,if_pos rfl]
 rfl
theorem C3z (a:Wd) (ka:a.Ok) (y:WX) (now:Int) (d:D) (hd:d.Ok) (w:World) (hw:Env w) (hR:WdR a y (inW w) w):Calls Tryz.prog 6 #[.agg (wdC a y).toArray,.int .i64 now,.agg (dC d).toArray] w (C8 (.bool true) w):=by
 obtain⟨b,hb⟩:∃ b,b=C3n a:=⟨_,rfl⟩
 have hwb:=C17 a ka y
 have kb:=C2i ka
 rw [<-hb] at hwb kb
 clear hb
 have k2:({ b with to:=1,ep:=2 }:Wd).Ok:=⟨kb.kind,kb.frm,by show B3 1;unfold B3;decide,by show B3 2;unfold B3;decide,kb.seq,kb.req,kb.til,kb.err,kb.ver,kb.ros,kb.deeds,kb.st,kb.five⟩
 obtain⟨H,hk,hf,hs0⟩:=B1K (id:=1) (r0:=Ros0) (til0:=0) (now:=0) (dn:=[]) (til:=9) (r:=R13) Fit.h0 (by decide) (by decide) C3y (by show (1:Int)∈[(1:Int),3];decide) C32 (by decide) (by show (0:Int)<2;decide)
 refine vE Tryz.func6 ?_
 have hc:=CtxF.start w no (fun _ h=>h.elim) (R:=fun _ _=>True) trivial Stab.true
 refine hc.n fun g3 wg3 hg3 hc=>?_
 refine hc.n fun g5 wg5 hg5 hc=>?_
 refine hc.q (A6n _ (hw.below hc.below)) fun wQ hQ hc=>?_
 refine⟨(B1Q 1 _ (hw.below hc.below)).mono fun en wq hq=>?_⟩
 obtain⟨g,e1,hb,hO⟩:=hq
 have hc:=hc.sepNew hb hO (LinkK.stab _ _)
 refine⟨_,e1,?_⟩
 refine⟨.bool false,fun w=>B7C g.gl _ _ w,?_⟩
 intro gb wgb hgb
 have hc:=hc.made hgb 1 2 rfl (by decide)
 obtain⟨S2,hc⟩:=hc.sepTold Stab.true (LinkK.stab _ _)
 have hc:CtxF no w S2 wgb [(g5,45,dC d),(g3,43,wdC a y)] [] (Sep w.heap.size (fun S w=>True/\Row S w (some ⟨gb,0,none⟩) 2 2 (A1F [1,3])) (LinkK g (lk 1 (H0 1048576) Ros0 0 []))):=hc
 refine⟨(hc.heard0 hw (Stab.true.and A2F) (L':=l13 H) (ws:=[]) (fun Sx S1 hlt he hK hvd hr=>?_)).mono fun en wq hq=>?_⟩
 ·have sd:=A2t g (lk 1 (H0 1048576) Ros0 0 []) ⟨by decide,Fit.h0.ok,⟨by unfold B3 Ros0;decide,(fun n hn=>by cases hn),by unfold B3 Ros0;decide⟩,List.nodup_nil,by unfold B3 lk;decide⟩ (Nat.zero_le _) 1 9 0 R13 C3y ⟨some ⟨gb,0,none⟩,2,none,0,SX0⟩ (C4D (by kernel_rfl:(A2q [1,3]==1)=false)) Sx _ hlt he hK S1 hvd (B1R hr.2)
  rw [hs0,show wdC (O2 1 R13 9) ⟨some ⟨gb,0,none⟩,2,none,0,SX0⟩=_ from A6Y 1 9 2 0 [1,3] (some ⟨gb,0,none⟩) 2] at sd
  exact sd
 obtain⟨A9,c9,S3,e1,hc⟩:=hq
 have hc:=hc.sepNow (R':=fun _ _=>True) (fun _ _=>trivial) (fun _ h=>h) Stab.true (LinkK.stab _ _)
 refine⟨_,e1,?_⟩
 refine⟨dC d,rfl,hc.cells 0 rfl,?_⟩
 refine hc.q (B97 d hd _) fun wQ hQ hc=>?_
 obtain⟨H1,hf1,hs1⟩:=C33 hf (by decide) hk (C0H hd)
 refine⟨(hc.heard0 hw Stab.true (L':=l13 H1) (ws:=(C3q (l13 H) (B92 d) 1).2) (fun Sx S1 hlt he hK hvd hr=>?_)).mono fun en wq hq=>?_⟩
 ·have sd:=C3x g (l13 H) (C30 hf) (Nat.zero_le _) (B92 d) (C0H hd) 1 (C4D (by kernel_rfl:(A2q [1,3]==1)=false)) Sx _ hlt he hK
  rw [hs1] at sd
  exact sd
 obtain⟨A8,c8,S4,e1,hc⟩:=hq
 refine⟨_,e1,?_⟩
 by_cases hn9:9<now
 rotate_left
 ·refine dt (by omega) ?_
  exact⟨rfl,hc.below⟩
 refine df (by omega) ?_
 by_cases hn40:1099511627776<now
 ·refine dt hn40 ?_
  exact⟨rfl,hc.below⟩
 refine df hn40 ?_
 refine⟨wdC a y,rfl,hc.cells 1 rfl,?_⟩
 refine⟨(hwb (inW w) _ (hR.below hc.below)).mono fun en wq hq=>?_⟩
 obtain⟨y1,e1,hq,hrep⟩:=hq
 have hc:=hc.sepKnow Stab.true (LinkK.stab _ _) hq hrep (WdR.stab _ _)
 refine⟨_,e1,?_⟩
 refine hc.s 1 rfl fun wS hS hc=>?_
 have hc:=I9 hc (l':=[(g5,45,dC d),(g3,43,wdC b y1)]) (by kernel_rfl)
 refine hc.s 1 rfl fun wS hS hc=>?_
 have hc:=I9 hc (l':=[(g5,45,dC d),(g3,43,wdC { b with to:=1 } y1)]) (by kernel_rfl)
 refine hc.s 1 rfl fun wS hS hc=>?_
 have hc:=I9 hc (l':=[(g5,45,dC d),(g3,43,wdC { b with to:=1,ep:=2 } y1)]) (by kernel_rfl)
 refine⟨(hc.heard1 hw (Stab.true.and (WdR.stab _ _)) (L':=l13 H1) (u:=wd 1 1 0 2 0 0 []) (fun Sx S1 hlt he hK hvd hr=>?_)).mono fun en wq hq=>?_⟩
 ·have sd:=B98 g (l13 H1) (C30 hf1) now Sx _ hlt he hK
  rw [C34 hf1 hn9] at sd
  exact sd
 obtain⟨a9,x9,c9,S5,e1,hcl,hc⟩:=hq
 refine⟨_,e1,?_⟩
 refine⟨⟨by decide,by decide⟩,?_⟩
 refine⟨.int .i64 1,A2R hcl 0 _ rfl,?_⟩
 have hc:=hc.rest.sepNow (R':=fun S w=>True/\WdR b y1 S w) (fun _ h=>h.1) (fun _ h=>h) (Stab.true.and (WdR.stab _ _)) (LinkK.stab _ _)
 have hact:=fun S w hK hlt=>A0p g (l13 H1) now S w hK hlt
 rw [show H6 (l13 H1) now=false from C3r hn9] at hact
 refine hc.q (hact _ _ (hc.row.right (LinkK.stab _ _)) hc.ctx.lt) fun wQ hQ hc=>?_
 have hrd:=fun S w hlt hK=>B9k g (l13 H1) (C30 hf1) ⟨#[120]⟩ now S w hlt hK
 rw [show readyL (l13 H1) ⟨#[120]⟩ now=false by unfold readyL;rw [show H6 (l13 H1) now=false from C3r hn9];rfl] at hrd
 refine hc.q (hrd _ _ hc.ctx.lt (hc.row.right (LinkK.stab _ _))) fun wQ hQ hc=>?_
 refine⟨wdC { b with to:=1,ep:=2 } y1,rfl,hc.cells 1 rfl,?_⟩
 have hm:=R2 { b with to:=1,ep:=2 } k2 y1 _ _ (hc.row.left (Stab.true.and (WdR.stab _ _))).2
 obtain⟨b1,e1⟩:∃ b1,b1=A51 { b with to:=1,ep:=2 }:=⟨_,rfl⟩
 rw [<-e1] at hm
 refine hc.q (hm) fun wQ hQ hc=>?_
 cases b1 with
 | false=>exact⟨rfl,hc.below⟩
 | true=>
  skip
  refine hc.c 1 rfl rfl ?_
  by_cases h2:b.kind=2
  ·refine B0 (by show (b.kind==2)=true;rw [h2];rfl) ?_
   exact⟨rfl,hc.below⟩
  refine C3X (by show (b.kind==2)=false;rw [beq_eq_false_iff_ne];exact h2) ?_
  refine hc.c 1 rfl rfl ?_
  by_cases h7:b.kind=7
  ·refine B0 (by show (b.kind==7)=true;rw [h7];rfl) ?_
   exact⟨rfl,hc.below⟩
  refine C3X (by show (b.kind==7)=false;rw [beq_eq_false_iff_ne];exact h7) ?_
  refine hc.c 1 rfl rfl ?_
  by_cases h9:b.kind=9
  ·refine B0 (by show (b.kind==9)=true;rw [h9];rfl) ?_
   exact⟨rfl,hc.below⟩
  refine C3X (by show (b.kind==9)=false;rw [beq_eq_false_iff_ne];exact h9) ?_
  refine hc.q (W9 g _ _ _ (hc.row.right (LinkK.stab _ _))) fun wQ hQ hc=>?_
  refine hc.q (A0o g.gs g.gj g.gc g.b H1 hf1.ok _ _ (hc.row.right (LinkK.stab _ _)).shelf) fun wQ hQ hc=>?_
  refine⟨wdC { b with to:=1,ep:=2 } y1,rfl,hc.cells 1 rfl,?_⟩
  refine⟨(hc.heard0 hw (Stab.true.and (WdR.stab _ _)) (L':=l13 H1) (ws:=[]) (fun Sx S1 hlt he hK hvd hr=>C3v g (l13 H1) (C30 hf1) { b with to:=1,ep:=2 } k2 now h2 h7 h9 hn9 (by show (0:Int)≠1;decide) y1 Sx _ hlt he hK S1 hvd hr.2)).mono fun en wq hq=>?_⟩
  obtain⟨A6,c6,S6,e6,hc⟩:=hq
  refine⟨_,e6,?_⟩
  refine hc.q (W9 g _ _ _ (hc.row.right (LinkK.stab _ _))) fun wQ hQ hc=>?_
  refine hc.q (A0o g.gs g.gj g.gc g.b H1 hf1.ok _ _ (hc.row.right (LinkK.stab _ _)).shelf) fun wQ hQ hc=>?_
  exact⟨B7 (beq_self_eq_true _),hc.below⟩
theorem C3w {H:Type} (enc:TypeId × Value->H) (W:World) (hw:Env W) {base:Nat}
  (v0:Value) (d0:DataW H) (p0:List MemPlace) (h0:DataW.Trod enc Tryz.prog W 0 (fun _=>true) true 43 v0 d0 p0) (k0:Value.okWide Tryz.prog W .any base 43 v0)
  (v1:Value) (d1:DataW H) (p1:List MemPlace) (h1:DataW.Trod enc Tryz.prog W 0 (fun _=>true) true 2 v1 d1 p1) (k1:Value.okWide Tryz.prog W .any base 2 v1)
  (v2:Value) (d2:DataW H) (p2:List MemPlace) (h2:DataW.Trod enc Tryz.prog W 0 (fun _=>true) true 45 v2 d2 p2) (k2:Value.okWide Tryz.prog W .any base 45 v2):
  Calls Tryz.prog 6 #[v0,v1,v2] W (C8 (.bool true) W):=by
 obtain⟨a0,y0,rfl,r0,o0⟩:=C2R h0 k0
 obtain⟨a1,rfl,o1⟩:=B2t Tryz.underlying2 h1 k1
 obtain⟨a2,rfl,o2⟩:=C31 h2 k2
 exact (C3z a0 o0 y0 a1 a2 o2 W hw r0)
end Go.Proofs.YtefdfaeieekioaaGreatDoor
