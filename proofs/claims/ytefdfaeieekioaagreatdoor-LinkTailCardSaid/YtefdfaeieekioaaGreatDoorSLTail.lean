import Derived.Test.YtefdfaeieekioaaGreatDoorQ14
set_option maxRecDepth 100000
set_option maxHeartbeats 40000000
set_option linter.unusedVariables false
set_option linter.unusedSimpArgs false
/- Walk: armariumlaw13.LinkTail. -/
namespace Go.Proofs.YtefdfaeieekioaaGreatDoor
open Go.Vc Go.RowKit Go.Fl Go.ChangeShapes Go.WideShapes Go.ChangeAt
theorem A6 {g:Lg} {now:Int} {L:Lk}:C4C g now L:=fun L' _ _ hH hd _ Sx w hlt he hK=>A2O g L' hH hd now Sx w hlt he hK
theorem B9o {L:Lk}:∀ (l:List (Int × Res)),(∀ p∈l,B2 p.1≠L.id)->B8 L l=(L,l.map fun p=>A1G L (B5i p.1 p.2))
 | [],_=>rfl
 | (q,r)::t,h=>by
  have h1:toldL L q r=(L,[A1G L (B5i q r)]):=if_neg (h (q,r) (List.mem_cons_self ..))
  show ((B8 (toldL L q r).1 t).1,(toldL L q r).2++(B8 (toldL L q r).1 t).2)=_
  rw [h1,B9o t fun p hp=>h p (List.mem_cons_of_mem _ hp)]
  rfl
/-- What the tail tells to 1. -/
def C1V (ws:List Wd):Prop:=∀ v∈ws,v.kind=7/\v.to=1
theorem B90 {H:Sh} {n:Nat} (hf:Fit H n) (hn:n<=300) (hb:H.k.b.seq=0) (he:H.k.ep=1) (hh:∀ d∈H.k.pend,B2 d.req=1):
  ∃ H' ws,Fit H' (n+2)/\H'.k.pend=[]/\H'.k.b.seq=H.k.pend.length/\H'.k.ep=2/\ws.length=H.k.pend.length/\C1V ws/\B9Y (l2 H 1 9 []) (O2 2 (R2 2) 29) 20=(lk 2 H' (R2 2) 29 [],ws):=by
 obtain⟨H1,_,k1,f1,s1⟩:=B3T (id:=2) (r0:=R3 1) (r:=R2 2) (til0:=9) (til:=29) (now:=20) (dn:=[]) hf (by omega) (by decide) (B9p (by decide)) (by show (2:Int)∈[(1:Int),2];decide) (by decide) (by rw [he];decide)
 have ha:H6 (lk 2 H1 (R2 2) 29 []) 20=true:=B1I f1 (by show (2:Int)∈[(1:Int),2];decide) (by show (0:Int)≠2;decide) (by rw [k1]) (by decide)
 have ht:A1H (lk 2 H1 (R2 2) 29 [])=true:=(by kernel_rfl:(A2q [1,2]==2)=true)
 rw [if_pos ⟨ha,ht⟩] at s1
 obtain⟨q1,q2,q3,q4,q5⟩:=f1.seq
 have hme:E3=1099511627776:=rfl
 obtain⟨H2,k2,f2,c2,r2⟩:=A6X (id:=2) (r:=R2 2) (til:=29) (dn:=[]) f1 (by omega) (m:=H1.k.seq) (by unfold B3;omega) (Int.le_refl _)
 have hp1:H1.k.pend=H.k.pend:=by rw [k1]
 have hb1:H1.k.b.seq=0:=by rw [k1];exact hb
 have hseq:(H1.k.seq-H1.k.b.seq).toNat=H.k.pend.length:=by rw [q3,hb1,hp1];omega
 rw [hseq] at k2
 obtain⟨l1,l2',l3,l4,_⟩:=B3V f1.ok.k H.k.pend.length
 rw [<-k2] at l1 l2' l3 l4
 have hrs:(C2 H1.k H1.k.seq).2.length=H.k.pend.length:=by
  rw [(A3F _ _).1,hseq,hp1,Nat.min_self]
 refine⟨H2,((H1.k.pend.map fun d=>d.req).zip (C2 H1.k H1.k.seq).2).map fun p=>A1G (lk 2 H2 (R2 2) 29 []) (B5i p.1 p.2),f2,by rw [l3,hp1,List.drop_length],by rw [l1,hb1,hp1];omega,by rw [l4,k1];rfl,?_,?_,?_⟩
 ·rw [List.length_map,List.length_zip,List.length_map,hrs,hp1,Nat.min_self]
 ·intro v hv
  obtain⟨p,hp,rfl⟩:=List.mem_map.1 hv
  obtain⟨d,hd,e⟩:=List.mem_map.1 (List.of_mem_zip hp).1
  rw [hp1] at hd
  exact⟨rfl,by show B2 p.1=1;rw [<-e];exact hh d hd⟩
 ·rw [show B9Y (l2 H 1 9 []) (O2 2 (R2 2) 29) 20=_ from s1]
  unfold K6
  have e1:F8 (lk 2 H1 (R2 2) 29 []) (lk 2 H1 (R2 2) 29 []).k.seq=lk 2 H2 (R2 2) 29 []:=c2
  have e2:(E2 (lk 2 H1 (R2 2) 29 []).H (lk 2 H1 (R2 2) 29 []).k.seq).2.1=(C2 H1.k H1.k.seq).2:=r2
  rw [e1,e2]
  refine B9o _ (fun p hp=>?_)
  obtain⟨d,hd,e⟩:=List.mem_map.1 (List.of_mem_zip hp).1
  have hd:d∈H1.k.pend:=hd
  rw [hp1] at hd
  rw [<-e,hh d hd]
  show (1:Int)≠2
  decide
/-- A deed of the statement's: numbered anew. -/
def C1E (d:D) (i:Nat):D:=⟨d.kind,d.key,d.body,d.ver,d.cond,d.tag,IntKind.i64.wrap (4294967296+IntKind.i64.wrap ((i:Int)+1)),0⟩
theorem C0g (ds:List D) (A:Option Addr) (ca:Nat) (hdk:∀ d∈ds,d.Ok) (w:World) (hw:Env w) (hA:Row (inW w) w A ds.length ca (ds.map dC).flatten):Calls Tryz.prog 7 #[.slice A ds.length ca] w (C8 (.bool true) w):=by
 have hmA:=D4 hA
 obtain⟨H0',hk0,hf0,hs0⟩:=B1K (id:=2) (r0:=Ros0) (til0:=0) (now:=0) (dn:=[]) (til:=9) (r:=R3 1) Fit.h0 (by decide) (by decide) (B1L (by decide)) (by show (2:Int)∈[(1:Int),2,3];decide) B3W (by decide) (by show (0:Int)<1;decide)
 refine vE Tryz.func7 ?_
 have hc:=CtxF.start w no (fun _ h=>h.elim) (R:=fun _ _=>True) trivial Stab.true
 refine hc.q (A6n _ (hw.below hc.below)) fun wQ hQ hc=>?_
 refine⟨(B1Q 2 _ (hw.below hc.below)).mono fun en wq hq=>?_⟩
 obtain⟨g,e1,hb,hO⟩:=hq
 have hc:=hc.sepNew hb hO (LinkK.stab _ _)
 refine⟨_,e1,?_⟩
 refine⟨.bool false,fun w=>B7C g.gl _ _ w,?_⟩
 intro gb wgb hgb
 have hc:=hc.made hgb 1 3 rfl (by decide)
 obtain⟨S2,hc⟩:=hc.sepTold Stab.true (LinkK.stab _ _)
 have hc:CtxF no w S2 wgb [] [] (Sep w.heap.size (fun S w=>True/\Row S w (some ⟨gb,0,none⟩) 3 3 (A1F [1,2,3])) (LinkK g (lk 2 (H0 1048576) Ros0 0 []))):=hc
 refine⟨(hc.heard0 hw (Stab.true.and A2F) (L':=l2 H0' 1 9 []) (ws:=[]) (fun Sx S1 hlt he hK hvd hr=>?_)).mono fun en wq hq=>?_⟩
 ·have sd:=A2t g (lk 2 (H0 1048576) Ros0 0 []) ⟨by decide,Fit.h0.ok,⟨by unfold B3 Ros0;decide,(fun n hn=>by cases hn),by unfold B3 Ros0;decide⟩,List.nodup_nil,by unfold B3 lk;decide⟩ (Nat.zero_le _) 2 9 0 (R3 1) (B1L (by decide)) ⟨some ⟨gb,0,none⟩,3,none,0,SX0⟩ (C4D (B1N (H0 1048576) 1 0 [])) Sx _ hlt he hK S1 hvd (B1R hr.2)
  rw [hs0,show wdC (O2 2 (R3 1) 9) ⟨some ⟨gb,0,none⟩,3,none,0,SX0⟩=_ from A6Y 2 9 1 0 [1,2,3] (some ⟨gb,0,none⟩) 3] at sd
  exact sd
 obtain⟨A9,c9,S3,e1,hc⟩:=hq
 have hc:=hc.sepNow (R':=fun _ _=>True) (fun _ _=>trivial) (fun _ h=>h) Stab.true (LinkK.stab _ _)
 refine⟨_,e1,?_⟩
 refine⟨Nat × Sh,fun (i,H)=>[(0,.slice A ds.length ca),(4,.pointer (some ⟨g.gl,0,none⟩)),(6,.int .i64 (H.k.pend.length:Int)),(7,.int .i64 (i:Int))],
  fun (i,H) w'=>i<=ds.length/\i<=8/\Fit H (1+i)/\H.k.b.seq=0/\H.k.ep=1/\H.k.pend.length<=i/\(∀ d∈H.k.pend,B2 d.req=1)/\∃ S,CtxF no w S w' [] [] (Sep w.heap.size (fun _ _=>True) (LinkK g (l2 H 1 9 []))),fun (i,_) _=>8-i,(0,H0'),⟨rfl,rfl,(by rw [hk0];rfl),rfl,trivial⟩,⟨Nat.zero_le _,Nat.zero_le _,hf0,by rw [hk0];rfl,by rw [hk0];rfl,by rw [hk0];exact Nat.zero_le _,by rw [hk0];exact (fun d hd=>by cases hd),_,hc⟩,?_⟩
 clear hc
 rintro⟨i,H⟩ w1 u1 ⟨hi,hi8,hf,hb0,he,hpl,hh,S,hc⟩
 by_cases hlt:i<ds.length
 rotate_left
 ·refine df (by omega) ?_
  refine hc.q (W9 g _ _ _ (hc.row.right (LinkK.stab _ _))) fun wQ hQ hc=>?_
  refine⟨(A1R g.gs g.gj g.gc g.b H hf.ok _ _ (hc.row.right (LinkK.stab _ _)).shelf).mono fun en wq hq=>?_⟩
  obtain⟨A3,c3,e4,hq,ho⟩:=hq
  have hc:=(hc.quiet hq).1
  refine⟨_,e4,?_⟩
  refine C3X (by show ((H.k.pend.length:Int) != (H.k.pend.length:Int))=false;exact bne_self_eq_false _) ?_
  refine hc.q (W9 g _ _ _ (hc.row.right (LinkK.stab _ _))) fun wQ hQ hc=>?_
  refine⟨(A0S g.gs g.gj g.gc g.b H hf.ok _ _ (hc.row.right (LinkK.stab _ _)).shelf).mono fun en wq hq=>?_⟩
  obtain⟨cB,e7,hq,hrB⟩:=hq
  obtain⟨z,rfl⟩:=hrB.stX
  have hc:=(hc.quiet hq).1
  refine⟨_,e7,?_⟩
  refine C3X (by show (H.k.b.seq != (0:Int))=false;rw [hb0];rfl) ?_
  intro gl wgl hgl
  have hc:=hc.made hgl 1 2 rfl (by decide)
  obtain⟨S2,hc⟩:=hc.sepTold Stab.true (LinkK.stab _ _)
  have hc:CtxF no w S2 wgl [] [] (Sep w.heap.size (fun S w=>True/\Row S w (some ⟨gl,0,none⟩) 2 2 (A1F [1,2])) (LinkK g (l2 H 1 9 []))):=hc
  obtain⟨H2,ws,f2,p2,b2,e2,n2,t2,s2⟩:=B90 hf (by omega) hb0 he hh
  refine⟨(hc.heard hw (Stab.true.and A2F) (L':=lk 2 H2 (R2 2) 29 []) (ws:=ws) (fun Sx S1 hlt hen hK hvd hr=>?_)).mono fun en wq hq=>?_⟩
  ·have sd:=A2t g (l2 H 1 9 []) (B7G hf (by decide) (by unfold B3;decide)) (Nat.zero_le _) 2 29 20 (R2 2) (B9p (by decide)) ⟨some ⟨gl,0,none⟩,2,none,0,SX0⟩ A6 Sx _ hlt hen hK S1 hvd (B1R hr.2)
   rw [s2,show wdC (O2 2 (R2 2) 29) ⟨some ⟨gl,0,none⟩,2,none,0,SX0⟩=_ from A6Y 2 29 2 0 [1,2] (some ⟨gl,0,none⟩) 2] at sd
   exact sd
  obtain⟨A9,c9,css,S3,e1,hc⟩:=hq
  have sR:Stab (fun S w=>(True/\Row S w (some ⟨gl,0,none⟩) 2 2 (A1F [1,2]))/\WsR ws css S w):=(Stab.true.and A2F).and (WsR.stab _ _)
  refine⟨_,e1,?_⟩
  refine C3X (by show ((ws.length:Int) != (H.k.pend.length:Int))=false;rw [n2];exact bne_self_eq_false _) ?_
  refine hc.q (W9 g _ _ _ (hc.row.right (LinkK.stab _ _))) fun wQ hQ hc=>?_
  refine⟨(A1R g.gs g.gj g.gc g.b H2 f2.ok _ _ (hc.row.right (LinkK.stab _ _)).shelf).mono fun en wq hq=>?_⟩
  obtain⟨A3,c3,e4,hq,ho⟩:=hq
  have hc:=(hc.quiet hq).1
  refine⟨_,e4,?_⟩
  refine C3X (by show ((H2.k.pend.length:Int) != (0:Int))=false;rw [p2];rfl) ?_
  refine hc.q (W9 g _ _ _ (hc.row.right (LinkK.stab _ _))) fun wQ hQ hc=>?_
  refine⟨(A0S g.gs g.gj g.gc g.b H2 f2.ok _ _ (hc.row.right (LinkK.stab _ _)).shelf).mono fun en wq hq=>?_⟩
  obtain⟨cB,e7,hq,hrB⟩:=hq
  obtain⟨z,rfl⟩:=hrB.stX
  have hc:=(hc.quiet hq).1
  refine⟨_,e7,?_⟩
  refine C3X (by show (H2.k.b.seq != (H.k.pend.length:Int))=false;rw [b2];exact bne_self_eq_false _) ?_
  refine⟨Nat,fun j=>[(4,.pointer (some ⟨g.gl,0,none⟩)),(6,.int .i64 (H.k.pend.length:Int)),(9,.slice A9 ws.length c9),(10,.int .i64 (j:Int))],
   fun j w'=>j<=ws.length/\∃ S,CtxF no w S w' [] [orW ws A9 c9 css] (Sep w.heap.size (fun S w=>(True/\Row S w (some ⟨gl,0,none⟩) 2 2 (A1F [1,2]))/\WsR ws css S w) (LinkK g (lk 2 H2 (R2 2) 29 []))),fun j _=>ws.length-j,0,⟨rfl,rfl,rfl,rfl,trivial⟩,⟨Nat.zero_le _,_,hc⟩,?_⟩
  clear hc
  rintro j w4 u4 ⟨hj,S,hc⟩
  by_cases hlt:j<ws.length
  ·refine dt (by omega) ?_
   obtain⟨a9,x9,hA9,hcl⟩:=B9f hc ⟨_,(hc.row.left sR).2⟩ j hlt
   subst hA9
   obtain⟨t7,t1⟩:=t2 _ (List.getElem_mem hlt)
   refine⟨⟨by omega,by omega⟩,?_⟩
   refine⟨.int .i64 7,by rw [Int.toNat_natCast];exact A2R hcl 0 _ (congrArg (fun n=>some (Value.int .i64 n)) t7),?_⟩
   refine⟨⟨by omega,by omega⟩,?_⟩
   refine⟨.int .i64 1,by rw [Int.toNat_natCast];exact A2R hcl 2 _ (congrArg (fun n=>some (Value.int .i64 n)) t1),?_⟩
   exact⟨j+1,⟨rfl,rfl,rfl,congrArg _ (C3 (by have:=f2.ok.k.len;have:=hf.ok.k.len;omega)),trivial⟩,⟨by omega,_,hc⟩,by show ws.length-(j+1)<ws.length-j;omega⟩
  refine df (by omega) ?_
  have rd:=B9k g (lk 2 H2 (R2 2) 29 []) (B8N (by decide) f2 (B9p (by decide)) (by unfold B3;decide)) ⟨#[]⟩ 21
  rw [show readyL (lk 2 H2 (R2 2) 29 []) ⟨#[]⟩ 21=true by
   unfold readyL
   rw [B1I f2 (by show (2:Int)∈[(1:Int),2];decide) (by show (0:Int)≠2;decide) e2 (by decide)]
   show (true&&!H2.k.pend.any _)=true
   rw [p2]
   rfl] at rd
  refine hc.q (rd _ _ hc.ctx.lt (hc.row.right (LinkK.stab _ _))) fun wQ hQ hc=>?_
  exact⟨rfl,hc.below⟩
 refine dt (by omega) ?_
 by_cases h8:i<8
 rotate_left
 ·refine df (by omega) ?_
  refine hc.q (W9 g _ _ _ (hc.row.right (LinkK.stab _ _))) fun wQ hQ hc=>?_
  refine⟨(A1R g.gs g.gj g.gc g.b H hf.ok _ _ (hc.row.right (LinkK.stab _ _)).shelf).mono fun en wq hq=>?_⟩
  obtain⟨A3,c3,e4,hq,ho⟩:=hq
  have hc:=(hc.quiet hq).1
  refine⟨_,e4,?_⟩
  refine C3X (by show ((H.k.pend.length:Int) != (H.k.pend.length:Int))=false;exact bne_self_eq_false _) ?_
  refine hc.q (W9 g _ _ _ (hc.row.right (LinkK.stab _ _))) fun wQ hQ hc=>?_
  refine⟨(A0S g.gs g.gj g.gc g.b H hf.ok _ _ (hc.row.right (LinkK.stab _ _)).shelf).mono fun en wq hq=>?_⟩
  obtain⟨cB,e7,hq,hrB⟩:=hq
  obtain⟨z,rfl⟩:=hrB.stX
  have hc:=(hc.quiet hq).1
  refine⟨_,e7,?_⟩
  refine C3X (by show (H.k.b.seq != (0:Int))=false;rw [hb0];rfl) ?_
  intro gl wgl hgl
  have hc:=hc.made hgl 1 2 rfl (by decide)
  obtain⟨S2,hc⟩:=hc.sepTold Stab.true (LinkK.stab _ _)
  have hc:CtxF no w S2 wgl [] [] (Sep w.heap.size (fun S w=>True/\Row S w (some ⟨gl,0,none⟩) 2 2 (A1F [1,2])) (LinkK g (l2 H 1 9 []))):=hc
  obtain⟨H2,ws,f2,p2,b2,e2,n2,t2,s2⟩:=B90 hf (by omega) hb0 he hh
  refine⟨(hc.heard hw (Stab.true.and A2F) (L':=lk 2 H2 (R2 2) 29 []) (ws:=ws) (fun Sx S1 hlt hen hK hvd hr=>?_)).mono fun en wq hq=>?_⟩
  ·have sd:=A2t g (l2 H 1 9 []) (B7G hf (by decide) (by unfold B3;decide)) (Nat.zero_le _) 2 29 20 (R2 2) (B9p (by decide)) ⟨some ⟨gl,0,none⟩,2,none,0,SX0⟩ A6 Sx _ hlt hen hK S1 hvd (B1R hr.2)
   rw [s2,show wdC (O2 2 (R2 2) 29) ⟨some ⟨gl,0,none⟩,2,none,0,SX0⟩=_ from A6Y 2 29 2 0 [1,2] (some ⟨gl,0,none⟩) 2] at sd
   exact sd
  obtain⟨A9,c9,css,S3,e1,hc⟩:=hq
  have sR:Stab (fun S w=>(True/\Row S w (some ⟨gl,0,none⟩) 2 2 (A1F [1,2]))/\WsR ws css S w):=(Stab.true.and A2F).and (WsR.stab _ _)
  refine⟨_,e1,?_⟩
  refine C3X (by show ((ws.length:Int) != (H.k.pend.length:Int))=false;rw [n2];exact bne_self_eq_false _) ?_
  refine hc.q (W9 g _ _ _ (hc.row.right (LinkK.stab _ _))) fun wQ hQ hc=>?_
  refine⟨(A1R g.gs g.gj g.gc g.b H2 f2.ok _ _ (hc.row.right (LinkK.stab _ _)).shelf).mono fun en wq hq=>?_⟩
  obtain⟨A3,c3,e4,hq,ho⟩:=hq
  have hc:=(hc.quiet hq).1
  refine⟨_,e4,?_⟩
  refine C3X (by show ((H2.k.pend.length:Int) != (0:Int))=false;rw [p2];rfl) ?_
  refine hc.q (W9 g _ _ _ (hc.row.right (LinkK.stab _ _))) fun wQ hQ hc=>?_
  refine⟨(A0S g.gs g.gj g.gc g.b H2 f2.ok _ _ (hc.row.right (LinkK.stab _ _)).shelf).mono fun en wq hq=>?_⟩
  obtain⟨cB,e7,hq,hrB⟩:=hq
  obtain⟨z,rfl⟩:=hrB.stX
  have hc:=(hc.quiet hq).1
  refine⟨_,e7,?_⟩
  refine C3X (by show (H2.k.b.seq != (H.k.pend.length:Int))=false;rw [b2];exact bne_self_eq_false _) ?_
  refine⟨Nat,fun j=>[(4,.pointer (some ⟨g.gl,0,none⟩)),(6,.int .i64 (H.k.pend.length:Int)),(9,.slice A9 ws.length c9),(10,.int .i64 (j:Int))],
   fun j w'=>j<=ws.length/\∃ S,CtxF no w S w' [] [orW ws A9 c9 css] (Sep w.heap.size (fun S w=>(True/\Row S w (some ⟨gl,0,none⟩) 2 2 (A1F [1,2]))/\WsR ws css S w) (LinkK g (lk 2 H2 (R2 2) 29 []))),fun j _=>ws.length-j,0,⟨rfl,rfl,rfl,rfl,trivial⟩,⟨Nat.zero_le _,_,hc⟩,?_⟩
  clear hc
  rintro j w4 u4 ⟨hj,S,hc⟩
  by_cases hlt:j<ws.length
  ·refine dt (by omega) ?_
   obtain⟨a9,x9,hA9,hcl⟩:=B9f hc ⟨_,(hc.row.left sR).2⟩ j hlt
   subst hA9
   obtain⟨t7,t1⟩:=t2 _ (List.getElem_mem hlt)
   refine⟨⟨by omega,by omega⟩,?_⟩
   refine⟨.int .i64 7,by rw [Int.toNat_natCast];exact A2R hcl 0 _ (congrArg (fun n=>some (Value.int .i64 n)) t7),?_⟩
   refine⟨⟨by omega,by omega⟩,?_⟩
   refine⟨.int .i64 1,by rw [Int.toNat_natCast];exact A2R hcl 2 _ (congrArg (fun n=>some (Value.int .i64 n)) t1),?_⟩
   exact⟨j+1,⟨rfl,rfl,rfl,congrArg _ (C3 (by have:=f2.ok.k.len;have:=hf.ok.k.len;omega)),trivial⟩,⟨by omega,_,hc⟩,by show ws.length-(j+1)<ws.length-j;omega⟩
  refine df (by omega) ?_
  have rd:=B9k g (lk 2 H2 (R2 2) 29 []) (B8N (by decide) f2 (B9p (by decide)) (by unfold B3;decide)) ⟨#[]⟩ 21
  rw [show readyL (lk 2 H2 (R2 2) 29 []) ⟨#[]⟩ 21=true by
   unfold readyL
   rw [B1I f2 (by show (2:Int)∈[(1:Int),2];decide) (by show (0:Int)≠2;decide) e2 (by decide)]
   show (true&&!H2.k.pend.any _)=true
   rw [p2]
   rfl] at rd
  refine hc.q (rd _ _ hc.ctx.lt (hc.row.right (LinkK.stab _ _))) fun wQ hQ hc=>?_
  exact⟨rfl,hc.below⟩
 refine dt (by omega) ?_
 obtain⟨ad,rfl,hcell⟩:=RowD8.elem (hA.below hc.below) i hlt
 obtain⟨d,hd⟩:∃ d,d=ds[i]:=⟨_,rfl⟩
 have hdo:d.Ok:=by rw [hd];exact hdk _ (List.getElem_mem _)
 have hcd:=C0H hdo
 rw [<-hd] at hcell
 refine⟨⟨by omega,by omega⟩,?_⟩
 refine⟨dC d,rfl,by rw [Int.toNat_natCast];exact hcell,?_⟩
 refine hc.q (B97 d hdo _) fun wQ hQ hc=>?_
 refine hc.n fun g8 wg8 hg8 hc=>?_
 refine hc.s 0 rfl fun wS hS hc=>?_
 have hc:=I9 hc (l':=[(g8,45,dC (B92 d))]) (by kernel_rfl)
 refine hc.s 0 rfl fun wS hS hc=>?_
 refine hc.s 0 rfl fun wS hS hc=>?_
 have hc:=I9 hc (l':=[(g8,45,dC (C1E (B92 d) i))]) (by kernel_rfl)
 have hrq:(C1E (B92 d) i).req=4294967296+((i:Int)+1):=by
  show IntKind.i64.wrap (4294967296+IntKind.i64.wrap ((i:Int)+1))=_
  rw [C3 (by omega),IntWalk.i64_in _ ⟨by omega,by omega⟩]
  rfl
 have htk:(C1E (B92 d) i).Ok:=⟨hcd.kind,hcd.key,hcd.body,hcd.ver,hcd.cond,hcd.tag,by rw [hrq];unfold B3;omega,by show B3 0;unfold B3;decide⟩
 obtain⟨e,hee⟩:∃ e,e=C1E (B92 d) i:=⟨_,rfl⟩
 rw [<-hee] at hc hrq htk
 have hmy:=C0R e htk
 obtain⟨s1,s2,s3,s4,s5⟩:=hf.seq
 obtain⟨H1,hH1,hf1,hs1⟩:∃ H1,(if L3 e=true then H1.k=⟨H.k.b,H.k.pend++[e],H.k.ep,H.k.ln⟩ else H1=H)/\Fit H1 (1+(i+1))/\(B9Y (l2 H 1 9 []) (wd 4 1 2 1 H.k.seq 0 [e]) 1).1=l2 H1 1 9 []:=by
  cases hm:L3 e with
  | false=>exact⟨H,rfl,hf.mono (by omega),by rw [show B9Y (l2 H 1 9 []) (wd 4 1 2 1 H.k.seq 0 [e]) 1=_ from C1O hm]⟩
  | true=>
   obtain⟨H1,k1,f1,s1⟩:=B3U (now:=1) (til:=9) (dn:=[]) hf (by omega) (ep:=1) (by decide) he (by decide) htk hm (by omega) (by rw [s3,hb0];show (0:Int)+(H.k.pend.length:Int)<1099511627776;omega)
   exact⟨H1,k1,f1,by rw [show B9Y (l2 H 1 9 []) (wd 4 1 2 1 H.k.seq 0 [e]) 1=_ from s1]⟩
 refine vD (.Q [0,1] (.n 2 (.n 3 (.n 4 (.n 5 (.q 6 (.n 7 .fin .stop)) .stop) .stop) (.n 4 (.n 3 (.n 5 (.q 6 (.n 7 .fin .stop)) .stop) (.n 5 (.n 3 (.q 6 (.n 7 .fin .stop)) .stop) .stop)) .stop)) (.n 4 (.n 2 (.n 3 (.n 5 (.q 6 (.n 7 .fin .stop)) .stop) (.n 5 (.n 3 (.q 6 (.n 7 .fin .stop)) .stop) .stop)) (.n 5 (.n 2 (.n 3 (.q 6 (.n 7 .fin .stop)) .stop) .stop) .stop)) .stop))) (fun _=>True) trivial ?_
 have hc:=hc.drew
 refine⟨?_,?_⟩
 ·skip
  refine hc.q' (W9 g _ _ _ (hc.row.right (LinkK.stab _ _))) fun wQ hQ hc=>?_
  refine⟨?_,?_⟩
  ·skip
   refine hc.q' (A0o g.gs g.gj g.gc g.b H hf.ok _ _ (hc.row.right (LinkK.stab _ _)).shelf) fun wQ hQ hc=>?_
   refine⟨⟨dC e,rfl,hc.cells 0 rfl,trivial,?_⟩,trivial⟩
   refine⟨fun gd wgd hgd=>?_,trivial⟩
   have hc:=hc.made hgd 8 1 rfl (by decide)
   refine⟨trivial,?_⟩
   refine⟨?_,trivial⟩
   obtain⟨S2,hc⟩:=hc.sepTold Stab.true (LinkK.stab _ _)
   have hc:CtxF no w S2 _ [(g8,45,dC e)] [] (Sep w.heap.size (fun S w=>True/\Row S w (some ⟨gd,0,none⟩) 1 1 (([e].map dC).flatten)) (LinkK g (l2 H 1 9 []))):=hc
   refine⟨(hc.heard0 hw (Stab.true.and A2F) (L':=l2 H1 1 9 []) (ws:=(B9Y (l2 H 1 9 []) (wd 4 1 2 1 H.k.seq 0 [e]) 1).2) (fun Sx S1 hlt hen hK hvd hr=>?_)).mono fun en wq hq=>?_⟩
   ·have sd:=A39 g (l2 H 1 9 []) (B7G hf (by decide) (by unfold B3;decide)) (Nat.zero_le _) 1 2 1 H.k.seq 0 (by have hme:E3=1099511627776:=rfl;unfold B3;omega) [e] (fun d hd=>by rw [List.mem_singleton.1 hd];exact htk) ⟨none,0,some ⟨gd,0,none⟩,1,SX0⟩ 1 (C4D (B1N _ _ _ _)) Sx _ hlt hen hK S1 hvd (B7J hr.2)
    rw [hs1,A7k] at sd
    exact sd
   obtain⟨A9,c9,S3,e1,hc⟩:=hq
   have hc:=hc.sepNow (R':=fun _ _=>True) (fun _ _=>trivial) (fun _ h=>h) Stab.true (LinkK.stab _ _)
   refine⟨_,e1,trivial,?_⟩
   refine⟨dC e,rfl,hc.cells 0 rfl,?_⟩
   cases hm:L3 e with
   | false=>
    rw [hm] at hmy hH1
    rw [if_neg (by decide)] at hH1
    refine hc.q (hmy _) fun wQ hQ hc=>?_
    exact⟨(i+1,H1),⟨rfl,rfl,(by rw [hH1];rfl),congrArg _ (C3 (by omega)),trivial⟩,⟨by omega,by omega,hf1,by rw [hH1];exact hb0,by rw [hH1];exact he,by rw [hH1];omega,by rw [hH1];exact hh,_,hc.drop⟩,by show 8-(i+1)<8-i;omega⟩
   | true=>
    rw [hm] at hmy hH1
    rw [if_pos rfl] at hH1
    refine hc.q (hmy _) fun wQ hQ hc=>?_
    have hp1:H1.k.pend=H.k.pend++[e]:=by rw [hH1]
    have hl1:H1.k.pend.length=H.k.pend.length+1:=by rw [hp1,List.length_append];rfl
    exact⟨(i+1,H1),⟨rfl,rfl,(by rw [hl1];exact congrArg _ (C3 (by omega))),congrArg _ (C3 (by omega)),trivial⟩,⟨by omega,by omega,hf1,by rw [hH1];exact hb0,by rw [hH1];exact he,by omega,fun x hx=>by
     rw [hp1] at hx
     rcases List.mem_append.1 hx with hx | hx
     ·exact hh x hx
     ·rw [List.mem_singleton.1 hx,hrq]
      exact B8m (by omega),_,hc.drop⟩,by show 8-(i+1)<8-i;omega⟩
  refine⟨⟨dC e,rfl,hc.cells 0 rfl,trivial,?_⟩,trivial⟩
  refine⟨?_,?_⟩
  ·skip
   refine hc.q' (A0o g.gs g.gj g.gc g.b H hf.ok _ _ (hc.row.right (LinkK.stab _ _)).shelf) fun wQ hQ hc=>?_
   refine⟨fun gd wgd hgd=>?_,trivial⟩
   have hc:=hc.made hgd 8 1 rfl (by decide)
   refine⟨trivial,?_⟩
   refine⟨?_,trivial⟩
   obtain⟨S2,hc⟩:=hc.sepTold Stab.true (LinkK.stab _ _)
   have hc:CtxF no w S2 _ [(g8,45,dC e)] [] (Sep w.heap.size (fun S w=>True/\Row S w (some ⟨gd,0,none⟩) 1 1 (([e].map dC).flatten)) (LinkK g (l2 H 1 9 []))):=hc
   refine⟨(hc.heard0 hw (Stab.true.and A2F) (L':=l2 H1 1 9 []) (ws:=(B9Y (l2 H 1 9 []) (wd 4 1 2 1 H.k.seq 0 [e]) 1).2) (fun Sx S1 hlt hen hK hvd hr=>?_)).mono fun en wq hq=>?_⟩
   ·have sd:=A39 g (l2 H 1 9 []) (B7G hf (by decide) (by unfold B3;decide)) (Nat.zero_le _) 1 2 1 H.k.seq 0 (by have hme:E3=1099511627776:=rfl;unfold B3;omega) [e] (fun d hd=>by rw [List.mem_singleton.1 hd];exact htk) ⟨none,0,some ⟨gd,0,none⟩,1,SX0⟩ 1 (C4D (B1N _ _ _ _)) Sx _ hlt hen hK S1 hvd (B7J hr.2)
    rw [hs1,A7k] at sd
    exact sd
   obtain⟨A9,c9,S3,e1,hc⟩:=hq
   have hc:=hc.sepNow (R':=fun _ _=>True) (fun _ _=>trivial) (fun _ h=>h) Stab.true (LinkK.stab _ _)
   refine⟨_,e1,trivial,?_⟩
   refine⟨dC e,rfl,hc.cells 0 rfl,?_⟩
   cases hm:L3 e with
   | false=>
    rw [hm] at hmy hH1
    rw [if_neg (by decide)] at hH1
    refine hc.q (hmy _) fun wQ hQ hc=>?_
    exact⟨(i+1,H1),⟨rfl,rfl,(by rw [hH1];rfl),congrArg _ (C3 (by omega)),trivial⟩,⟨by omega,by omega,hf1,by rw [hH1];exact hb0,by rw [hH1];exact he,by rw [hH1];omega,by rw [hH1];exact hh,_,hc.drop⟩,by show 8-(i+1)<8-i;omega⟩
   | true=>
    rw [hm] at hmy hH1
    rw [if_pos rfl] at hH1
    refine hc.q (hmy _) fun wQ hQ hc=>?_
    have hp1:H1.k.pend=H.k.pend++[e]:=by rw [hH1]
    have hl1:H1.k.pend.length=H.k.pend.length+1:=by rw [hp1,List.length_append];rfl
    exact⟨(i+1,H1),⟨rfl,rfl,(by rw [hl1];exact congrArg _ (C3 (by omega))),congrArg _ (C3 (by omega)),trivial⟩,⟨by omega,by omega,hf1,by rw [hH1];exact hb0,by rw [hH1];exact he,by omega,fun x hx=>by
     rw [hp1] at hx
     rcases List.mem_append.1 hx with hx | hx
     ·exact hh x hx
     ·rw [List.mem_singleton.1 hx,hrq]
      exact B8m (by omega),_,hc.drop⟩,by show 8-(i+1)<8-i;omega⟩
  refine⟨fun gd wgd hgd=>?_,trivial⟩
  have hc:=hc.made hgd 8 1 rfl (by decide)
  refine⟨trivial,?_⟩
  refine⟨hc.q' (A0o g.gs g.gj g.gc g.b H hf.ok _ _ (hc.row.right (LinkK.stab _ _)).shelf) fun wQ hQ hc=>?_,trivial⟩
  refine⟨?_,trivial⟩
  obtain⟨S2,hc⟩:=hc.sepTold Stab.true (LinkK.stab _ _)
  have hc:CtxF no w S2 _ [(g8,45,dC e)] [] (Sep w.heap.size (fun S w=>True/\Row S w (some ⟨gd,0,none⟩) 1 1 (([e].map dC).flatten)) (LinkK g (l2 H 1 9 []))):=hc
  refine⟨(hc.heard0 hw (Stab.true.and A2F) (L':=l2 H1 1 9 []) (ws:=(B9Y (l2 H 1 9 []) (wd 4 1 2 1 H.k.seq 0 [e]) 1).2) (fun Sx S1 hlt hen hK hvd hr=>?_)).mono fun en wq hq=>?_⟩
  ·have sd:=A39 g (l2 H 1 9 []) (B7G hf (by decide) (by unfold B3;decide)) (Nat.zero_le _) 1 2 1 H.k.seq 0 (by have hme:E3=1099511627776:=rfl;unfold B3;omega) [e] (fun d hd=>by rw [List.mem_singleton.1 hd];exact htk) ⟨none,0,some ⟨gd,0,none⟩,1,SX0⟩ 1 (C4D (B1N _ _ _ _)) Sx _ hlt hen hK S1 hvd (B7J hr.2)
   rw [hs1,A7k] at sd
   exact sd
  obtain⟨A9,c9,S3,e1,hc⟩:=hq
  have hc:=hc.sepNow (R':=fun _ _=>True) (fun _ _=>trivial) (fun _ h=>h) Stab.true (LinkK.stab _ _)
  refine⟨_,e1,trivial,?_⟩
  refine⟨dC e,rfl,hc.cells 0 rfl,?_⟩
  cases hm:L3 e with
  | false=>
   rw [hm] at hmy hH1
   rw [if_neg (by decide)] at hH1
   refine hc.q (hmy _) fun wQ hQ hc=>?_
   exact⟨(i+1,H1),⟨rfl,rfl,(by rw [hH1];rfl),congrArg _ (C3 (by omega)),trivial⟩,⟨by omega,by omega,hf1,by rw [hH1];exact hb0,by rw [hH1];exact he,by rw [hH1];omega,by rw [hH1];exact hh,_,hc.drop⟩,by show 8-(i+1)<8-i;omega⟩
  | true=>
   rw [hm] at hmy hH1
   rw [if_pos rfl] at hH1
   refine hc.q (hmy _) fun wQ hQ hc=>?_
   have hp1:H1.k.pend=H.k.pend++[e]:=by rw [hH1]
   have hl1:H1.k.pend.length=H.k.pend.length+1:=by rw [hp1,List.length_append];rfl
   exact⟨(i+1,H1),⟨rfl,rfl,(by rw [hl1];exact congrArg _ (C3 (by omega))),congrArg _ (C3 (by omega)),trivial⟩,⟨by omega,by omega,hf1,by rw [hH1];exact hb0,by rw [hH1];exact he,by omega,fun x hx=>by
    rw [hp1] at hx
    rcases List.mem_append.1 hx with hx | hx
    ·exact hh x hx
    ·rw [List.mem_singleton.1 hx,hrq]
     exact B8m (by omega),_,hc.drop⟩,by show 8-(i+1)<8-i;omega⟩
 refine⟨⟨dC e,rfl,hc.cells 0 rfl,trivial,?_⟩,trivial⟩
 refine⟨?_,?_⟩
 ·skip
  refine hc.q' (W9 g _ _ _ (hc.row.right (LinkK.stab _ _))) fun wQ hQ hc=>?_
  refine⟨?_,?_⟩
  ·skip
   refine hc.q' (A0o g.gs g.gj g.gc g.b H hf.ok _ _ (hc.row.right (LinkK.stab _ _)).shelf) fun wQ hQ hc=>?_
   refine⟨fun gd wgd hgd=>?_,trivial⟩
   have hc:=hc.made hgd 8 1 rfl (by decide)
   refine⟨trivial,?_⟩
   refine⟨?_,trivial⟩
   obtain⟨S2,hc⟩:=hc.sepTold Stab.true (LinkK.stab _ _)
   have hc:CtxF no w S2 _ [(g8,45,dC e)] [] (Sep w.heap.size (fun S w=>True/\Row S w (some ⟨gd,0,none⟩) 1 1 (([e].map dC).flatten)) (LinkK g (l2 H 1 9 []))):=hc
   refine⟨(hc.heard0 hw (Stab.true.and A2F) (L':=l2 H1 1 9 []) (ws:=(B9Y (l2 H 1 9 []) (wd 4 1 2 1 H.k.seq 0 [e]) 1).2) (fun Sx S1 hlt hen hK hvd hr=>?_)).mono fun en wq hq=>?_⟩
   ·have sd:=A39 g (l2 H 1 9 []) (B7G hf (by decide) (by unfold B3;decide)) (Nat.zero_le _) 1 2 1 H.k.seq 0 (by have hme:E3=1099511627776:=rfl;unfold B3;omega) [e] (fun d hd=>by rw [List.mem_singleton.1 hd];exact htk) ⟨none,0,some ⟨gd,0,none⟩,1,SX0⟩ 1 (C4D (B1N _ _ _ _)) Sx _ hlt hen hK S1 hvd (B7J hr.2)
    rw [hs1,A7k] at sd
    exact sd
   obtain⟨A9,c9,S3,e1,hc⟩:=hq
   have hc:=hc.sepNow (R':=fun _ _=>True) (fun _ _=>trivial) (fun _ h=>h) Stab.true (LinkK.stab _ _)
   refine⟨_,e1,trivial,?_⟩
   refine⟨dC e,rfl,hc.cells 0 rfl,?_⟩
   cases hm:L3 e with
   | false=>
    rw [hm] at hmy hH1
    rw [if_neg (by decide)] at hH1
    refine hc.q (hmy _) fun wQ hQ hc=>?_
    exact⟨(i+1,H1),⟨rfl,rfl,(by rw [hH1];rfl),congrArg _ (C3 (by omega)),trivial⟩,⟨by omega,by omega,hf1,by rw [hH1];exact hb0,by rw [hH1];exact he,by rw [hH1];omega,by rw [hH1];exact hh,_,hc.drop⟩,by show 8-(i+1)<8-i;omega⟩
   | true=>
    rw [hm] at hmy hH1
    rw [if_pos rfl] at hH1
    refine hc.q (hmy _) fun wQ hQ hc=>?_
    have hp1:H1.k.pend=H.k.pend++[e]:=by rw [hH1]
    have hl1:H1.k.pend.length=H.k.pend.length+1:=by rw [hp1,List.length_append];rfl
    exact⟨(i+1,H1),⟨rfl,rfl,(by rw [hl1];exact congrArg _ (C3 (by omega))),congrArg _ (C3 (by omega)),trivial⟩,⟨by omega,by omega,hf1,by rw [hH1];exact hb0,by rw [hH1];exact he,by omega,fun x hx=>by
     rw [hp1] at hx
     rcases List.mem_append.1 hx with hx | hx
     ·exact hh x hx
     ·rw [List.mem_singleton.1 hx,hrq]
      exact B8m (by omega),_,hc.drop⟩,by show 8-(i+1)<8-i;omega⟩
  refine⟨fun gd wgd hgd=>?_,trivial⟩
  have hc:=hc.made hgd 8 1 rfl (by decide)
  refine⟨trivial,?_⟩
  refine⟨hc.q' (A0o g.gs g.gj g.gc g.b H hf.ok _ _ (hc.row.right (LinkK.stab _ _)).shelf) fun wQ hQ hc=>?_,trivial⟩
  refine⟨?_,trivial⟩
  obtain⟨S2,hc⟩:=hc.sepTold Stab.true (LinkK.stab _ _)
  have hc:CtxF no w S2 _ [(g8,45,dC e)] [] (Sep w.heap.size (fun S w=>True/\Row S w (some ⟨gd,0,none⟩) 1 1 (([e].map dC).flatten)) (LinkK g (l2 H 1 9 []))):=hc
  refine⟨(hc.heard0 hw (Stab.true.and A2F) (L':=l2 H1 1 9 []) (ws:=(B9Y (l2 H 1 9 []) (wd 4 1 2 1 H.k.seq 0 [e]) 1).2) (fun Sx S1 hlt hen hK hvd hr=>?_)).mono fun en wq hq=>?_⟩
  ·have sd:=A39 g (l2 H 1 9 []) (B7G hf (by decide) (by unfold B3;decide)) (Nat.zero_le _) 1 2 1 H.k.seq 0 (by have hme:E3=1099511627776:=rfl;unfold B3;omega) [e] (fun d hd=>by rw [List.mem_singleton.1 hd];exact htk) ⟨none,0,some ⟨gd,0,none⟩,1,SX0⟩ 1 (C4D (B1N _ _ _ _)) Sx _ hlt hen hK S1 hvd (B7J hr.2)
   rw [hs1,A7k] at sd
   exact sd
  obtain⟨A9,c9,S3,e1,hc⟩:=hq
  have hc:=hc.sepNow (R':=fun _ _=>True) (fun _ _=>trivial) (fun _ h=>h) Stab.true (LinkK.stab _ _)
  refine⟨_,e1,trivial,?_⟩
  refine⟨dC e,rfl,hc.cells 0 rfl,?_⟩
  cases hm:L3 e with
  | false=>
   rw [hm] at hmy hH1
   rw [if_neg (by decide)] at hH1
   refine hc.q (hmy _) fun wQ hQ hc=>?_
   exact⟨(i+1,H1),⟨rfl,rfl,(by rw [hH1];rfl),congrArg _ (C3 (by omega)),trivial⟩,⟨by omega,by omega,hf1,by rw [hH1];exact hb0,by rw [hH1];exact he,by rw [hH1];omega,by rw [hH1];exact hh,_,hc.drop⟩,by show 8-(i+1)<8-i;omega⟩
  | true=>
   rw [hm] at hmy hH1
   rw [if_pos rfl] at hH1
   refine hc.q (hmy _) fun wQ hQ hc=>?_
   have hp1:H1.k.pend=H.k.pend++[e]:=by rw [hH1]
   have hl1:H1.k.pend.length=H.k.pend.length+1:=by rw [hp1,List.length_append];rfl
   exact⟨(i+1,H1),⟨rfl,rfl,(by rw [hl1];exact congrArg _ (C3 (by omega))),congrArg _ (C3 (by omega)),trivial⟩,⟨by omega,by omega,hf1,by rw [hH1];exact hb0,by rw [hH1];exact he,by omega,fun x hx=>by
    rw [hp1] at hx
    rcases List.mem_append.1 hx with hx | hx
    ·exact hh x hx
    ·rw [List.mem_singleton.1 hx,hrq]
     exact B8m (by omega),_,hc.drop⟩,by show 8-(i+1)<8-i;omega⟩
 refine⟨fun gd wgd hgd=>?_,trivial⟩
 have hc:=hc.made hgd 8 1 rfl (by decide)
 refine⟨trivial,?_⟩
 refine⟨hc.q' (W9 g _ _ _ (hc.row.right (LinkK.stab _ _))) fun wQ hQ hc=>?_,trivial⟩
 refine⟨hc.q' (A0o g.gs g.gj g.gc g.b H hf.ok _ _ (hc.row.right (LinkK.stab _ _)).shelf) fun wQ hQ hc=>?_,trivial⟩
 refine⟨?_,trivial⟩
 obtain⟨S2,hc⟩:=hc.sepTold Stab.true (LinkK.stab _ _)
 have hc:CtxF no w S2 _ [(g8,45,dC e)] [] (Sep w.heap.size (fun S w=>True/\Row S w (some ⟨gd,0,none⟩) 1 1 (([e].map dC).flatten)) (LinkK g (l2 H 1 9 []))):=hc
 refine⟨(hc.heard0 hw (Stab.true.and A2F) (L':=l2 H1 1 9 []) (ws:=(B9Y (l2 H 1 9 []) (wd 4 1 2 1 H.k.seq 0 [e]) 1).2) (fun Sx S1 hlt hen hK hvd hr=>?_)).mono fun en wq hq=>?_⟩
 ·have sd:=A39 g (l2 H 1 9 []) (B7G hf (by decide) (by unfold B3;decide)) (Nat.zero_le _) 1 2 1 H.k.seq 0 (by have hme:E3=1099511627776:=rfl;unfold B3;omega) [e] (fun d hd=>by rw [List.mem_singleton.1 hd];exact htk) ⟨none,0,some ⟨gd,0,none⟩,1,SX0⟩ 1 (C4D (B1N _ _ _ _)) Sx _ hlt hen hK S1 hvd (B7J hr.2)
  rw [hs1,A7k] at sd
  exact sd
 obtain⟨A9,c9,S3,e1,hc⟩:=hq
 have hc:=hc.sepNow (R':=fun _ _=>True) (fun _ _=>trivial) (fun _ h=>h) Stab.true (LinkK.stab _ _)
 refine⟨_,e1,trivial,?_⟩
 refine⟨dC e,rfl,hc.cells 0 rfl,?_⟩
 cases hm:L3 e with
 | false=>
  rw [hm] at hmy hH1
  rw [if_neg (by decide)] at hH1
  refine hc.q (hmy _) fun wQ hQ hc=>?_
  exact⟨(i+1,H1),⟨rfl,rfl,(by rw [hH1];rfl),congrArg _ (C3 (by omega)),trivial⟩,⟨by omega,by omega,hf1,by rw [hH1];exact hb0,by rw [hH1];exact he,by rw [hH1];omega,by rw [hH1];exact hh,_,hc.drop⟩,by show 8-(i+1)<8-i;omega⟩
 | true=>
  rw [hm] at hmy hH1
  rw [if_pos rfl] at hH1
  refine hc.q (hmy _) fun wQ hQ hc=>?_
  have hp1:H1.k.pend=H.k.pend++[e]:=by rw [hH1]
  have hl1:H1.k.pend.length=H.k.pend.length+1:=by rw [hp1,List.length_append];rfl
  exact⟨(i+1,H1),⟨rfl,rfl,(by rw [hl1];exact congrArg _ (C3 (by omega))),congrArg _ (C3 (by omega)),trivial⟩,⟨by omega,by omega,hf1,by rw [hH1];exact hb0,by rw [hH1];exact he,by omega,fun x hx=>by
   rw [hp1] at hx
   rcases List.mem_append.1 hx with hx | hx
   ·exact hh x hx
   ·rw [List.mem_singleton.1 hx,hrq]
    exact B8m (by omega),_,hc.drop⟩,by show 8-(i+1)<8-i;omega⟩
theorem C0O {H:Type} (enc:TypeId × Value->H) (W:World) (hw:Env W) {base:Nat}
  (v0:Value) (d0:DataW H) (p0:List MemPlace) (h0:DataW.Trod enc Tryz.prog W 0 (fun _=>true) true 22 v0 d0 p0) (k0:Value.okWide Tryz.prog W .any base 22 v0):
  Calls Tryz.prog 7 #[v0] W (C8 (.bool true) W):=by
 obtain⟨A0,c0,a0,rfl,r0,o0⟩:=B9x h0 k0
 exact C0g a0 A0 c0 o0 W hw r0
end Go.Proofs.YtefdfaeieekioaaGreatDoor
