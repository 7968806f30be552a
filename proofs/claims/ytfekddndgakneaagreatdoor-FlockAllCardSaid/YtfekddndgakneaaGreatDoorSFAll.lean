import Derived.Test.YtfekddndgakneaaGreatDoorM14
set_option maxRecDepth 100000
set_option maxHeartbeats 40000000
set_option linter.unusedVariables false
set_option linter.unusedSimpArgs false
/- Walk: armariumlaw11.FlockAll. -/
namespace Go.Proofs.YtfekddndgakneaaGreatDoor
open Go.Vc Go.RowKit Go.Fl Go.ChangeShapes Go.WideShapes Go.ChangeAt
theorem A9K:(Tryz.prog.info? 35).map (fun i=>(i.zero,i.size,i.bytes))=some (some (.agg (wdC Wd0 WX0).toArray),21,232):=by kernel_rfl
theorem _root_.Go.Vc.CtxF.castOs {S0 S:Nat->Prop} {w0 w:World} {l:List LB} {os os':List OR} {R:Kn} (hc:CtxF S0 w0 S w l os R) (h:os=os'):CtxF S0 w0 S w l os' R:=h▸hc
theorem A2R {S0 S:Nat->Prop} {w0 w:World} {l:List LB} {os:List OR} {R:Kn} {e sz n cc k:Nat} {aC:Addr} {css:List (List Value)} {c:List Value} (hc:CtxF S0 w0 S w l (⟨e,sz,some aC,n,cc,css.flatten⟩::os) R) (hF:Flat sz css) (hs:0<sz) (h:css[k]?=some c):Go.Vc.cellsAt w (aC.add (k*sz)) c 0:=by
 have hrow:=(hc.fst.told hc.ctx).2.2 hc.fst.fit.1 hc.fst.fit.2
 obtain⟨hk,e⟩:=List.getElem?_eq_some_iff.1 h
 obtain⟨a,e1,hcl⟩:=Row.elemF hrow hs hF k hk
 cases e1
 rw [e] at hcl
 exact hcl
theorem A24 {S0 S:Nat->Prop} {w0 w:World} {l:List LB} {os:List OR} {R:Kn} {e sz n cc:Nat} {A:Option Addr} {xs:List Value} (hc:CtxF S0 w0 S w l (⟨e,sz,A,n,cc,xs⟩::os) R):∃ S',Row S' w A n cc xs:=⟨_,(hc.fst.told hc.ctx).2.2 hc.fst.fit.1 hc.fst.fit.2⟩
def B85 (l:List Wd) (v:Wd):List Wd:=if J5 v=true then l++[v] else l
theorem A51 {l:List Wd} {v:Wd} (h:J5 v=true):B85 l v=l++[v]:=if_pos h
theorem A8E {l:List Wd} {v:Wd} (h:J5 v=false):B85 l v=l:=if_neg (by rw [h];decide)
theorem B8X {l:List Wd} {v:Wd} (h:l.length<300):A64 (l.map txW) v=((B85 l v).map txW,J5 v):=by
 cases hm:J5 v with
 | true=>rw [A9I h hm,A51 hm]
 | false=>rw [B3F hm,A8E hm]
theorem B45 (ol:List Op11) (A:Option Addr) (ca:Nat) (hok:∀ o∈ol,o.Ok) (w:World) (hw:Env w) (hA:∃ css,B9G ol css w/\Row (inW w) w A ol.length ca css.flatten/\Flat 23 css):Calls Tryz.prog 6 #[.slice A ol.length ca] w (C7 (.bool true) w):=by
 obtain⟨oc,hoR,hA,hoF⟩:=hA
 have hmA:=C9 hA
 refine vE Tryz.func6 ?_
 have hc:=CtxF.start w no (fun _ h=>h.elim) (R:=fun _ _=>True) trivial Stab.true
 refine hc.q (M5 _ (hw.below hc.below)) fun wQ hQ hc=>?_
 refine⟨(A23 _).mono fun en wq hq=>?_⟩
 obtain⟨gf,e1,hb,hO⟩:=hq
 have hc:=hc.sepNew hb hO (FlockK.stab _ _)
 refine⟨_,e1,?_⟩
 have hc:=hc.nil 35 21
 have hc:=hc.now (X:=Vc.Sep w.heap.size (WsR [] []) (FlockK gf (([]:List Wd).map txW))) (fun h=>h.mono (fun _ _=>rfl) fun _ h=>h) (Vc.Sep.stab (WsR.stab _ _) (FlockK.stab _ _))
 refine⟨Nat × List Wd × Option Addr × Nat,fun (i,l,C,cc)=>[(0,.slice A ol.length ca),(4,.pointer (some ⟨gf,0,none⟩)),(5,.slice C l.length cc),(6,.int .i64 (H4 l:Nat)),(7,.int .i64 i)],
  fun (i,l,C,cc) w'=>i<=ol.length/\i<=40/\l.length<=i/\GoodL l/\∃ css S,CtxF no w S w' [] [⟨35,21,C,l.length,cc,css.flatten⟩] (Vc.Sep w.heap.size (WsR l css) (FlockK gf (l.map txW))),fun (i,_) _=>40-i,(0,[],none,0),⟨rfl,rfl,rfl,rfl,rfl,trivial⟩,⟨Nat.zero_le _,Nat.zero_le _,Nat.zero_le _,(fun v hv=>by cases hv),[],_,hc⟩,?_⟩
 clear hc
 rintro⟨i,l,C,cc⟩ w1 u ⟨hi,hi40,hil,hg,css,S,hc⟩
 by_cases hlt:i<ol.length
 rotate_left
 ·refine df (by omega) ?_
  exact⟨rfl,hc.below⟩
 refine dt (by omega) ?_
 by_cases h40:i<40
 rotate_left
 ·refine df (by omega) ?_
  exact⟨rfl,hc.below⟩
 refine dt (by omega) ?_
 obtain⟨y,hey,hWy⟩:=hoR.2 i hlt
 obtain⟨ad,rfl,hcell⟩:=Row.elemF (hA.below hc.below) (by decide) hoF i (by rw [hoR.1];exact hlt)
 obtain⟨o,ho⟩:∃ o,o=ol[i]:=⟨_,rfl⟩
 have hoo:o.Ok:=by rw [ho];exact hok _ (List.getElem_mem _)
 rw [<-ho] at hey hWy
 rw [Option.some.inj ((List.getElem?_eq_getElem _).symm.trans hey)] at hcell
 clear ho hey
 have hF:=fun s hs=>Nat.le_trans (I7 hg s hs) (show 1000000<=1073741824 by decide)
 obtain⟨v,hv⟩:∃ v,v=I1 o.v:=⟨_,rfl⟩
 have hwv:=O9 o.v hoo.v y
 have kv:=Z3 hoo.v
 rw [<-hv] at hwv kv
 refine⟨⟨by omega,by omega⟩,?_⟩
 refine⟨opW o y,rfl,by rw [Int.toNat_natCast];exact hcell,?_⟩
 refine hc.n fun g8 wg8 hg8 hc=>?_
 refine hc.s 0 rfl fun wS hS hc=>?_
 have hc:=B8 hc (l':=[(g8,53,opW o y)]) (by kernel_rfl)
 refine hc.c 0 rfl rfl ?_
 by_cases b0:0<=o.i
 ·refine dt b0 ?_
  refine hc.c 0 rfl rfl ?_
  obtain⟨bb,hbb0⟩:∃ bb,decide (o.i<(l.length:Int))=bb:=⟨_,rfl⟩
  have hbb:=hbb0
  refine hc.c 0 rfl rfl ?_
  by_cases k0:o.kind=0
  ·skip
   refine B6 (by show (o.kind==0)=true;rw [k0];rfl) ?_
   refine⟨wdC o.v y,rfl,hc.cellsAt 0 rfl 2 (wdC o.v y) rfl,?_⟩
   refine⟨(hwv (inW w) _ (hWy.below hc.below)).mono fun en wq hq=>?_⟩
   obtain⟨x1,e1,hb,hrep⟩:=hq
   have hc:=hc.sepKnow (WsR.stab _ _) (FlockK.stab _ _) hb hrep (WdR.stab _ _)
   have sR:Stab (fun S w=>WsR l css S w/\WdR v x1 S w):=(WsR.stab _ _).and (WdR.stab _ _)
   refine⟨_,e1,?_⟩
   refine hc.n fun g10 wg10 hg10 hc=>?_
   rw [L7] at hc
   refine hc.s 0 rfl fun wS hS hc=>?_
   have hc:=B8 hc (l':=[(g10,35,wdC v x1),(g8,53,opW o y)]) (by kernel_rfl)
   refine vD (.Q [0,1,3] (.n 2 (.n 4 (.q 5 .fin) .stop) .stop)) (fun z=>Blk z g10 35 (wdC v x1)) (hc.blk 0 rfl) ?_
   have hc:=hc.drew
   refine⟨wdC v x1,rfl,fun z hz=>Blk.part hz 0 (wdC v x1) rfl,?_⟩
   refine⟨wdC v x1,rfl,fun z hz=>Blk.part hz 0 (wdC v x1) rfl,?_⟩
   refine⟨?_,trivial⟩
   obtain⟨S1,Sa,h1,h2,h3,hO⟩:=hc.row
   have sy:=A0e gf (l.map txW) v kv.bare x1 S1 Sa _ h3.2 (fun x hx=>hc.ctx.lt x (h2 x hx).1) (hw.free hc.below h2) hO
   rw [B8X (by omega)] at sy
   refine⟨sy.mono fun en wq hq=>?_⟩
   clear sy
   obtain⟨e1,hT,Sn,hSn,hO⟩:=hq
   have hc:=hc.turnO sR h1 h2 h3 hT hSn hO (FlockK.stab _ _)
   refine⟨_,e1,(hc.blk 0 rfl),?_⟩
   refine⟨hc.q (K9 v kv x1 _ _ (hc.row.left sR).2) fun wQ hQ hc=>?_,trivial⟩
   refine⟨(hc.blk 0 rfl),?_⟩
   refine B4 (by cases J5 v<;>rfl) ?_
   refine⟨wdC v x1,rfl,hc.cells 0 rfl,?_⟩
   have hM:=K9 v kv x1 _ _ (hc.row.left sR).2
   have hP:∀ w,WdR v x1 (fun _=>True) w->Env w->Calls Tryz.prog 16 #[.agg (wdC v x1).toArray] w (C7 (.string (txW v)) w):=fun w=>K8 v kv.bare x1 (fun _=>True) w
   cases hm:J5 v with
   | false=>
    rw [hm] at hM
    refine hc.q (hM) fun wQ hQ hc=>?_
    rw [A8E hm] at hc
    have hc:=hc.now (X:=Vc.Sep w.heap.size (WsR l css) (FlockK gf (l.map txW))) (fun h=>h.mono (fun _ h=>h.1) fun _ h=>h) (Vc.Sep.stab (WsR.stab _ _) (FlockK.stab _ _))
    refine hc.q (J2 gf _ _ _ (hc.row.right (FlockK.stab _ _))) fun wQ hQ hc=>?_
    refine B4 (by rw [List.length_map,(rfl:l.length=l.length)];exact bne_self_eq_false _) ?_
    refine hc.q (K3 gf _ (I7 hg) (by rw [List.length_map];omega) _ _ hc.ctx.lt (hc.row.right (FlockK.stab _ _))) fun wQ hQ hc=>?_
    refine B4 (by rw [(rfl:((H4 l:Nat):Int)=((H4 l:Nat):Int))];exact bne_self_eq_false _) ?_
    exact⟨(i+1,l,C,cc),⟨rfl,rfl,congrArg (fun n=>Value.slice C n cc) ((rfl:l.length=l.length)).symm,congrArg (Value.int .i64) (rfl:((H4 l:Nat):Int)=((H4 l:Nat):Int)),congrArg _ (C1 (by omega)),trivial⟩,⟨hlt,by omega,by omega,hg,css,_,hc.drop.drop⟩,by show 40-(i+1)<40-i;omega⟩
   | true=>
    rw [hm] at hM
    refine hc.q (hM) fun wQ hQ hc=>?_
    rw [A51 hm] at hc
    refine⟨wdC v x1,rfl,hc.cells 0 rfl,?_⟩
    refine hc.n fun gv wgv hgv hc=>?_
    refine D1 Tryz.underlying51 A9K rfl (by decide) hc (ys:=wdC v x1) (m:=1) rfl (hc.cells 0 rfl) rfl (by omega) (by decide) rfl rfl ?_
    intro A3 c3 w11 hc
    have hc:=hc.drop
    refine⟨wdC v x1,rfl,hc.cells 0 rfl,?_⟩
    refine hc.q (hP _ ((hc.row.left sR).2.sub fun _ _=>trivial) (hw.below hc.below)) fun wQ hQ hc=>?_
    have hg2:=hg.snoc kv hm
    have hz1:=A4z l v
    have hz2:=A50 hg
    have hz3:=R0 kv
    have hZ:IntKind.i64.wrap (((H4 l:Nat):Int)+(((txW v).size:Nat):Int))=((H4 (l++[v]):Nat):Int):=by rw [hz1,IntWalk.i64_in _ ⟨by omega,by omega⟩];omega
    have hn:(l++[v]).length=l.length+1:=by rw [List.length_append];rfl
    have hc:=hc.castOs (os':=[⟨35,21,A3,(l++[v]).length,c3,(css++[wdC v x1]).flatten⟩]) (by rw [hn,List.flatten_append,List.flatten_singleton])
    have hc:=hc.now (X:=Vc.Sep w.heap.size (WsR (l++[v]) (css++[wdC v x1])) (FlockK gf ((l++[v]).map txW))) (fun h=>h.mono (fun _ h=>h.1.snoc h.2) fun _ h=>h) (Vc.Sep.stab (WsR.stab _ _) (FlockK.stab _ _))
    refine hc.q (J2 gf _ _ _ (hc.row.right (FlockK.stab _ _))) fun wQ hQ hc=>?_
    refine B4 (by rw [List.length_map,hn];exact bne_self_eq_false _) ?_
    refine hc.q (K3 gf _ (I7 hg2) (by rw [List.length_map];omega) _ _ hc.ctx.lt (hc.row.right (FlockK.stab _ _))) fun wQ hQ hc=>?_
    refine B4 (by rw [hZ];exact bne_self_eq_false _) ?_
    exact⟨(i+1,(l++[v]),A3,c3),⟨rfl,rfl,congrArg (fun n=>Value.slice A3 n c3) (hn).symm,congrArg (Value.int .i64) hZ,congrArg _ (C1 (by omega)),trivial⟩,⟨hlt,by omega,by omega,hg2,(css++[wdC v x1]),_,hc.drop.drop⟩,by show 40-(i+1)<40-i;omega⟩
  clear hv hwv kv v
  cases bb with
  | true=>
   have b1:=of_decide_eq_true hbb0
   obtain⟨k,hik⟩:∃ k:Nat,o.i=(k:Int):=⟨o.i.toNat,by omega⟩
   have hkl:k<l.length:=by omega
   obtain⟨v,hv⟩:∃ v,v=l[k]:=⟨_,rfl⟩
   obtain⟨kv,hmv⟩:v.Ok/\J5 v=true:=by rw [hv];exact hg _ (List.getElem_mem _)
   have hPv:∀ w x,WdR v x (fun _=>True) w->Env w->Calls Tryz.prog 16 #[.agg (wdC v x).toArray] w (C7 (.string (txW v)) w):=fun w x=>K8 v kv.bare x (fun _=>True) w
   refine B4 (by show (o.kind==0)=false;rw [beq_eq_false_iff_ne];exact k0) ?_
   refine hc.c 0 rfl rfl ?_
   have pk:=X1 gf (l.map txW) hF o.i _ _ hc.ctx.lt (hw.below hc.below) (hc.row.right (FlockK.stab _ _))
   rw [hik,A5z hg hkl,<-hv] at pk
   refine⟨(hik▸pk).mono fun en wq hq=>?_⟩
   clear pk
   obtain⟨x2,e1,hb,hr⟩:=hq
   have hc:=hc.sepKnow (WsR.stab _ _) (FlockK.stab _ _) hb hr (WdR.stab _ _)
   have sR:Stab (fun S w=>WsR l css S w/\WdR v x2 S w):=(WsR.stab _ _).and (WdR.stab _ _)
   refine⟨_,e1,?_⟩
   refine hc.n fun g11 wg11 hg11 hc=>?_
   rw [L7] at hc
   refine hc.s 0 rfl fun wS hS hc=>?_
   have hc:=B8 hc (l':=[(g11,35,wdC v x2),(g8,53,opW o y)]) (by kernel_rfl)
   refine hc.c 1 rfl rfl ?_
   by_cases k1:o.kind=1
   ·refine B6 (by show (o.kind==1)=true;rw [k1];rfl) ?_
    refine hc.c 1 rfl rfl ?_
    obtain⟨S1,Sa,h1,h2,h3,hO⟩:=hc.row
    have pl:=A1x gf (l.map txW) hF (by rw [List.length_map];omega) o.i Sa _ (fun x hx=>hc.ctx.lt x (h2 x hx).1) (hw.free hc.below h2) hO
    rw [hik,A5z hg hkl,B3G hg hkl,<-hv] at pl
    refine⟨(hik▸pl).mono fun en wq hq=>?_⟩
    clear pl
    obtain⟨x3,e1,hT,Sn,hSn,hO⟩:=hq.thing
    have hc:=hc.turnO sR h1 h2 h3 hT hSn hO (Vc.Sep.stab (WdR.stab _ _) (FlockK.stab _ _))
    have hc:=hc.now (fun h=>Vc.Sep.assoc sR (WdR.stab _ _) h) (Vc.Sep.stab (sR.and (WdR.stab _ _)) (FlockK.stab _ _))
    have hc:=hc.now (X:=Vc.Sep w.heap.size (fun S w=>WsR l css S w/\WdR v x3 S w) (FlockK gf ((A8D l k).map txW))) (fun h=>h.mono (fun _ h=>⟨h.1.1,h.2⟩) fun _ h=>h) (Vc.Sep.stab ((WsR.stab _ _).and (WdR.stab _ _)) (FlockK.stab _ _))
    refine⟨_,e1,?_⟩
    refine hc.s 0 rfl fun wS hS hc=>?_
    have hc:=B8 hc (l':=[(g11,35,wdC v x3),(g8,53,opW o y)]) (by kernel_rfl)
    obtain⟨S1,Sa,h1,h2,h3,hO⟩:=hc.row
    obtain⟨xx,hxx,hWx⟩:=h3.1.get k hkl
    rw [<-hv] at hxx hWx
    have hWF:=h3.1.flat
    have hWl:=h3.1.len
    have sR2:Stab (fun S w=>(WsR l css S w/\WdR v x3 S w)/\WdR v xx S w):=((WsR.stab _ _).and (WdR.stab _ _)).and (WdR.stab _ _)
    have hc:=hc.now (X:=Vc.Sep w.heap.size (fun S w=>(WsR l css S w/\WdR v x3 S w)/\WdR v xx S w) (FlockK gf (((A8D l k)).map txW))) (fun _=>⟨S1,Sa,h1,h2,⟨h3,hWx⟩,hO⟩) (Vc.Sep.stab sR2 (FlockK.stab _ _))
    obtain⟨S9,hrow⟩:=A24 hc
    obtain⟨aC,rfl,_⟩:=Row.elemF hrow (by decide) hWF k (by omega)
    have hi1:o.i.toNat=k:=by omega
    have hq2:=fun w' S h1 h2=>F9 v v x3 xx S S w' h1 h2
    rw [M4.2 rfl] at hq2
    have hr:=hc
    refine vD (.Q [0,1,2,3,4,5,6,7,8,9,10,11] (.n 12 (.Q [13,14,15,16,17,18,19,20,21] (.n 22 (.Q [23,24,25] .fin) .stop)) .stop)) (Old _) (Old.start _) ?_
    have hk:=hc.old0
    have hc:=hc.drew
    first | refine B4 (by first | rfl | exact hbb | (rw [hbb];rfl)) ?_ | refine B6 (by first | rfl | exact hbb | (rw [hbb];rfl)) ?_ | skip
    first | refine B4 (by first | rfl | exact hbb | (rw [hbb];rfl)) ?_ | refine B6 (by first | rfl | exact hbb | (rw [hbb];rfl)) ?_ | skip
    refine⟨wdC v x3,rfl,fun x hx=>Keeps.cells hx (hr.blk 0 rfl) (hr.blk 0 rfl).lt,?_⟩
    refine⟨_,fun x hx=>Keeps.cell hx (hr.blk 1 rfl) (hr.blk 1 rfl).lt rfl,?_⟩
    refine⟨⟨by omega,by omega⟩,?_⟩
    refine⟨wdC v xx,rfl,fun z hz=>by rw [hi1];exact Old.looks hz (A2R hr hWF (by decide) hxx),?_⟩
    refine⟨hc.q (hq2 _ _ (hc.row.left sR2).1.2 (hc.row.left sR2).2) fun wA hA hc=>?_,trivial⟩
    have hk:=Keeps.below hk (fun _ h=>h) hA
    refine⟨hk,?_⟩
    first | refine B4 (by first | rfl | exact hbb | (rw [hbb];rfl)) ?_ | refine B6 (by first | rfl | exact hbb | (rw [hbb];rfl)) ?_ | skip
    first | refine B4 (by first | rfl | exact hbb | (rw [hbb];rfl)) ?_ | refine B6 (by first | rfl | exact hbb | (rw [hbb];rfl)) ?_ | skip
    refine⟨?_,trivial⟩
    first | refine B4 (by first | rfl | exact hbb | (rw [hbb];rfl)) ?_ | refine B6 (by first | rfl | exact hbb | (rw [hbb];rfl)) ?_ | skip
    first | refine B4 (by first | rfl | exact hbb | (rw [hbb];rfl)) ?_ | refine B6 (by first | rfl | exact hbb | (rw [hbb];rfl)) ?_ | skip
    refine hc.c 1 rfl rfl ?_
    refine B6 (by show (o.kind==1)=true;rw [k1];rfl) ?_
    refine hc.c 1 rfl rfl ?_
    refine⟨⟨by omega,by omega⟩,?_⟩
    refine⟨wdC v xx,rfl,by rw [hi1];exact A2R hc hWF (by decide) hxx,?_⟩
    refine hc.q (hPv _ xx ((hc.row.left sR2).2.sub fun _ _=>trivial) (hw.below hc.below)) fun wQ hQ hc=>?_
    have hw1:IntKind.i64.wrap (o.i+1)=((k+1:Nat):Int):=by rw [hik,IntWalk.i64_in _ ⟨by omega,by omega⟩];omega
    have hnc:=hrow.1
    refine vD (.Q [0,1,2,3,5,6,7,8,9] (.n 4 (.n 10 (.q 11 .fin) .stop) .stop)) (fun z=>Blk z g8 53 (opW o y)) (hc.blk 1 rfl) ?_
    have hc:=hc.drew
    refine⟨.int .i64 o.i,fun z hz=>(Blk.cell hz 1).trans rfl,?_⟩
    refine⟨⟨by omega,by omega,by omega,by omega⟩,?_⟩
    refine⟨.int .i64 o.i,fun z hz=>(Blk.cell hz 1).trans rfl,?_⟩
    refine⟨⟨by rw [hw1];omega,by rw [hw1];omega,by omega,by omega⟩,?_⟩
    refine⟨?_,trivial⟩
    obtain⟨S8,hrow⟩:=A24 hc
    refine A1I Tryz.underlying51 A9K rfl (by decide) (hc.nil 35 21) (B:=some aC) (m:=k) (c:=cc) (ys:=(css.take k).flatten) (by rw [hWF.flat_take];exact Row.front hrow 21 (by omega)) (by rw [(hWF.take k).len,List.length_take,Nat.min_eq_left (by omega)]) (hWF.take k).ones (by omega) (by decide) rfl (by
     show Value.slice (if (cc:Int)=0 then some aC else (some aC).map (·.add ((0:Int).toNat*21))) (o.i-0).toNat ((cc:Int)-0).toNat=_
     rw [N2,hik]
     congr 1<;>omega) ?_
    intro A2 c2 w2 hc
    refine⟨(hc.blk 1 rfl),?_⟩
    refine⟨?_,trivial⟩
    obtain⟨S8,hrow⟩:=A24 hc.rest
    refine A1I Tryz.underlying51 A9K rfl (by decide) hc (Row.rest hrow (k:=21) hWl hWF (k+1) (by omega)) (by rw [(hWF.drop (k+1)).len,List.length_drop,hWl]) (hWF.drop (k+1)).ones (by omega) (by decide) rfl (by
     show Value.slice (if (cc:Int)=IntKind.i64.wrap (o.i+1) then some aC else (some aC).map (·.add ((IntKind.i64.wrap (o.i+1)).toNat*21))) ((l.length:Int)-IntKind.i64.wrap (o.i+1)).toNat ((cc:Int)-IntKind.i64.wrap (o.i+1)).toNat=_
     rw [hw1]
     congr 1<;>omega) ?_
    intro A3 c3 w3 hc
    have hc:=hc.swap.rest
    refine⟨(hc.blk 1 rfl),?_⟩
    have hg2:=hg.del k
    have hz1:=B3H hkl
    rw [<-hv] at hz1
    have hz2:=A50 hg
    have hZ:IntKind.i64.wrap (((H4 l:Nat):Int)-(((txW v).size:Nat):Int))=((H4 (A8D l k):Nat):Int):=by rw [hz1,IntWalk.i64_in _ ⟨by omega,by omega⟩];omega
    have hn:(A8D l k).length=0+k+(l.length-(k+1)):=by rw [B43 hkl];omega
    have hc:=hc.castOs (os':=[⟨35,21,A3,(A8D l k).length,c3,(css.take k++css.drop (k+1)).flatten⟩]) (by rw [hn,List.flatten_append,List.nil_append])
    have hc:=hc.now (X:=Vc.Sep w.heap.size (WsR (A8D l k) (css.take k++css.drop (k+1))) (FlockK gf ((A8D l k).map txW))) (fun h=>h.mono (fun _ h=>(h.1.1.take k).append (h.1.1.drop (k+1))) fun _ h=>h) (Vc.Sep.stab (WsR.stab _ _) (FlockK.stab _ _))
    refine hc.q (J2 gf _ _ _ (hc.row.right (FlockK.stab _ _))) fun wQ hQ hc=>?_
    refine B4 (by rw [List.length_map,hn];exact bne_self_eq_false _) ?_
    refine hc.q (K3 gf _ (I7 hg2) (by rw [List.length_map];omega) _ _ hc.ctx.lt (hc.row.right (FlockK.stab _ _))) fun wQ hQ hc=>?_
    refine B4 (by rw [hZ];exact bne_self_eq_false _) ?_
    exact⟨(i+1,(A8D l k),A3,c3),⟨rfl,rfl,congrArg (fun n=>Value.slice A3 n c3) (hn).symm,congrArg (Value.int .i64) hZ,congrArg _ (C1 (by omega)),trivial⟩,⟨hlt,by omega,by omega,hg2,(css.take k++css.drop (k+1)),_,hc.drop.drop⟩,by show 40-(i+1)<40-i;omega⟩
   ·refine B4 (by show (o.kind==1)=false;rw [beq_eq_false_iff_ne];exact k1) ?_
    obtain⟨S1,Sa,h1,h2,h3,hO⟩:=hc.row
    obtain⟨xx,hxx,hWx⟩:=h3.1.get k hkl
    rw [<-hv] at hxx hWx
    have hWF:=h3.1.flat
    have hWl:=h3.1.len
    have sR2:Stab (fun S w=>(WsR l css S w/\WdR v x2 S w)/\WdR v xx S w):=((WsR.stab _ _).and (WdR.stab _ _)).and (WdR.stab _ _)
    have hc:=hc.now (X:=Vc.Sep w.heap.size (fun S w=>(WsR l css S w/\WdR v x2 S w)/\WdR v xx S w) (FlockK gf ((l).map txW))) (fun _=>⟨S1,Sa,h1,h2,⟨h3,hWx⟩,hO⟩) (Vc.Sep.stab sR2 (FlockK.stab _ _))
    obtain⟨S9,hrow⟩:=A24 hc
    obtain⟨aC,rfl,_⟩:=Row.elemF hrow (by decide) hWF k (by omega)
    have hi1:o.i.toNat=k:=by omega
    have hq2:=fun w' S h1 h2=>F9 v v x2 xx S S w' h1 h2
    rw [M4.2 rfl] at hq2
    have hr:=hc
    refine vD (.Q [0,1,2,3,4,5,6,7,8,9,10,11] (.n 12 (.Q [13,14,15,16,17,18,19,20,21] (.n 22 (.Q [23,24,25] .fin) .stop)) .stop)) (Old _) (Old.start _) ?_
    have hk:=hc.old0
    have hc:=hc.drew
    first | refine B4 (by first | rfl | exact hbb | (rw [hbb];rfl)) ?_ | refine B6 (by first | rfl | exact hbb | (rw [hbb];rfl)) ?_ | skip
    first | refine B4 (by first | rfl | exact hbb | (rw [hbb];rfl)) ?_ | refine B6 (by first | rfl | exact hbb | (rw [hbb];rfl)) ?_ | skip
    refine⟨wdC v x2,rfl,fun x hx=>Keeps.cells hx (hr.blk 0 rfl) (hr.blk 0 rfl).lt,?_⟩
    refine⟨_,fun x hx=>Keeps.cell hx (hr.blk 1 rfl) (hr.blk 1 rfl).lt rfl,?_⟩
    refine⟨⟨by omega,by omega⟩,?_⟩
    refine⟨wdC v xx,rfl,fun z hz=>by rw [hi1];exact Old.looks hz (A2R hr hWF (by decide) hxx),?_⟩
    refine⟨hc.q (hq2 _ _ (hc.row.left sR2).1.2 (hc.row.left sR2).2) fun wA hA hc=>?_,trivial⟩
    have hk:=Keeps.below hk (fun _ h=>h) hA
    refine⟨hk,?_⟩
    first | refine B4 (by first | rfl | exact hbb | (rw [hbb];rfl)) ?_ | refine B6 (by first | rfl | exact hbb | (rw [hbb];rfl)) ?_ | skip
    first | refine B4 (by first | rfl | exact hbb | (rw [hbb];rfl)) ?_ | refine B6 (by first | rfl | exact hbb | (rw [hbb];rfl)) ?_ | skip
    refine⟨?_,trivial⟩
    first | refine B4 (by first | rfl | exact hbb | (rw [hbb];rfl)) ?_ | refine B6 (by first | rfl | exact hbb | (rw [hbb];rfl)) ?_ | skip
    first | refine B4 (by first | rfl | exact hbb | (rw [hbb];rfl)) ?_ | refine B6 (by first | rfl | exact hbb | (rw [hbb];rfl)) ?_ | skip
    refine hc.c 1 rfl rfl ?_
    refine B4 (by show (o.kind==1)=false;rw [beq_eq_false_iff_ne];exact k1) ?_
    have hc:=hc.now (X:=Vc.Sep w.heap.size (WsR l css) (FlockK gf (l.map txW))) (fun h=>h.mono (fun _ h=>h.1.1) fun _ h=>h) (Vc.Sep.stab (WsR.stab _ _) (FlockK.stab _ _))
    refine hc.q (J2 gf _ _ _ (hc.row.right (FlockK.stab _ _))) fun wQ hQ hc=>?_
    refine B4 (by rw [List.length_map,(rfl:l.length=l.length)];exact bne_self_eq_false _) ?_
    refine hc.q (K3 gf _ (I7 hg) (by rw [List.length_map];omega) _ _ hc.ctx.lt (hc.row.right (FlockK.stab _ _))) fun wQ hQ hc=>?_
    refine B4 (by rw [(rfl:((H4 l:Nat):Int)=((H4 l:Nat):Int))];exact bne_self_eq_false _) ?_
    exact⟨(i+1,l,(some aC),cc),⟨rfl,rfl,congrArg (fun n=>Value.slice (some aC) n cc) ((rfl:l.length=l.length)).symm,congrArg (Value.int .i64) (rfl:((H4 l:Nat):Int)=((H4 l:Nat):Int)),congrArg _ (C1 (by omega)),trivial⟩,⟨hlt,by omega,by omega,hg,css,_,hc.drop.drop⟩,by show 40-(i+1)<40-i;omega⟩
  | false=>
   have b1:=of_decide_eq_false hbb0
   have hout:o.i<0\/(l.length:Int)<=o.i:=.inr (by omega)
   refine B4 (by show (o.kind==0)=false;rw [beq_eq_false_iff_ne];exact k0) ?_
   refine hc.c 0 rfl rfl ?_
   have pk:=X1 gf (l.map txW) hF o.i _ _ hc.ctx.lt (hw.below hc.below) (hc.row.right (FlockK.stab _ _))
   rw [A1y hout] at pk
   refine⟨pk.mono fun en wq hq=>?_⟩
   clear pk
   obtain⟨x2,e1,hb,hr⟩:=hq
   have hc:=hc.sepKnow (WsR.stab _ _) (FlockK.stab _ _) hb hr (WdR.stab _ _)
   have sR:Stab (fun S w=>WsR l css S w/\WdR Wd0 x2 S w):=(WsR.stab _ _).and (WdR.stab _ _)
   refine⟨_,e1,?_⟩
   refine hc.n fun g11 wg11 hg11 hc=>?_
   rw [L7] at hc
   refine hc.s 0 rfl fun wS hS hc=>?_
   have hc:=B8 hc (l':=[(g11,35,wdC Wd0 x2),(g8,53,opW o y)]) (by kernel_rfl)
   refine hc.c 1 rfl rfl ?_
   by_cases k1:o.kind=1
   ·refine B6 (by show (o.kind==1)=true;rw [k1];rfl) ?_
    refine hc.c 1 rfl rfl ?_
    obtain⟨S1,Sa,h1,h2,h3,hO⟩:=hc.row
    have pl:=A1x gf (l.map txW) hF (by rw [List.length_map];omega) o.i Sa _ (fun x hx=>hc.ctx.lt x (h2 x hx).1) (hw.free hc.below h2) hO
    rw [A1y hout,A9J hout] at pl
    refine⟨pl.mono fun en wq hq=>?_⟩
    clear pl
    obtain⟨x3,e1,hT,Sn,hSn,hO⟩:=hq.thing
    have hc:=hc.turnO sR h1 h2 h3 hT hSn hO (Vc.Sep.stab (WdR.stab _ _) (FlockK.stab _ _))
    have hc:=hc.now (fun h=>Vc.Sep.assoc sR (WdR.stab _ _) h) (Vc.Sep.stab (sR.and (WdR.stab _ _)) (FlockK.stab _ _))
    have hc:=hc.now (X:=Vc.Sep w.heap.size (fun S w=>WsR l css S w/\WdR Wd0 x3 S w) (FlockK gf (l.map txW))) (fun h=>h.mono (fun _ h=>⟨h.1.1,h.2⟩) fun _ h=>h) (Vc.Sep.stab ((WsR.stab _ _).and (WdR.stab _ _)) (FlockK.stab _ _))
    refine⟨_,e1,?_⟩
    refine hc.s 0 rfl fun wS hS hc=>?_
    have hc:=B8 hc (l':=[(g11,35,wdC Wd0 x3),(g8,53,opW o y)]) (by kernel_rfl)
    have hr:=hc
    refine vD (.Q [0,1,2,3,4,5,6,7,8,9,10,11] (.n 12 (.Q [13,14,15,16,17,18,19,20,21] (.n 22 (.Q [23,24,25] .fin) .stop)) .stop)) (Old _) (Old.start _) ?_
    have hk:=hc.old0
    have hc:=hc.drew
    first | refine B4 (by first | rfl | exact hbb | (rw [hbb];rfl)) ?_ | skip
    first | refine B4 (by first | rfl | exact hbb | (rw [hbb];rfl)) ?_ | skip
    refine⟨?_,trivial⟩
    first | refine B4 (by first | rfl | exact hbb | (rw [hbb];rfl)) ?_ | skip
    first | refine B6 (by first | rfl | exact hbb | (rw [hbb];rfl)) ?_ | skip
    refine⟨wdC Wd0 x3,rfl,fun x hx=>Keeps.cells hx (hr.blk 0 rfl) (hr.blk 0 rfl).lt,?_⟩
    have hq2:=F9 Wd0 Wd0 x3 WX0 _ no _ (hc.row.left ((WsR.stab _ _).and (WdR.stab _ _))).2 (V2 no _)
    rw [M4.2 rfl] at hq2
    have hq3:Calls Tryz.prog 15 [Value.agg (wdC Wd0 x3).toArray,Value.agg (wdC Wd0 WX0).toArray].toArray _ (C7 (.bool true) _):=hq2
    refine⟨hc.q (hq3) fun wA hA hc=>?_,trivial⟩
    have hk:=Keeps.below hk (fun _ h=>h) hA
    refine⟨hk,?_⟩
    first | refine B4 (by first | rfl | exact hbb | (rw [hbb];rfl)) ?_ | skip
    first | refine B4 (by first | rfl | exact hbb | (rw [hbb];rfl)) ?_ | skip
    have hc:=hc.now (X:=Vc.Sep w.heap.size (WsR l css) (FlockK gf (l.map txW))) (fun h=>h.mono (fun _ h=>h.1) fun _ h=>h) (Vc.Sep.stab (WsR.stab _ _) (FlockK.stab _ _))
    refine hc.q (J2 gf _ _ _ (hc.row.right (FlockK.stab _ _))) fun wQ hQ hc=>?_
    refine B4 (by rw [List.length_map,(rfl:l.length=l.length)];exact bne_self_eq_false _) ?_
    refine hc.q (K3 gf _ (I7 hg) (by rw [List.length_map];omega) _ _ hc.ctx.lt (hc.row.right (FlockK.stab _ _))) fun wQ hQ hc=>?_
    refine B4 (by rw [(rfl:((H4 l:Nat):Int)=((H4 l:Nat):Int))];exact bne_self_eq_false _) ?_
    exact⟨(i+1,l,C,cc),⟨rfl,rfl,congrArg (fun n=>Value.slice C n cc) ((rfl:l.length=l.length)).symm,congrArg (Value.int .i64) (rfl:((H4 l:Nat):Int)=((H4 l:Nat):Int)),congrArg _ (C1 (by omega)),trivial⟩,⟨hlt,by omega,by omega,hg,css,_,hc.drop.drop⟩,by show 40-(i+1)<40-i;omega⟩
   ·refine B4 (by show (o.kind==1)=false;rw [beq_eq_false_iff_ne];exact k1) ?_
    have hr:=hc
    refine vD (.Q [0,1,2,3,4,5,6,7,8,9,10,11] (.n 12 (.Q [13,14,15,16,17,18,19,20,21] (.n 22 (.Q [23,24,25] .fin) .stop)) .stop)) (Old _) (Old.start _) ?_
    have hk:=hc.old0
    have hc:=hc.drew
    first | refine B4 (by first | rfl | exact hbb | (rw [hbb];rfl)) ?_ | skip
    first | refine B4 (by first | rfl | exact hbb | (rw [hbb];rfl)) ?_ | skip
    refine⟨?_,trivial⟩
    first | refine B4 (by first | rfl | exact hbb | (rw [hbb];rfl)) ?_ | skip
    first | refine B6 (by first | rfl | exact hbb | (rw [hbb];rfl)) ?_ | skip
    refine⟨wdC Wd0 x2,rfl,fun x hx=>Keeps.cells hx (hr.blk 0 rfl) (hr.blk 0 rfl).lt,?_⟩
    have hq2:=F9 Wd0 Wd0 x2 WX0 _ no _ (hc.row.left ((WsR.stab _ _).and (WdR.stab _ _))).2 (V2 no _)
    rw [M4.2 rfl] at hq2
    have hq3:Calls Tryz.prog 15 [Value.agg (wdC Wd0 x2).toArray,Value.agg (wdC Wd0 WX0).toArray].toArray _ (C7 (.bool true) _):=hq2
    refine⟨hc.q (hq3) fun wA hA hc=>?_,trivial⟩
    have hk:=Keeps.below hk (fun _ h=>h) hA
    refine⟨hk,?_⟩
    first | refine B4 (by first | rfl | exact hbb | (rw [hbb];rfl)) ?_ | skip
    first | refine B4 (by first | rfl | exact hbb | (rw [hbb];rfl)) ?_ | skip
    have hc:=hc.now (X:=Vc.Sep w.heap.size (WsR l css) (FlockK gf (l.map txW))) (fun h=>h.mono (fun _ h=>h.1) fun _ h=>h) (Vc.Sep.stab (WsR.stab _ _) (FlockK.stab _ _))
    refine hc.q (J2 gf _ _ _ (hc.row.right (FlockK.stab _ _))) fun wQ hQ hc=>?_
    refine B4 (by rw [List.length_map,(rfl:l.length=l.length)];exact bne_self_eq_false _) ?_
    refine hc.q (K3 gf _ (I7 hg) (by rw [List.length_map];omega) _ _ hc.ctx.lt (hc.row.right (FlockK.stab _ _))) fun wQ hQ hc=>?_
    refine B4 (by rw [(rfl:((H4 l:Nat):Int)=((H4 l:Nat):Int))];exact bne_self_eq_false _) ?_
    exact⟨(i+1,l,C,cc),⟨rfl,rfl,congrArg (fun n=>Value.slice C n cc) ((rfl:l.length=l.length)).symm,congrArg (Value.int .i64) (rfl:((H4 l:Nat):Int)=((H4 l:Nat):Int)),congrArg _ (C1 (by omega)),trivial⟩,⟨hlt,by omega,by omega,hg,css,_,hc.drop.drop⟩,by show 40-(i+1)<40-i;omega⟩
 ·refine df b0 ?_
  have hbb:=decide_eq_false b0
  have hout:o.i<0\/(l.length:Int)<=o.i:=.inl (by omega)
  refine hc.c 0 rfl rfl ?_
  by_cases k0:o.kind=0
  ·skip
   refine B6 (by show (o.kind==0)=true;rw [k0];rfl) ?_
   refine⟨wdC o.v y,rfl,hc.cellsAt 0 rfl 2 (wdC o.v y) rfl,?_⟩
   refine⟨(hwv (inW w) _ (hWy.below hc.below)).mono fun en wq hq=>?_⟩
   obtain⟨x1,e1,hb,hrep⟩:=hq
   have hc:=hc.sepKnow (WsR.stab _ _) (FlockK.stab _ _) hb hrep (WdR.stab _ _)
   have sR:Stab (fun S w=>WsR l css S w/\WdR v x1 S w):=(WsR.stab _ _).and (WdR.stab _ _)
   refine⟨_,e1,?_⟩
   refine hc.n fun g10 wg10 hg10 hc=>?_
   rw [L7] at hc
   refine hc.s 0 rfl fun wS hS hc=>?_
   have hc:=B8 hc (l':=[(g10,35,wdC v x1),(g8,53,opW o y)]) (by kernel_rfl)
   refine vD (.Q [0,1,3] (.n 2 (.n 4 (.q 5 .fin) .stop) .stop)) (fun z=>Blk z g10 35 (wdC v x1)) (hc.blk 0 rfl) ?_
   have hc:=hc.drew
   refine⟨wdC v x1,rfl,fun z hz=>Blk.part hz 0 (wdC v x1) rfl,?_⟩
   refine⟨wdC v x1,rfl,fun z hz=>Blk.part hz 0 (wdC v x1) rfl,?_⟩
   refine⟨?_,trivial⟩
   obtain⟨S1,Sa,h1,h2,h3,hO⟩:=hc.row
   have sy:=A0e gf (l.map txW) v kv.bare x1 S1 Sa _ h3.2 (fun x hx=>hc.ctx.lt x (h2 x hx).1) (hw.free hc.below h2) hO
   rw [B8X (by omega)] at sy
   refine⟨sy.mono fun en wq hq=>?_⟩
   clear sy
   obtain⟨e1,hT,Sn,hSn,hO⟩:=hq
   have hc:=hc.turnO sR h1 h2 h3 hT hSn hO (FlockK.stab _ _)
   refine⟨_,e1,(hc.blk 0 rfl),?_⟩
   refine⟨hc.q (K9 v kv x1 _ _ (hc.row.left sR).2) fun wQ hQ hc=>?_,trivial⟩
   refine⟨(hc.blk 0 rfl),?_⟩
   refine B4 (by cases J5 v<;>rfl) ?_
   refine⟨wdC v x1,rfl,hc.cells 0 rfl,?_⟩
   have hM:=K9 v kv x1 _ _ (hc.row.left sR).2
   have hP:∀ w,WdR v x1 (fun _=>True) w->Env w->Calls Tryz.prog 16 #[.agg (wdC v x1).toArray] w (C7 (.string (txW v)) w):=fun w=>K8 v kv.bare x1 (fun _=>True) w
   cases hm:J5 v with
   | false=>
    rw [hm] at hM
    refine hc.q (hM) fun wQ hQ hc=>?_
    rw [A8E hm] at hc
    have hc:=hc.now (X:=Vc.Sep w.heap.size (WsR l css) (FlockK gf (l.map txW))) (fun h=>h.mono (fun _ h=>h.1) fun _ h=>h) (Vc.Sep.stab (WsR.stab _ _) (FlockK.stab _ _))
    refine hc.q (J2 gf _ _ _ (hc.row.right (FlockK.stab _ _))) fun wQ hQ hc=>?_
    refine B4 (by rw [List.length_map,(rfl:l.length=l.length)];exact bne_self_eq_false _) ?_
    refine hc.q (K3 gf _ (I7 hg) (by rw [List.length_map];omega) _ _ hc.ctx.lt (hc.row.right (FlockK.stab _ _))) fun wQ hQ hc=>?_
    refine B4 (by rw [(rfl:((H4 l:Nat):Int)=((H4 l:Nat):Int))];exact bne_self_eq_false _) ?_
    exact⟨(i+1,l,C,cc),⟨rfl,rfl,congrArg (fun n=>Value.slice C n cc) ((rfl:l.length=l.length)).symm,congrArg (Value.int .i64) (rfl:((H4 l:Nat):Int)=((H4 l:Nat):Int)),congrArg _ (C1 (by omega)),trivial⟩,⟨hlt,by omega,by omega,hg,css,_,hc.drop.drop⟩,by show 40-(i+1)<40-i;omega⟩
   | true=>
    rw [hm] at hM
    refine hc.q (hM) fun wQ hQ hc=>?_
    rw [A51 hm] at hc
    refine⟨wdC v x1,rfl,hc.cells 0 rfl,?_⟩
    refine hc.n fun gv wgv hgv hc=>?_
    refine D1 Tryz.underlying51 A9K rfl (by decide) hc (ys:=wdC v x1) (m:=1) rfl (hc.cells 0 rfl) rfl (by omega) (by decide) rfl rfl ?_
    intro A3 c3 w11 hc
    have hc:=hc.drop
    refine⟨wdC v x1,rfl,hc.cells 0 rfl,?_⟩
    refine hc.q (hP _ ((hc.row.left sR).2.sub fun _ _=>trivial) (hw.below hc.below)) fun wQ hQ hc=>?_
    have hg2:=hg.snoc kv hm
    have hz1:=A4z l v
    have hz2:=A50 hg
    have hz3:=R0 kv
    have hZ:IntKind.i64.wrap (((H4 l:Nat):Int)+(((txW v).size:Nat):Int))=((H4 (l++[v]):Nat):Int):=by rw [hz1,IntWalk.i64_in _ ⟨by omega,by omega⟩];omega
    have hn:(l++[v]).length=l.length+1:=by rw [List.length_append];rfl
    have hc:=hc.castOs (os':=[⟨35,21,A3,(l++[v]).length,c3,(css++[wdC v x1]).flatten⟩]) (by rw [hn,List.flatten_append,List.flatten_singleton])
    have hc:=hc.now (X:=Vc.Sep w.heap.size (WsR (l++[v]) (css++[wdC v x1])) (FlockK gf ((l++[v]).map txW))) (fun h=>h.mono (fun _ h=>h.1.snoc h.2) fun _ h=>h) (Vc.Sep.stab (WsR.stab _ _) (FlockK.stab _ _))
    refine hc.q (J2 gf _ _ _ (hc.row.right (FlockK.stab _ _))) fun wQ hQ hc=>?_
    refine B4 (by rw [List.length_map,hn];exact bne_self_eq_false _) ?_
    refine hc.q (K3 gf _ (I7 hg2) (by rw [List.length_map];omega) _ _ hc.ctx.lt (hc.row.right (FlockK.stab _ _))) fun wQ hQ hc=>?_
    refine B4 (by rw [hZ];exact bne_self_eq_false _) ?_
    exact⟨(i+1,(l++[v]),A3,c3),⟨rfl,rfl,congrArg (fun n=>Value.slice A3 n c3) (hn).symm,congrArg (Value.int .i64) hZ,congrArg _ (C1 (by omega)),trivial⟩,⟨hlt,by omega,by omega,hg2,(css++[wdC v x1]),_,hc.drop.drop⟩,by show 40-(i+1)<40-i;omega⟩
  clear hv hwv kv v
  refine B4 (by show (o.kind==0)=false;rw [beq_eq_false_iff_ne];exact k0) ?_
  refine hc.c 0 rfl rfl ?_
  have pk:=X1 gf (l.map txW) hF o.i _ _ hc.ctx.lt (hw.below hc.below) (hc.row.right (FlockK.stab _ _))
  rw [A1y hout] at pk
  refine⟨pk.mono fun en wq hq=>?_⟩
  clear pk
  obtain⟨x2,e1,hb,hr⟩:=hq
  have hc:=hc.sepKnow (WsR.stab _ _) (FlockK.stab _ _) hb hr (WdR.stab _ _)
  have sR:Stab (fun S w=>WsR l css S w/\WdR Wd0 x2 S w):=(WsR.stab _ _).and (WdR.stab _ _)
  refine⟨_,e1,?_⟩
  refine hc.n fun g11 wg11 hg11 hc=>?_
  rw [L7] at hc
  refine hc.s 0 rfl fun wS hS hc=>?_
  have hc:=B8 hc (l':=[(g11,35,wdC Wd0 x2),(g8,53,opW o y)]) (by kernel_rfl)
  refine hc.c 1 rfl rfl ?_
  by_cases k1:o.kind=1
  ·refine B6 (by show (o.kind==1)=true;rw [k1];rfl) ?_
   refine hc.c 1 rfl rfl ?_
   obtain⟨S1,Sa,h1,h2,h3,hO⟩:=hc.row
   have pl:=A1x gf (l.map txW) hF (by rw [List.length_map];omega) o.i Sa _ (fun x hx=>hc.ctx.lt x (h2 x hx).1) (hw.free hc.below h2) hO
   rw [A1y hout,A9J hout] at pl
   refine⟨pl.mono fun en wq hq=>?_⟩
   clear pl
   obtain⟨x3,e1,hT,Sn,hSn,hO⟩:=hq.thing
   have hc:=hc.turnO sR h1 h2 h3 hT hSn hO (Vc.Sep.stab (WdR.stab _ _) (FlockK.stab _ _))
   have hc:=hc.now (fun h=>Vc.Sep.assoc sR (WdR.stab _ _) h) (Vc.Sep.stab (sR.and (WdR.stab _ _)) (FlockK.stab _ _))
   have hc:=hc.now (X:=Vc.Sep w.heap.size (fun S w=>WsR l css S w/\WdR Wd0 x3 S w) (FlockK gf (l.map txW))) (fun h=>h.mono (fun _ h=>⟨h.1.1,h.2⟩) fun _ h=>h) (Vc.Sep.stab ((WsR.stab _ _).and (WdR.stab _ _)) (FlockK.stab _ _))
   refine⟨_,e1,?_⟩
   refine hc.s 0 rfl fun wS hS hc=>?_
   have hc:=B8 hc (l':=[(g11,35,wdC Wd0 x3),(g8,53,opW o y)]) (by kernel_rfl)
   have hr:=hc
   refine vD (.Q [0,1,2,3,4,5,6,7,8,9,10,11] (.n 12 (.Q [13,14,15,16,17,18,19,20,21] (.n 22 (.Q [23,24,25] .fin) .stop)) .stop)) (Old _) (Old.start _) ?_
   have hk:=hc.old0
   have hc:=hc.drew
   first | refine B4 (by first | rfl | exact hbb | (rw [hbb];rfl)) ?_ | skip
   first | refine B4 (by first | rfl | exact hbb | (rw [hbb];rfl)) ?_ | skip
   refine⟨?_,trivial⟩
   first | refine B4 (by first | rfl | exact hbb | (rw [hbb];rfl)) ?_ | skip
   first | refine B6 (by first | rfl | exact hbb | (rw [hbb];rfl)) ?_ | skip
   refine⟨wdC Wd0 x3,rfl,fun x hx=>Keeps.cells hx (hr.blk 0 rfl) (hr.blk 0 rfl).lt,?_⟩
   have hq2:=F9 Wd0 Wd0 x3 WX0 _ no _ (hc.row.left ((WsR.stab _ _).and (WdR.stab _ _))).2 (V2 no _)
   rw [M4.2 rfl] at hq2
   have hq3:Calls Tryz.prog 15 [Value.agg (wdC Wd0 x3).toArray,Value.agg (wdC Wd0 WX0).toArray].toArray _ (C7 (.bool true) _):=hq2
   refine⟨hc.q (hq3) fun wA hA hc=>?_,trivial⟩
   have hk:=Keeps.below hk (fun _ h=>h) hA
   refine⟨hk,?_⟩
   first | refine B4 (by first | rfl | exact hbb | (rw [hbb];rfl)) ?_ | skip
   first | refine B4 (by first | rfl | exact hbb | (rw [hbb];rfl)) ?_ | skip
   have hc:=hc.now (X:=Vc.Sep w.heap.size (WsR l css) (FlockK gf (l.map txW))) (fun h=>h.mono (fun _ h=>h.1) fun _ h=>h) (Vc.Sep.stab (WsR.stab _ _) (FlockK.stab _ _))
   refine hc.q (J2 gf _ _ _ (hc.row.right (FlockK.stab _ _))) fun wQ hQ hc=>?_
   refine B4 (by rw [List.length_map,(rfl:l.length=l.length)];exact bne_self_eq_false _) ?_
   refine hc.q (K3 gf _ (I7 hg) (by rw [List.length_map];omega) _ _ hc.ctx.lt (hc.row.right (FlockK.stab _ _))) fun wQ hQ hc=>?_
   refine B4 (by rw [(rfl:((H4 l:Nat):Int)=((H4 l:Nat):Int))];exact bne_self_eq_false _) ?_
   exact⟨(i+1,l,C,cc),⟨rfl,rfl,congrArg (fun n=>Value.slice C n cc) ((rfl:l.length=l.length)).symm,congrArg (Value.int .i64) (rfl:((H4 l:Nat):Int)=((H4 l:Nat):Int)),congrArg _ (C1 (by omega)),trivial⟩,⟨hlt,by omega,by omega,hg,css,_,hc.drop.drop⟩,by show 40-(i+1)<40-i;omega⟩
  ·refine B4 (by show (o.kind==1)=false;rw [beq_eq_false_iff_ne];exact k1) ?_
   have hr:=hc
   refine vD (.Q [0,1,2,3,4,5,6,7,8,9,10,11] (.n 12 (.Q [13,14,15,16,17,18,19,20,21] (.n 22 (.Q [23,24,25] .fin) .stop)) .stop)) (Old _) (Old.start _) ?_
   have hk:=hc.old0
   have hc:=hc.drew
   first | refine B4 (by first | rfl | exact hbb | (rw [hbb];rfl)) ?_ | skip
   first | refine B4 (by first | rfl | exact hbb | (rw [hbb];rfl)) ?_ | skip
   refine⟨?_,trivial⟩
   first | refine B4 (by first | rfl | exact hbb | (rw [hbb];rfl)) ?_ | skip
   first | refine B6 (by first | rfl | exact hbb | (rw [hbb];rfl)) ?_ | skip
   refine⟨wdC Wd0 x2,rfl,fun x hx=>Keeps.cells hx (hr.blk 0 rfl) (hr.blk 0 rfl).lt,?_⟩
   have hq2:=F9 Wd0 Wd0 x2 WX0 _ no _ (hc.row.left ((WsR.stab _ _).and (WdR.stab _ _))).2 (V2 no _)
   rw [M4.2 rfl] at hq2
   have hq3:Calls Tryz.prog 15 [Value.agg (wdC Wd0 x2).toArray,Value.agg (wdC Wd0 WX0).toArray].toArray _ (C7 (.bool true) _):=hq2
   refine⟨hc.q (hq3) fun wA hA hc=>?_,trivial⟩
   have hk:=Keeps.below hk (fun _ h=>h) hA
   refine⟨hk,?_⟩
   first | refine B4 (by first | rfl | exact hbb | (rw [hbb];rfl)) ?_ | skip
   first | refine B4 (by first | rfl | exact hbb | (rw [hbb];rfl)) ?_ | skip
   have hc:=hc.now (X:=Vc.Sep w.heap.size (WsR l css) (FlockK gf (l.map txW))) (fun h=>h.mono (fun _ h=>h.1) fun _ h=>h) (Vc.Sep.stab (WsR.stab _ _) (FlockK.stab _ _))
   refine hc.q (J2 gf _ _ _ (hc.row.right (FlockK.stab _ _))) fun wQ hQ hc=>?_
   refine B4 (by rw [List.length_map,(rfl:l.length=l.length)];exact bne_self_eq_false _) ?_
   refine hc.q (K3 gf _ (I7 hg) (by rw [List.length_map];omega) _ _ hc.ctx.lt (hc.row.right (FlockK.stab _ _))) fun wQ hQ hc=>?_
   refine B4 (by rw [(rfl:((H4 l:Nat):Int)=((H4 l:Nat):Int))];exact bne_self_eq_false _) ?_
   exact⟨(i+1,l,C,cc),⟨rfl,rfl,congrArg (fun n=>Value.slice C n cc) ((rfl:l.length=l.length)).symm,congrArg (Value.int .i64) (rfl:((H4 l:Nat):Int)=((H4 l:Nat):Int)),congrArg _ (C1 (by omega)),trivial⟩,⟨hlt,by omega,by omega,hg,css,_,hc.drop.drop⟩,by show 40-(i+1)<40-i;omega⟩
theorem A8F {H:Type} (enc:TypeId × Value->H) (W:World) (hw:Env W) {base:Nat}
  (v0:Value) (d0:DataW H) (p0:List MemPlace) (h0:DataW.Trod enc Tryz.prog W 0 (fun _=>true) true 48 v0 d0 p0) (k0:Value.okWide Tryz.prog W .any base 48 v0):
  Calls Tryz.prog 6 #[v0] W (C7 (.bool true) W):=by
 obtain⟨A0,c0,a0,rfl,r0,o0⟩:=B0S h0 k0
 exact B45 a0 A0 c0 o0 W hw r0
end Go.Proofs.YtfekddndgakneaaGreatDoor
