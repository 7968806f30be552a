import Derived.Test.YtefdfaeieekioaaGreatDoorM14
set_option maxRecDepth 100000
set_option maxHeartbeats 40000000
set_option linter.unusedVariables false
set_option linter.unusedSimpArgs false
/- Walk: armariumlaw13.LinkPass. -/
namespace Go.Proofs.YtefdfaeieekioaaGreatDoor
open Go.Vc Go.RowKit Go.Fl Go.ChangeShapes Go.WideShapes Go.ChangeAt
theorem C0e (a:D) (ox oy:Operand) (w:World):(do eqGuard BinOp.neq 45 ox oy (.agg (dC a).toArray) (.agg (dC a).toArray);Go.binOp BinOp.neq 45 (.agg (dC a).toArray) (.agg (dC a).toArray):Sem Value).run Tryz.prog w=.ok (.bool false) w:=by
 have h:=A1x A94 (B4O 9998 · a a) ox oy w
 rw [C0m.2 rfl] at h
 exact h
abbrev C0A (y:Int) (n:Nat):Int:=(IntKind.i64.wrap (y.tmod (n:Int)+(n:Int))).tmod (n:Int)
/-- A statement's deeds that may be: each of them, as it was cut. -/
def B9v (l:List D):List D:=(l.map B92).filter L3
theorem C0B (l:List D) (d:D):B9v (l++[d])=if L3 (B92 d) then B9v l++[B92 d] else B9v l:=by
 unfold B9v
 rw [List.map_append,List.filter_append]
 show _++[B92 d].filter L3=_
 cases h:L3 (B92 d) with
 | true=>rw [List.filter_cons_of_pos h];rfl
 | false=>rw [List.filter_cons_of_neg (by rw [h];decide)];simp
theorem C0V (l:List D):(B9v l).length<=l.length:=by
 unfold B9v
 exact Nat.le_trans (List.length_filter_le _ _) (by rw [List.length_map];exact Nat.le_refl _)
theorem C0f (ds:List D) (ol:List Int) (A B:Option Addr) (ca cb:Nat) (hdk:∀ d∈ds,d.Ok) (w:World) (hw:Env w) (hA:Row (inW w) w A ds.length ca (ds.map dC).flatten) (hB:Row (inW w) w B ol.length cb (ol.map fun n=>[Value.int .i64 n]).flatten):Calls Tryz.prog 8 #[.slice A ds.length ca,.slice B ol.length cb] w (C8 (.bool true) w):=by
 have hmA:=D4 hA
 have hmB:=D4 hB
 refine A2E lay_ok Tryz.func8 rfl (by kernel_rfl) (by kernel_rfl) ?_
 refine SemC.cut lay_ok (fun (x:Lg × Nat × Option Addr × Nat)=>[(0,.slice A ds.length ca),(1,.slice B ol.length cb),(6,.pointer (some ⟨x.1.gl,0,none⟩)),(7,.slice x.2.2.1 (B9v (ds.take x.2.1)).length x.2.2.2)]) (fun x w'=>∃ H S,x.2.1<=8/\Fit H 1/\H.k=⟨A4z,[],1,0⟩/\CtxF no w S w' [] [orD x.2.2.1 x.2.2.2 (B9v (ds.take x.2.1))] (Sep w.heap.size (fun _ _=>True) (LinkK x.1 (l2 H 1 100 [])))) 6 (by kernel_rfl) ?_ ?_
 ·have hc:=CtxF.start w no (fun _ h=>h.elim) (R:=fun _ _=>True) trivial Stab.true
  refine hc.q (A6n _ (hw.below hc.below)) fun wQ hQ hc=>?_
  refine⟨(A80 _ (hw.below hc.below)).mono fun en wq hq=>?_⟩
  obtain⟨g,H,e1,hb,hf,hk,hO⟩:=hq
  have hc:=hc.sepNew hb hO (LinkK.stab _ _)
  refine⟨_,e1,?_⟩
  refine⟨.bool false,fun w=>B7C g.gl _ _ w,?_⟩
  have hc:=hc.nil 45 8
  refine⟨Nat × Option Addr × Nat,fun (i,C,cc)=>[(0,.slice A ds.length ca),(1,.slice B ol.length cb),(6,.pointer (some ⟨g.gl,0,none⟩)),(7,.slice C (B9v (ds.take i)).length cc),(8,.int .i64 (i:Int))],
   fun (i,C,cc) w'=>i<=ds.length/\i<=8/\∃ S,CtxF no w S w' [] [orD C cc (B9v (ds.take i))] (Sep w.heap.size (fun _ _=>True) (LinkK g (l2 H 1 100 []))),fun (i,_) _=>8-i,(0,none,0),⟨rfl,rfl,rfl,rfl,rfl,trivial⟩,⟨Nat.zero_le _,Nat.zero_le _,_,hc⟩,?_⟩
  clear hc
  rintro⟨i,C,cc⟩ w1 u1 ⟨hi,hi8,S,hc⟩
  by_cases hlt:i<ds.length
  rotate_left
  ·refine df (by omega) ?_
   exact⟨(g,i,C,cc),⟨rfl,rfl,rfl,rfl,trivial⟩,H,_,hi8,hf,hk,hc⟩
  refine dt (by omega) ?_
  by_cases h8:i<8
  rotate_left
  ·refine df (by omega) ?_
   exact⟨(g,i,C,cc),⟨rfl,rfl,rfl,rfl,trivial⟩,H,_,hi8,hf,hk,hc⟩
  refine dt (by omega) ?_
  obtain⟨ad,rfl,hcell⟩:=RowD8.elem (hA.below hc.below) i hlt
  obtain⟨d,hd⟩:∃ d,d=ds[i]:=⟨_,rfl⟩
  have hdo:d.Ok:=by rw [hd];exact hdk _ (List.getElem_mem _)
  have hcd:=C0H hdo
  have htk:ds.take (i+1)=ds.take i++[d]:=by rw [List.take_succ_eq_append_getElem hlt,<-hd]
  have hml:=C0V (ds.take i)
  rw [List.length_take] at hml
  rw [<-hd] at hcell
  refine⟨⟨by omega,by omega⟩,?_⟩
  refine⟨dC d,rfl,by rw [Int.toNat_natCast];exact hcell,?_⟩
  refine hc.q (B97 d hdo _) fun wQ hQ hc=>?_
  refine hc.n fun g9 wg9 hg9 hc=>?_
  refine hc.s 0 rfl fun wS hS hc=>?_
  have hc:=I9 hc (l':=[(g9,45,dC (B92 d))]) (by kernel_rfl)
  refine⟨dC (B92 d),rfl,hc.cells 0 rfl,?_⟩
  have hmy:=C0R (B92 d) hcd
  cases hm:L3 (B92 d) with
  | false=>
   rw [hm] at hmy
   refine hc.q (hmy _) fun wQ hQ hc=>?_
   have e9:B9v (ds.take (i+1))=B9v (ds.take i):=by rw [htk,C0B,hm];rfl
   exact⟨(i+1,C,cc),⟨rfl,rfl,rfl,(show Value.slice C (B9v (ds.take i)).length cc=.slice C (B9v (ds.take (i+1))).length cc by rw [e9]),congrArg _ (C3 (by omega)),trivial⟩,⟨by omega,by omega,_,by rw [e9];exact hc.drop⟩,by show 8-(i+1)<8-i;omega⟩
  | true=>
   rw [hm] at hmy
   refine hc.q (hmy _) fun wQ hQ hc=>?_
   refine⟨dC (B92 d),rfl,hc.cells 0 rfl,?_⟩
   refine hc.n fun gv wgv hgv hc=>?_
   refine K4 (m:=1) Tryz.underlying22 A7Y rfl (by decide) hc (by rfl) (hc.cells 0 rfl) rfl (by omega) (by decide) rfl rfl ?_
   intro A3 cap3 w3 hc
   have hc:=hc.drop.drop.castO (C06 _ _ (B9v (ds.take i)) (B92 d))
   have e9:B9v (ds.take (i+1))=B9v (ds.take i)++[B92 d]:=by rw [htk,C0B,hm];rfl
   exact⟨(i+1,A3,cap3),⟨rfl,rfl,rfl,(show Value.slice A3 ((B9v (ds.take i)).length+1) cap3=.slice A3 (B9v (ds.take (i+1))).length cap3 by rw [e9,List.length_append];rfl),congrArg _ (C3 (by omega)),trivial⟩,⟨by omega,by omega,_,by rw [e9];exact hc⟩,by show 8-(i+1)<8-i;omega⟩
 rintro⟨g,i,C,cc⟩ u w1 ⟨H,S,hi8,hf,hk,hc⟩
 simp only at hi8 hc
 refine SemC.vc lay_ok ?_
 have hal:(∀ d∈B9v (ds.take i),d.Ok/\L3 d=true):=fun d hd=>by
  unfold B9v at hd
  obtain⟨h1,h2⟩:=List.mem_filter.1 hd
  obtain⟨e,he,rfl⟩:=List.mem_map.1 h1
  exact⟨C0H (hdk e (List.mem_of_mem_take he)),h2⟩
 have hal8:(B9v (ds.take i)).length<=8:=Nat.le_trans (C0V _) (by rw [List.length_take];omega)
 obtain⟨all,hall⟩:∃ all,all=B9v (ds.take i):=⟨_,rfl⟩
 rw [<-hall] at hc hal hal8
 refine⟨Nat × Nat × Sh,fun (j,h,H)=>[(0,.slice A ds.length ca),(1,.slice B ol.length cb),(6,.pointer (some ⟨g.gl,0,none⟩)),(7,.slice C all.length cc),(10,.int .i64 (h:Int)),(11,.int .i64 (j:Int))],
  fun (j,h,H) w'=>j<=ol.length/\j<=25/\h<=all.length/\Fit H (1+j)/\H.k=⟨A4z,all.take h,1,0⟩/\∃ S,CtxF no w S w' [] [orD C cc all] (Sep w.heap.size (fun _ _=>True) (LinkK g (l2 H 1 100 []))),fun (j,_,_) _=>25-j,(0,0,H),⟨rfl,rfl,rfl,(by rw [hall];rfl),rfl,rfl,trivial⟩,⟨Nat.zero_le _,Nat.zero_le _,Nat.zero_le _,hf,hk,_,hc⟩,?_⟩
 clear hc hf hk H
 rintro⟨j,h,H⟩ w2 u2 ⟨hj,hj25,hh,hf,hk,S,hc⟩
 by_cases hlt:j<ol.length
 rotate_left
 ·refine df (by omega) ?_
  refine hc.q (W9 g _ _ _ (hc.row.right (LinkK.stab _ _))) fun wQ hQ hc=>?_
  refine⟨(A0S g.gs g.gj g.gc g.b H hf.ok _ _ (hc.row.right (LinkK.stab _ _)).shelf).mono fun en wq hq=>?_⟩
  obtain⟨cB,e1,hq,hrB⟩:=hq
  obtain⟨z,rfl⟩:=hrB.stX
  have hc:=(hc.quiet hq).1
  refine⟨_,e1,?_⟩
  refine⟨B7 ?_,hc.below⟩
  show (H.k.b.seq==(0:Int))=true
  rw [hk]
  rfl
 refine dt (by omega) ?_
 by_cases h25:j<25
 rotate_left
 ·refine df (by omega) ?_
  refine hc.q (W9 g _ _ _ (hc.row.right (LinkK.stab _ _))) fun wQ hQ hc=>?_
  refine⟨(A0S g.gs g.gj g.gc g.b H hf.ok _ _ (hc.row.right (LinkK.stab _ _)).shelf).mono fun en wq hq=>?_⟩
  obtain⟨cB,e1,hq,hrB⟩:=hq
  obtain⟨z,rfl⟩:=hrB.stX
  have hc:=(hc.quiet hq).1
  refine⟨_,e1,?_⟩
  refine⟨B7 ?_,hc.below⟩
  show (H.k.b.seq==(0:Int))=true
  rw [hk]
  rfl
 refine dt (by omega) ?_
 by_cases hl0:0<all.length
 rotate_left
 ·refine df (by omega) ?_
  refine hc.q (W9 g _ _ _ (hc.row.right (LinkK.stab _ _))) fun wQ hQ hc=>?_
  refine⟨(A0S g.gs g.gj g.gc g.b H hf.ok _ _ (hc.row.right (LinkK.stab _ _)).shelf).mono fun en wq hq=>?_⟩
  obtain⟨cB,e1,hq,hrB⟩:=hq
  obtain⟨z,rfl⟩:=hrB.stX
  have hc:=(hc.quiet hq).1
  refine⟨_,e1,?_⟩
  refine⟨B7 ?_,hc.below⟩
  show (H.k.b.seq==(0:Int))=true
  rw [hk]
  rfl
 refine dt (by omega) ?_
 obtain⟨ad,rfl,hcell⟩:=RowI.elem (hB.below hc.below) j hlt
 obtain⟨y,hy⟩:∃ y,y=ol[j]:=⟨_,rfl⟩
 rw [<-hy] at hcell
 refine⟨⟨by omega,by omega⟩,?_⟩
 refine⟨_,by rw [Int.toNat_natCast];exact hcell.1,?_⟩
 refine⟨by omega,?_⟩
 refine⟨by omega,?_⟩
 obtain⟨k,hraw,hk9⟩:=B9V y all.length (by omega) (by omega)
 have hraw:C0A y all.length=(k:Int):=hraw
 have hkl:k<all.length:=by omega
 obtain⟨_,hR0⟩:=B9i hc
 obtain⟨aC,rfl,_⟩:=RowD8.elem hR0 k hkl
 have hcc:all.length<=cc:=hR0.1
 clear hR0
 refine⟨⟨by show 0<=C0A y all.length;omega,by show C0A y all.length<_;omega⟩,?_⟩
 obtain⟨d,hd⟩:∃ d,d=all[k]:=⟨_,rfl⟩
 have hdo:=hal d (hd▸List.getElem_mem _)
 refine⟨dC d,rfl,by
  show Go.Vc.cellsAt _ (aC.add ((C0A y all.length).toNat*8)) _ 0
  rw [hraw,Int.toNat_natCast,hd]
  exact B9y hc k hkl,?_⟩
 intro gb wgb hgb
 have hc:=hc.made hgb 8 1 rfl (by decide)
 obtain⟨S2,hc⟩:=hc.sepTold Stab.true (LinkK.stab _ _)
 have hc:CtxF no w S2 wgb [] [orD (some aC) cc all] (Sep w.heap.size (fun S w=>True/\Row S w (some ⟨gb,0,none⟩) 1 1 (([d].map dC).flatten)) (LinkK g (l2 H 1 100 []))):=hc
 have hps:=fun Sx w hlt he hK Sv hvd hR=>A8z g (l2 H 1 100 []) (B7G hf (by decide) (by unfold B3;decide)) (Nat.zero_le _) (C0A y all.length) (by unfold B3;omega) [d] (fun e he=>by rw [List.mem_singleton.1 he];exact hdo.1) (some ⟨gb,0,none⟩) 1 Sx w hlt he hK Sv hvd hR
 have hseq:H.k.seq=(h:Int):=by rw [hk];show (0:Int)+((all.take h).length:Int)=h;rw [List.length_take];omega
 have hbs:H.k.b.seq=0:=by rw [hk];rfl
 have hep:H.k.ep=1:=by rw [hk]
 by_cases hkh:h<k
 ·have hs1:=C0x (now:=1) (til:=100) (dn:=[]) hf (ep:=1) (by decide) hep (by decide) hdo.2 (s:=C0A y all.length) (by omega) (by show _<=(1099511627776:Int);omega)
  rw [hs1,hseq] at hps
  refine⟨(hc.heard1 hw (Stab.true.and A2F) (L':=l2 H 1 100 []) (u:=wd 5 2 1 1 (h:Int) 0 []) (fun Sx S1 hlt he hK hvd hr=>hps Sx _ hlt he hK S1 hvd hr.2)).mono fun en wq hq=>?_⟩
  obtain⟨a9,x9,c9,S3,e1,hcl,hc⟩:=hq
  refine⟨_,e1,?_⟩
  refine B0 (by show decide ((h:Int)<C0A y all.length)=true;rw [decide_eq_true (by omega)]) ?_
  refine⟨⟨by decide,by decide⟩,?_⟩
  refine⟨.int .i64 5,A2R hcl 0 _ rfl,?_⟩
  refine⟨⟨by decide,by decide⟩,?_⟩
  refine⟨.int .i64 1,A2R hcl 2 _ rfl,?_⟩
  refine⟨⟨by decide,by decide⟩,?_⟩
  refine⟨.int .i64 (h:Int),A2R hcl 4 _ rfl,?_⟩
  refine A6 (bne_self_eq_false _) ?_
  refine⟨⟨by decide,by decide⟩,?_⟩
  refine⟨.int .i64 0,A2R hcl 5 _ rfl,?_⟩
  have hc:=hc.rest.sepNow (R':=fun _ _=>True) (fun _ _=>trivial) (fun _ h=>h) Stab.true (LinkK.stab _ _)
  have h7:(((h:Nat):Int):Int)=((h:Nat):Int):=rfl
  refine vD (.Q [0,3,4,5] (.n 1 (.n 2 (.n 6 (.q 7 .fin) .stop) .stop) .stop)) (fun _=>True) trivial ?_
  have hc:=hc.drew
  refine⟨⟨by omega,by omega,by omega,by omega⟩,?_⟩
  refine⟨hc.q' (W9 g _ _ _ (hc.row.right (LinkK.stab _ _))) fun wQ hQ hc=>?_,trivial⟩
  refine⟨⟨(A1R g.gs g.gj g.gc g.b H (hf.mono (Nat.le_add_right _ 1)).ok _ _ (hc.row.right (LinkK.stab _ _)).shelf).mono fun en wq hq=>?_⟩,trivial⟩
  obtain⟨A3,c3,e4,hq,ho⟩:=hq
  have hrow3:=C0I hq ho no
  have hc:=(hc.quiet hq).1
  refine⟨_,e4,trivial,?_⟩
  refine⟨?_,trivial⟩
  obtain⟨S8,hrow⟩:=B9i hc
  have hf8:=Row.front hrow 8 (k:=h) (by omega)
  have e8:(all.map dC).flatten.take (h*8)=((all.take (h)).map dC).flatten:=by rw [<-(V4 _).flat_take,<-List.map_take]
  rw [e8] at hf8
  have hed:=B9g H.k.pend (all.take (h)) A3 (some aC) c3 cc _ _ _ hrow3 (by rw [List.length_take,Nat.min_eq_left (by omega)];exact hf8)
  rw [show U8 eqD H.k.pend (all.take (h))=true from by rw [show H.k.pend=all.take (h) from by rw [hk]];exact B9s _] at hed
  have eA:Value.slice (if (cc:Int)=0 then some aC else (some aC).map (·.add ((0:Int).toNat*8))) ((((h:Nat):Int):Int)-0).toNat ((cc:Int)-0).toNat=.slice (some aC) (all.take (h)).length cc:=by
   rw [h7,W2,List.length_take,Nat.min_eq_left (by omega)]
   congr 1
  rw [<-eA] at hed
  refine hc.q' (hed) fun wQ hQ hc=>?_
  exact⟨(j+1,h,H),⟨rfl,rfl,rfl,rfl,congrArg (Value.int .i64) h7,congrArg _ (C3 (by omega)),trivial⟩,⟨by omega,by omega,by omega,hf.mono (Nat.le_add_right _ 1),hk,_,hc⟩,by show 25-(j+1)<25-j;omega⟩
 by_cases hkq:k=h
 ·subst hkq
  obtain⟨H1,hk1,hf1,hs1⟩:=B3U (now:=1) (til:=100) (dn:=[]) hf (by omega) (ep:=1) (by decide) hep (by decide) hdo.1 hdo.2 (by rw [hk];show (all.take k).length<60;rw [List.length_take];omega) (by rw [hseq];show (k:Int)<1099511627776;omega)
  rw [hseq,<-hraw] at hs1
  rw [hs1] at hps
  have hk1:H1.k=⟨A4z,all.take (k+1),1,0⟩:=by
   rw [hk1,hk]
   show (⟨A4z,all.take k++[d],1,0⟩:Known)=_
   rw [List.take_succ_eq_append_getElem hkl,<-hd]
  refine⟨(hc.heard1 hw (Stab.true.and A2F) (L':=l2 H1 1 100 []) (u:=B5n 1 (C0A y all.length) [d]) (fun Sx S1 hlt he hK hvd hr=>hps Sx _ hlt he hK S1 hvd hr.2)).mono fun en wq hq=>?_⟩
  obtain⟨a9,⟨A1,cA1,B1,cB1,y1⟩,c9,S3,e1,hcl,hc⟩:=hq
  refine⟨_,e1,?_⟩
  obtain⟨ad2,hB1,hcd⟩:=RowD8.elem ((hc.row.left ((Stab.true.and A2F).and (WdR.stab _ _))).2.1.2:Row S3 _ B1 ([d]:List D).length cB1 ((([d]:List D).map dC).flatten)) 0 (by show 0<1;decide)
  subst hB1
  refine A6 (by show decide ((k:Int)<C0A y all.length)=false;rw [decide_eq_false (by omega)]) ?_
  refine B0 (by show (C0A y all.length==(k:Int))=true;rw [hraw,beq_self_eq_true]) ?_
  have hce:=B9y hc.rest k hkl
  rw [<-hd] at hce
  have hr:=hc
  refine vD (.Q [0,1,2,3,4,5,6,7,8,9,10,11,12,13,14,15,16,17,18,19,20,21,22,23,24,25,26,27,28,29,30,31,32,33,34,35,36,37,38,39,40,41,42,43,44,45] .fin) (Old _) (Old.start _) ?_
  have hk:=hc.old0
  have hc:=hc.drew
  refine⟨⟨by decide,by decide⟩,?_⟩
  refine⟨.int .i64 4,fun z hz=>Keeps.look hz (A2R hcl 0 _ rfl),?_⟩
  refine⟨⟨by decide,by decide⟩,?_⟩
  refine⟨.int .i64 3,fun z hz=>Keeps.look hz (A2R hcl 2 _ rfl),?_⟩
  refine⟨⟨by decide,by decide⟩,?_⟩
  refine⟨.int .i64 (C0A y all.length),fun z hz=>Keeps.look hz (A2R hcl 4 _ rfl),?_⟩
  refine A6 (bne_self_eq_false _) ?_
  refine⟨⟨by decide,by decide⟩,?_⟩
  refine⟨.slice (some ad2) 1 cB1,fun z hz=>Keeps.look hz (A2R hcl 12 _ rfl),?_⟩
  refine⟨⟨by decide,by decide⟩,?_⟩
  refine⟨.slice (some ad2) 1 cB1,fun z hz=>Keeps.look hz (A2R hcl 12 _ rfl),?_⟩
  refine⟨⟨by decide,by decide⟩,?_⟩
  refine⟨dC d,rfl,fun z hz=>Old.looks hz hcd,?_⟩
  refine⟨⟨by show 0<=C0A y all.length;omega,by show C0A y all.length<_;omega⟩,?_⟩
  refine⟨dC d,rfl,fun z hz=>by
   show Go.Vc.cellsAt _ (aC.add ((C0A y all.length).toNat*8)) _ 0
   rw [hraw,Int.toNat_natCast]
   exact Old.looks hz hce,?_⟩
  refine⟨.bool false,fun w=>C0e d _ _ w,?_⟩
  have hc:=hc.rest.sepNow (R':=fun _ _=>True) (fun _ _=>trivial) (fun _ h=>h) Stab.true (LinkK.stab _ _)
  have h7:(IntKind.i64.wrap ((k:Int)+1):Int)=(((k+1):Nat):Int):=C3 (by omega)
  refine vD (.Q [0,3,4,5] (.n 1 (.n 2 (.n 6 (.q 7 .fin) .stop) .stop) .stop)) (fun _=>True) trivial ?_
  have hc:=hc.drew
  refine⟨⟨by omega,by omega,by omega,by omega⟩,?_⟩
  refine⟨hc.q' (W9 g _ _ _ (hc.row.right (LinkK.stab _ _))) fun wQ hQ hc=>?_,trivial⟩
  refine⟨⟨(A1R g.gs g.gj g.gc g.b H1 (hf1).ok _ _ (hc.row.right (LinkK.stab _ _)).shelf).mono fun en wq hq=>?_⟩,trivial⟩
  obtain⟨A3,c3,e4,hq,ho⟩:=hq
  have hrow3:=C0I hq ho no
  have hc:=(hc.quiet hq).1
  refine⟨_,e4,trivial,?_⟩
  refine⟨?_,trivial⟩
  obtain⟨S8,hrow⟩:=B9i hc
  have hf8:=Row.front hrow 8 (k:=(k+1)) (by omega)
  have e8:(all.map dC).flatten.take ((k+1)*8)=((all.take ((k+1))).map dC).flatten:=by rw [<-(V4 _).flat_take,<-List.map_take]
  rw [e8] at hf8
  have hed:=B9g H1.k.pend (all.take ((k+1))) A3 (some aC) c3 cc _ _ _ hrow3 (by rw [List.length_take,Nat.min_eq_left (by omega)];exact hf8)
  rw [show U8 eqD H1.k.pend (all.take ((k+1)))=true from by rw [show H1.k.pend=all.take ((k+1)) from by rw [hk1]];exact B9s _] at hed
  have eA:Value.slice (if (cc:Int)=0 then some aC else (some aC).map (·.add ((0:Int).toNat*8))) ((IntKind.i64.wrap ((k:Int)+1):Int)-0).toNat ((cc:Int)-0).toNat=.slice (some aC) (all.take ((k+1))).length cc:=by
   rw [h7,W2,List.length_take,Nat.min_eq_left (by omega)]
   congr 1
  rw [<-eA] at hed
  refine hc.q' (hed) fun wQ hQ hc=>?_
  exact⟨(j+1,(k+1),H1),⟨rfl,rfl,rfl,rfl,congrArg (Value.int .i64) h7,congrArg _ (C3 (by omega)),trivial⟩,⟨by omega,by omega,by omega,hf1,hk1,_,hc⟩,by show 25-(j+1)<25-j;omega⟩
 have hs1:=C0y (now:=1) (til:=100) (dn:=[]) hf (ep:=1) (by decide) hep (by decide) hdo.2 (s:=C0A y all.length) (by omega) (by omega)
 rw [hs1] at hps
 refine⟨(hc.heard0 hw (Stab.true.and A2F) (L':=l2 H 1 100 []) (ws:=[]) (fun Sx S1 hlt he hK hvd hr=>hps Sx _ hlt he hK S1 hvd hr.2)).mono fun en wq hq=>?_⟩
 obtain⟨A9,c9,S3,e1,hc⟩:=hq
 refine⟨_,e1,?_⟩
 refine A6 (by show decide ((h:Int)<C0A y all.length)=false;rw [decide_eq_false (by omega)]) ?_
 refine A6 (by show (C0A y all.length==(h:Int))=false;rw [beq_eq_false_iff_ne];omega) ?_
 have hc:=hc.sepNow (R':=fun _ _=>True) (fun _ _=>trivial) (fun _ h=>h) Stab.true (LinkK.stab _ _)
 have h7:(((h:Nat):Int):Int)=((h:Nat):Int):=rfl
 refine vD (.Q [0,3,4,5] (.n 1 (.n 2 (.n 6 (.q 7 .fin) .stop) .stop) .stop)) (fun _=>True) trivial ?_
 have hc:=hc.drew
 refine⟨⟨by omega,by omega,by omega,by omega⟩,?_⟩
 refine⟨hc.q' (W9 g _ _ _ (hc.row.right (LinkK.stab _ _))) fun wQ hQ hc=>?_,trivial⟩
 refine⟨⟨(A1R g.gs g.gj g.gc g.b H (hf.mono (Nat.le_add_right _ 1)).ok _ _ (hc.row.right (LinkK.stab _ _)).shelf).mono fun en wq hq=>?_⟩,trivial⟩
 obtain⟨A3,c3,e4,hq,ho⟩:=hq
 have hrow3:=C0I hq ho no
 have hc:=(hc.quiet hq).1
 refine⟨_,e4,trivial,?_⟩
 refine⟨?_,trivial⟩
 obtain⟨S8,hrow⟩:=B9i hc
 have hf8:=Row.front hrow 8 (k:=h) (by omega)
 have e8:(all.map dC).flatten.take (h*8)=((all.take (h)).map dC).flatten:=by rw [<-(V4 _).flat_take,<-List.map_take]
 rw [e8] at hf8
 have hed:=B9g H.k.pend (all.take (h)) A3 (some aC) c3 cc _ _ _ hrow3 (by rw [List.length_take,Nat.min_eq_left (by omega)];exact hf8)
 rw [show U8 eqD H.k.pend (all.take (h))=true from by rw [show H.k.pend=all.take (h) from by rw [hk]];exact B9s _] at hed
 have eA:Value.slice (if (cc:Int)=0 then some aC else (some aC).map (·.add ((0:Int).toNat*8))) ((((h:Nat):Int):Int)-0).toNat ((cc:Int)-0).toNat=.slice (some aC) (all.take (h)).length cc:=by
  rw [h7,W2,List.length_take,Nat.min_eq_left (by omega)]
  congr 1
 rw [<-eA] at hed
 refine hc.q' (hed) fun wQ hQ hc=>?_
 exact⟨(j+1,h,H),⟨rfl,rfl,rfl,rfl,congrArg (Value.int .i64) h7,congrArg _ (C3 (by omega)),trivial⟩,⟨by omega,by omega,by omega,hf.mono (Nat.le_add_right _ 1),hk,_,hc⟩,by show 25-(j+1)<25-j;omega⟩
theorem C0L {H:Type} (enc:TypeId × Value->H) (W:World) (hw:Env W) {base:Nat}
  (v0:Value) (d0:DataW H) (p0:List MemPlace) (h0:DataW.Trod enc Tryz.prog W 0 (fun _=>true) true 22 v0 d0 p0) (k0:Value.okWide Tryz.prog W .any base 22 v0)
  (v1:Value) (d1:DataW H) (p1:List MemPlace) (h1:DataW.Trod enc Tryz.prog W 0 (fun _=>true) true 29 v1 d1 p1) (k1:Value.okWide Tryz.prog W .any base 29 v1):
  Calls Tryz.prog 8 #[v0,v1] W (C8 (.bool true) W):=by
 obtain⟨A0,c0,a0,rfl,r0,o0⟩:=B9x h0 k0
 obtain⟨A1,c1,a1,rfl,r1,o1⟩:=C0r h1 k1
 exact C0f a0 a1 A0 A1 c0 c1 o0 W hw r0 r1
end Go.Proofs.YtefdfaeieekioaaGreatDoor
