import Derived.Test.YtokglimimnelaaaGreatDoorM12
set_option linter.unusedVariables false
set_option linter.unusedSimpArgs false
/- Walk: armariumlaw8.ShelfEpochs. -/
namespace Go.Proofs.YtokglimimnelaaaGreatDoor
open Go.Vc Go.RowKit Go.Fl Go.ChangeShapes Go.WideShapes Go.ChangeAt
set_option maxRecDepth 100000
set_option maxHeartbeats 8000000 in
theorem epochs8_any (es ks:List Int) (A B:Option Addr) (ca cb:Nat) (w:World) (hw:Env w) (hA:Row (inW w) w A es.length ca (es.map fun n=>[.int .i64 n]).flatten) (hB:Row (inW w) w B ks.length cb (ks.map fun n=>[.int .i64 n]).flatten):Calls Tryz.prog 8 #[.slice A es.length ca,.slice B ks.length cb] w (RetB (.bool true) w):=by
 refine vE Tryz.func8 ?_
 have hc:=CtxF.start w no (fun _ h=>h.elim) (R:=fun _ _=>True) trivial Stab.true
 refine hc.q (begun8_any _ (hw.below hc.below)) fun wQ hQ hc=>?_
 refine⟨(new_any 1048576 _).mono fun en wq hq=>?_⟩
 rw [newC_c0 (by decide)] at hq
 obtain⟨gc,b,e1,hq,hO⟩:=hq
 have hc:=hc.sepNew hq hO (ChestK.stab _ _ _)
 refine⟨_,e1,?_⟩
 obtain⟨S1,Sa,h1,h2,h3,hO⟩:=hc.row
 refine⟨(snew_any gc b 1048576 (by decide) Sa _ (fun x hx=>hc.ctx.lt x (h2 x hx).1) (hw.free hc.below h2) hO).mono fun en wq hq=>?_⟩
 obtain⟨gs,gj,e1,hT,Sn,hSn,hO⟩:=hq
 have hc:=hc.turnO (Stab.true) h1 h2 h3 hT hSn hO (ShelfK.stab _ _ _ _ _)
 refine⟨_,e1,?_⟩
 have hmA:=row_max hA
 have hmB:=row_max hB
 refine⟨Nat × Int × Sh × Nat × Nat × Nat × Nat,fun (i,last,H,gs,gj,gc,b)=>[(0,.slice A es.length ca),(1,.slice B ks.length cb),(6,.pointer (some ⟨gc,0,none⟩)),(7,.pointer (some ⟨gs,0,none⟩)),(9,.int .i64 last),(10,.int .i64 (i:Int))],
  fun (i,last,H,gs,gj,gc,b) w'=>i<=es.length/\i<=15/\0<=last/\last<=63/\Fit H i/\H.k.ep=last/\H.np=H.l.length/\∃ S,CtxF no w S w' [] [] (Sep w.heap.size (fun _ _=>True) (ShelfK gs gj gc b H)),fun (i,_) _=>15-i,(0,0,H0 1048576,gs,gj,gc,b),⟨rfl,rfl,rfl,rfl,rfl,rfl,trivial⟩,⟨Nat.zero_le _,Nat.zero_le _,by decide,by decide,Fit.h0,rfl,rfl,_,hc⟩,?_⟩
 clear hc
 rintro⟨i,last,H,gs,gj,gc,b⟩ w1 u ⟨hi,hi15,hl0,hl6,hf,hep,hnp,S,hc⟩
 by_cases hlt:i<es.length
 rotate_left
 ·refine split_f (decide_eq_false (by omega)) ?_
  exact⟨rfl,hc.below⟩
 refine split_t (decide_eq_true (by omega)) ?_
 by_cases h15:i<15
 rotate_left
 ·refine split_f (decide_eq_false (by omega)) ?_
  exact⟨rfl,hc.below⟩
 refine split_t (decide_eq_true (by omega)) ?_
 obtain⟨ad,rfl,hcell⟩:=RowI.elem (hA.below hc.below) i hlt
 obtain⟨x,hx⟩:∃ x,x=es[i]:=⟨_,rfl⟩
 rw [<-hx] at hcell
 refine⟨⟨by omega,by omega⟩,?_⟩
 refine⟨_,by rw [Int.toNat_natCast];exact hcell.1,?_⟩
 obtain⟨m,hm⟩:∃ m,bits BinOp.and .i64 x 63=m:=⟨_,rfl⟩
 have hm2:0<=m/\m<=63:=by rw [<-hm,i64_and63];omega
 have hmk:i64ok m:=by unfold i64ok;omega
 have hen:=fun Sa w hlt he hK=>senter_any gs gj gc b H hf.ok m hmk Sa w hlt he hK
 rw [<-hm] at hen
 have hres:=hf.enter (by omega) hmk
 rw [hm] at hen
 obtain⟨q,hq0⟩:∃ q,q=enterH H m:=⟨_,rfl⟩
 rw [<-hq0] at hen hres
 rw [<-hm] at hen
 obtain⟨S1,Sa,h1,h2,h3,hO⟩:=hc.row
 refine⟨(hen Sa _ (fun x hx=>hc.ctx.lt x (h2 x hx).1) (hw.free hc.below h2) hO).mono fun en wq hq=>?_⟩
 obtain⟨e1,hT,Sn,hSn,hO⟩:=hq
 have hc:=hc.turnO (Stab.true) h1 h2 h3 hT hSn hO (ShelfK.stab _ _ _ _ _)
 refine⟨_,e1,?_⟩
 obtain⟨hf2,hep2,hnp2,hq2⟩:Fit q.1 (i+1)/\q.1.k.ep=(if last<m then m else last)/\q.1.np=q.1.l.length/\(q.2==0)=decide (last<m):=by
  rcases hres with ⟨h1,e⟩ | ⟨h1,e⟩
  ·subst e
   exact⟨hf.mono (by omega),by rw [if_neg (by omega)];exact hep,hnp,by rw [decide_eq_false (by omega)];rfl⟩
  ·subst e
   refine⟨hf.write (by omega) (r:=.enter m) hmk trivial true,?_,write_full _ _,by rw [decide_eq_true (by omega)];rfl⟩
   rw [write_enter_k]
   show max H.k.ep m=_
   rw [if_pos (by omega)]
   omega
 refine split_f (by show ((q.2==0) != decide (last<bits BinOp.and .i64 x 63))=false;rw [hm,hq2];simp) ?_
 by_cases hk:i<ks.length
 rotate_left
 ·refine split_f (decide_eq_false (by omega)) ?_
  have hepX:=Epoch_any gs gj gc b q.1 _ _ (hc.row.right (ShelfK.stab _ _ _ _ _))
  rw [hep2] at hepX
  refine hc.q (hepX) fun wQ hQ hc=>?_
  refine split_f (by show ((if last<m then m else last) != (if last<bits BinOp.and .i64 x 63 then bits BinOp.and .i64 x 63 else last))=false;rw [hm];simp) ?_
  refine⟨(i+1,(if last<m then m else last),q.1,gs,gj,gc,b),⟨rfl,rfl,rfl,rfl,(show Value.int .i64 (if last<bits BinOp.and .i64 x 63 then bits BinOp.and .i64 x 63 else last)=.int .i64 (if last<m then m else last) by rw [hm]),congrArg _ (i_down (by omega)),trivial⟩,⟨by omega,by omega,by split<;>omega,by split<;>omega,hf2,hep2,hnp2,_,hc⟩,by show 15-(i+1)<15-i;omega⟩
 refine split_t (decide_eq_true (by omega)) ?_
 obtain⟨bd,rfl,hcellB⟩:=RowI.elem (hB.below hc.below) i hk
 obtain⟨y,hy⟩:∃ y,y=ks[i]:=⟨_,rfl⟩
 rw [<-hy] at hcellB
 refine⟨⟨by omega,by omega⟩,?_⟩
 refine⟨_,by rw [Int.toNat_natCast];exact hcellB.1,?_⟩
 by_cases hy0:0<=y
 rotate_left
 ·refine split_f (decide_eq_false hy0) ?_
  have hepX:=Epoch_any gs gj gc b q.1 _ _ (hc.row.right (ShelfK.stab _ _ _ _ _))
  rw [hep2] at hepX
  refine hc.q (hepX) fun wQ hQ hc=>?_
  refine split_f (by show ((if last<m then m else last) != (if last<bits BinOp.and .i64 x 63 then bits BinOp.and .i64 x 63 else last))=false;rw [hm];simp) ?_
  refine⟨(i+1,(if last<m then m else last),q.1,gs,gj,gc,b),⟨rfl,rfl,rfl,rfl,(show Value.int .i64 (if last<bits BinOp.and .i64 x 63 then bits BinOp.and .i64 x 63 else last)=.int .i64 (if last<m then m else last) by rw [hm]),congrArg _ (i_down (by omega)),trivial⟩,⟨by omega,by omega,by split<;>omega,by split<;>omega,hf2,hep2,hnp2,_,hc⟩,by show 15-(i+1)<15-i;omega⟩
 refine split_t (decide_eq_true hy0) ?_
 refine⟨⟨by omega,by omega⟩,?_⟩
 refine⟨_,by rw [Int.toNat_natCast];exact hcellB.1,?_⟩
 refine⟨(tearS_any gs gj gc b q.1 hf2.ok y _ _ (hc.row.right (ShelfK.stab _ _ _ _ _))).mono fun en wq hq=>?_⟩
 obtain⟨g2,b2,L,e1,hq,hO2,hL1,hL2⟩:=hq
 have hc:=hc.sepNew hq hO2 (ChestK.stab _ _ _)
 refine⟨_,e1,?_⟩
 obtain⟨j,hi1,hi2,hop⟩:=sopenT_any hf2.ok hL1 hL2
 obtain⟨S1,Sa,h1,h2,h3,hO⟩:=hc.row
 refine⟨(hop g2 b2 Sa _ (fun x hx=>hc.ctx.lt x (h2 x hx).1) (hw.free hc.below h2) hO).mono fun en wq hq=>?_⟩
 obtain⟨gt,gk,e1,hT,Sn,hSn,hO⟩:=hq
 have hc:=hc.turnO (Sep.stab (Stab.true) (ShelfK.stab _ _ _ _ _)) h1 h2 h3 hT hSn hO (ShelfK.stab _ _ _ _ _)
 refine⟨_,e1,?_⟩
 have hc:=hc.now Sep.drop (Sep.stab (Stab.true) (ShelfK.stab _ _ _ _ _))
 have hct:=cut_full hnp2 hi1 hi2
 have hep3:(q.1.cut j).k.ep=if last<m then m else last:=by rw [hct.1,hep2]
 have hepX:=Epoch_any gt gk g2 b2 (q.1.cut j) _ _ (hc.row.right (ShelfK.stab _ _ _ _ _))
 rw [hep3] at hepX
 refine hc.q (hepX) fun wQ hQ hc=>?_
 refine split_f (by show ((if last<m then m else last) != (if last<bits BinOp.and .i64 x 63 then bits BinOp.and .i64 x 63 else last))=false;rw [hm];simp) ?_
 refine⟨(i+1,(if last<m then m else last),(q.1.cut j),gt,gk,g2,b2),⟨rfl,rfl,rfl,rfl,(show Value.int .i64 (if last<bits BinOp.and .i64 x 63 then bits BinOp.and .i64 x 63 else last)=.int .i64 (if last<m then m else last) by rw [hm]),congrArg _ (i_down (by omega)),trivial⟩,⟨by omega,by omega,by split<;>omega,by split<;>omega,(hf2.cut j hi2),hep3,hct.2,_,hc⟩,by show 15-(i+1)<15-i;omega⟩
set_option maxRecDepth 100000 in
theorem shelfEpochs_ct {H:Type} (enc:TypeId × Value->H) (W:World) (hw:Env W) {base:Nat}
  (v0:Value) (d0:DataW H) (p0:List MemPlace) (h0:DataW.Trod enc Tryz.prog W 0 (fun _=>true) true 66 v0 d0 p0) (k0:Value.okWide Tryz.prog W .any base 66 v0)
  (v1:Value) (d1:DataW H) (p1:List MemPlace) (h1:DataW.Trod enc Tryz.prog W 0 (fun _=>true) true 62 v1 d1 p1) (k1:Value.okWide Tryz.prog W .any base 62 v1):
  Calls Tryz.prog 8 #[v0,v1] W (RetB (.bool true) W):=by
 obtain⟨A0,c0,a0,rfl,r0,o0⟩:=open_int64s h0 k0
 obtain⟨A1,c1,a1,rfl,r1,o1⟩:=open_i64s h1 k1
 exact epochs8_any a0 a1 A0 A1 c0 c1 W hw r0 r1
end Go.Proofs.YtokglimimnelaaaGreatDoor
