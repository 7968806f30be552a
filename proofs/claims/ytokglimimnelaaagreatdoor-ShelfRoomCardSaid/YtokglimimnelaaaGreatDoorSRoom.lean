import Derived.Test.YtokglimimnelaaaGreatDoorM13
set_option linter.unusedVariables false
set_option linter.unusedSimpArgs false
/- Walk: armariumlaw8.ShelfRoom. -/
namespace Go.Proofs.YtokglimimnelaaaGreatDoor
open Go.Vc Go.RowKit Go.Fl Go.ChangeShapes Go.WideShapes Go.ChangeAt
set_option maxRecDepth 100000
structure RoomI (H:Sh) (tot:Int) (i:Nat):Prop where
 ok:H.Ok
 down:H.down=false
 np:H.np=H.l.length
 b:H.k.b=Stt0
 len:H.k.pend.length<=i
theorem RoomI.add {H:Sh} {tot:Int} {i:Nat} (h:RoomI H tot i) (hi:i<20) {d:D} (hd:d.Ok):
  (mayD d=true/\addH H d=(H.write (.add d) true,0)/\RoomI (H.write (.add d) true) tot (i+1))\/(mayD d=true/\addH H d=(H.fell,7))\/(mayD d=false/\addH H d=(H,1)):=by
 have hl:=h.len
 have hs:H.k.seq=H.k.pend.length:=by unfold Known.seq;rw [h.b];show (0:Int)+_=_;omega
 unfold addH
 rw [h.down,if_neg (by decide)]
 cases hm:mayD d with
 | false=>
  have e:addKE H.k d=1:=by unfold addKE;rw [hm];rfl
  rw [e,if_neg (by decide)]
  exact .inr (.inr ⟨rfl,rfl⟩)
 | true=>
  have hn:¬ (60<=H.k.pend.length\/maxN<=H.k.seq):=by unfold maxN;omega
  have e:addKE H.k d=0:=by unfold addKE;rw [hm,if_pos rfl,if_neg hn]
  rw [if_pos e]
  unfold recE recS
  by_cases hr:H.room<leafN (txtR (.add d))
  ·rw [if_pos hr,if_pos hr]
   exact .inr (.inl ⟨rfl,rfl⟩)
  ·rw [if_neg hr,if_neg hr]
   refine .inl ⟨rfl,rfl,h.ok.write (r:=.add d) ⟨hm,hd⟩ ⟨by omega,by unfold maxN;omega⟩ true (by omega),h.down,write_full _ _,?_,?_⟩
   ·show (H.write _ true).k.b=Stt0
    rw [write_add_k]
    exact h.b
   ·rw [write_add_k]
    show (H.k.pend++[d]).length<=i+1
    rw [List.length_append]
    show _+1<=i+1
    omega
set_option maxHeartbeats 8000000 in
theorem room8_any (room:Int) (ds:List D) (A:Option Addr) (ca:Nat) (hdk:∀ d∈ds,d.Ok) (w:World) (hw:Env w) (hA:Row (inW w) w A ds.length ca (ds.map dC).flatten):Calls Tryz.prog 6 #[.int .i64 room,.slice A ds.length ca] w (RetB (.bool true) w):=by
 refine vE Tryz.func6 ?_
 have hc:=CtxF.start w no (fun _ h=>h.elim) (R:=fun _ _=>True) trivial Stab.true
 refine hc.q (begun8_any _ (hw.below hc.below)) fun wQ hQ hc=>?_
 by_cases r6:room<600
 ·refine split_t (decide_eq_true r6) ?_
  exact⟨rfl,hc.below⟩
 refine split_f (decide_eq_false r6) ?_
 by_cases r20:(2000:Int)<room
 ·refine split_t (decide_eq_true r20) ?_
  exact⟨rfl,hc.below⟩
 refine split_f (decide_eq_false r20) ?_
 refine⟨(new_any room _).mono fun en wq hq=>?_⟩
 rw [newC_c0 ⟨by omega,by omega⟩] at hq
 obtain⟨gc,b,e1,hq,hO⟩:=hq
 have hc:=hc.sepNew hq hO (ChestK.stab _ _ _)
 refine⟨_,e1,?_⟩
 obtain⟨S1,Sa,h1,h2,h3,hO⟩:=hc.row
 refine⟨(snew_any gc b room ⟨by omega,by omega⟩ Sa _ (fun x hx=>hc.ctx.lt x (h2 x hx).1) (hw.free hc.below h2) hO).mono fun en wq hq=>?_⟩
 obtain⟨gs,gj,e1,hT,Sn,hSn,hO⟩:=hq
 have hc:=hc.turnO Stab.true h1 h2 h3 hT hSn hO (ShelfK.stab _ _ _ _ _)
 refine⟨_,e1,?_⟩
 have hmA:=row_max hA
 refine⟨Nat × Sh × Option Addr × Nat,fun (i,H,C,cc)=>[(1,.slice A ds.length ca),(6,.pointer (some ⟨gc,0,none⟩)),(7,.pointer (some ⟨gs,0,none⟩)),(9,.slice C H.k.pend.length cc),(10,.int .i64 (i:Int))],
  fun (i,H,C,cc) w'=>i<=ds.length/\i<=20/\RoomI H room i/\∃ S,CtxF no w S w' [] [orD C cc H.k.pend] (Sep w.heap.size (fun _ _=>True) (ShelfK gs gj gc b H)),fun (i,_) _=>20-i,(0,H0 room,none,0),⟨rfl,rfl,rfl,rfl,rfl,trivial⟩,⟨Nat.zero_le _,Nat.zero_le _,⟨H0.ok ⟨by omega,by omega⟩,rfl,rfl,rfl,Nat.zero_le _⟩,_,hc.nil _ _⟩,?_⟩
 clear hc
 rintro⟨i,H,C,cc⟩ w1 u ⟨hi,hi20,ho,S,hc⟩
 by_cases hlt:i<ds.length/\i<20
 rotate_left
 ·by_cases hl2:i<ds.length
  ·refine split_t (decide_eq_true (by omega)) ?_
   refine split_f (decide_eq_false (by omega)) ?_
   refine⟨(Pend_any gs gj gc b H ho.ok _ _ (hc.row.right (ShelfK.stab _ _ _ _ _))).mono fun en wq hq=>?_⟩
   obtain⟨A4,c4,e4,hq,ho4⟩:=hq
   have hrow4:=own_row hq ho4 no
   have hc:=(hc.quiet hq).1
   refine⟨_,e4,?_⟩
   obtain⟨S6,hRow⟩:=ownD_row hc
   have hed:=eqDeeds_any H.k.pend H.k.pend A4 C c4 cc _ _ _ hrow4 hRow
   rw [eqDs_refl] at hed
   refine hc.q (hed) fun wQ hQ hc=>?_
   exact⟨rfl,hc.below⟩
  ·refine split_f (decide_eq_false (by omega)) ?_
   refine⟨(Pend_any gs gj gc b H ho.ok _ _ (hc.row.right (ShelfK.stab _ _ _ _ _))).mono fun en wq hq=>?_⟩
   obtain⟨A4,c4,e4,hq,ho4⟩:=hq
   have hrow4:=own_row hq ho4 no
   have hc:=(hc.quiet hq).1
   refine⟨_,e4,?_⟩
   obtain⟨S6,hRow⟩:=ownD_row hc
   have hed:=eqDeeds_any H.k.pend H.k.pend A4 C c4 cc _ _ _ hrow4 hRow
   rw [eqDs_refl] at hed
   refine hc.q (hed) fun wQ hQ hc=>?_
   exact⟨rfl,hc.below⟩
 refine split_t (decide_eq_true (by omega)) ?_
 refine split_t (decide_eq_true (by omega)) ?_
 obtain⟨ad,rfl,hcell⟩:=RowD8.elem (hA.below hc.below) i hlt.1
 obtain⟨d,hd⟩:∃ d,d=ds[i]:=⟨_,rfl⟩
 have hdo:d.Ok:=by rw [hd];exact hdk _ (List.getElem_mem _)
 have hcd:=cutD_ok hdo
 rw [<-hd] at hcell
 refine⟨⟨by omega,by omega⟩,?_⟩
 refine⟨dC d,rfl,by rw [Int.toNat_natCast];exact hcell,?_⟩
 refine hc.q (deed5_any d hdo _) fun wQ hQ hc=>?_
 refine hc.n fun g11 wg11 hg11 hc=>?_
 refine hc.s 0 rfl fun wS hS hc=>?_
 refine hc.a 0 rfl rfl ?_
 have had:=fun Sa w hlt he hK=>sadd_any gs gj gc b H ho.ok (cutD d) hcd Sa w hlt he hK
 rcases ho.add hlt.2 hcd with ⟨hm,e,ho2⟩ | ⟨hm,e⟩ | ⟨hm,e⟩
 ·rw [e] at had
  obtain⟨S1,Sa,h1,h2,h3,hO⟩:=hc.row
  refine⟨(had Sa _ (fun x hx=>hc.ctx.lt x (h2 x hx).1) (hw.free hc.below h2) hO).mono fun en wq hq=>?_⟩
  obtain⟨e1,hT,Sn,hSn,hO⟩:=hq
  have hc:=hc.turnO (Stab.true) h1 h2 h3 hT hSn hO (ShelfK.stab _ _ _ _ _)
  refine⟨_,e1,?_⟩
  refine hc.a 0 rfl rfl ?_
  have hmy:=rmay_any (cutD d) hcd
  rw [hm] at hmy
  refine hc.q (hmy _) fun wQ hQ hc=>?_
  refine hc.a 0 rfl rfl ?_
  refine hc.n fun gv wgv hgv hc=>?_
  have ek:(H.write (.add (cutD d)) true).k.pend=H.k.pend++[cutD d]:=by rw [write_add_k]
  have hpl:=ho.len
  refine app_ownF (m:=1) Tryz.underlying22 info_D rfl (by decide) hc (by rfl) (hc.cells 0 rfl) rfl (by omega) (by decide) rfl rfl ?_
  intro A3 cap3 w3 hc
  have hco:=(hc.drop.drop).castO (orD_snoc _ _ H.k.pend (cutD d))
  rw [<-ek] at hco
  exact⟨(i+1,H.write (.add (cutD d)) true,A3,cap3),⟨rfl,rfl,rfl,by rw [ek,List.length_append];rfl,congrArg _ (i_down (by omega)),trivial⟩,⟨by omega,by omega,ho2,_,hco⟩,by show 20-(i+1)<20-i;omega⟩
 ·rw [e] at had
  obtain⟨S1,Sa,h1,h2,h3,hO⟩:=hc.row
  refine⟨(had Sa _ (fun x hx=>hc.ctx.lt x (h2 x hx).1) (hw.free hc.below h2) hO).mono fun en wq hq=>?_⟩
  obtain⟨e1,hT,Sn,hSn,hO⟩:=hq
  have hc:=hc.turnO (Stab.true) h1 h2 h3 hT hSn hO (ShelfK.stab _ _ _ _ _)
  refine⟨_,e1,?_⟩
  have hfo:=ho.ok.fell
  refine⟨(tearS_any gs gj gc b H.fell hfo 0 _ _ (hc.row.right (ShelfK.stab _ _ _ _ _))).mono fun en wq hq=>?_⟩
  obtain⟨g2,b2,L,e1,hq,hO2,hL1,hL2⟩:=hq
  have hc:=hc.sepNew hq hO2 (ChestK.stab _ _ _)
  refine⟨_,e1,?_⟩
  obtain⟨j,hi1,hi2,hop⟩:=sopenT_any hfo hL1 hL2
  obtain⟨S1,Sa,h1,h2,h3,hO⟩:=hc.row
  refine⟨(hop g2 b2 Sa _ (fun x hx=>hc.ctx.lt x (h2 x hx).1) (hw.free hc.below h2) hO).mono fun en wq hq=>?_⟩
  obtain⟨gt,gk,e1,hT,Sn,hSn,hO⟩:=hq
  have hc:=hc.turnO (Sep.stab (Stab.true) (ShelfK.stab _ _ _ _ _)) h1 h2 h3 hT hSn hO (ShelfK.stab _ _ _ _ _)
  refine⟨_,e1,?_⟩
  have hct:=cut_full (H:=H.fell) ho.np hi1 hi2
  have hkt:(H.fell.cut j).k=H.k:=by rw [hct.1];rfl
  have hc:=hc.now Sep.swap (Sep.stab (Sep.stab Stab.true (ShelfK.stab _ _ _ _ _)) (ShelfK.stab _ _ _ _ _))
  have sT:Stab (Sep w.heap.size (fun _ _=>True) (ShelfK gt gk g2 b2 (H.fell.cut j))):=Sep.stab Stab.true (ShelfK.stab _ _ _ _ _)
  have hc:CtxF no w _ wq [(g11,32,dC (cutD d))] [orD C cc H.k.pend] (Sep w.heap.size (Sep w.heap.size (fun _ _=>True) (ShelfK gt gk g2 b2 (H.fell.cut j))) (ShelfK gs gj gc b H.fell)):=hc
  refine hc.q (Down_any gs gj gc b H.fell _ _ (hc.row.right (ShelfK.stab _ _ _ _ _))) fun wQ hQ hc=>?_
  refine hc.a 0 rfl rfl ?_
  have had:=fun Sa w hlt he hK=>sadd_any gs gj gc b H.fell hfo (cutD d) hcd Sa w hlt he hK
  rw [show addH H.fell (cutD d)=(H.fell,7) from by unfold addH;rw [if_pos (show H.fell.down=true from rfl)]] at had
  obtain⟨S1,Sa,h1,h2,h3,hO⟩:=hc.row
  refine⟨(had Sa _ (fun x hx=>hc.ctx.lt x (h2 x hx).1) (hw.free hc.below h2) hO).mono fun en wq hq=>?_⟩
  obtain⟨e1,hT,Sn,hSn,hO⟩:=hq
  have hc:=hc.turnO (sT) h1 h2 h3 hT hSn hO (ShelfK.stab _ _ _ _ _)
  refine⟨_,e1,?_⟩
  have hen:=fun Sa w hlt he hK=>senter_any gs gj gc b H.fell hfo 9 (by unfold i64ok;decide) Sa w hlt he hK
  rw [show enterH H.fell 9=(H.fell,7) from by unfold enterH;rw [if_pos (show H.fell.down=true from rfl)]] at hen
  obtain⟨S1,Sa,h1,h2,h3,hO⟩:=hc.row
  refine⟨(hen Sa _ (fun x hx=>hc.ctx.lt x (h2 x hx).1) (hw.free hc.below h2) hO).mono fun en wq hq=>?_⟩
  obtain⟨e1,hT,Sn,hSn,hO⟩:=hq
  have hc:=hc.turnO (sT) h1 h2 h3 hT hSn hO (ShelfK.stab _ _ _ _ _)
  refine⟨_,e1,?_⟩
  have hpT:=fun S w hK=>Pend_any gt gk g2 b2 (H.fell.cut j) (hfo.cut j hi2) S w hK
  rw [hkt] at hpT
  refine⟨(hpT _ _ ((hc.row.left sT).right (ShelfK.stab _ _ _ _ _))).mono fun en wq hq=>?_⟩
  obtain⟨A4,c4,e4,hq,ho4⟩:=hq
  have hrow4:=own_row hq ho4 no
  have hc:=(hc.quiet hq).1
  refine⟨_,e4,?_⟩
  obtain⟨S6,hRow⟩:=ownD_row hc
  have hed:=eqDeeds_any H.k.pend H.k.pend A4 C c4 cc _ _ _ hrow4 hRow
  rw [eqDs_refl] at hed
  refine hc.q (hed) fun wQ hQ hc=>?_
  exact⟨rfl,hc.below⟩
 ·rw [e] at had
  obtain⟨S1,Sa,h1,h2,h3,hO⟩:=hc.row
  refine⟨(had Sa _ (fun x hx=>hc.ctx.lt x (h2 x hx).1) (hw.free hc.below h2) hO).mono fun en wq hq=>?_⟩
  obtain⟨e1,hT,Sn,hSn,hO⟩:=hq
  have hc:=hc.turnO (Stab.true) h1 h2 h3 hT hSn hO (ShelfK.stab _ _ _ _ _)
  refine⟨_,e1,?_⟩
  refine hc.a 0 rfl rfl ?_
  have hmy:=rmay_any (cutD d) hcd
  rw [hm] at hmy
  refine hc.q (hmy _) fun wQ hQ hc=>?_
  exact⟨(i+1,H,C,cc),⟨rfl,rfl,rfl,rfl,congrArg _ (i_down (by omega)),trivial⟩,⟨by omega,by omega,⟨ho.ok,ho.down,ho.np,ho.b,by have:=ho.len;omega⟩,_,hc.drop⟩,by show 20-(i+1)<20-i;omega⟩
set_option maxRecDepth 100000 in
theorem shelfRoom_ct {H:Type} (enc:TypeId × Value->H) (W:World) (hw:Env W) {base:Nat}
  (v0:Value) (d0:DataW H) (p0:List MemPlace) (h0:DataW.Trod enc Tryz.prog W 0 (fun _=>true) true 3 v0 d0 p0) (k0:Value.okWide Tryz.prog W .any base 3 v0)
  (v1:Value) (d1:DataW H) (p1:List MemPlace) (h1:DataW.Trod enc Tryz.prog W 0 (fun _=>true) true 22 v1 d1 p1) (k1:Value.okWide Tryz.prog W .any base 22 v1):
  Calls Tryz.prog 6 #[v0,v1] W (RetB (.bool true) W):=by
 obtain⟨a0,rfl,o0⟩:=open_i64 Tryz.underlying3 h0 k0
 obtain⟨A1,c1,a1,rfl,r1,o1⟩:=open_deeds h1 k1
 exact room8_any a0 a1 A1 c1 o1 W hw r1
end Go.Proofs.YtokglimimnelaaaGreatDoor
