import Derived.Test.YtokglimimnelaaaGreatDoorM12
set_option linter.unusedVariables false
set_option linter.unusedSimpArgs false
/- Walk: armariumlaw8.ShelfLost. -/
namespace Go.Proofs.YtokglimimnelaaaGreatDoor
open Go.Vc Go.RowKit Go.Fl Go.ChangeShapes Go.WideShapes Go.ChangeAt
set_option maxRecDepth 100000
theorem tmodN (n:Int) (m:Nat) (hm:0<m) (h60:m<=60):∃ k:Nat,(IntKind.i64.wrap (n.tmod m+m)).tmod m=(k:Int)/\k<m:=by
 have h1 : -(m:Int)<n.tmod m/\n.tmod m<m:=by
  rcases Int.le_total 0 n with h | h
  ·rw [Int.tmod_eq_emod_of_nonneg h]
   exact⟨by have:=Int.emod_nonneg n (show (m:Int)≠0 by omega);omega,Int.emod_lt_of_pos _ (by omega)⟩
  ·have:=Int.neg_tmod (-n) m
   rw [Int.neg_neg] at this
   rw [this,Int.tmod_eq_emod_of_nonneg (by omega)]
   have h2:=Int.emod_nonneg (-n) (show (m:Int)≠0 by omega)
   have h3:=Int.emod_lt_of_pos (-n) (show (0:Int)<m by omega)
   omega
 have e2:IntKind.i64.wrap (n.tmod m+m)=n.tmod m+m:=IntWalk.i64_in _ ⟨by omega,by omega⟩
 rw [e2,Int.tmod_eq_emod_of_nonneg (by omega)]
 have h2:=Int.emod_nonneg (n.tmod m+m) (show (m:Int)≠0 by omega)
 have h3:=Int.emod_lt_of_pos (n.tmod m+m) (show (0:Int)<m by omega)
 exact⟨((n.tmod m+m) % m).toNat,by omega,by omega⟩
set_option maxHeartbeats 8000000 in
theorem lost8_any (ds:List D) (n keep:Int) (A:Option Addr) (ca:Nat) (hdk:∀ d∈ds,d.Ok) (w:World) (hw:Env w) (hA:Row (inW w) w A ds.length ca (ds.map dC).flatten):Calls Tryz.prog 3 #[.slice A ds.length ca,.int .i64 n,.int .i64 keep] w (RetB (.bool true) w):=by
 refine calls_sem lay_ok Tryz.func3 rfl (by kernel_rfl) (by kernel_rfl) ?_
 refine SemC.cut lay_ok (fun (x:Nat × Nat)=>[(1,.int .i64 n),(2,.int .i64 keep),(8,.pointer (some ⟨x.1,0,none⟩)),(9,.pointer (some ⟨x.2,0,none⟩))]) (fun x w'=>∃ H gj b S,Fit H 15/\H.k.b=Stt0/\H.np=H.l.length/\CtxF no w S w' [] [] (Sep w.heap.size (fun _ _=>True) (ShelfK x.2 gj x.1 b H))) 6 (by kernel_rfl) ?_ ?_
 ·have hc:=CtxF.start w no (fun _ h=>h.elim) (R:=fun _ _=>True) trivial Stab.true
  refine hc.q (begun8_any _ (hw.below hc.below)) fun wQ hQ hc=>?_
  refine⟨(new_any 1048576 _).mono fun en wq hq=>?_⟩
  rw [newC_c0 (by decide)] at hq
  obtain⟨gc,b,e1,hq,hO⟩:=hq
  have hc:=hc.sepNew hq hO (ChestK.stab _ _ _)
  refine⟨_,e1,?_⟩
  obtain⟨S1,Sa,h1,h2,h3,hO⟩:=hc.row
  refine⟨(snew_any gc b 1048576 (by decide) Sa _ (fun x hx=>hc.ctx.lt x (h2 x hx).1) (hw.free hc.below h2) hO).mono fun en wq hq=>?_⟩
  obtain⟨gs,gj,e1,hT,Sn,hSn,hO⟩:=hq
  have hc:=hc.turnO (Stab.true) h1 h2 h3 hT hSn hO (ShelfK.stab _ _ _ _ _)
  refine⟨_,e1,?_⟩
  have hmA:=row_max hA
  refine⟨Nat × Sh,fun (i,H)=>[(0,.slice A ds.length ca),(1,.int .i64 n),(2,.int .i64 keep),(8,.pointer (some ⟨gc,0,none⟩)),(9,.pointer (some ⟨gs,0,none⟩)),(11,.int .i64 (i:Int))],
   fun (i,H) w'=>i<=ds.length/\i<=15/\Fit H i/\H.k.b=Stt0/\H.np=H.l.length/\∃ S,CtxF no w S w' [] [] (Sep w.heap.size (fun _ _=>True) (ShelfK gs gj gc b H)),fun (i,_) _=>15-i,(0,H0 1048576),⟨rfl,rfl,rfl,rfl,rfl,rfl,trivial⟩,⟨Nat.zero_le _,Nat.zero_le _,Fit.h0,rfl,rfl,_,hc⟩,?_⟩
  clear hc
  rintro⟨i,H⟩ w1 u ⟨hi,hi15,hf,hb0,hnp,S,hc⟩
  by_cases hlt:i<ds.length/\i<15
  ·refine split_t (decide_eq_true (by omega)) ?_
   refine split_t (decide_eq_true (by omega)) ?_
   obtain⟨ad,rfl,hcell⟩:=RowD8.elem (hA.below hc.below) i hlt.1
   obtain⟨d,hd⟩:∃ d,d=ds[i]:=⟨_,rfl⟩
   have hdo:d.Ok:=by rw [hd];exact hdk _ (List.getElem_mem _)
   rw [<-hd] at hcell
   refine⟨⟨by omega,by omega⟩,?_⟩
   refine⟨dC d,rfl,by rw [Int.toNat_natCast];exact hcell,?_⟩
   refine hc.q (deed5_any d hdo _) fun wQ hQ hc=>?_
   have hcd:=cutD_ok hdo
   have had:=fun Sa w hlt he hK=>sadd_any gs gj gc b H hf.ok (cutD d) hcd Sa w hlt he hK
   have hres:=hf.add (by omega) hcd
   obtain⟨q,hq0⟩:∃ q,q=addH H (cutD d):=⟨_,rfl⟩
   rw [<-hq0] at had hres
   obtain⟨S1,Sa,h1,h2,h3,hO⟩:=hc.row
   refine⟨(had Sa _ (fun x hx=>hc.ctx.lt x (h2 x hx).1) (hw.free hc.below h2) hO).mono fun en wq hq=>?_⟩
   obtain⟨e1,hT,Sn,hSn,hO⟩:=hq
   have hc:=hc.turnO (Stab.true) h1 h2 h3 hT hSn hO (ShelfK.stab _ _ _ _ _)
   refine⟨_,e1,?_⟩
   obtain⟨hf2,hb2,hn2⟩:Fit q.1 (i+1)/\q.1.k.b=Stt0/\q.1.np=q.1.l.length:=by
    rcases hres with ⟨hmd,hcan,e⟩ | ⟨_,_,e⟩ | ⟨_,e⟩
    ·subst e
     exact⟨hf.write (by omega) (r:=.add _) ⟨hmd,hcd⟩ hcan true,by show (H.write _ true).k.b=_;rw [write_add_k];exact hb0,write_full _ _⟩
    ·subst e
     exact⟨hf.mono (by omega),hb0,hnp⟩
    ·subst e
     exact⟨hf.mono (by omega),hb0,hnp⟩
   exact⟨(i+1,q.1),⟨rfl,rfl,rfl,rfl,rfl,congrArg _ (i_down (by omega)),trivial⟩,⟨by omega,by omega,hf2,hb2,hn2,_,hc⟩,by show 15-(i+1)<15-i;omega⟩
  by_cases hl2:i<ds.length
  ·refine split_t (decide_eq_true (by omega)) ?_
   refine split_f (decide_eq_false (by omega)) ?_
   exact⟨(gc,gs),⟨rfl,rfl,rfl,rfl,trivial⟩,H,gj,b,_,hf.mono (by omega),hb0,hnp,hc⟩
  ·refine split_f (decide_eq_false (by omega)) ?_
   exact⟨(gc,gs),⟨rfl,rfl,rfl,rfl,trivial⟩,H,gj,b,_,hf.mono (by omega),hb0,hnp,hc⟩
 rintro⟨gc,gs⟩ u w1 ⟨H,gj,b,S,hf,hb0,hnp,hc⟩
 have hlen:=hf.ok.k.len
 refine SemC.cut lay_ok (fun (k:Nat)=>[(2,.int .i64 keep),(8,.pointer (some ⟨gc,0,none⟩)),(9,.pointer (some ⟨gs,0,none⟩)),(12,.int .i64 (k:Int))]) (fun k w'=>k<=H.k.pend.length/\∃ S,CtxF no w S w' [] [] (Sep w.heap.size (fun _ _=>True) (ShelfK gs gj gc b H))) 1 (by kernel_rfl) ?_ ?_
 ·refine⟨(Pend_any gs gj gc b H hf.ok _ _ (hc.row.right (ShelfK.stab _ _ _ _ _))).mono fun en wq hq=>?_⟩
  obtain⟨A3,c3,e4,hq,_⟩:=hq
  have hc:=(hc.quiet hq).1
  refine⟨_,e4,?_⟩
  by_cases hm:0<H.k.pend.length
  ·refine split_t (decide_eq_true (by omega)) ?_
   obtain⟨k,hk,hkm⟩:=tmodN n H.k.pend.length hm hlen
   refine⟨by omega,?_⟩
   refine⟨by omega,?_⟩
   exact⟨k,⟨rfl,rfl,rfl,(show Value.int .i64 ((IntKind.i64.wrap (n.tmod H.k.pend.length+H.k.pend.length)).tmod H.k.pend.length)=.int .i64 k by rw [hk]),trivial⟩,by omega,_,hc⟩
  ·refine split_f (decide_eq_false (by omega)) ?_
   exact⟨0,⟨rfl,rfl,rfl,rfl,trivial⟩,by omega,_,hc⟩
 clear hc
 rintro k u w1 ⟨hk,S,hc⟩
 refine SemC.vc lay_ok ?_
 have hseq:H.k.seq=H.k.pend.length:=by unfold Known.seq;rw [hb0];show (0:Int)+_=_;omega
 obtain⟨H1,k1,hf1,w1',hc1⟩:=commit_fit hf (by omega) (m:=(k:Int)) (by unfold i64ok;omega) (by omega)
 have hM1:=(More.refl H).of w1'
 obtain⟨S1,Sa,h1,h2,h3,hO⟩:=hc.row
 refine⟨(hc1 gs gj gc b Sa _ (fun x hx=>hc.ctx.lt x (h2 x hx).1) (hw.free hc.below h2) hO).mono fun en wq hq=>?_⟩
 obtain⟨Aa,ca1,e1,hT,Sn,Sl,hSn,hO,hSl,hX⟩:=hq
 have hc:=hc.turnO (Stab.true) h1 h2 h3 hT hSn hO (ShelfK.stab _ _ _ _ _)
 refine⟨_,e1,?_⟩
 have hq1:=hM1.late.seq hf.ok.k
 refine hc.q (Seq_any gs gj gc b H1 hf1.ok _ _ (hc.row.right (ShelfK.stab _ _ _ _ _))) fun wQ hQ hc=>?_
 obtain⟨H2,k2,hf2,w2',hc2⟩:=commit_fit hf1 (by omega) (m:=H1.k.seq) (by unfold i64ok;omega) (by omega)
 have hM2:=hM1.of w2'
 obtain⟨S1,Sa,h1,h2,h3,hO⟩:=hc.row
 refine⟨(hc2 gs gj gc b Sa _ (fun x hx=>hc.ctx.lt x (h2 x hx).1) (hw.free hc.below h2) hO).mono fun en wq hq=>?_⟩
 obtain⟨Ab,cb1,e1,hT,Sn,Sl,hSn,hO,hSl,hX⟩:=hq
 have hc:=hc.turnO (Stab.true) h1 h2 h3 hT hSn hO (ShelfK.stab _ _ _ _ _)
 refine⟨_,e1,?_⟩
 have hq2:=hM2.late.seq hf.ok.k
 refine⟨(tearS_any gs gj gc b H2 hf2.ok keep _ _ (hc.row.right (ShelfK.stab _ _ _ _ _))).mono fun en wq hq=>?_⟩
 obtain⟨g2,b2,L,e1,hq,hO2,hL1,hL2⟩:=hq
 have hc:=hc.sepNew hq hO2 (ChestK.stab _ _ _)
 refine⟨_,e1,?_⟩
 obtain⟨j,hi1,hi2,hop⟩:=sopenT_any hf2.ok hL1 hL2
 obtain⟨S1,Sa,h1,h2,h3,hO⟩:=hc.row
 refine⟨(hop g2 b2 Sa _ (fun x hx=>hc.ctx.lt x (h2 x hx).1) (hw.free hc.below h2) hO).mono fun en wq hq=>?_⟩
 obtain⟨gt,gk,e1,hT,Sn,hSn,hO⟩:=hq
 have hc:=hc.turnO (Sep.stab (Stab.true) (ShelfK.stab _ _ _ _ _)) h1 h2 h3 hT hSn hO (ShelfK.stab _ _ _ _ _)
 refine⟨_,e1,?_⟩
 have hT:=hM2.cut hnp hi1
 have hfT:=hf2.cut j hi2
 have hqT:=hT.seq hf.ok.k
 have sT:Stab (Sep w.heap.size (fun _ _=>True) (ShelfK gs gj gc b H2)):=Sep.stab Stab.true (ShelfK.stab _ _ _ _ _)
 have hpl0:H.k.pend.length<=60:=hlen
 obtain⟨a1,a2,a3,a4⟩:=hM1.late.all hf.ok.k
 obtain⟨t1,t2,t3,t4⟩:=hT.all hf.ok.k
 rw [hq1,a1] at k2
 have hb2:H2.k.b.seq=H.k.seq:=by rw [k2,lateK_bseq hf.ok.k (Nat.le_refl _)];rfl
 have hsT:=Seq_any gt gk g2 b2 (H2.cut j) hfT.ok _ _ (hc.row.right (ShelfK.stab _ _ _ _ _))
 rw [hqT] at hsT
 refine hc.q (hsT) fun wQ hQ hc=>?_
 have hsS:=Seq_any gs gj gc b H2 hf2.ok _ _ ((hc.row.left sT).right (ShelfK.stab _ _ _ _ _))
 rw [hq2] at hsS
 refine hc.q (hsS) fun wQ hQ hc=>?_
 refine split_f (by show (H.k.seq != H.k.seq)=false;rw [bne_eq_false_iff_eq]) ?_
 refine⟨(Book_any gt gk g2 b2 (H2.cut j) hfT.ok _ _ (hc.row.right (ShelfK.stab _ _ _ _ _))).mono fun en wq hq=>?_⟩
 obtain⟨cB,e1,hq,hrB⟩:=hq
 obtain⟨xB,rfl⟩:=hrB.stX
 have hc:=(hc.quiet hq).1
 refine⟨_,e1,?_⟩
 refine⟨(Book_any gs gj gc b H2 hf2.ok _ _ ((hc.row.left sT).right (ShelfK.stab _ _ _ _ _))).mono fun en wq hq=>?_⟩
 obtain⟨cC,e1,hq,hrC⟩:=hq
 obtain⟨xC,rfl⟩:=hrC.stX
 have hc:=(hc.quiet hq).1
 refine⟨_,e1,?_⟩
 refine split_f (decide_eq_false (by show ¬ H2.k.b.seq<(H2.cut j).k.b.seq;omega)) ?_
 obtain⟨H3,k3,hf3,_,hc3⟩:=commit_fit hfT (by omega) (m:=(H2.cut j).k.seq) (by unfold i64ok;omega) (by omega)
 rw [hqT] at k3 hc3
 rw [t1] at k3
 have hsT:=Seq_any gt gk g2 b2 (H2.cut j) hfT.ok _ _ (hc.row.right (ShelfK.stab _ _ _ _ _))
 rw [hqT] at hsT
 refine hc.q (hsT) fun wQ hQ hc=>?_
 obtain⟨S1,Sa,h1,h2,h3,hO⟩:=hc.row
 refine⟨(hc3 gt gk g2 b2 Sa _ (fun x hx=>hc.ctx.lt x (h2 x hx).1) (hw.free hc.below h2) hO).mono fun en wq hq=>?_⟩
 obtain⟨At,ct1,e1,hT,Sn,Sl,hSn,hO,hSl,hX⟩:=hq
 have hc:=hc.turnO (sT) h1 h2 h3 hT hSn hO (ShelfK.stab _ _ _ _ _)
 refine⟨_,e1,?_⟩
 refine⟨(Book_any gt gk g2 b2 H3 hf3.ok _ _ (hc.row.right (ShelfK.stab _ _ _ _ _))).mono fun en wq hq=>?_⟩
 obtain⟨cB,e1,hq,hrB⟩:=hq
 obtain⟨xD,rfl⟩:=hrB.stX
 have hc:=hc.sepKnow (X:=fun S w=>RepS S w H3.k.b (stX H3.k.b xD)) sT (ShelfK.stab _ _ _ _ _) hq hrB (stab_S _ _)
 have sT2:=sT.and (stab_S H3.k.b (stX H3.k.b xD))
 refine⟨_,e1,?_⟩
 refine⟨(Book_any gs gj gc b H2 hf2.ok _ _ ((hc.row.left sT2).1.right (ShelfK.stab _ _ _ _ _))).mono fun en wq hq=>?_⟩
 obtain⟨cC,e1,hq,hrC⟩:=hq
 obtain⟨xE,rfl⟩:=hrC.stX
 have hc:=hc.sepKnow (X:=fun S w=>RepS S w H2.k.b (stX H2.k.b xE)) sT2 (ShelfK.stab _ _ _ _ _) hq hrC (stab_S _ _)
 have sT3:=sT2.and (stab_S H2.k.b (stX H2.k.b xE))
 refine⟨_,e1,?_⟩
 have heq:=reqS_any H3.k.b H2.k.b _ _ _ _ (hc.row.left sT3).1.2 (hc.row.left sT3).2
 rw [eqS_iff.2 (by rw [k3,k2])] at heq
 refine hc.q (heq) fun wQ hQ hc=>?_
 refine⟨(Pend_any gt gk g2 b2 H3 hf3.ok _ _ (hc.row.right (ShelfK.stab _ _ _ _ _))).mono fun en wq hq=>?_⟩
 obtain⟨A3,c3,e4,hq,_⟩:=hq
 have hc:=(hc.quiet hq).1
 refine⟨_,e4,?_⟩
 have hp3:H3.k.pend.length=0:=by rw [k3,lateK_plen];omega
 refine split_t (by show ((H3.k.pend.length:Int)==0)=true;rw [hp3];rfl) ?_
 refine⟨?_,hc.below⟩
 have l1:=(commit_len H.k (k:Int)).1
 have l2:(commitK H1.k H1.k.seq).2.length=H1.k.pend.length:=by rw [hq1];exact a2
 have l3:H1.k.pend.length=H.k.pend.length-k:=by rw [k1,commitK_late,lateK_plen,hb0];show _-((k:Int)-0).toNat=_;omega
 have l4:(commitK H.k (k:Int)).2.length=k:=by rw [l1,hb0];show min ((k:Int)-0).toNat _=_;omega
 show Ending.returned (.bool (decide (((commitK (H2.cut j).k H.k.seq).2.length:Int)<=IntKind.i64.wrap (((commitK H.k (k:Int)).2.length:Int)+((commitK H1.k H1.k.seq).2.length:Int)))))=_
 rw [IntWalk.i64_in _ ⟨by omega,by omega⟩,decide_eq_true (by omega)]
set_option maxRecDepth 100000 in
theorem shelfLost_ct {H:Type} (enc:TypeId × Value->H) (W:World) (hw:Env W) {base:Nat}
  (v0:Value) (d0:DataW H) (p0:List MemPlace) (h0:DataW.Trod enc Tryz.prog W 0 (fun _=>true) true 22 v0 d0 p0) (k0:Value.okWide Tryz.prog W .any base 22 v0)
  (v1:Value) (d1:DataW H) (p1:List MemPlace) (h1:DataW.Trod enc Tryz.prog W 0 (fun _=>true) true 3 v1 d1 p1) (k1:Value.okWide Tryz.prog W .any base 3 v1)
  (v2:Value) (d2:DataW H) (p2:List MemPlace) (h2:DataW.Trod enc Tryz.prog W 0 (fun _=>true) true 3 v2 d2 p2) (k2:Value.okWide Tryz.prog W .any base 3 v2):
  Calls Tryz.prog 3 #[v0,v1,v2] W (RetB (.bool true) W):=by
 obtain⟨A0,c0,a0,rfl,r0,o0⟩:=open_deeds h0 k0
 obtain⟨a1,rfl,o1⟩:=open_i64 Tryz.underlying3 h1 k1
 obtain⟨a2,rfl,o2⟩:=open_i64 Tryz.underlying3 h2 k2
 exact lost8_any a0 a1 a2 A0 c0 o0 W hw r0
end Go.Proofs.YtokglimimnelaaaGreatDoor
