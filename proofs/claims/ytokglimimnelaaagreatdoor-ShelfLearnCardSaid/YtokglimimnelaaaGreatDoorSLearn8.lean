import Derived.Test.YtokglimimnelaaaGreatDoorM13
set_option linter.unusedVariables false
set_option linter.unusedSimpArgs false
/- Walk: armariumlaw8.ShelfLearn. -/
namespace Go.Proofs.YtokglimimnelaaaGreatDoor
open Go.Vc Go.RowKit Go.Fl Go.ChangeShapes Go.WideShapes Go.ChangeAt
set_option maxRecDepth 100000
set_option maxHeartbeats 8000000 in
theorem learn8_any (ds:List D) (s:Stt) (l:List D) (keep:Int) (A B:Option Addr) (ca cb:Nat) (cs:List Value) (hdk:∀ d∈ds,d.Ok) (hsk:s.Ok) (hlk:∀ d∈l,d.Ok) (w:World) (hw:Env w) (hA:Row (inW w) w A ds.length ca (ds.map dC).flatten) (hS:RepS (inW w) w s cs) (hB:Row (inW w) w B l.length cb (l.map dC).flatten):Calls Tryz.prog 10 #[.slice A ds.length ca,.agg cs.toArray,.slice B l.length cb,.int .i64 keep] w (RetB (.bool true) w):=by
 obtain⟨xs,rfl⟩:=hS.stX
 have h5:s.lows.length=5:=hS.five
 refine calls_sem lay_ok Tryz.func10 rfl (by kernel_rfl) (by kernel_rfl) ?_
 refine SemC.cut lay_ok (fun (x:Nat × Nat × Nat)=>[(2,.slice B l.length cb),(3,.int .i64 keep),(5,.pointer (some ⟨x.1,0,none⟩)),(10,.pointer (some ⟨x.2.1,0,none⟩)),(11,.pointer (some ⟨x.2.2,0,none⟩))]) (fun x w'=>∃ H gj b S,Fit H 10/\H.k.ep=5/\H.k.ln=0/\CtxF no w S w' [(x.1,43,stX s xs)] [] (Sep w.heap.size (fun _ _=>True) (ShelfK x.2.2 gj x.2.1 b H))) 6 (by kernel_rfl) ?_ ?_
 ·have hc:=CtxF.start w no (fun _ h=>h.elim) (R:=fun _ _=>True) trivial Stab.true
  refine hc.n fun g5 wg5 hg5 hc=>?_
  refine hc.q (begun8_any _ (hw.below hc.below)) fun wQ hQ hc=>?_
  refine⟨(new_any 1048576 _).mono fun en wq hq=>?_⟩
  rw [newC_c0 (by decide)] at hq
  obtain⟨gc,b,e1,hq,hO⟩:=hq
  have hc:=hc.sepNew hq hO (ChestK.stab _ _ _)
  refine⟨_,e1,?_⟩
  obtain⟨S1,Sa,h1,h2,h3,hO⟩:=hc.row
  refine⟨(snew_any gc b 1048576 (by decide) Sa _ (fun x hx=>hc.ctx.lt x (h2 x hx).1) (hw.free hc.below h2) hO).mono fun en wq hq=>?_⟩
  obtain⟨gs,gj,e1,hT,Sn,hSn,hO⟩:=hq
  have hc:=hc.turnO (Stab.true) h1 h2 h3 hT hSn hO (ShelfK.stab _ _ _ _ _)
  refine⟨_,e1,?_⟩
  obtain⟨H0',k0,hf0,_,_,_,hent⟩:=enter_fit Fit.h0 (by decide) (m:=5) (by unfold i64ok;decide)
  obtain⟨S1,Sa,h1,h2,h3,hO⟩:=hc.row
  refine⟨(hent gs gj gc b Sa _ (fun x hx=>hc.ctx.lt x (h2 x hx).1) (hw.free hc.below h2) hO).mono fun en wq hq=>?_⟩
  obtain⟨e1,hT,Sn,hSn,hO⟩:=hq
  have hc:=hc.turnO (Stab.true) h1 h2 h3 hT hSn hO (ShelfK.stab _ _ _ _ _)
  refine⟨_,e1,?_⟩
  have hmA:=row_max hA
  refine⟨Nat × Sh,fun (i,H)=>[(0,.slice A ds.length ca),(2,.slice B l.length cb),(3,.int .i64 keep),(5,.pointer (some ⟨g5,0,none⟩)),(10,.pointer (some ⟨gc,0,none⟩)),(11,.pointer (some ⟨gs,0,none⟩)),(13,.int .i64 (i:Int))],
   fun (i,H) w'=>i<=ds.length/\i<=8/\Fit H (i+1)/\H.k.ep=5/\H.k.ln=0/\∃ S,CtxF no w S w' [(g5,43,stX s xs)] [] (Sep w.heap.size (fun _ _=>True) (ShelfK gs gj gc b H)),fun (i,_) _=>8-i,(0,H0'),⟨rfl,rfl,rfl,rfl,rfl,rfl,rfl,trivial⟩,⟨Nat.zero_le _,Nat.zero_le _,hf0,by rw [k0];rfl,by rw [k0];rfl,_,hc⟩,?_⟩
  clear hc
  rintro⟨i,H⟩ w1 u ⟨hi,hi15,hf,hep,hln,S,hc⟩
  by_cases hlt:i<ds.length/\i<8
  ·refine split_t (decide_eq_true (by omega)) ?_
   refine split_t (decide_eq_true (by omega)) ?_
   obtain⟨ad,rfl,hcell⟩:=RowD8.elem (hA.below hc.below) i hlt.1
   obtain⟨d,hd⟩:∃ d,d=ds[i]:=⟨_,rfl⟩
   have hdo:d.Ok:=by rw [hd];exact hdk _ (List.getElem_mem _)
   rw [<-hd] at hcell
   refine⟨⟨by omega,by omega⟩,?_⟩
   refine⟨dC d,rfl,by rw [Int.toNat_natCast];exact hcell,?_⟩
   refine hc.q (deed5_any d hdo _) fun wQ hQ hc=>?_
   obtain⟨H1,k1,hf1,_,_,_,had⟩:=add_fit hf (by omega) (cutD_ok hdo)
   obtain⟨S1,Sa,h1,h2,h3,hO⟩:=hc.row
   refine⟨(had gs gj gc b Sa _ (fun x hx=>hc.ctx.lt x (h2 x hx).1) (hw.free hc.below h2) hO).mono fun en wq hq=>?_⟩
   obtain⟨e1,hT,Sn,hSn,hO⟩:=hq
   have hc:=hc.turnO (Stab.true) h1 h2 h3 hT hSn hO (ShelfK.stab _ _ _ _ _)
   refine⟨_,e1,?_⟩
   have hkk:H1.k.ep=H.k.ep/\H1.k.ln=H.k.ln:=by
    rw [k1]
    unfold addKK
    split
    ·exact⟨rfl,rfl⟩
    ·split<;>exact⟨rfl,rfl⟩
   exact⟨(i+1,H1),⟨rfl,rfl,rfl,rfl,rfl,rfl,congrArg _ (i_down (by omega)),trivial⟩,⟨by omega,by omega,hf1,by rw [hkk.1];exact hep,by rw [hkk.2];exact hln,_,hc⟩,by show 8-(i+1)<8-i;omega⟩
  by_cases hl2:i<ds.length
  ·refine split_t (decide_eq_true (by omega)) ?_
   refine split_f (decide_eq_false (by omega)) ?_
   exact⟨(g5,gc,gs),⟨rfl,rfl,rfl,rfl,rfl,trivial⟩,H,gj,b,_,hf.mono (by omega),hep,hln,hc⟩
  ·refine split_f (decide_eq_false (by omega)) ?_
   exact⟨(g5,gc,gs),⟨rfl,rfl,rfl,rfl,rfl,trivial⟩,H,gj,b,_,hf.mono (by omega),hep,hln,hc⟩
 rintro⟨g5,gc,gs⟩ u w1 ⟨H,gj,b,S,hf,hep,hln,hc⟩
 simp only at hc
 refine SemC.cut lay_ok (fun (x:List D × SX × Option Addr × Nat)=>[(3,.int .i64 keep),(5,.pointer (some ⟨g5,0,none⟩)),(10,.pointer (some ⟨gc,0,none⟩)),(11,.pointer (some ⟨gs,0,none⟩)),(14,.slice x.2.2.1 x.1.length x.2.2.2),(15,.bool (mayS (cutS s)&&x.1.all mayD))]) (fun x w'=>x.1.length<=8/\(∀ d∈x.1,d.Ok)/\∃ S,CtxF no w S w' [(g5,43,stX (cutS s) x.2.1)] [orD x.2.2.1 x.2.2.2 x.1] (Sep w.heap.size (fun S w=>RepS S w (cutS s) (stX (cutS s) x.2.1)) (ShelfK gs gj gc b H))) 3 (by kernel_rfl) ?_ ?_
 ·refine hc.a 0 rfl rfl ?_
  refine⟨(state5_any s hsk _ _ _ (hS.below hc.below)).mono fun en wq hq=>?_⟩
  obtain⟨c1,e1,hq,hrep⟩:=hq
  obtain⟨y,rfl⟩:=hrep.stX
  have hc:=(hc.sepKnow (X:=fun S w=>RepS S w (cutS s) (stX (cutS s) y)) Stab.true (ShelfK.stab _ _ _ _ _) hq hrep (stab_S _ _)).sepNow (R':=fun S w=>RepS S w (cutS s) (stX (cutS s) y)) (fun _ h=>h.2) (fun _ h=>h) (stab_S _ _) (ShelfK.stab _ _ _ _ _)
  refine⟨_,e1,?_⟩
  refine hc.s 0 rfl fun wS hS hc=>?_
  refine hc.a 0 rfl rfl ?_
  refine hc.q (rmayS_any (cutS s) (cutS_ok hsk) _ _ _ (hc.row.left (stab_S _ _))) fun wQ hQ hc=>?_
  have hmB:=row_max hB
  refine⟨Nat × List D × Option Addr × Nat × Bool,fun (i,p,C,cc,g)=>[(2,.slice B l.length cb),(3,.int .i64 keep),(5,.pointer (some ⟨g5,0,none⟩)),(10,.pointer (some ⟨gc,0,none⟩)),(11,.pointer (some ⟨gs,0,none⟩)),(14,.slice C p.length cc),(15,.bool g),(16,.int .i64 (i:Int))],
   fun (i,p,C,cc,g) w'=>i<=l.length/\i<=8/\p.length=i/\g=(mayS (cutS s)&&p.all mayD)/\(∀ d∈p,d.Ok)/\∃ S,CtxF no w S w' [(g5,43,stX (cutS s) y)] [orD C cc p] (Sep w.heap.size (fun S w=>RepS S w (cutS s) (stX (cutS s) y)) (ShelfK gs gj gc b H)),fun (i,_) _=>8-i,(0,[],none,0,mayS (cutS s)),⟨rfl,rfl,rfl,rfl,rfl,rfl,rfl,rfl,trivial⟩,⟨Nat.zero_le _,Nat.zero_le _,rfl,by rw [List.all_nil,Bool.and_true],(fun d hd=>by cases hd),_,hc.nil _ _⟩,?_⟩
  clear hc
  rintro⟨i,p,C,cc,g⟩ w2 u2 ⟨hi,hi8,hpi,hg,hpk,S,hc⟩
  by_cases hlt:i<l.length/\i<8
  ·refine split_t (decide_eq_true (by omega)) ?_
   refine split_t (decide_eq_true (by omega)) ?_
   obtain⟨ad,rfl,hcell⟩:=RowD8.elem (hB.below hc.below) i hlt.1
   obtain⟨d,hd⟩:∃ d,d=l[i]:=⟨_,rfl⟩
   have hdo:d.Ok:=by rw [hd];exact hlk _ (List.getElem_mem _)
   have hcd:=cutD_ok hdo
   rw [<-hd] at hcell
   refine⟨⟨by omega,by omega⟩,?_⟩
   refine⟨dC d,rfl,by rw [Int.toNat_natCast];exact hcell,?_⟩
   refine hc.q (deed5_any d hdo _) fun wQ hQ hc=>?_
   refine hc.n fun gv wgv hgv hc=>?_
   refine app_ownF (m:=1) Tryz.underlying22 info_D rfl (by decide) hc (by rfl) (hc.cells 0 rfl) rfl (by omega) (by decide) rfl rfl ?_
   intro A3 cap3 w3 hc
   have hc:=hc.drop.castO (orD_snoc _ _ p (cutD d))
   have hpk2:∀ x∈p++[cutD d],x.Ok:=fun x hx=>by
    rw [List.mem_append,List.mem_singleton] at hx
    rcases hx with hx | rfl
    ·exact hpk x hx
    ·exact hcd
   have hpl2:(p++[cutD d]).length=p.length+1:=by rw [List.length_append];rfl
   have hal:(p++[cutD d]).all mayD=(p.all mayD&&mayD (cutD d)):=by rw [List.all_append];simp
   have hend:∀ g',g'=(g&&mayD (cutD d))->g'=(mayS (cutS s)&&(p++[cutD d]).all mayD):=fun g' h=>by rw [h,hg,hal,Bool.and_assoc]
   cases g with
   | false=>
    exact⟨(i+1,p++[cutD d],A3,cap3,false),⟨rfl,rfl,rfl,rfl,rfl,(show Value.slice A3 (p.length+1) cap3=.slice A3 (p++[cutD d]).length cap3 by rw [hpl2]),rfl,congrArg _ (i_down (by omega)),trivial⟩,⟨by omega,by omega,by omega,hend _ rfl,hpk2,_,hc⟩,by show 8-(i+1)<8-i;omega⟩
   | true=>
    obtain⟨_,hR0⟩:=ownD_row hc
    obtain⟨ad2,rfl,_⟩:=RowD8.elem hR0 i (by omega)
    refine⟨⟨by omega,by omega⟩,?_⟩
    have hce:=ownD_cells hc i (by omega)
    rw [show (p++[cutD d])[i]'(by omega)=cutD d from by rw [List.getElem_append_right (by omega)];simp [hpi]] at hce
    refine⟨dC (cutD d),rfl,by rw [Int.toNat_natCast];exact hce,?_⟩
    refine hc.q (rmay_any (cutD d) hcd _) fun wQ hQ hc=>?_
    exact⟨(i+1,p++[cutD d],some ad2,cap3,mayD (cutD d)),⟨rfl,rfl,rfl,rfl,rfl,(show Value.slice (some ad2) (p.length+1) cap3=.slice (some ad2) (p++[cutD d]).length cap3 by rw [hpl2]),rfl,congrArg _ (i_down (by omega)),trivial⟩,⟨by omega,by omega,by omega,hend _ rfl,hpk2,_,hc⟩,by show 8-(i+1)<8-i;omega⟩
  by_cases hl2:i<l.length
  ·refine split_t (decide_eq_true (by omega)) ?_
   refine split_f (decide_eq_false (by omega)) ?_
   exact⟨(p,y,C,cc),⟨rfl,rfl,rfl,rfl,rfl,by rw [hg];rfl,trivial⟩,by show p.length<=8;omega,hpk,_,hc⟩
  ·refine split_f (decide_eq_false (by omega)) ?_
   exact⟨(p,y,C,cc),⟨rfl,rfl,rfl,rfl,rfl,by rw [hg];rfl,trivial⟩,by show p.length<=8;omega,hpk,_,hc⟩
 clear hc
 rintro⟨p,y,C,cc⟩ u w1 ⟨hpl,hpk,S,hc⟩
 simp only at hpl hpk hc
 refine SemC.cut lay_ok (fun (x:Unit)=>[(3,.int .i64 keep),(5,.pointer (some ⟨g5,0,none⟩)),(10,.pointer (some ⟨gc,0,none⟩)),(11,.pointer (some ⟨gs,0,none⟩)),(14,.slice C p.length cc),(15,.bool (goodL (cutS s) p))]) (fun x w'=>CtxF no w S w' [(g5,43,stX (cutS s) y)] [orD C cc p] (Sep w.heap.size (fun S w=>RepS S w (cutS s) (stX (cutS s) y)) (ShelfK gs gj gc b H))) 0 (by kernel_rfl) ?_ ?_
 ·refine split_ (fun hg=>?_) (fun hg=>?_)
  ·refine⟨_,hc.cell 0 rfl _ rfl,?_⟩
   exact⟨(),⟨rfl,rfl,rfl,rfl,rfl,(show Value.bool (decide ((cutS s).seq<=IntKind.i64.wrap (1099511627776-(p.length:Int))))=.bool (goodL (cutS s) p) by
    unfold goodL
    rw [show (mayS (cutS s)&&p.all mayD)=true from hg,Bool.true_and,IntWalk.i64_in _ ⟨by omega,by omega⟩]
    rfl),trivial⟩,hc⟩
  ·exact⟨(),⟨rfl,rfl,rfl,rfl,rfl,(show Value.bool false=.bool (goodL (cutS s) p) by
    unfold goodL
    rw [show (mayS (cutS s)&&p.all mayD)=false from hg]
    rfl),trivial⟩,hc⟩
 clear hc
 rintro⟨⟩ u w1 hc
 refine SemC.vc lay_ok ?_
 have s1:=stab_S (cutS s) (stX (cutS s) y)
 refine⟨(Book_any gs gj gc b H hf.ok _ _ (hc.row.right (ShelfK.stab _ _ _ _ _))).mono fun en wq hq=>?_⟩
 obtain⟨cB,e1,hq,hrB⟩:=hq
 obtain⟨z,rfl⟩:=hrB.stX
 have hc:=hc.sepKnow (X:=fun S w=>RepS S w H.k.b (stX H.k.b z)) s1 (ShelfK.stab _ _ _ _ _) hq hrB (stab_S _ _)
 have s2:=s1.and (stab_S H.k.b (stX H.k.b z))
 refine⟨_,e1,?_⟩
 refine⟨(Pend_any gs gj gc b H hf.ok _ _ (hc.row.right (ShelfK.stab _ _ _ _ _))).mono fun en wq hq=>?_⟩
 obtain⟨A3,c3,e4,hq,ho⟩:=hq
 have hc:=hc.sepKnow (X:=fun S w=>Row S w A3 H.k.pend.length c3 (H.k.pend.map dC).flatten) s2 (ShelfK.stab _ _ _ _ _) hq (own_row hq ho no) (fun _ _ _ _ h f=>h.fut f)
 have s3:Stab (fun S w=>(RepS S w (cutS s) (stX (cutS s) y)/\RepS S w H.k.b (stX H.k.b z))/\Row S w A3 H.k.pend.length c3 (H.k.pend.map dC).flatten):=s2.and (fun _ _ _ _ h f=>h.fut f)
 refine⟨_,e4,?_⟩
 refine hc.n fun g17 wg17 hg17 hc=>?_
 refine hc.s 0 rfl fun wS hS hc=>?_
 obtain⟨S2,hc⟩:=hc.sepTold s3 (ShelfK.stab _ _ _ _ _)
 have hc:CtxF no w S2 wS [(g17,43,stX H.k.b z),(g5,43,stX (cutS s) y)] [] (Sep w.heap.size (fun S w=>((RepS S w (cutS s) (stX (cutS s) y)/\RepS S w H.k.b (stX H.k.b z))/\Row S w A3 H.k.pend.length c3 (H.k.pend.map dC).flatten)/\Row S w C p.length cc (p.map dC).flatten) (ShelfK gs gj gc b H)):=hc
 have s4:Stab (fun S w=>((RepS S w (cutS s) (stX (cutS s) y)/\RepS S w H.k.b (stX H.k.b z))/\Row S w A3 H.k.pend.length c3 (H.k.pend.map dC).flatten)/\Row S w C p.length cc (p.map dC).flatten):=s3.and (fun _ _ _ _ h f=>h.fut f)
 refine hc.a 1 rfl rfl ?_
 have h5c:(cutS s).lows.length=5:=h5
 have hkeys:∀ e∈(cutS s).l,strok e.key:=fun e he=>((cutS_ok hsk).l e he).key
 have hln':=fun Sa w hlt he hK Sv hvd hs hP=>slearn_any gs gj gc b H hf.ok (cutS s) hkeys p hpk (by omega) y C cc Sa w hlt he hK Sv hvd hs hP
 cases hgd:goodL (cutS s) p with
 | false=>
  rw [learn_bad hf.down (by omega) hgd] at hln'
  obtain⟨S1,Sa,h1,h2,h3,hO⟩:=hc.row
  refine⟨(hln' Sa _ (fun x hx=>hc.ctx.lt x (h2 x hx).1) (hw.free hc.below h2) hO S1 (fun y hy=>⟨hc.ctx.lt y (h1 y hy).1,(h1 y hy).2⟩) h3.1.1.1 h3.2).mono fun en wq hq=>?_⟩
  obtain⟨e1,hT,Sn,hSn,hO⟩:=hq
  have hc:=hc.turnO s4 h1 h2 h3 hT hSn hO (ShelfK.stab _ _ _ _ _)
  refine⟨_,e1,?_⟩
  refine vD (.Q [0,1,2,3] (.n 4 (.n 5 (.n 6 (.Q [7,8,9,11] (.n 10 (.n 12 (.Q [13,14,15] (.n 16 (.Q [17,18,19] .fin) .stop)) .stop) .stop)) .stop) .stop) (.n 5 (.n 4 (.n 6 (.Q [7,8,9,11] (.n 10 (.n 12 (.Q [13,14,15] (.n 16 (.Q [17,18,19] .fin) .stop)) .stop) .stop)) .stop) .stop) .stop))) (fun _=>True) trivial ?_
  have hc:=hc.drew
  refine⟨?_,?_⟩
  ·skip
   refine⟨(Book_any gs gj gc b H hf.ok _ _ (hc.row.right (ShelfK.stab _ _ _ _ _))).mono fun en wq hq=>?_⟩
   obtain⟨cB,e1,hq,hrB⟩:=hq
   obtain⟨z2,rfl⟩:=hrB.stX
   have hc:=hc.sepKnow (X:=fun S w=>RepS S w H.k.b (stX H.k.b z2)) s4 (ShelfK.stab _ _ _ _ _) hq hrB (stab_S _ _)
   have s5:=s4.and (stab_S H.k.b (stX H.k.b z2))
   refine⟨_,e1,trivial,?_⟩
   refine⟨hc.a' 0 rfl rfl ?_,trivial⟩
   refine⟨?_,trivial⟩
   have heq:=reqS_any H.k.b H.k.b _ _ _ _ (hc.row.left s5).2 (hc.row.left s5).1.1.1.2
   rw [eqS_iff.2 rfl] at heq
   refine hc.q' (heq) fun wQ hQ hc=>?_
   refine⟨⟨(Pend_any gs gj gc b H hf.ok _ _ (hc.row.right (ShelfK.stab _ _ _ _ _))).mono fun en wq hq=>?_⟩,trivial⟩
   obtain⟨A4,c4,e4,hq,ho⟩:=hq
   have hrow4:=own_row hq ho no
   have hc:=(hc.quiet hq).1
   refine⟨_,e4,trivial,?_⟩
   refine⟨?_,trivial⟩
   have hed:=eqDeeds_any H.k.pend H.k.pend A4 A3 c4 c3 _ _ _ hrow4 (hc.row.left s5).1.1.2
   rw [eqDs_refl] at hed
   refine hc.q' (hed) fun wQ hQ hc=>?_
   refine⟨?_,trivial⟩
   have hl9:=Learnt_any gs gj gc b H _ _ (hc.row.right (ShelfK.stab _ _ _ _ _))
   rw [hln] at hl9
   refine hc.q' (hl9) fun wQ hQ hc=>?_
   exact⟨rfl,hc.below⟩
  refine⟨hc.a' 0 rfl rfl ?_,trivial⟩
  refine⟨⟨(Book_any gs gj gc b H hf.ok _ _ (hc.row.right (ShelfK.stab _ _ _ _ _))).mono fun en wq hq=>?_⟩,trivial⟩
  obtain⟨cB,e1,hq,hrB⟩:=hq
  obtain⟨z2,rfl⟩:=hrB.stX
  have hc:=hc.sepKnow (X:=fun S w=>RepS S w H.k.b (stX H.k.b z2)) s4 (ShelfK.stab _ _ _ _ _) hq hrB (stab_S _ _)
  have s5:=s4.and (stab_S H.k.b (stX H.k.b z2))
  refine⟨_,e1,trivial,?_⟩
  refine⟨?_,trivial⟩
  have heq:=reqS_any H.k.b H.k.b _ _ _ _ (hc.row.left s5).2 (hc.row.left s5).1.1.1.2
  rw [eqS_iff.2 rfl] at heq
  refine hc.q' (heq) fun wQ hQ hc=>?_
  refine⟨⟨(Pend_any gs gj gc b H hf.ok _ _ (hc.row.right (ShelfK.stab _ _ _ _ _))).mono fun en wq hq=>?_⟩,trivial⟩
  obtain⟨A4,c4,e4,hq,ho⟩:=hq
  have hrow4:=own_row hq ho no
  have hc:=(hc.quiet hq).1
  refine⟨_,e4,trivial,?_⟩
  refine⟨?_,trivial⟩
  have hed:=eqDeeds_any H.k.pend H.k.pend A4 A3 c4 c3 _ _ _ hrow4 (hc.row.left s5).1.1.2
  rw [eqDs_refl] at hed
  refine hc.q' (hed) fun wQ hQ hc=>?_
  refine⟨?_,trivial⟩
  have hl9:=Learnt_any gs gj gc b H _ _ (hc.row.right (ShelfK.stab _ _ _ _ _))
  rw [hln] at hl9
  refine hc.q' (hl9) fun wQ hQ hc=>?_
  exact⟨rfl,hc.below⟩
 | true=>
  obtain⟨el,hKO⟩:=learn_good hf (by omega) h5c hpk (by omega) hgd
  rw [el] at hln'
  obtain⟨S1,Sa,h1,h2,h3,hO⟩:=hc.row
  refine⟨(hln' Sa _ (fun x hx=>hc.ctx.lt x (h2 x hx).1) (hw.free hc.below h2) hO S1 (fun y hy=>⟨hc.ctx.lt y (h1 y hy).1,(h1 y hy).2⟩) h3.1.1.1 h3.2).mono fun en wq hq=>?_⟩
  obtain⟨e1,hT,Sn,hSn,hO⟩:=hq
  have hc:=hc.turnO s4 h1 h2 h3 hT hSn hO (ShelfK.stab _ _ _ _ _)
  refine⟨_,e1,?_⟩
  have hfl:=hf.lay (by omega) hKO
  refine⟨(tearS_any gs gj gc b (H.lay ⟨cutS s,p,H.k.ep,H.k.ep⟩) hfl.ok keep _ _ (hc.row.right (ShelfK.stab _ _ _ _ _))).mono fun en wq hq=>?_⟩
  obtain⟨g2,b2,L,e1,hq,hO2,hL1,hL2⟩:=hq
  have hc:=hc.sepNew hq hO2 (ChestK.stab _ _ _)
  refine⟨_,e1,?_⟩
  obtain⟨j,hi1,hi2,hop⟩:=sopenT_any hfl.ok hL1 hL2
  obtain⟨S1,Sa,h1,h2,h3,hO⟩:=hc.row
  refine⟨(hop g2 b2 Sa _ (fun x hx=>hc.ctx.lt x (h2 x hx).1) (hw.free hc.below h2) hO).mono fun en wq hq=>?_⟩
  obtain⟨gt,gk,e1,hT,Sn,hSn,hO⟩:=hq
  have hc:=hc.turnO (Sep.stab (s4) (ShelfK.stab _ _ _ _ _)) h1 h2 h3 hT hSn hO (ShelfK.stab _ _ _ _ _)
  refine⟨_,e1,?_⟩
  have hct:=cut_full (H:=H.lay ⟨cutS s,p,H.k.ep,H.k.ep⟩) rfl hi1 hi2
  have hfc:=hfl.cut j hi2
  obtain⟨Ht,hHt⟩:∃ Ht,Ht=(H.lay ⟨cutS s,p,H.k.ep,H.k.ep⟩).cut j:=⟨_,rfl⟩
  rw [<-hHt] at hc hct hfc
  have hkt:Ht.k=⟨cutS s,p,5,5⟩:=by rw [hct.1,hep];rfl
  have s5:Stab (Sep w.heap.size (fun S w=>((RepS S w (cutS s) (stX (cutS s) y)/\RepS S w H.k.b (stX H.k.b z))/\Row S w A3 H.k.pend.length c3 (H.k.pend.map dC).flatten)/\Row S w C p.length cc (p.map dC).flatten) (ShelfK gs gj gc b (H.lay ⟨cutS s,p,H.k.ep,H.k.ep⟩))):=Sep.stab s4 (ShelfK.stab _ _ _ _ _)
  have hbT:=fun S w hK=>Book_any gt gk g2 b2 Ht hfc.ok S w hK
  have hpT:=fun S w hK=>Pend_any gt gk g2 b2 Ht hfc.ok S w hK
  have hlT:=fun S w hK=>Learnt_any gt gk g2 b2 Ht S w hK
  have heT:=fun S w hK=>Epoch_any gt gk g2 b2 Ht S w hK
  rw [hkt] at hbT hpT hlT heT
  refine vD (.Q [0,1,2,3,4,5,6,7] (.n 8 (.n 9 (.n 10 (.Q [11,12,13,15] (.n 14 (.n 16 (.Q [17,18,19] (.n 20 (.Q [21,22,23,24] (.n 25 (.Q [26,27,28] .fin) .stop)) .stop)) .stop) .stop)) .stop) .stop) (.n 9 (.n 8 (.n 10 (.Q [11,12,13,15] (.n 14 (.n 16 (.Q [17,18,19] (.n 20 (.Q [21,22,23,24] (.n 25 (.Q [26,27,28] .fin) .stop)) .stop)) .stop) .stop)) .stop) .stop) .stop))) (fun _=>True) trivial ?_
  have hc:=hc.drew
  refine⟨?_,?_⟩
  ·skip
   refine⟨(hbT _ _ (hc.row.right (ShelfK.stab _ _ _ _ _))).mono fun en wq hq=>?_⟩
   obtain⟨cB,e1,hq,hrB⟩:=hq
   obtain⟨z2,rfl⟩:=hrB.stX
   have hc:=hc.sepKnow (X:=fun S w=>RepS S w (cutS s) (stX (cutS s) z2)) s5 (ShelfK.stab _ _ _ _ _) hq hrB (stab_S _ _)
   have s6:=s5.and (stab_S (cutS s) (stX (cutS s) z2))
   refine⟨_,e1,trivial,?_⟩
   refine⟨hc.a' 1 rfl rfl ?_,trivial⟩
   refine⟨?_,trivial⟩
   have heq:=reqS_any (cutS s) (cutS s) _ _ _ _ (hc.row.left s6).2 ((hc.row.left s6).1.left s4).1.1.1
   rw [eqS_iff.2 rfl] at heq
   refine hc.q' (heq) fun wQ hQ hc=>?_
   refine⟨⟨(hpT _ _ (hc.row.right (ShelfK.stab _ _ _ _ _))).mono fun en wq hq=>?_⟩,trivial⟩
   obtain⟨A4,c4,e4,hq,ho⟩:=hq
   have hrow4:=own_row hq ho no
   have hc:=(hc.quiet hq).1
   refine⟨_,e4,trivial,?_⟩
   refine⟨?_,trivial⟩
   have hed:=eqDeeds_any p p A4 C c4 cc _ _ _ hrow4 ((hc.row.left s6).1.left s4).2
   rw [eqDs_refl] at hed
   refine hc.q' (hed) fun wQ hQ hc=>?_
   refine⟨hc.q' (hlT _ _ (hc.row.right (ShelfK.stab _ _ _ _ _))) fun wQ hQ hc=>?_,trivial⟩
   refine⟨hc.q' (heT _ _ (hc.row.right (ShelfK.stab _ _ _ _ _))) fun wQ hQ hc=>?_,trivial⟩
   exact⟨rfl,hc.below⟩
  refine⟨hc.a' 1 rfl rfl ?_,trivial⟩
  refine⟨⟨(hbT _ _ (hc.row.right (ShelfK.stab _ _ _ _ _))).mono fun en wq hq=>?_⟩,trivial⟩
  obtain⟨cB,e1,hq,hrB⟩:=hq
  obtain⟨z2,rfl⟩:=hrB.stX
  have hc:=hc.sepKnow (X:=fun S w=>RepS S w (cutS s) (stX (cutS s) z2)) s5 (ShelfK.stab _ _ _ _ _) hq hrB (stab_S _ _)
  have s6:=s5.and (stab_S (cutS s) (stX (cutS s) z2))
  refine⟨_,e1,trivial,?_⟩
  refine⟨?_,trivial⟩
  have heq:=reqS_any (cutS s) (cutS s) _ _ _ _ (hc.row.left s6).2 ((hc.row.left s6).1.left s4).1.1.1
  rw [eqS_iff.2 rfl] at heq
  refine hc.q' (heq) fun wQ hQ hc=>?_
  refine⟨⟨(hpT _ _ (hc.row.right (ShelfK.stab _ _ _ _ _))).mono fun en wq hq=>?_⟩,trivial⟩
  obtain⟨A4,c4,e4,hq,ho⟩:=hq
  have hrow4:=own_row hq ho no
  have hc:=(hc.quiet hq).1
  refine⟨_,e4,trivial,?_⟩
  refine⟨?_,trivial⟩
  have hed:=eqDeeds_any p p A4 C c4 cc _ _ _ hrow4 ((hc.row.left s6).1.left s4).2
  rw [eqDs_refl] at hed
  refine hc.q' (hed) fun wQ hQ hc=>?_
  refine⟨hc.q' (hlT _ _ (hc.row.right (ShelfK.stab _ _ _ _ _))) fun wQ hQ hc=>?_,trivial⟩
  refine⟨hc.q' (heT _ _ (hc.row.right (ShelfK.stab _ _ _ _ _))) fun wQ hQ hc=>?_,trivial⟩
  exact⟨rfl,hc.below⟩
set_option maxRecDepth 100000 in
theorem shelfLearn_ct {H:Type} (enc:TypeId × Value->H) (W:World) (hw:Env W) {base:Nat}
  (v0:Value) (d0:DataW H) (p0:List MemPlace) (h0:DataW.Trod enc Tryz.prog W 0 (fun _=>true) true 22 v0 d0 p0) (k0:Value.okWide Tryz.prog W .any base 22 v0)
  (v1:Value) (d1:DataW H) (p1:List MemPlace) (h1:DataW.Trod enc Tryz.prog W 0 (fun _=>true) true 43 v1 d1 p1) (k1:Value.okWide Tryz.prog W .any base 43 v1)
  (v2:Value) (d2:DataW H) (p2:List MemPlace) (h2:DataW.Trod enc Tryz.prog W 0 (fun _=>true) true 22 v2 d2 p2) (k2:Value.okWide Tryz.prog W .any base 22 v2)
  (v3:Value) (d3:DataW H) (p3:List MemPlace) (h3:DataW.Trod enc Tryz.prog W 0 (fun _=>true) true 3 v3 d3 p3) (k3:Value.okWide Tryz.prog W .any base 3 v3):
  Calls Tryz.prog 10 #[v0,v1,v2,v3] W (RetB (.bool true) W):=by
 obtain⟨A0,c0,a0,rfl,r0,o0⟩:=open_deeds h0 k0
 obtain⟨a1,s1,rfl,r1,o1⟩:=open_state h1 k1
 obtain⟨A2,c2,a2,rfl,r2,o2⟩:=open_deeds h2 k2
 obtain⟨a3,rfl,o3⟩:=open_i64 Tryz.underlying3 h3 k3
 exact learn8_any a0 a1 a2 a3 A0 A2 c0 c2 s1 o0 o1 o2 W hw r0 r1 r2
end Go.Proofs.YtokglimimnelaaaGreatDoor
