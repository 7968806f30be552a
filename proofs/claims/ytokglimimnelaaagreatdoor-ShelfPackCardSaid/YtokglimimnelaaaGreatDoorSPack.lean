import Derived.Test.YtokglimimnelaaaGreatDoorM13
set_option linter.unusedVariables false
set_option linter.unusedSimpArgs false
/- Walk: armariumlaw8.ShelfPack. -/
namespace Go.Proofs.YtokglimimnelaaaGreatDoor
open Go.Vc Go.RowKit Go.Fl Go.ChangeShapes Go.WideShapes Go.ChangeAt
set_option maxRecDepth 100000
set_option maxHeartbeats 8000000 in
theorem pack8_any (os:List Op8) (ps:List Bool) (keep:Int) (A B:Option Addr) (ca cb:Nat) (hok:∀ o∈os,o.Ok) (w:World) (hw:Env w) (hA:Row (inW w) w A os.length ca (os.map opC).flatten) (hB:Row (inW w) w B ps.length cb (ps.map fun s=>[.bool s]).flatten):Calls Tryz.prog 9 #[.slice A os.length ca,.slice B ps.length cb,.int .i64 keep] w (RetB (.bool true) w):=by
 refine calls_sem lay_ok Tryz.func9 rfl (by kernel_rfl) (by kernel_rfl) ?_
 refine SemC.cut lay_ok (fun (x:Nat × Nat × Nat × Nat)=>[(2,.int .i64 keep),(8,.pointer (some ⟨x.1,0,none⟩)),(9,.pointer (some ⟨x.2.1,0,none⟩)),(10,.pointer (some ⟨x.2.2.1,0,none⟩)),(12,.pointer (some ⟨x.2.2.2,0,none⟩))]) (fun x w'=>∃ Hs Ht gj b gk b2 S,Fit Hs 25/\Fit Ht 25/\Hs.k=Ht.k/\CtxF no w S w' [] [] (Sep w.heap.size (Sep w.heap.size (fun _ _=>True) (ShelfK x.2.2.2 gk x.2.1 b2 Ht)) (ShelfK x.2.2.1 gj x.1 b Hs))) 7 (by kernel_rfl) ?_ ?_
 ·have hc:=CtxF.start w no (fun _ h=>h.elim) (R:=fun _ _=>True) trivial Stab.true
  refine hc.q (begun8_any _ (hw.below hc.below)) fun wQ hQ hc=>?_
  refine⟨(new_any 1048576 _).mono fun en wq hq=>?_⟩
  rw [newC_c0 (by decide)] at hq
  obtain⟨gc,b,e1,hq,hO⟩:=hq
  have hc:=hc.sepNew hq hO (ChestK.stab _ _ _)
  refine⟨_,e1,?_⟩
  refine⟨(new_any 1048576 _).mono fun en wq hq=>?_⟩
  rw [newC_c0 (by decide)] at hq
  obtain⟨gd,b2,e1,hq,hO⟩:=hq
  have hc:=(hc.sepNew hq hO (ChestK.stab _ _ _)).now Sep.swap (Sep.stab (Sep.stab Stab.true (ChestK.stab _ _ _)) (ChestK.stab _ _ _))
  refine⟨_,e1,?_⟩
  obtain⟨S1,Sa,h1,h2,h3,hO⟩:=hc.row
  refine⟨(snew_any gc b 1048576 (by decide) Sa _ (fun x hx=>hc.ctx.lt x (h2 x hx).1) (hw.free hc.below h2) hO).mono fun en wq hq=>?_⟩
  obtain⟨gs,gj,e1,hT,Sn,hSn,hO⟩:=hq
  have hc:=(hc.turnO (Sep.stab Stab.true (ChestK.stab _ _ _)) h1 h2 h3 hT hSn hO (ShelfK.stab _ _ _ _ _)).now Sep.swap (Sep.stab (Sep.stab Stab.true (ShelfK.stab _ _ _ _ _)) (ChestK.stab _ _ _))
  refine⟨_,e1,?_⟩
  obtain⟨S1,Sa,h1,h2,h3,hO⟩:=hc.row
  refine⟨(snew_any gd b2 1048576 (by decide) Sa _ (fun x hx=>hc.ctx.lt x (h2 x hx).1) (hw.free hc.below h2) hO).mono fun en wq hq=>?_⟩
  obtain⟨gt,gk,e1,hT,Sn,hSn,hO⟩:=hq
  have hc:=hc.turnO (Sep.stab Stab.true (ShelfK.stab _ _ _ _ _)) h1 h2 h3 hT hSn hO (ShelfK.stab _ _ _ _ _)
  have hc:=hc.now Sep.swap (Sep.stab (Sep.stab Stab.true (ShelfK.stab _ _ _ _ _)) (ShelfK.stab _ _ _ _ _))
  refine⟨_,e1,?_⟩
  have hmA:=row_max hA
  have hmB:=row_max hB
  have sS:∀ {g1 g2 g3 g4:Nat} {H:Sh},Stab (Sep w.heap.size (fun _ _=>True) (ShelfK g1 g2 g3 g4 H)):=Sep.stab Stab.true (ShelfK.stab _ _ _ _ _)
  refine⟨Nat × Sh × Sh,fun (i,Hs,Ht)=>[(0,.slice A os.length ca),(1,.slice B ps.length cb),(2,.int .i64 keep),(8,.pointer (some ⟨gc,0,none⟩)),(9,.pointer (some ⟨gd,0,none⟩)),(10,.pointer (some ⟨gs,0,none⟩)),(12,.pointer (some ⟨gt,0,none⟩)),(14,.int .i64 (i:Int))],
   fun (i,Hs,Ht) w'=>i<=os.length/\i<=25/\Fit Hs i/\Fit Ht i/\Hs.k=Ht.k/\∃ S,CtxF no w S w' [] [] (Sep w.heap.size (Sep w.heap.size (fun _ _=>True) (ShelfK gt gk gd b2 Ht)) (ShelfK gs gj gc b Hs)),fun (i,_) _=>25-i,(0,H0 1048576,H0 1048576),⟨rfl,rfl,rfl,rfl,rfl,rfl,rfl,rfl,trivial⟩,⟨Nat.zero_le _,Nat.zero_le _,Fit.h0,Fit.h0,rfl,_,hc⟩,?_⟩
  clear hc
  rintro⟨i,Hs,Ht⟩ w1 u ⟨hi,hi25,hfs,hft,hkk,S,hc⟩
  by_cases hlt:i<os.length/\i<25
  rotate_left
  ·by_cases hl2:i<os.length
   ·refine split_t (decide_eq_true (by omega)) ?_
    refine split_f (decide_eq_false (by omega)) ?_
    exact⟨(gc,gd,gs,gt),⟨rfl,rfl,rfl,rfl,rfl,trivial⟩,Hs,Ht,gj,b,gk,b2,_,hfs.mono (by omega),hft.mono (by omega),hkk,hc⟩
   ·refine split_f (decide_eq_false (by omega)) ?_
    exact⟨(gc,gd,gs,gt),⟨rfl,rfl,rfl,rfl,rfl,trivial⟩,Hs,Ht,gj,b,gk,b2,_,hfs.mono (by omega),hft.mono (by omega),hkk,hc⟩
  refine split_t (decide_eq_true (by omega)) ?_
  refine split_t (decide_eq_true (by omega)) ?_
  obtain⟨ad,rfl,hcell⟩:=RowO8.elem (hA.below hc.below) i hlt.1
  obtain⟨o,ho⟩:∃ o,o=os[i]:=⟨_,rfl⟩
  have hoo:o.Ok:=by rw [ho];exact hok _ (List.getElem_mem _)
  rw [<-ho] at hcell
  refine⟨⟨by omega,by omega⟩,?_⟩
  refine⟨opC o,rfl,by rw [Int.toNat_natCast];exact hcell,?_⟩
  refine hc.n fun g15 wg15 hg15 hc=>?_
  refine hc.s 0 rfl fun wS hS hc=>?_
  refine⟨dC o.d,rfl,hc.cellsAt 0 rfl 2 (dC o.d) rfl,?_⟩
  refine hc.q (deed5_any o.d hoo.d _) fun wQ hQ hc=>?_
  have hcd:=cutD_ok hoo.d
  refine hc.n fun g16 wg16 hg16 hc=>?_
  refine hc.s 0 rfl fun wS hS hc=>?_
  refine⟨_,hc.cell 1 rfl _ rfl,?_⟩
  have hz:=i64_and3 o.kind
  have hseqk:i64ok Hs.k.seq:=by
   have h1:=hfs.ok.k.seq
   have h2:=(mayS_parts.1 hfs.ok.k.may).1
   unfold Known.seq i64ok
   unfold maxN at h1
   omega
  rcases (by omega:o.kind % 4=0\/o.kind % 4=1\/o.kind % 4=2\/o.kind % 4=3) with hz3 | hz3 | hz3 | hz3
  ·refine split_t (by show (bits BinOp.and IntKind.i64 o.kind 3==0)=true;rw [hz,hz3];rfl) ?_
   refine split_t (by show (bits BinOp.and IntKind.i64 o.kind 3==0)=true;rw [hz,hz3];rfl) ?_
   obtain⟨Hs',ks,hfs',_,_,_,hsa⟩:=add_fit hfs (by omega) hcd
   obtain⟨Ht',kt,hft',_,_,_,hta⟩:=add_fit hft (by omega) hcd
   rw [<-hkk] at kt hta
   have hkk':Hs'.k=Ht'.k:=by rw [ks,kt]
   refine Drawn.join (α:=Unit) (fun _=>[(0,.slice (some ad) os.length ca),(1,.slice B ps.length cb),(2,.int .i64 keep),(8,.pointer (some ⟨gc,0,none⟩)),(9,.pointer (some ⟨gd,0,none⟩)),(10,.pointer (some ⟨gs,0,none⟩)),(12,.pointer (some ⟨gt,0,none⟩)),(14,.int .i64 (i:Int)),(80,.bool false)])
    (fun _ wS=>∃ S,CtxF no w S wS [(g16,32,dC (cutD o.d)),(g15,71,opC o)] [] (Sep w.heap.size (Sep w.heap.size (fun _ _=>True) (ShelfK gt gk gd b2 Ht')) (ShelfK gs gj gc b Hs'))) ?_ ?_
   ·refine vD (.Q [0,3] (.n 1 (.n 2 (.n 4 (.n 5 (.q 6 .fin) .stop) .stop) (.n 4 (.n 2 (.n 5 (.q 6 .fin) .stop) .stop) .stop)) (.n 4 (.n 1 (.n 2 (.n 5 (.q 6 .fin) .stop) .stop) .stop) .stop))) (fun _=>True) trivial ?_
    have hc:=hc.drew
    refine⟨?_,?_⟩
    ·skip
     refine hc.a' 0 rfl rfl ?_
     refine⟨?_,?_⟩
     ·skip
      obtain⟨S1,Sa,h1,h2,h3,hO⟩:=hc.row
      refine⟨(hsa gs gj gc b Sa _ (fun x hx=>hc.ctx.lt x (h2 x hx).1) (hw.free hc.below h2) hO).mono fun en wq hq=>?_⟩
      obtain⟨e1,hT,Sn,hSn,hO⟩:=hq
      have hc:=hc.turnO (sS) h1 h2 h3 hT hSn hO (ShelfK.stab _ _ _ _ _)
      refine⟨_,e1,trivial,?_⟩
      have hc:=hc.now Sep.swap (Sep.stab (Sep.stab Stab.true (ShelfK.stab _ _ _ _ _)) (ShelfK.stab _ _ _ _ _))
      refine⟨hc.a' 0 rfl rfl ?_,trivial⟩
      refine⟨?_,trivial⟩
      obtain⟨S1,Sa,h1,h2,h3,hO⟩:=hc.row
      refine⟨(hta gt gk gd b2 Sa _ (fun x hx=>hc.ctx.lt x (h2 x hx).1) (hw.free hc.below h2) hO).mono fun en wq hq=>?_⟩
      obtain⟨e1,hT,Sn,hSn,hO⟩:=hq
      have hc:=hc.turnO (sS) h1 h2 h3 hT hSn hO (ShelfK.stab _ _ _ _ _)
      refine⟨_,e1,trivial,?_⟩
      have hc:=hc.now Sep.swap (Sep.stab (Sep.stab Stab.true (ShelfK.stab _ _ _ _ _)) (ShelfK.stab _ _ _ _ _))
      exact⟨(),⟨rfl,rfl,rfl,rfl,rfl,rfl,rfl,rfl,(show Value.bool ((addKK Hs.k (cutD o.d)).2 != (addKK Hs.k (cutD o.d)).2)=.bool false by rw [bne_self_eq_false]),trivial⟩,_,hc⟩
     refine⟨hc.a' 0 rfl rfl ?_,trivial⟩
     refine⟨?_,trivial⟩
     obtain⟨S1,Sa,h1,h2,h3,hO⟩:=hc.row
     refine⟨(hsa gs gj gc b Sa _ (fun x hx=>hc.ctx.lt x (h2 x hx).1) (hw.free hc.below h2) hO).mono fun en wq hq=>?_⟩
     obtain⟨e1,hT,Sn,hSn,hO⟩:=hq
     have hc:=hc.turnO (sS) h1 h2 h3 hT hSn hO (ShelfK.stab _ _ _ _ _)
     refine⟨_,e1,trivial,?_⟩
     have hc:=hc.now Sep.swap (Sep.stab (Sep.stab Stab.true (ShelfK.stab _ _ _ _ _)) (ShelfK.stab _ _ _ _ _))
     refine⟨?_,trivial⟩
     obtain⟨S1,Sa,h1,h2,h3,hO⟩:=hc.row
     refine⟨(hta gt gk gd b2 Sa _ (fun x hx=>hc.ctx.lt x (h2 x hx).1) (hw.free hc.below h2) hO).mono fun en wq hq=>?_⟩
     obtain⟨e1,hT,Sn,hSn,hO⟩:=hq
     have hc:=hc.turnO (sS) h1 h2 h3 hT hSn hO (ShelfK.stab _ _ _ _ _)
     refine⟨_,e1,trivial,?_⟩
     have hc:=hc.now Sep.swap (Sep.stab (Sep.stab Stab.true (ShelfK.stab _ _ _ _ _)) (ShelfK.stab _ _ _ _ _))
     exact⟨(),⟨rfl,rfl,rfl,rfl,rfl,rfl,rfl,rfl,(show Value.bool ((addKK Hs.k (cutD o.d)).2 != (addKK Hs.k (cutD o.d)).2)=.bool false by rw [bne_self_eq_false]),trivial⟩,_,hc⟩
    refine⟨hc.a' 0 rfl rfl ?_,trivial⟩
    refine⟨hc.a' 0 rfl rfl ?_,trivial⟩
    refine⟨?_,trivial⟩
    obtain⟨S1,Sa,h1,h2,h3,hO⟩:=hc.row
    refine⟨(hsa gs gj gc b Sa _ (fun x hx=>hc.ctx.lt x (h2 x hx).1) (hw.free hc.below h2) hO).mono fun en wq hq=>?_⟩
    obtain⟨e1,hT,Sn,hSn,hO⟩:=hq
    have hc:=hc.turnO (sS) h1 h2 h3 hT hSn hO (ShelfK.stab _ _ _ _ _)
    refine⟨_,e1,trivial,?_⟩
    have hc:=hc.now Sep.swap (Sep.stab (Sep.stab Stab.true (ShelfK.stab _ _ _ _ _)) (ShelfK.stab _ _ _ _ _))
    refine⟨?_,trivial⟩
    obtain⟨S1,Sa,h1,h2,h3,hO⟩:=hc.row
    refine⟨(hta gt gk gd b2 Sa _ (fun x hx=>hc.ctx.lt x (h2 x hx).1) (hw.free hc.below h2) hO).mono fun en wq hq=>?_⟩
    obtain⟨e1,hT,Sn,hSn,hO⟩:=hq
    have hc:=hc.turnO (sS) h1 h2 h3 hT hSn hO (ShelfK.stab _ _ _ _ _)
    refine⟨_,e1,trivial,?_⟩
    have hc:=hc.now Sep.swap (Sep.stab (Sep.stab Stab.true (ShelfK.stab _ _ _ _ _)) (ShelfK.stab _ _ _ _ _))
    exact⟨(),⟨rfl,rfl,rfl,rfl,rfl,rfl,rfl,rfl,(show Value.bool ((addKK Hs.k (cutD o.d)).2 != (addKK Hs.k (cutD o.d)).2)=.bool false by rw [bne_self_eq_false]),trivial⟩,_,hc⟩
   clear hc
   rintro⟨⟩ u2 w2 ⟨S,hc⟩
   by_cases hpl:i<ps.length
   rotate_left
   ·refine split_f (decide_eq_false (by omega)) ?_
    exact⟨(i+1,Hs',Ht'),⟨rfl,rfl,rfl,rfl,rfl,rfl,rfl,congrArg _ (i_down (by omega)),trivial⟩,⟨by omega,by omega,hfs',hft',hkk',_,hc.drop.drop⟩,by show 25-(i+1)<25-i;omega⟩
   refine split_t (decide_eq_true (by omega)) ?_
   obtain⟨ap,rfl,hcp⟩:=RowB.elem (hB.below hc.below) i hpl
   refine⟨⟨by omega,by omega⟩,?_⟩
   refine⟨_,by rw [Int.toNat_natCast];exact hcp.1,?_⟩
   by_cases hpb1:ps[i]=true
   rotate_left
   ·refine split_f (by rw [Bool.not_eq_true] at hpb1;exact hpb1) ?_
    exact⟨(i+1,Hs',Ht'),⟨rfl,rfl,rfl,rfl,rfl,rfl,rfl,congrArg _ (i_down (by omega)),trivial⟩,⟨by omega,by omega,hfs',hft',hkk',_,hc.drop.drop⟩,by show 25-(i+1)<25-i;omega⟩
   refine split_t hpb1 ?_
   obtain⟨Hp,kp,hfp,_,hpk⟩:=pack_fit hfs' (by omega)
   obtain⟨S1,Sa,h1,h2,h3,hO⟩:=hc.row
   refine⟨(hpk gs gj gc b Sa _ (fun x hx=>hc.ctx.lt x (h2 x hx).1) (hw.free hc.below h2) hO).mono fun en wq hq=>?_⟩
   obtain⟨e1,hT,Sn,hSn,hO⟩:=hq
   have hc:=hc.turnO (sS) h1 h2 h3 hT hSn hO (ShelfK.stab _ _ _ _ _)
   refine⟨_,e1,?_⟩
   exact⟨(i+1,Hp,Ht'),⟨rfl,rfl,rfl,rfl,rfl,rfl,rfl,congrArg _ (i_down (by omega)),trivial⟩,⟨by omega,by omega,hfp.mono (by omega),hft',by rw [kp];exact hkk',_,hc.drop.drop⟩,by show 25-(i+1)<25-i;omega⟩
  ·refine split_f (by show (bits BinOp.and IntKind.i64 o.kind 3==0)=false;rw [hz,hz3];rfl) ?_
   refine split_t (by show (bits BinOp.and IntKind.i64 o.kind 3==1)=true;rw [hz,hz3];rfl) ?_
   obtain⟨Hs',ks,hfs',_,_,_,hsa⟩:=add_fit hfs (by omega) hcd
   obtain⟨Ht',kt,hft',_,_,_,hta⟩:=add_fit hft (by omega) hcd
   rw [<-hkk] at kt hta
   have hkk':Hs'.k=Ht'.k:=by rw [ks,kt]
   refine Drawn.join (α:=Unit) (fun _=>[(0,.slice (some ad) os.length ca),(1,.slice B ps.length cb),(2,.int .i64 keep),(8,.pointer (some ⟨gc,0,none⟩)),(9,.pointer (some ⟨gd,0,none⟩)),(10,.pointer (some ⟨gs,0,none⟩)),(12,.pointer (some ⟨gt,0,none⟩)),(14,.int .i64 (i:Int)),(80,.bool false)])
    (fun _ wS=>∃ S,CtxF no w S wS [(g16,32,dC (cutD o.d)),(g15,71,opC o)] [] (Sep w.heap.size (Sep w.heap.size (fun _ _=>True) (ShelfK gt gk gd b2 Ht')) (ShelfK gs gj gc b Hs'))) ?_ ?_
   ·refine vD (.Q [0,3] (.n 1 (.n 2 (.n 4 (.n 5 (.q 6 .fin) .stop) .stop) (.n 4 (.n 2 (.n 5 (.q 6 .fin) .stop) .stop) .stop)) (.n 4 (.n 1 (.n 2 (.n 5 (.q 6 .fin) .stop) .stop) .stop) .stop))) (fun _=>True) trivial ?_
    have hc:=hc.drew
    refine⟨?_,?_⟩
    ·skip
     refine hc.a' 0 rfl rfl ?_
     refine⟨?_,?_⟩
     ·skip
      obtain⟨S1,Sa,h1,h2,h3,hO⟩:=hc.row
      refine⟨(hsa gs gj gc b Sa _ (fun x hx=>hc.ctx.lt x (h2 x hx).1) (hw.free hc.below h2) hO).mono fun en wq hq=>?_⟩
      obtain⟨e1,hT,Sn,hSn,hO⟩:=hq
      have hc:=hc.turnO (sS) h1 h2 h3 hT hSn hO (ShelfK.stab _ _ _ _ _)
      refine⟨_,e1,trivial,?_⟩
      have hc:=hc.now Sep.swap (Sep.stab (Sep.stab Stab.true (ShelfK.stab _ _ _ _ _)) (ShelfK.stab _ _ _ _ _))
      refine⟨hc.a' 0 rfl rfl ?_,trivial⟩
      refine⟨?_,trivial⟩
      obtain⟨S1,Sa,h1,h2,h3,hO⟩:=hc.row
      refine⟨(hta gt gk gd b2 Sa _ (fun x hx=>hc.ctx.lt x (h2 x hx).1) (hw.free hc.below h2) hO).mono fun en wq hq=>?_⟩
      obtain⟨e1,hT,Sn,hSn,hO⟩:=hq
      have hc:=hc.turnO (sS) h1 h2 h3 hT hSn hO (ShelfK.stab _ _ _ _ _)
      refine⟨_,e1,trivial,?_⟩
      have hc:=hc.now Sep.swap (Sep.stab (Sep.stab Stab.true (ShelfK.stab _ _ _ _ _)) (ShelfK.stab _ _ _ _ _))
      exact⟨(),⟨rfl,rfl,rfl,rfl,rfl,rfl,rfl,rfl,(show Value.bool ((addKK Hs.k (cutD o.d)).2 != (addKK Hs.k (cutD o.d)).2)=.bool false by rw [bne_self_eq_false]),trivial⟩,_,hc⟩
     refine⟨hc.a' 0 rfl rfl ?_,trivial⟩
     refine⟨?_,trivial⟩
     obtain⟨S1,Sa,h1,h2,h3,hO⟩:=hc.row
     refine⟨(hsa gs gj gc b Sa _ (fun x hx=>hc.ctx.lt x (h2 x hx).1) (hw.free hc.below h2) hO).mono fun en wq hq=>?_⟩
     obtain⟨e1,hT,Sn,hSn,hO⟩:=hq
     have hc:=hc.turnO (sS) h1 h2 h3 hT hSn hO (ShelfK.stab _ _ _ _ _)
     refine⟨_,e1,trivial,?_⟩
     have hc:=hc.now Sep.swap (Sep.stab (Sep.stab Stab.true (ShelfK.stab _ _ _ _ _)) (ShelfK.stab _ _ _ _ _))
     refine⟨?_,trivial⟩
     obtain⟨S1,Sa,h1,h2,h3,hO⟩:=hc.row
     refine⟨(hta gt gk gd b2 Sa _ (fun x hx=>hc.ctx.lt x (h2 x hx).1) (hw.free hc.below h2) hO).mono fun en wq hq=>?_⟩
     obtain⟨e1,hT,Sn,hSn,hO⟩:=hq
     have hc:=hc.turnO (sS) h1 h2 h3 hT hSn hO (ShelfK.stab _ _ _ _ _)
     refine⟨_,e1,trivial,?_⟩
     have hc:=hc.now Sep.swap (Sep.stab (Sep.stab Stab.true (ShelfK.stab _ _ _ _ _)) (ShelfK.stab _ _ _ _ _))
     exact⟨(),⟨rfl,rfl,rfl,rfl,rfl,rfl,rfl,rfl,(show Value.bool ((addKK Hs.k (cutD o.d)).2 != (addKK Hs.k (cutD o.d)).2)=.bool false by rw [bne_self_eq_false]),trivial⟩,_,hc⟩
    refine⟨hc.a' 0 rfl rfl ?_,trivial⟩
    refine⟨hc.a' 0 rfl rfl ?_,trivial⟩
    refine⟨?_,trivial⟩
    obtain⟨S1,Sa,h1,h2,h3,hO⟩:=hc.row
    refine⟨(hsa gs gj gc b Sa _ (fun x hx=>hc.ctx.lt x (h2 x hx).1) (hw.free hc.below h2) hO).mono fun en wq hq=>?_⟩
    obtain⟨e1,hT,Sn,hSn,hO⟩:=hq
    have hc:=hc.turnO (sS) h1 h2 h3 hT hSn hO (ShelfK.stab _ _ _ _ _)
    refine⟨_,e1,trivial,?_⟩
    have hc:=hc.now Sep.swap (Sep.stab (Sep.stab Stab.true (ShelfK.stab _ _ _ _ _)) (ShelfK.stab _ _ _ _ _))
    refine⟨?_,trivial⟩
    obtain⟨S1,Sa,h1,h2,h3,hO⟩:=hc.row
    refine⟨(hta gt gk gd b2 Sa _ (fun x hx=>hc.ctx.lt x (h2 x hx).1) (hw.free hc.below h2) hO).mono fun en wq hq=>?_⟩
    obtain⟨e1,hT,Sn,hSn,hO⟩:=hq
    have hc:=hc.turnO (sS) h1 h2 h3 hT hSn hO (ShelfK.stab _ _ _ _ _)
    refine⟨_,e1,trivial,?_⟩
    have hc:=hc.now Sep.swap (Sep.stab (Sep.stab Stab.true (ShelfK.stab _ _ _ _ _)) (ShelfK.stab _ _ _ _ _))
    exact⟨(),⟨rfl,rfl,rfl,rfl,rfl,rfl,rfl,rfl,(show Value.bool ((addKK Hs.k (cutD o.d)).2 != (addKK Hs.k (cutD o.d)).2)=.bool false by rw [bne_self_eq_false]),trivial⟩,_,hc⟩
   clear hc
   rintro⟨⟩ u2 w2 ⟨S,hc⟩
   by_cases hpl:i<ps.length
   rotate_left
   ·refine split_f (decide_eq_false (by omega)) ?_
    exact⟨(i+1,Hs',Ht'),⟨rfl,rfl,rfl,rfl,rfl,rfl,rfl,congrArg _ (i_down (by omega)),trivial⟩,⟨by omega,by omega,hfs',hft',hkk',_,hc.drop.drop⟩,by show 25-(i+1)<25-i;omega⟩
   refine split_t (decide_eq_true (by omega)) ?_
   obtain⟨ap,rfl,hcp⟩:=RowB.elem (hB.below hc.below) i hpl
   refine⟨⟨by omega,by omega⟩,?_⟩
   refine⟨_,by rw [Int.toNat_natCast];exact hcp.1,?_⟩
   by_cases hpb1:ps[i]=true
   rotate_left
   ·refine split_f (by rw [Bool.not_eq_true] at hpb1;exact hpb1) ?_
    exact⟨(i+1,Hs',Ht'),⟨rfl,rfl,rfl,rfl,rfl,rfl,rfl,congrArg _ (i_down (by omega)),trivial⟩,⟨by omega,by omega,hfs',hft',hkk',_,hc.drop.drop⟩,by show 25-(i+1)<25-i;omega⟩
   refine split_t hpb1 ?_
   obtain⟨Hp,kp,hfp,_,hpk⟩:=pack_fit hfs' (by omega)
   obtain⟨S1,Sa,h1,h2,h3,hO⟩:=hc.row
   refine⟨(hpk gs gj gc b Sa _ (fun x hx=>hc.ctx.lt x (h2 x hx).1) (hw.free hc.below h2) hO).mono fun en wq hq=>?_⟩
   obtain⟨e1,hT,Sn,hSn,hO⟩:=hq
   have hc:=hc.turnO (sS) h1 h2 h3 hT hSn hO (ShelfK.stab _ _ _ _ _)
   refine⟨_,e1,?_⟩
   exact⟨(i+1,Hp,Ht'),⟨rfl,rfl,rfl,rfl,rfl,rfl,rfl,congrArg _ (i_down (by omega)),trivial⟩,⟨by omega,by omega,hfp.mono (by omega),hft',by rw [kp];exact hkk',_,hc.drop.drop⟩,by show 25-(i+1)<25-i;omega⟩
  ·refine split_f (by show (bits BinOp.and IntKind.i64 o.kind 3==0)=false;rw [hz,hz3];rfl) ?_
   refine split_f (by show (bits BinOp.and IntKind.i64 o.kind 3==1)=false;rw [hz,hz3];rfl) ?_
   refine split_t (by show (bits BinOp.and IntKind.i64 o.kind 3==2)=true;rw [hz,hz3];rfl) ?_
   obtain⟨Hs',ks,hfs',_,hsc⟩:=commit_fit hfs (by omega) (m:=Hs.k.seq) hseqk (by omega)
   obtain⟨Ht',kt,hft',_,htc⟩:=commit_fit hft (by omega) (m:=Ht.k.seq) (by rw [<-hkk];exact hseqk) (by omega)
   have hkk':Hs'.k=Ht'.k:=by rw [ks,kt,hkk]
   refine hc.q (Seq_any gs gj gc b Hs hfs.ok _ _ (hc.row.right (ShelfK.stab _ _ _ _ _))) fun wQ hQ hc=>?_
   obtain⟨S1,Sa,h1,h2,h3,hO⟩:=hc.row
   refine⟨(hsc gs gj gc b Sa _ (fun x hx=>hc.ctx.lt x (h2 x hx).1) (hw.free hc.below h2) hO).mono fun en wq hq=>?_⟩
   obtain⟨A1,c1,e1,hT,Sn,Sl,hSn,hO,hSl,hX⟩:=hq
   have hc:=hc.turnO (sS) h1 h2 h3 hT hSn hO (ShelfK.stab _ _ _ _ _)
   refine⟨_,e1,?_⟩
   have hc:=hc.now Sep.swap (Sep.stab (Sep.stab Stab.true (ShelfK.stab _ _ _ _ _)) (ShelfK.stab _ _ _ _ _))
   refine hc.q (Seq_any gt gk gd b2 Ht hft.ok _ _ (hc.row.right (ShelfK.stab _ _ _ _ _))) fun wQ hQ hc=>?_
   obtain⟨S1,Sa,h1,h2,h3,hO⟩:=hc.row
   refine⟨(htc gt gk gd b2 Sa _ (fun x hx=>hc.ctx.lt x (h2 x hx).1) (hw.free hc.below h2) hO).mono fun en wq hq=>?_⟩
   obtain⟨A2,c2,e1,hT,Sn,Sl,hSn,hO,hSl,hX⟩:=hq
   have hc:=hc.turnO (sS) h1 h2 h3 hT hSn hO (ShelfK.stab _ _ _ _ _)
   refine⟨_,e1,?_⟩
   have hc:=hc.now Sep.swap (Sep.stab (Sep.stab Stab.true (ShelfK.stab _ _ _ _ _)) (ShelfK.stab _ _ _ _ _))
   by_cases hpl:i<ps.length
   rotate_left
   ·refine split_f (decide_eq_false (by omega)) ?_
    exact⟨(i+1,Hs',Ht'),⟨rfl,rfl,rfl,rfl,rfl,rfl,rfl,congrArg _ (i_down (by omega)),trivial⟩,⟨by omega,by omega,hfs',hft',hkk',_,hc.drop.drop⟩,by show 25-(i+1)<25-i;omega⟩
   refine split_t (decide_eq_true (by omega)) ?_
   obtain⟨ap,rfl,hcp⟩:=RowB.elem (hB.below hc.below) i hpl
   refine⟨⟨by omega,by omega⟩,?_⟩
   refine⟨_,by rw [Int.toNat_natCast];exact hcp.1,?_⟩
   by_cases hpb1:ps[i]=true
   rotate_left
   ·refine split_f (by rw [Bool.not_eq_true] at hpb1;exact hpb1) ?_
    exact⟨(i+1,Hs',Ht'),⟨rfl,rfl,rfl,rfl,rfl,rfl,rfl,congrArg _ (i_down (by omega)),trivial⟩,⟨by omega,by omega,hfs',hft',hkk',_,hc.drop.drop⟩,by show 25-(i+1)<25-i;omega⟩
   refine split_t hpb1 ?_
   obtain⟨Hp,kp,hfp,_,hpk⟩:=pack_fit hfs' (by omega)
   obtain⟨S1,Sa,h1,h2,h3,hO⟩:=hc.row
   refine⟨(hpk gs gj gc b Sa _ (fun x hx=>hc.ctx.lt x (h2 x hx).1) (hw.free hc.below h2) hO).mono fun en wq hq=>?_⟩
   obtain⟨e1,hT,Sn,hSn,hO⟩:=hq
   have hc:=hc.turnO (sS) h1 h2 h3 hT hSn hO (ShelfK.stab _ _ _ _ _)
   refine⟨_,e1,?_⟩
   exact⟨(i+1,Hp,Ht'),⟨rfl,rfl,rfl,rfl,rfl,rfl,rfl,congrArg _ (i_down (by omega)),trivial⟩,⟨by omega,by omega,hfp.mono (by omega),hft',by rw [kp];exact hkk',_,hc.drop.drop⟩,by show 25-(i+1)<25-i;omega⟩
  ·refine split_f (by show (bits BinOp.and IntKind.i64 o.kind 3==0)=false;rw [hz,hz3];rfl) ?_
   refine split_f (by show (bits BinOp.and IntKind.i64 o.kind 3==1)=false;rw [hz,hz3];rfl) ?_
   refine split_f (by show (bits BinOp.and IntKind.i64 o.kind 3==2)=false;rw [hz,hz3];rfl) ?_
   have hei:i64ok (IntKind.i64.wrap (Hs.k.ep+1)):=by unfold i64ok;rw [IntKind.wrap_i64];omega
   obtain⟨Hs',ks,hfs',_,_,_,hsa⟩:=enter_fit hfs (by omega) hei
   obtain⟨Ht',kt,hft',_,_,_,hta⟩:=enter_fit hft (by omega) hei
   rw [<-hkk] at kt hta
   have hkk':Hs'.k=Ht'.k:=by rw [ks,kt]
   refine hc.q (Epoch_any gs gj gc b Hs _ _ (hc.row.right (ShelfK.stab _ _ _ _ _))) fun wQ hQ hc=>?_
   obtain⟨S1,Sa,h1,h2,h3,hO⟩:=hc.row
   refine⟨(hsa gs gj gc b Sa _ (fun x hx=>hc.ctx.lt x (h2 x hx).1) (hw.free hc.below h2) hO).mono fun en wq hq=>?_⟩
   obtain⟨e1,hT,Sn,hSn,hO⟩:=hq
   have hc:=hc.turnO (sS) h1 h2 h3 hT hSn hO (ShelfK.stab _ _ _ _ _)
   refine⟨_,e1,?_⟩
   have hc:=hc.now Sep.swap (Sep.stab (Sep.stab Stab.true (ShelfK.stab _ _ _ _ _)) (ShelfK.stab _ _ _ _ _))
   have hepT:=Epoch_any gt gk gd b2 Ht _ _ (hc.row.right (ShelfK.stab _ _ _ _ _))
   rw [<-hkk] at hepT
   refine hc.q (hepT) fun wQ hQ hc=>?_
   obtain⟨S1,Sa,h1,h2,h3,hO⟩:=hc.row
   refine⟨(hta gt gk gd b2 Sa _ (fun x hx=>hc.ctx.lt x (h2 x hx).1) (hw.free hc.below h2) hO).mono fun en wq hq=>?_⟩
   obtain⟨e1,hT,Sn,hSn,hO⟩:=hq
   have hc:=hc.turnO (sS) h1 h2 h3 hT hSn hO (ShelfK.stab _ _ _ _ _)
   refine⟨_,e1,?_⟩
   have hc:=hc.now Sep.swap (Sep.stab (Sep.stab Stab.true (ShelfK.stab _ _ _ _ _)) (ShelfK.stab _ _ _ _ _))
   refine split_f (by show ((enterKK Hs.k (IntKind.i64.wrap (Hs.k.ep+1))).2 != (enterKK Hs.k (IntKind.i64.wrap (Hs.k.ep+1))).2)=false;rw [bne_self_eq_false]) ?_
   by_cases hpl:i<ps.length
   rotate_left
   ·refine split_f (decide_eq_false (by omega)) ?_
    exact⟨(i+1,Hs',Ht'),⟨rfl,rfl,rfl,rfl,rfl,rfl,rfl,congrArg _ (i_down (by omega)),trivial⟩,⟨by omega,by omega,hfs',hft',hkk',_,hc.drop.drop⟩,by show 25-(i+1)<25-i;omega⟩
   refine split_t (decide_eq_true (by omega)) ?_
   obtain⟨ap,rfl,hcp⟩:=RowB.elem (hB.below hc.below) i hpl
   refine⟨⟨by omega,by omega⟩,?_⟩
   refine⟨_,by rw [Int.toNat_natCast];exact hcp.1,?_⟩
   by_cases hpb1:ps[i]=true
   rotate_left
   ·refine split_f (by rw [Bool.not_eq_true] at hpb1;exact hpb1) ?_
    exact⟨(i+1,Hs',Ht'),⟨rfl,rfl,rfl,rfl,rfl,rfl,rfl,congrArg _ (i_down (by omega)),trivial⟩,⟨by omega,by omega,hfs',hft',hkk',_,hc.drop.drop⟩,by show 25-(i+1)<25-i;omega⟩
   refine split_t hpb1 ?_
   obtain⟨Hp,kp,hfp,_,hpk⟩:=pack_fit hfs' (by omega)
   obtain⟨S1,Sa,h1,h2,h3,hO⟩:=hc.row
   refine⟨(hpk gs gj gc b Sa _ (fun x hx=>hc.ctx.lt x (h2 x hx).1) (hw.free hc.below h2) hO).mono fun en wq hq=>?_⟩
   obtain⟨e1,hT,Sn,hSn,hO⟩:=hq
   have hc:=hc.turnO (sS) h1 h2 h3 hT hSn hO (ShelfK.stab _ _ _ _ _)
   refine⟨_,e1,?_⟩
   exact⟨(i+1,Hp,Ht'),⟨rfl,rfl,rfl,rfl,rfl,rfl,rfl,congrArg _ (i_down (by omega)),trivial⟩,⟨by omega,by omega,hfp.mono (by omega),hft',by rw [kp];exact hkk',_,hc.drop.drop⟩,by show 25-(i+1)<25-i;omega⟩
 rintro⟨gc,gd,gs,gt⟩ u w1 ⟨Hs,Ht,gj,b,gk,b2,S,hfs,hft,hkk,hc⟩
 refine SemC.vc lay_ok ?_
 simp only at hc
 obtain⟨Hp,kp,hfp,hnp,hpk⟩:=pack_fit hfs (by omega)
 obtain⟨Hq,kq,hfq,hnq,hqk⟩:=pack_fit hft (by omega)
 have sS:∀ {g1 g2 g3 g4:Nat} {H:Sh},Stab (Sep w.heap.size (fun _ _=>True) (ShelfK g1 g2 g3 g4 H)):=Sep.stab Stab.true (ShelfK.stab _ _ _ _ _)
 obtain⟨S1,Sa,h1,h2,h3,hO⟩:=hc.row
 refine⟨(hpk gs gj gc b Sa _ (fun x hx=>hc.ctx.lt x (h2 x hx).1) (hw.free hc.below h2) hO).mono fun en wq hq=>?_⟩
 obtain⟨e1,hT,Sn,hSn,hO⟩:=hq
 have hc:=hc.turnO (sS) h1 h2 h3 hT hSn hO (ShelfK.stab _ _ _ _ _)
 refine⟨_,e1,?_⟩
 have hc:=hc.now Sep.swap (Sep.stab (Sep.stab Stab.true (ShelfK.stab _ _ _ _ _)) (ShelfK.stab _ _ _ _ _))
 obtain⟨S1,Sa,h1,h2,h3,hO⟩:=hc.row
 refine⟨(hqk gt gk gd b2 Sa _ (fun x hx=>hc.ctx.lt x (h2 x hx).1) (hw.free hc.below h2) hO).mono fun en wq hq=>?_⟩
 obtain⟨e1,hT,Sn,hSn,hO⟩:=hq
 have hc:=hc.turnO (sS) h1 h2 h3 hT hSn hO (ShelfK.stab _ _ _ _ _)
 refine⟨_,e1,?_⟩
 have hc:=hc.now Sep.swap (Sep.stab (Sep.stab Stab.true (ShelfK.stab _ _ _ _ _)) (ShelfK.stab _ _ _ _ _))
 have s2:Stab (Sep w.heap.size (Sep w.heap.size (fun _ _=>True) (ShelfK gt gk gd b2 Hq)) (ShelfK gs gj gc b Hp)):=Sep.stab sS (ShelfK.stab _ _ _ _ _)
 refine⟨(tearS_any gs gj gc b Hp hfp.ok keep _ _ (hc.row.right (ShelfK.stab _ _ _ _ _))).mono fun en wq hq=>?_⟩
 obtain⟨gcu,bu,L,e1,hq,hO2,hL1,hL2⟩:=hq
 have hc:=hc.sepNew hq hO2 (ChestK.stab _ _ _)
 refine⟨_,e1,?_⟩
 obtain⟨j,hi1,hi2,hop⟩:=sopenT_any hfp.ok hL1 hL2
 obtain⟨S1,Sa,h1,h2,h3,hO⟩:=hc.row
 refine⟨(hop gcu bu Sa _ (fun x hx=>hc.ctx.lt x (h2 x hx).1) (hw.free hc.below h2) hO).mono fun en wq hq=>?_⟩
 obtain⟨gu,gju,e1,hT,Sn,hSn,hO⟩:=hq
 have hc:=hc.turnO (Sep.stab (sS) (ShelfK.stab _ _ _ _ _)) h1 h2 h3 hT hSn hO (ShelfK.stab _ _ _ _ _)
 refine⟨_,e1,?_⟩
 have hju:=cut_full hnp hi1 hi2
 have hfu:=hfp.cut j hi2
 refine⟨(tearS_any gt gk gd b2 Hq hfq.ok keep _ _ ((((hc.row.left s2).left sS).right (ShelfK.stab _ _ _ _ _)))).mono fun en wq hq=>?_⟩
 obtain⟨gcv,bv,L2,e1,hq,hO2,hL1,hL2⟩:=hq
 have hc:=hc.sepNew hq hO2 (ChestK.stab _ _ _)
 refine⟨_,e1,?_⟩
 obtain⟨jv,hv1,hv2,hop⟩:=sopenT_any hfq.ok hL1 hL2
 have s3:Stab (Sep w.heap.size (Sep w.heap.size (Sep w.heap.size (fun _ _=>True) (ShelfK gt gk gd b2 Hq)) (ShelfK gs gj gc b Hp)) (ShelfK gu gju gcu bu (Hp.cut j))):=Sep.stab s2 (ShelfK.stab _ _ _ _ _)
 obtain⟨S1,Sa,h1,h2,h3,hO⟩:=hc.row
 refine⟨(hop gcv bv Sa _ (fun x hx=>hc.ctx.lt x (h2 x hx).1) (hw.free hc.below h2) hO).mono fun en wq hq=>?_⟩
 obtain⟨gv,gjv,e1,hT,Sn,hSn,hO⟩:=hq
 have hc:=hc.turnO s3 h1 h2 h3 hT hSn hO (ShelfK.stab _ _ _ _ _)
 refine⟨_,e1,?_⟩
 have hjv:=cut_full hnq hv1 hv2
 have hfv:=hfq.cut jv hv2
 have hku:(Hp.cut j).k=Hs.k:=by rw [hju.1,kp]
 have hkv:(Hq.cut jv).k=Hs.k:=by rw [hjv.1,kq,hkk]
 have hc:=hc.now (X:=fun S w=>(ShelfK gs gj gc b Hp S w/\ShelfK gu gju gcu bu (Hp.cut j) S w)/\ShelfK gv gjv gcv bv (Hq.cut jv) S w) (fun h=>⟨⟨((h.left s3).left s2).right (ShelfK.stab _ _ _ _ _),(h.left s3).right (ShelfK.stab _ _ _ _ _)⟩,h.right (ShelfK.stab _ _ _ _ _)⟩) (((ShelfK.stab _ _ _ _ _).and (ShelfK.stab _ _ _ _ _)).and (ShelfK.stab _ _ _ _ _))
 have hbu:=fun S w hK=>Book_any gu gju gcu bu (Hp.cut j) hfu.ok S w hK
 have hbv:=fun S w hK=>Book_any gv gjv gcv bv (Hq.cut jv) hfv.ok S w hK
 have hbs:=fun S w hK=>Book_any gs gj gc b Hp hfp.ok S w hK
 rw [hku] at hbu
 rw [hkv] at hbv
 rw [kp] at hbs
 refine⟨(hbu _ _ hc.row.1.2).mono fun en wq hq=>?_⟩
 obtain⟨cy1,e1,hq,hrep⟩:=hq
 obtain⟨y1,rfl⟩:=hrep.stX
 have hc:=(hc.call hq).1.know (X:=fun S w=>RepS S w _ (stX _ y1)) (hrep.map fun h=>h.sub fun b h=>h.elim (fun h=>h.elim) .inr) (stab_S _ _)
 refine⟨_,e1,?_⟩
 refine⟨(hbv _ _ hc.row.1.2).mono fun en wq hq=>?_⟩
 obtain⟨cy2,e1,hq,hrep⟩:=hq
 obtain⟨y2,rfl⟩:=hrep.stX
 have hc:=(hc.call hq).1.know (X:=fun S w=>RepS S w _ (stX _ y2)) (hrep.map fun h=>h.sub fun b h=>h.elim (fun h=>h.elim) .inr) (stab_S _ _)
 refine⟨_,e1,?_⟩
 have heq:=reqS_any Hs.k.b Hs.k.b _ _ _ _ hc.row.1.2 hc.row.2
 rw [eqS_iff.2 rfl] at heq
 refine hc.q (heq) fun wQ hQ hc=>?_
 have hp9:=Pend_any gu gju gcu bu (Hp.cut j) hfu.ok _ _ (hc.row.1.1.1.2)
 rw [hku] at hp9
 refine⟨hp9.mono fun en wq hq=>?_⟩
 obtain⟨A1,c1,e4,hq1,ho⟩:=hq
 have hrow1:=own_row hq1 ho no
 have hc:=(hc.quiet hq1).1
 refine⟨_,e4,?_⟩
 have hp9:=Pend_any gv gjv gcv bv (Hq.cut jv) hfv.ok _ _ (hc.row.1.1.2)
 rw [hkv] at hp9
 refine⟨hp9.mono fun en wq hq=>?_⟩
 obtain⟨A2,c2,e4,hq2,ho⟩:=hq
 have hrow2:=own_row hq2 ho no
 have hc:=(hc.quiet hq2).1
 refine⟨_,e4,?_⟩
 have hed:=eqDeeds_any Hs.k.pend Hs.k.pend A1 A2 c1 c2 _ _ _ (hrow1.below hq2) hrow2
 rw [eqDs_refl] at hed
 refine hc.q (hed) fun wQ hQ hc=>?_
 have hep1:=Epoch_any gu gju gcu bu (Hp.cut j) _ _ hc.row.1.1.1.2
 rw [hku] at hep1
 refine hc.q (hep1) fun wQ hQ hc=>?_
 have hep2:=Epoch_any gv gjv gcv bv (Hq.cut jv) _ _ hc.row.1.1.2
 rw [hkv] at hep2
 refine hc.q (hep2) fun wQ hQ hc=>?_
 refine split_t (by show (Hs.k.ep==Hs.k.ep)=true;rw [beq_self_eq_true]) ?_
 refine⟨(hbu _ _ hc.row.1.1.1.2).mono fun en wq hq=>?_⟩
 obtain⟨cy3,e1,hq,hrep⟩:=hq
 obtain⟨y3,rfl⟩:=hrep.stX
 have hc:=(hc.call hq).1.know (X:=fun S w=>RepS S w _ (stX _ y3)) (hrep.map fun h=>h.sub fun b h=>h.elim (fun h=>h.elim) .inr) (stab_S _ _)
 refine⟨_,e1,?_⟩
 refine⟨(hbs _ _ hc.row.1.1.1.1.1).mono fun en wq hq=>?_⟩
 obtain⟨cy4,e1,hq,hrep⟩:=hq
 obtain⟨y4,rfl⟩:=hrep.stX
 have hc:=(hc.call hq).1.know (X:=fun S w=>RepS S w _ (stX _ y4)) (hrep.map fun h=>h.sub fun b h=>h.elim (fun h=>h.elim) .inr) (stab_S _ _)
 refine⟨_,e1,?_⟩
 have heq:=reqS_any Hs.k.b Hs.k.b _ _ _ _ hc.row.1.2 hc.row.2
 rw [eqS_iff.2 rfl] at heq
 refine hc.q (heq) fun wQ hQ hc=>?_
 have hp9:=Pend_any gu gju gcu bu (Hp.cut j) hfu.ok _ _ (hc.row.1.1.1.1.1.2)
 rw [hku] at hp9
 refine⟨hp9.mono fun en wq hq=>?_⟩
 obtain⟨A3,c3,e4,hq3,ho⟩:=hq
 have hrow3:=own_row hq3 ho no
 have hc:=(hc.quiet hq3).1
 refine⟨_,e4,?_⟩
 have hp9:=Pend_any gs gj gc b Hp hfp.ok _ _ (hc.row.1.1.1.1.1.1)
 rw [kp] at hp9
 refine⟨hp9.mono fun en wq hq=>?_⟩
 obtain⟨A4,c4,e4,hq4,ho⟩:=hq
 have hrow4:=own_row hq4 ho no
 have hc:=(hc.quiet hq4).1
 refine⟨_,e4,?_⟩
 have hed:=eqDeeds_any Hs.k.pend Hs.k.pend A3 A4 c3 c4 _ _ _ (hrow3.below hq4) hrow4
 rw [eqDs_refl] at hed
 refine hc.q (hed) fun wQ hQ hc=>?_
 exact⟨rfl,hc.below⟩
set_option maxRecDepth 100000 in
theorem shelfPack_ct {H:Type} (enc:TypeId × Value->H) (W:World) (hw:Env W) {base:Nat}
  (v0:Value) (d0:DataW H) (p0:List MemPlace) (h0:DataW.Trod enc Tryz.prog W 0 (fun _=>true) true 68 v0 d0 p0) (k0:Value.okWide Tryz.prog W .any base 68 v0)
  (v1:Value) (d1:DataW H) (p1:List MemPlace) (h1:DataW.Trod enc Tryz.prog W 0 (fun _=>true) true 69 v1 d1 p1) (k1:Value.okWide Tryz.prog W .any base 69 v1)
  (v2:Value) (d2:DataW H) (p2:List MemPlace) (h2:DataW.Trod enc Tryz.prog W 0 (fun _=>true) true 3 v2 d2 p2) (k2:Value.okWide Tryz.prog W .any base 3 v2):
  Calls Tryz.prog 9 #[v0,v1,v2] W (RetB (.bool true) W):=by
 obtain⟨A0,c0,a0,rfl,r0,o0⟩:=open_ops h0 k0
 obtain⟨A1,c1,a1,rfl,r1⟩:=open_bools h1 k1
 obtain⟨a2,rfl,o2⟩:=open_i64 Tryz.underlying3 h2 k2
 exact pack8_any a0 a1 a2 A0 A1 c0 c1 o0 W hw r0 r1
end Go.Proofs.YtokglimimnelaaaGreatDoor
