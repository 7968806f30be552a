import Derived.Test.YtfekddndgakneaaGreatDoorM14
set_option maxRecDepth 100000
set_option maxHeartbeats 40000000
set_option linter.unusedVariables false
set_option linter.unusedSimpArgs false
/- Walk: armariumlaw11.WordOwn. -/
namespace Go.Proofs.YtfekddndgakneaaGreatDoor
open Go.Vc Go.RowKit Go.Fl Go.ChangeShapes Go.WideShapes Go.ChangeAt
theorem A7E {α:Type} (f:α->α) (hf:∀ a,f (f a)=f a) (n:Nat) (l:List α):(((l.take n).map f).take n).map f=(l.take n).map f:=by
 rw [List.take_of_length_le (by rw [List.length_map,List.length_take];omega),List.map_map]
 exact List.map_congr_left fun a _=>hf a
theorem B0W (d:D):A6l (A6l d)=A6l d:=by unfold A6l;rw [A1h,A1h,A1h]
theorem B0X (v:Wd):I1 (I1 v)=I1 v:=by
 unfold I1 A1B cutS
 simp only [A7E A6l B0W,A7E A1e B2L,List.take_take,Nat.min_self]
theorem B48 (v1:Wd) (k1:v1.Ok) (x1:WX) (w:World) (hw:Env w) (hR1:WdR v1 x1 (inW w) w):Calls Tryz.prog 9 #[.agg (wdC v1 x1).toArray] w (C7 (.bool true) w):=by
 obtain⟨a,ha⟩:∃ a,a=I1 v1:=⟨_,rfl⟩
 have hwa:=A4y v1 k1 x1
 have ka:=Z3 k1
 have haa:I1 a=a:=by rw [ha,B0X]
 rw [<-ha] at hwa ka
 have hwb:=fun y=>O9 a ka y
 rw [haa] at hwb
 clear ha
 have g1':GoodL []:=fun v hv=>by cases hv
 refine A0c lay_ok Tryz.func9 rfl (by kernel_rfl) (by kernel_rfl) ?_
 refine SemC.cut lay_ok (fun (z:Nat × Nat × Nat × WX × WX)=>[(1,.pointer (some ⟨z.1,0,none⟩)),(4,.pointer (some ⟨z.2.1,0,none⟩)),(5,.pointer (some ⟨z.2.2.1,0,none⟩))]) (fun z w'=>J5 a=true/\∃ S,CtxF no w S w' [(z.2.1,35,wdC a z.2.2.2.2),(z.1,35,wdC a z.2.2.2.1)] [B3V a z.2.2.2.1,B7D a z.2.2.2.1] (Vc.Sep w.heap.size (fun S w=>WdR a z.2.2.2.2 S w) (FlockK z.2.2.1 ([a].map txW)))) 6 (by kernel_rfl) ?_ ?_
 ·have hc:=CtxF.start w no (fun _ h=>h.elim) (R:=fun _ _=>True) trivial Stab.true
  refine hc.n fun g1 wg1 hg1 hc=>?_
  refine hc.q (M5 _ (hw.below hc.below)) fun wQ hQ hc=>?_
  refine⟨wdC v1 x1,rfl,hc.cells 0 rfl,?_⟩
  refine⟨(hwa (inW w) _ (hR1.below hc.below)).mono fun en wq hq=>?_⟩
  obtain⟨y1,N,e1,hq,hWo⟩:=hq
  have hc:=hc.freshW hq hWo
  refine⟨_,e1,?_⟩
  refine hc.s 0 rfl fun wS hS hc=>?_
  have hc:=B8 hc (l':=[(g1,35,wdC a y1)]) (by kernel_rfl)
  refine⟨wdC a y1,rfl,hc.cells 0 rfl,?_⟩
  refine⟨(hwb y1 _ _ (hc.wdR fun h=>h.2)).mono fun en wq hq=>?_⟩
  obtain⟨y4,e1,hq,hrep⟩:=hq
  have hc:=(hc.call hq).1.know (X:=WdR a y4) (hrep.sub fun b h=>h.elim (fun h=>h.elim) .inr) (WdR.stab _ _)
  refine⟨_,e1,?_⟩
  refine hc.n fun g4 wg4 hg4 hc=>?_
  rw [L7] at hc
  refine hc.s 0 rfl fun wS hS hc=>?_
  have hc:=B8 hc (l':=[(g4,35,wdC a y4),(g1,35,wdC a y1)]) (by kernel_rfl)
  refine⟨(A23 _).mono fun en wq hq=>?_⟩
  obtain⟨gf,e1,hb,hO⟩:=hq
  have hc:=hc.sepNew hb hO (FlockK.stab _ _)
  refine⟨_,e1,?_⟩
  have sR:Stab (fun S w=>(True/\RepS S w a.st (stX a.st y1.y))/\WdR a y4 S w):=(Stab.true.and (P8 _ _)).and (WdR.stab _ _)
  have hM:=fun (S:Nat->Prop) (w:World) (h:WdR a y4 S w)=>K9 a ka y4 S w h
  cases hm:J5 a with
  | false=>
   rw [hm] at hM
   refine vD (.Q [0,1,3] (.n 2 (.n 4 (.Q [5,6,7] (.n 8 (.Q [9,10] .fin) .stop)) .stop) .stop)) (fun z=>Blk z g1 35 (wdC a y1)/\Blk z g4 35 (wdC a y4)) ⟨hc.blk 1 rfl,hc.blk 0 rfl⟩ ?_
   have hc:=hc.drew
   refine⟨wdC a y1,rfl,fun z hz=>Blk.part hz.1 0 (wdC a y1) rfl,?_⟩
   refine⟨wdC a y4,rfl,fun z hz=>Blk.part hz.2 0 (wdC a y4) rfl,?_⟩
   refine⟨?_,trivial⟩
   have hWR:=hc.wdR (fun h=>(h.left sR).1.2)
   obtain⟨S1,Sa,h1,h2,h3,hO⟩:=hc.row
   have sy:=A0e gf (([]:List Wd).map txW) a ka.bare y1 _ Sa _ hWR (fun x hx=>hc.ctx.lt x (h2 x hx).1) (hw.free hc.below h2) hO
   rw [B3F hm] at sy
   refine⟨sy.mono fun en wq hq=>?_⟩
   clear sy
   obtain⟨e1,hT,Sn,hSn,hO⟩:=hq
   have hc:=hc.turnO sR h1 h2 h3 hT hSn hO (FlockK.stab _ _)
   refine⟨_,e1,⟨hc.blk 1 rfl,hc.blk 0 rfl⟩,?_⟩
   refine⟨hc.q (hM _ _ (hc.row.left sR).2) fun wQ hQ hc=>?_,trivial⟩
   refine⟨⟨hc.blk 1 rfl,hc.blk 0 rfl⟩,?_⟩
   refine⟨wdC a y4,rfl,fun z hz=>Blk.part hz.2 0 (wdC a y4) rfl,?_⟩
   refine⟨hc.q (hM _ _ (hc.row.left sR).2) fun wQ hQ hc=>?_,trivial⟩
   refine⟨⟨hc.blk 1 rfl,hc.blk 0 rfl⟩,?_⟩
   refine⟨wdC a y4,rfl,hc.cells 0 rfl,?_⟩
   refine hc.q (hM _ _ (hc.row.left sR).2) fun wQ hQ hc=>?_
   exact⟨rfl,hc.below⟩
  | true=>
   rw [hm] at hM
   refine vD (.Q [0,1,3] (.n 2 (.n 4 (.Q [5,6,7] (.n 8 (.Q [9,10] .fin) .stop)) .stop) .stop)) (fun z=>Blk z g1 35 (wdC a y1)/\Blk z g4 35 (wdC a y4)) ⟨hc.blk 1 rfl,hc.blk 0 rfl⟩ ?_
   have hc:=hc.drew
   refine⟨wdC a y1,rfl,fun z hz=>Blk.part hz.1 0 (wdC a y1) rfl,?_⟩
   refine⟨wdC a y4,rfl,fun z hz=>Blk.part hz.2 0 (wdC a y4) rfl,?_⟩
   refine⟨?_,trivial⟩
   have hWR:=hc.wdR (fun h=>(h.left sR).1.2)
   obtain⟨S1,Sa,h1,h2,h3,hO⟩:=hc.row
   have sy:=A0e gf (([]:List Wd).map txW) a ka.bare y1 _ Sa _ hWR (fun x hx=>hc.ctx.lt x (h2 x hx).1) (hw.free hc.below h2) hO
   rw [A9I (by decide) hm] at sy
   refine⟨sy.mono fun en wq hq=>?_⟩
   clear sy
   obtain⟨e1,hT,Sn,hSn,hO⟩:=hq
   have hc:=hc.turnO sR h1 h2 h3 hT hSn hO (FlockK.stab _ _)
   refine⟨_,e1,⟨hc.blk 1 rfl,hc.blk 0 rfl⟩,?_⟩
   refine⟨hc.q (hM _ _ (hc.row.left sR).2) fun wQ hQ hc=>?_,trivial⟩
   refine⟨⟨hc.blk 1 rfl,hc.blk 0 rfl⟩,?_⟩
   refine⟨wdC a y4,rfl,fun z hz=>Blk.part hz.2 0 (wdC a y4) rfl,?_⟩
   refine⟨hc.q (hM _ _ (hc.row.left sR).2) fun wQ hQ hc=>?_,trivial⟩
   refine⟨⟨hc.blk 1 rfl,hc.blk 0 rfl⟩,?_⟩
   exact⟨(g1,g4,gf,y1,y4),⟨rfl,rfl,rfl,trivial⟩,rfl,_,hc.now (fun h=>h.mono (fun _ h=>h.2) fun _ h=>h) (Vc.Sep.stab (WdR.stab _ _) (FlockK.stab _ _))⟩
 rintro⟨g1,g4,gf,y1,y4⟩ u w1 ⟨hm,S,hc⟩
 have sF:Stab (Vc.Sep w.heap.size (fun S w=>WdR a y4 S w) (FlockK gf ([a].map txW))):=Vc.Sep.stab (WdR.stab _ _) (FlockK.stab _ _)
 refine SemC.cut lay_ok (fun (_:Unit)=>[(1,.pointer (some ⟨g1,0,none⟩)),(4,.pointer (some ⟨g4,0,none⟩)),(5,.pointer (some ⟨gf,0,none⟩))]) (fun _ w'=>∃ S,CtxF no w S w' [(g4,35,wdC a y4),(g1,35,wdC a y1)] [B3V a y1] (Vc.Sep w.heap.size (fun S w=>WdR a y4 S w) (FlockK gf ([a].map txW)))) 0 (by kernel_rfl) ?_ ?_
 ·skip
  refine hc.c 1 rfl rfl ?_
  cases hB:y1.B with
  | none=>
   have h0:a.deeds.length=0:=(hc.swap.fst.none' hB).1
   refine⟨Unit,fun _=>[(1,.pointer (some ⟨g1,0,none⟩)),(4,.pointer (some ⟨g4,0,none⟩)),(5,.pointer (some ⟨gf,0,none⟩)),(37,.int .i64 (a.deeds.length:Int)),(38,.int .i64 0)],fun _ wS=>∃ S,CtxF no w S wS [(g4,35,wdC a y4),(g1,35,wdC a y1)] [B3V a y1,B7D a y1] (Vc.Sep w.heap.size (fun S w=>WdR a y4 S w) (FlockK gf ([a].map txW))),fun _ _=>0,(),⟨rfl,rfl,rfl,rfl,rfl,trivial⟩,⟨_,hc⟩,?_⟩
   clear hc
   rintro⟨⟩ w3 u3 ⟨S,hc⟩
   refine df (show ¬ (0:Int)<(a.deeds.length:Int) by omega) ?_
   exact⟨(),⟨rfl,rfl,rfl,trivial⟩,_,hc.swap.rest⟩
  | some aB=>
   obtain⟨gB,cur,e9,hco,hcl,_,hcn,hcm⟩:=hc.swap.opened hB
   clear hc
   have hc:=hco
   clear hco
   have hcl:cur.length=y1.cB*8:=hcl
   have hcn:a.deeds.length<=y1.cB:=hcn
   have hmx:maxLen=9223372036854775807:=rfl
   have hcm:y1.cB<=maxLen:=hcm
   refine⟨Nat × List Value,fun (i,_)=>[(1,.pointer (some ⟨g1,0,none⟩)),(4,.pointer (some ⟨g4,0,none⟩)),(5,.pointer (some ⟨gf,0,none⟩)),(37,.int .i64 (a.deeds.length:Int)),(38,.int .i64 (i:Int))],fun (i,cur) wS=>i<=a.deeds.length/\cur.length=y1.cB*8/\∃ S,CtxF no w S wS [(gB,60,cur),(g4,35,wdC a y4),(g1,35,wdC a y1)] [B3V a y1] (Vc.Sep w.heap.size (fun S w=>WdR a y4 S w) (FlockK gf ([a].map txW))),fun (i,_) _=>a.deeds.length-i,(0,cur),⟨rfl,rfl,rfl,rfl,rfl,trivial⟩,⟨Nat.zero_le _,hcl,_,hc⟩,?_⟩
   clear hc
   rintro⟨i,cur⟩ w3 u3 ⟨hi,hcl,S,hc⟩
   by_cases hil:i<a.deeds.length
   ·refine dt (by omega) ?_
    refine⟨.slice (some ⟨gB,0,none⟩) a.deeds.length y1.cB,by rw [<-e9];exact hc.cell 2 rfl _ rfl,?_⟩
    refine⟨⟨by omega,by omega⟩,?_⟩
    generalize hae:((⟨gB,0,none⟩:Addr).add ((i:Int).toNat*8))=ae
    have hae:(⟨gB,i*8,none⟩:Addr)=ae:=by rw [<-hae,Addr.add_lit,Nat.zero_add,Int.toNat_natCast]
    subst hae
    refine⟨hc.may 0 rfl (i*8+1) [.string ⟨#[116,117,114,110,101,100]⟩] (by show i*8+1+1<=cur.length;omega) rfl,?_⟩
    intro wS hS
    have hS:E2 _ ⟨gB,i*8+1,none⟩ [.string ⟨#[116,117,114,110,101,100]⟩] wS:=hS
    have hc:=(hc.set 0 rfl hS).1
    exact⟨(i+1,D3 cur (i*8+1) [.string ⟨#[116,117,114,110,101,100]⟩]),⟨rfl,rfl,rfl,rfl,congrArg _ (C1 (by omega)),trivial⟩,⟨hil,by rw [D4];exact hcl,_,hc⟩,by show a.deeds.length-(i+1)<a.deeds.length-i;omega⟩
   refine df (by omega) ?_
   exact⟨(),⟨rfl,rfl,rfl,trivial⟩,_,hc.drop⟩
 clear hc
 rintro⟨⟩ u w1 ⟨S,hc⟩
 refine SemC.cut lay_ok (fun (_:Unit)=>[(4,.pointer (some ⟨g4,0,none⟩)),(5,.pointer (some ⟨gf,0,none⟩))]) (fun _ w'=>∃ S,CtxF no w S w' [(g4,35,wdC a y4),(g1,35,wdC a y1)] [] (Vc.Sep w.heap.size (fun S w=>WdR a y4 S w) (FlockK gf ([a].map txW)))) 0 (by kernel_rfl) ?_ ?_
 ·skip
  refine hc.c 1 rfl rfl ?_
  cases hB:y1.A with
  | none=>
   have h0:a.ros.l.length=0:=(hc.fst.none' hB).1
   refine⟨Unit,fun _=>[(1,.pointer (some ⟨g1,0,none⟩)),(4,.pointer (some ⟨g4,0,none⟩)),(5,.pointer (some ⟨gf,0,none⟩)),(50,.int .i64 (a.ros.l.length:Int)),(51,.int .i64 0)],fun _ wS=>∃ S,CtxF no w S wS [(g4,35,wdC a y4),(g1,35,wdC a y1)] [B3V a y1] (Vc.Sep w.heap.size (fun S w=>WdR a y4 S w) (FlockK gf ([a].map txW))),fun _ _=>0,(),⟨rfl,rfl,rfl,rfl,rfl,trivial⟩,⟨_,hc⟩,?_⟩
   clear hc
   rintro⟨⟩ w3 u3 ⟨S,hc⟩
   refine df (show ¬ (0:Int)<(a.ros.l.length:Int) by omega) ?_
   exact⟨(),⟨rfl,rfl,trivial⟩,_,hc.rest⟩
  | some aB=>
   obtain⟨gB,cur,e9,hco,hcl,_,hcn,hcm⟩:=hc.opened hB
   clear hc
   have hc:=hco
   clear hco
   have hcl:cur.length=y1.cA*1:=hcl
   have hcn:a.ros.l.length<=y1.cA:=hcn
   have hmx:maxLen=9223372036854775807:=rfl
   have hcm:y1.cA<=maxLen:=hcm
   refine⟨Nat × List Value,fun (i,_)=>[(1,.pointer (some ⟨g1,0,none⟩)),(4,.pointer (some ⟨g4,0,none⟩)),(5,.pointer (some ⟨gf,0,none⟩)),(50,.int .i64 (a.ros.l.length:Int)),(51,.int .i64 (i:Int))],fun (i,cur) wS=>i<=a.ros.l.length/\cur.length=y1.cA*1/\∃ S,CtxF no w S wS [(gB,3,cur),(g4,35,wdC a y4),(g1,35,wdC a y1)] [] (Vc.Sep w.heap.size (fun S w=>WdR a y4 S w) (FlockK gf ([a].map txW))),fun (i,_) _=>a.ros.l.length-i,(0,cur),⟨rfl,rfl,rfl,rfl,rfl,trivial⟩,⟨Nat.zero_le _,hcl,_,hc⟩,?_⟩
   clear hc
   rintro⟨i,cur⟩ w3 u3 ⟨hi,hcl,S,hc⟩
   by_cases hil:i<a.ros.l.length
   ·refine dt (by omega) ?_
    refine⟨.slice (some ⟨gB,0,none⟩) a.ros.l.length y1.cA,by rw [<-e9];exact hc.cell 2 rfl _ rfl,?_⟩
    refine⟨⟨by omega,by omega⟩,?_⟩
    generalize hae:((⟨gB,0,none⟩:Addr).add ((i:Int).toNat*1))=ae
    have hae:(⟨gB,i*1,none⟩:Addr)=ae:=by rw [<-hae,Addr.add_lit,Nat.zero_add,Int.toNat_natCast]
    subst hae
    refine⟨hc.may 0 rfl (i*1) [.int .i64 9] (by show i*1+1<=cur.length;omega) rfl,?_⟩
    intro wS hS
    have hS:E2 _ ⟨gB,i*1,none⟩ [.int .i64 9] wS:=hS
    have hc:=(hc.set 0 rfl hS).1
    exact⟨(i+1,D3 cur (i*1) [.int .i64 9]),⟨rfl,rfl,rfl,rfl,congrArg _ (C1 (by omega)),trivial⟩,⟨hil,by rw [D4];exact hcl,_,hc⟩,by show a.ros.l.length-(i+1)<a.ros.l.length-i;omega⟩
   refine df (by omega) ?_
   exact⟨(),⟨rfl,rfl,trivial⟩,_,hc.drop⟩
 clear hc
 rintro⟨⟩ u w1 ⟨S,hc⟩
 have hg:GoodL [a]:=fun v hv=>by rw [List.mem_singleton.1 hv];exact⟨ka,hm⟩
 have hF:=fun s hs=>Nat.le_trans (I7 hg s hs) (show 1000000<=1073741824 by decide)
 have p0:X0 ([a].map txW) 0=some a:=A5z (l:=[a]) hg (i:=0) (Nat.zero_lt_one)
 have u0:A5w ([a].map txW) 0=([]:List Wd).map txW:=B3G (l:=[a]) hg (i:=0) (Nat.zero_lt_one)
 refine SemC.cut lay_ok (fun (_:Unit)=>[(4,.pointer (some ⟨g4,0,none⟩)),(5,.pointer (some ⟨gf,0,none⟩)),(9,.bool true)]) (fun _ w'=>∃ S,CtxF no w S w' [(g4,35,wdC a y4)] [] (Vc.Sep w.heap.size (fun S w=>WdR a y4 S w) (FlockK gf ([a].map txW)))) 1 (by kernel_rfl) ?_ ?_
 ·have hc:=hc.swapL.drop
  have pk:=A65 gf ([a].map txW) hF 0 _ _ hc.ctx.lt (hw.below hc.below) (hc.row.right (FlockK.stab _ _))
  rw [p0] at pk
  refine⟨pk.mono fun en wq hq=>?_⟩
  clear pk
  obtain⟨y8,N8,e1,hb,hWo⟩:=hq
  have hc:=hc.freshW (v:=a) hb hWo
  have hc:=hc.now (X:=(Vc.Sep w.heap.size (fun S w=>WdR a y4 S w) (FlockK gf ([a].map txW)))) (fun h=>h.1) sF
  refine⟨_,e1,?_⟩
  refine hc.n fun g8 wg8 hg8 hc=>?_
  rw [L7] at hc
  refine hc.s 0 rfl fun wS hS hc=>?_
  have hc:=B8 hc (l':=[(g8,35,wdC a y8),(g4,35,wdC a y4)]) (by kernel_rfl)
  refine hc.c 0 rfl rfl ?_
  cases hB:y8.B with
  | none=>
   have h0:a.deeds.length=0:=(hc.swap.fst.none' hB).1
   refine⟨Unit,fun _=>[(4,.pointer (some ⟨g4,0,none⟩)),(5,.pointer (some ⟨gf,0,none⟩)),(8,.pointer (some ⟨g8,0,none⟩)),(9,.bool true),(67,.int .i64 (a.deeds.length:Int)),(68,.int .i64 0)],fun _ wS=>∃ S,CtxF no w S wS [(g8,35,wdC a y8),(g4,35,wdC a y4)] [B3V a y8,B7D a y8] (Vc.Sep w.heap.size (fun S w=>WdR a y4 S w) (FlockK gf ([a].map txW))),fun _ _=>0,(),⟨rfl,rfl,rfl,rfl,rfl,rfl,trivial⟩,⟨_,hc⟩,?_⟩
   clear hc
   rintro⟨⟩ w3 u3 ⟨S,hc⟩
   refine df (show ¬ (0:Int)<(a.deeds.length:Int) by omega) ?_
   exact⟨(),⟨rfl,rfl,rfl,trivial⟩,_,hc.swap.rest.rest.drop⟩
  | some aB=>
   obtain⟨gB,cur,e9,hco,hcl,_,hcn,hcm⟩:=hc.swap.opened hB
   clear hc
   have hc:=hco
   clear hco
   have hcl:cur.length=y8.cB*8:=hcl
   have hcn:a.deeds.length<=y8.cB:=hcn
   have hmx:maxLen=9223372036854775807:=rfl
   have hcm:y8.cB<=maxLen:=hcm
   refine⟨Nat × List Value,fun (i,_)=>[(4,.pointer (some ⟨g4,0,none⟩)),(5,.pointer (some ⟨gf,0,none⟩)),(8,.pointer (some ⟨g8,0,none⟩)),(9,.bool true),(67,.int .i64 (a.deeds.length:Int)),(68,.int .i64 (i:Int))],fun (i,cur) wS=>i<=a.deeds.length/\cur.length=y8.cB*8/\∃ S,CtxF no w S wS [(gB,60,cur),(g8,35,wdC a y8),(g4,35,wdC a y4)] [B3V a y8] (Vc.Sep w.heap.size (fun S w=>WdR a y4 S w) (FlockK gf ([a].map txW))),fun (i,_) _=>a.deeds.length-i,(0,cur),⟨rfl,rfl,rfl,rfl,rfl,rfl,trivial⟩,⟨Nat.zero_le _,hcl,_,hc⟩,?_⟩
   clear hc
   rintro⟨i,cur⟩ w3 u3 ⟨hi,hcl,S,hc⟩
   by_cases hil:i<a.deeds.length
   ·refine dt (by omega) ?_
    refine⟨.slice (some ⟨gB,0,none⟩) a.deeds.length y8.cB,by rw [<-e9];exact hc.cell 1 rfl _ rfl,?_⟩
    refine⟨⟨by omega,by omega⟩,?_⟩
    generalize hae:((⟨gB,0,none⟩:Addr).add ((i:Int).toNat*8))=ae
    have hae:(⟨gB,i*8,none⟩:Addr)=ae:=by rw [<-hae,Addr.add_lit,Nat.zero_add,Int.toNat_natCast]
    subst hae
    refine⟨hc.may 0 rfl (i*8+1) [.string ⟨#[116,117,114,110,101,100]⟩] (by show i*8+1+1<=cur.length;omega) rfl,?_⟩
    intro wS hS
    have hS:E2 _ ⟨gB,i*8+1,none⟩ [.string ⟨#[116,117,114,110,101,100]⟩] wS:=hS
    have hc:=(hc.set 0 rfl hS).1
    exact⟨(i+1,D3 cur (i*8+1) [.string ⟨#[116,117,114,110,101,100]⟩]),⟨rfl,rfl,rfl,rfl,rfl,congrArg _ (C1 (by omega)),trivial⟩,⟨hil,by rw [D4];exact hcl,_,hc⟩,by show a.deeds.length-(i+1)<a.deeds.length-i;omega⟩
   refine df (by omega) ?_
   exact⟨(),⟨rfl,rfl,rfl,trivial⟩,_,hc.drop.rest.drop⟩
 clear hc
 rintro⟨⟩ u w1 ⟨S,hc⟩
 refine SemC.vc lay_ok ?_
 obtain⟨S1,Sa,h1,h2,h3,hO⟩:=hc.row
 have pl:=A1x gf ([a].map txW) hF (by rw [List.length_map];exact nle rfl) 0 Sa _ (fun x hx=>hc.ctx.lt x (h2 x hx).1) (hw.free hc.below h2) hO
 rw [p0,u0] at pl
 refine⟨pl.mono fun en wq hq=>?_⟩
 clear pl
 obtain⟨y11,e1,hT,Sn,hSn,hO⟩:=hq.thing
 have hc:=hc.turnO (WdR.stab a y4) h1 h2 h3 hT hSn hO (Vc.Sep.stab (WdR.stab _ _) (FlockK.stab _ _))
 have hc:=hc.now (fun h=>Vc.Sep.assoc (WdR.stab a y4) (WdR.stab _ _) h) (Vc.Sep.stab ((WdR.stab _ _).and (WdR.stab _ _)) (FlockK.stab _ _))
 have sR:Stab (fun S w=>WdR a y4 S w/\WdR a y11 S w):=(WdR.stab _ _).and (WdR.stab _ _)
 refine⟨_,e1,?_⟩
 refine hc.n fun g11 wg11 hg11 hc=>?_
 rw [L7] at hc
 refine hc.s 0 rfl fun wS hS hc=>?_
 have hc:=B8 hc (l':=[(g11,35,wdC a y11),(g4,35,wdC a y4)]) (by kernel_rfl)
 refine⟨wdC a y11,rfl,hc.cells 0 rfl,?_⟩
 refine⟨wdC a y4,rfl,hc.cells 1 rfl,?_⟩
 have hE:=F9 a a y11 y4 _ _ _ (hc.row.left sR).2 (hc.row.left sR).1
 rw [M4.2 rfl] at hE
 refine hc.q (hE) fun wQ hQ hc=>?_
 refine⟨wdC a y11,rfl,hc.cells 0 rfl,?_⟩
 have hM:=A0s a ka.bare.deeds ka.bare.key y11 _ _ (hc.row.left sR).2
 rw [hm] at hM
 refine hc.q (hM) fun wQ hQ hc=>?_
 exact⟨rfl,hc.below⟩
theorem B0Y {H:Type} (enc:TypeId × Value->H) (W:World) (hw:Env W) {base:Nat}
  (v0:Value) (d0:DataW H) (p0:List MemPlace) (h0:DataW.Trod enc Tryz.prog W 0 (fun _=>true) true 35 v0 d0 p0) (k0:Value.okWide Tryz.prog W .any base 35 v0):
  Calls Tryz.prog 9 #[v0] W (C7 (.bool true) W):=by
 obtain⟨a0,y0,rfl,r0,o0⟩:=A0g h0 k0
 exact B48 a0 o0 y0 W hw r0
end Go.Proofs.YtfekddndgakneaaGreatDoor
