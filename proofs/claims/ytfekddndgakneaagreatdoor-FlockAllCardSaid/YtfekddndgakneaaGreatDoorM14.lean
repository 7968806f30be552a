import Derived.Test.YtfekddndgakneaaGreatDoorM13
import Derived.Laws.OwnMore
set_option maxRecDepth 100000
set_option maxHeartbeats 40000000
set_option linter.unusedVariables false
set_option linter.unusedSimpArgs false
namespace Go.Proofs.YtfekddndgakneaaGreatDoor
open Go.Vc Go.RowKit Go.Fl Go.ChangeShapes Go.WideShapes Go.ChangeAt
theorem B3C {S0 S:Nat->Prop} {w0 w:World} {l:List LB} {os:List OR} {R:Kn} {A:Option Addr} {n cap:Nat} {css:List (List Value)} (hc:CtxF S0 w0 S w l (⟨3,1,A,n,cap,css.flatten⟩::os) R) (hn:css.length=n) (hF:Flat 1 css) (i:Nat) (hi:i<n) (j:Int) (hj:j=i+1):
  Calls Tryz.prog 156 #[.slice A n cap,.int .i64 i,.int .i64 j] w (fun en w'=>∃ A',en=.returned (.slice A' (n-1) cap)/\CtxF S0 w0 S w' l (⟨3,1,A',n-1,cap,(css.take i++css.drop (i+1)).flatten⟩::os) R):=by
 subst hn
 obtain⟨hc',ho'⟩:=hc.others
 refine (A77 hc' css hF ho' i hi j hj).mono fun en w' h=>?_
 obtain⟨A',e,h1,h2,h3⟩:=h
 exact⟨A',e,hc.back h1 h2 (o':=⟨3,1,A',css.length-1,cap,(css.take i++css.drop (i+1)).flatten⟩) h3 fun x hx=>⟨x,hx,rfl⟩⟩
theorem B8P {S0 S:Nat->Prop} {w0 w:World} {l:List LB} {os:List OR} {R:Kn} {A:Option Addr} {n cap:Nat} {css:List (List Value)} (hc:CtxF S0 w0 S w l (⟨9,1,A,n,cap,css.flatten⟩::os) R) (hn:css.length=n) (hF:Flat 1 css) (i:Nat) (hi:i<n) (j:Int) (hj:j=i+1):
  Calls Tryz.prog 54 #[.slice A n cap,.int .i64 i,.int .i64 j] w (fun en w'=>∃ A',en=.returned (.slice A' (n-1) cap)/\CtxF S0 w0 S w' l (⟨9,1,A',n-1,cap,(css.take i++css.drop (i+1)).flatten⟩::os) R):=by
 subst hn
 obtain⟨hc',ho'⟩:=hc.others
 refine (A78 hc' css hF ho' i hi j hj).mono fun en w' h=>?_
 obtain⟨A',e,h1,h2,h3⟩:=h
 exact⟨A',e,hc.back h1 h2 (o':=⟨9,1,A',css.length-1,cap,(css.take i++css.drop (i+1)).flatten⟩) h3 fun x hx=>⟨x,hx,rfl⟩⟩
theorem B4y {r:Ros} {n:Int} (h:0<=F8 r.l n):(B3W r n).l.length=r.l.length-1:=by
 have:=Z2 r.l n
 show (r.l.take (F8 r.l n).toNat++r.l.drop ((F8 r.l n).toNat+1)).length=_
 rw [List.length_append,List.length_take,List.length_drop]
 omega
theorem A4x {r:Ros} (n:Int) {S:Nat->Prop} {w:World} {A:Option Addr} {cap:Nat} (hR:RosR r A cap S w):Calls Tryz.prog 102 #[.agg (I0 r A cap).toArray,.int .i64 n] w (B4x (B3B r n) no w):=by
 have hM:=C9 hR
 have hs:=Z2 r.l n
 obtain⟨q,hq⟩:∃ q,q=B3B r n:=⟨_,rfl⟩
 rw [<-hq]
 unfold B3B at hq
 refine A0c lay_ok Tryz.func102 rfl (by kernel_rfl) (by kernel_rfl) ?_
 refine SemC.cut lay_ok (fun (x:Nat × Nat × Nat × Option Addr × Nat)=>[(1,.int .i64 n),(2,.pointer (some ⟨x.1,0,none⟩)),(4,.pointer (some ⟨x.2.1,0,none⟩)),(7,.pointer (some ⟨x.2.2.1,0,none⟩))]) (fun x w'=>A31 r=true/\0<=F8 r.l n/\CtxF no w no w' [(x.2.2.1,27,[.int .i64 (r.ep+1),.slice x.2.2.2.1 (r.l.length-1) x.2.2.2.2,.int .i64 r.new]),(x.2.1,27,I0 Ros0 none 0),(x.1,27,I0 r A cap)] [⟨3,1,x.2.2.2.1,r.l.length-1,x.2.2.2.2,L2 (B3W r n).l⟩] (fun _ _=>True)) 3 (by kernel_rfl) ?_ ?_
 ·have hc:=CtxF.start w no (fun _ h=>h.elim) (R:=fun _ _=>True) trivial Stab.true
  refine hc.n fun g2 wg2 hg2 hc=>?_
  refine hc.n fun g4 wg4 hg4 hc=>?_
  have hc:=B8 hc (l':=[(g4,27,I0 Ros0 none 0),(g2,27,I0 r A cap)]) (by kernel_rfl)
  refine hc.c 1 rfl rfl ?_
  refine hc.q (A0r r.l n (hR.below hc.below)) fun wQ hQ hc=>?_
  refine hc.a 1 rfl rfl ?_
  refine hc.q (W9 (hR.below hc.below)) fun wQ hQ hc=>?_
  cases hm:A31 r with
  | false=>
   rw [hm,Bool.false_and,if_neg (by decide)] at hq
   refine hc.s 0 rfl fun wS hS hc=>?_
   refine hc.a 0 rfl rfl ?_
   subst hq
   exact⟨none,0,rfl,hc.below,Ros0.rep _ _⟩
  | true=>
  rw [hm,Bool.true_and] at hq
  obtain⟨⟨p1,p2⟩,⟨p3,p4⟩,_⟩:=A0o.1 hm
  have hmx:J9=1099511627776:=rfl
  by_cases h0:0<=F8 r.l n
  rotate_left
  ·refine dt (by omega) ?_
   rw [decide_eq_false h0,if_neg (by decide)] at hq
   refine hc.s 0 rfl fun wS hS hc=>?_
   refine hc.a 0 rfl rfl ?_
   subst hq
   exact⟨none,0,rfl,hc.below,Ros0.rep _ _⟩
  refine df (by omega) ?_
  have hw1:IntKind.i64.wrap (r.ep+1)=r.ep+1:=IntWalk.i64_in _ ⟨by omega,by omega⟩
  have hw2:IntKind.i64.wrap (F8 r.l n+1)=F8 r.l n+1:=IntWalk.i64_in _ ⟨by omega,by omega⟩
  obtain⟨i,hi⟩:∃ i:Nat,F8 r.l n=(i:Int):=⟨(F8 r.l n).toNat,by omega⟩
  have ecut:(((r.l.map iC).take i)++(r.l.map iC).drop (i+1)).flatten=L2 (B3W r n).l:=by
   show _=((r.l.take (F8 r.l n).toNat++r.l.drop ((F8 r.l n).toNat+1)).map iC).flatten
   rw [hi,Int.toNat_natCast,List.map_append,List.map_take,List.map_drop]
  refine vD (.Q [0,1,2,3,4,6,7,8,10,11] (.n 5 (.n 9 (.q 12 (.n 13 (.z 14) .stop)) (.n 13 (.n 9 (.q 12 (.z 14)) .stop) .stop)) (.n 13 (.n 5 (.n 9 (.q 12 (.z 14)) .stop) .stop) .stop))) (fun z=>Blk z g2 27 (I0 r A cap)) (hc.blk 1 rfl) ?_
  have hc:=hc.drew
  refine⟨_,fun z hz=>hz.cell 0,?_⟩
  refine⟨_,fun z hz=>hz.cell 1,?_⟩
  refine⟨_,fun z hz=>hz.cell 2,?_⟩
  refine⟨?_,?_⟩
  ·skip
   refine⟨(A0n A r.l.length cap _ (T6 _) (List.length_map _) (by omega) S _ (hR.below hc.below)).mono fun en wq hq=>?_⟩
   obtain⟨A2,cap2,e1,hb,ho⟩:=hq
   have hc:=hc.fresh hb ho
   refine⟨_,e1,(hc.blk 1 rfl),?_⟩
   refine⟨?_,?_⟩
   ·skip
    have hdel:=B3C hc (List.length_map _) (T6 _) i (by omega) (IntKind.i64.wrap (F8 r.l n+1)) (by rw [hw2,hi])
    rw [<-hi] at hdel
    refine⟨hdel.mono fun en wq hq=>?_⟩
    obtain⟨A3,e1,hc⟩:=hq
    rw [ecut] at hc
    refine⟨_,e1,(hc.blk 1 rfl),?_⟩
    refine⟨hc.n fun g7 wg7 hg7 hc=>?_,trivial⟩
    refine⟨(hc.blk 2 rfl),?_⟩
    refine hc.s 0 rfl fun wS hS hc=>?_
    have hc:=B8 hc (l':=[(g7,27,[.int .i64 (IntKind.i64.wrap (r.ep+1)),.slice A3 (r.l.length-1) cap2,.int .i64 r.new]),(g4,27,I0 Ros0 none 0),(g2,27,I0 r A cap)]) (by kernel_rfl)
    rw [hw1] at hc
    exact⟨(g2,g4,g7,A3,cap2),⟨rfl,rfl,rfl,rfl,trivial⟩,rfl,h0,hc⟩
   refine⟨hc.n fun g7 wg7 hg7 hc=>?_,trivial⟩
   refine⟨(hc.blk 2 rfl),?_⟩
   refine⟨?_,trivial⟩
   have hdel:=B3C hc (List.length_map _) (T6 _) i (by omega) (IntKind.i64.wrap (F8 r.l n+1)) (by rw [hw2,hi])
   rw [<-hi] at hdel
   refine⟨hdel.mono fun en wq hq=>?_⟩
   obtain⟨A3,e1,hc⟩:=hq
   rw [ecut] at hc
   refine⟨_,e1,(hc.blk 2 rfl),?_⟩
   refine hc.s 0 rfl fun wS hS hc=>?_
   have hc:=B8 hc (l':=[(g7,27,[.int .i64 (IntKind.i64.wrap (r.ep+1)),.slice A3 (r.l.length-1) cap2,.int .i64 r.new]),(g4,27,I0 Ros0 none 0),(g2,27,I0 r A cap)]) (by kernel_rfl)
   rw [hw1] at hc
   exact⟨(g2,g4,g7,A3,cap2),⟨rfl,rfl,rfl,rfl,trivial⟩,rfl,h0,hc⟩
  refine⟨hc.n fun g7 wg7 hg7 hc=>?_,trivial⟩
  refine⟨(hc.blk 2 rfl),?_⟩
  refine⟨⟨(A0n A r.l.length cap _ (T6 _) (List.length_map _) (by omega) S _ (hR.below hc.below)).mono fun en wq hq=>?_⟩,trivial⟩
  obtain⟨A2,cap2,e1,hb,ho⟩:=hq
  have hc:=hc.fresh hb ho
  refine⟨_,e1,(hc.blk 2 rfl),?_⟩
  refine⟨?_,trivial⟩
  have hdel:=B3C hc (List.length_map _) (T6 _) i (by omega) (IntKind.i64.wrap (F8 r.l n+1)) (by rw [hw2,hi])
  rw [<-hi] at hdel
  refine⟨hdel.mono fun en wq hq=>?_⟩
  obtain⟨A3,e1,hc⟩:=hq
  rw [ecut] at hc
  refine⟨_,e1,(hc.blk 2 rfl),?_⟩
  refine hc.s 0 rfl fun wS hS hc=>?_
  have hc:=B8 hc (l':=[(g7,27,[.int .i64 (IntKind.i64.wrap (r.ep+1)),.slice A3 (r.l.length-1) cap2,.int .i64 r.new]),(g4,27,I0 Ros0 none 0),(g2,27,I0 r A cap)]) (by kernel_rfl)
  rw [hw1] at hc
  exact⟨(g2,g4,g7,A3,cap2),⟨rfl,rfl,rfl,rfl,trivial⟩,rfl,h0,hc⟩
 rintro⟨g2,g4,g7,A3,cap2⟩ u w1 ⟨hm,h0,hc⟩
 refine SemC.vc lay_ok ?_
 rw [hm,Bool.true_and,decide_eq_true h0,if_pos rfl] at hq
 obtain⟨S2,_,hc⟩:=hc.told
 refine hc.c 2 rfl rfl ?_
 have hl:=B4y h0
 have fin:∀ (z:Int),z=(B3W r n).new->∀ w',CtxF no w S2 w' [(g7,27,[.int .i64 (r.ep+1),.slice A3 (r.l.length-1) cap2,.int .i64 z]),(g4,27,I0 Ros0 none 0),(g2,27,I0 r A cap)] [] (fun S w=>True/\Row S w A3 (r.l.length-1) cap2 (L2 (B3W r n).l))->Calls Tryz.prog 153 [Value.agg #[.int .i64 (r.ep+1),.slice A3 (r.l.length-1) cap2,.int .i64 z]].toArray w' (B4x (B8O (B3W r n)) S2 w'):=by
  intro z hz w' hc
  have hr:RosR (B3W r n) A3 cap2 S2 w':=by
   show Row S2 w' A3 (B3W r n).l.length cap2 (L2 (B3W r n).l)
   rw [hl]
   exact hc.row.2
  have:=A3x hr
  unfold I0 at this
  rw [hl,<-hz] at this
  exact this
 by_cases hn:r.new=n
 ·refine B6 (by show (r.new==n)=true;rw [beq_iff_eq];exact hn) ?_
  refine hc.s 0 rfl fun wS hS hc=>?_
  have hc:=B8 hc (l':=[(g7,27,[.int .i64 (r.ep+1),.slice A3 (r.l.length-1) cap2,.int .i64 0]),(g4,27,I0 Ros0 none 0),(g2,27,I0 r A cap)]) (by kernel_rfl)
  refine hc.a 0 rfl rfl ?_
  refine⟨(fin 0 (by show 0=if r.new=n then 0 else r.new;rw [if_pos hn]) _ hc).mono fun en wq hq2=>?_⟩
  obtain⟨A4,c4,e1,hb,hr4⟩:=hq2
  have hc:=(hc.call hb).1.know hr4 (RosR.stab _ _ _)
  refine⟨_,e1,?_⟩
  refine hc.s 1 rfl fun wS hS hc=>?_
  refine hc.a 1 rfl rfl ?_
  rw [hq]
  exact⟨_,_,rfl,hc.below,hc.out.2⟩
 ·refine B4 (by show (r.new==n)=false;rw [beq_eq_false_iff_ne];exact hn) ?_
  refine hc.a 0 rfl rfl ?_
  refine⟨(fin r.new (by show r.new=if r.new=n then 0 else r.new;rw [if_neg hn]) _ hc).mono fun en wq hq2=>?_⟩
  obtain⟨A4,c4,e1,hb,hr4⟩:=hq2
  have hc:=(hc.call hb).1.know hr4 (RosR.stab _ _ _)
  refine⟨_,e1,?_⟩
  refine hc.s 1 rfl fun wS hS hc=>?_
  refine hc.a 1 rfl rfl ?_
  rw [hq]
  exact⟨_,_,rfl,hc.below,hc.out.2⟩
end Go.Proofs.YtfekddndgakneaaGreatDoor
section
namespace Go.Vc
open Go Go.RowKit
open Go.Proofs.YtfekddndgakneaaGreatDoor (no)
section
variable {S0 S:Nat->Prop} {w0 w w':World} {l:List LB} {os:List OR} {o:OR} {R O O':Kn}
structure Cel (w:World) (a:Addr):Prop where
 spot:a.spot=none
 blk:∃ T cs,Blk w a.block T cs/\a.off<cs.length
theorem Cel.of {a:Addr} {v:Value} (hs:a.spot=none) (hB:∃ T cs,Blk w a.block T cs) (hv:w.cell? a=some v):Cel w a:=by
 obtain⟨T,cs,hB⟩:=hB
 refine⟨hs,T,cs,hB,?_⟩
 obtain⟨b,off,sub⟩:=a
 cases hs
 rw [hB.cell] at hv
 exact (List.getElem?_eq_some_iff.1 hv).1
end
end Go.Vc
namespace Go.Proofs.YtfekddndgakneaaGreatDoor
open Go.Vc Go.RowKit Go.Fl Go.ChangeShapes Go.WideShapes Go.ChangeAt
end Go.Proofs.YtfekddndgakneaaGreatDoor
end
namespace Go.Proofs.YtfekddndgakneaaGreatDoor
open Go.Vc Go.RowKit Go.Fl Go.ChangeShapes Go.WideShapes Go.ChangeAt
theorem B4z {S0 S:Nat->Prop} {w0 w:World} {l:List LB} {os:List OR} {R:Kn} {e n cap:Nat} {A:Option Addr} {xs:List Value} (hc:CtxF S0 w0 S w l (⟨e,1,A,n,cap,xs⟩::os) R):∃ S':Nat->Prop,CtxF S0 w0 S' w l os (Vc.Sep 0 R (RecK e A n cap xs)):=by
 have hout:=hc.fst.out
 obtain⟨h1,h2,h3⟩:=hc.fst.told hc.ctx
 have hsz:xs.length=n:=by have:=hc.fst.size;rw [Nat.mul_one] at this;exact this
 refine⟨_,h1,hc.own.2.2.step fun p hp a ha=>⟨rfl,?_,((hc.own.2.2.mem p hp).out a ha).2⟩,⟨S,fun x=>∃ a,A=some a/\a.block=x,fun x hx=>⟨.inl hx,fun ⟨a,ha,e⟩=>(hout a ha).1 (e▸hx)⟩,fun x hx=>⟨.inr hx,Nat.zero_le _⟩,hc.row,hsz,hc.fst.fit.1,hc.fst.fit.2,?_⟩,Vc.Sep.stab hc.stab (RecK.stab _ _ _ _ _)⟩
 ·rintro (hs | ⟨b,hb,e⟩)
  ·exact ((hc.own.2.2.mem p hp).out a ha).1 hs
  ·exact hc.own.2.1 p hp b a hb ha e
 ·cases hA:A with
  | none=>exact .inl ⟨rfl,(hc.fst.none' hA).2.1⟩
  | some a=>
   obtain⟨g,cur,e1,k1,k2,k3,k4,k5⟩:=hc.fst.opened hc.ctx hA
   have e1:A=some ⟨g,0,none⟩:=e1
   rw [hA] at e1
   cases e1
   exact .inr ⟨g,0,cur,rfl,⟨⟨g,0,none⟩,rfl,rfl⟩,k1.blk 0 rfl,by rw [k2,Nat.mul_one,Nat.zero_add];exact Nat.le_refl _,by rw [List.drop_zero];rw [Nat.mul_one] at k3;exact k3⟩
def WdF (w:World) (v:Wd) (x:WX):Kn:=fun S w'=>∃ Sl:Nat->Prop,(∀ y,Sl y->S y/\w.heap.size<=y)/\WdR v x Sl w'
theorem WdF.stab (w:World) (v:Wd) (x:WX):Stab (WdF w v x):=fun S w1 S' w2 h f=>by
 obtain⟨Sl,h1,h2⟩:=h
 exact⟨Sl,fun y hy=>⟨f.1 y (h1 y hy).1,(h1 y hy).2⟩,WdR.stab v x _ _ _ _ h2 ⟨fun _ h=>h,fun y hy=>f.2 y (h1 y hy).1⟩⟩
def RetPl (q:Option Wd) (Sx:Nat->Prop) (w:World) (O:Kn) (en:Ending) (w':World):Prop:=∃ x,en=.returned (.tuple #[.agg (wdC (q.getD Wd0) x).toArray,.bool q.isSome])/\Turn Sx w w'/\∃ Sn Sl:Nat->Prop,(∀ x,Sn x->(Sx x\/w.heap.size<=x)/\x<w'.heap.size)/\O Sn w'/\(∀ y,Sl y->w.heap.size<=y/\y<w'.heap.size/\¬ Sn y)/\WdR (q.getD Wd0) x Sl w'
def A5w (F:List ByteArray) (i:Int):List ByteArray:=if (X0 F i).isSome then F.take i.toNat++F.drop (i.toNat+1) else F
theorem A9F {gf n cap:Nat} {A:Option Addr} {F:List ByteArray} {q:Option Wd} {x:WX} {xs:List Value} {Sx S:Nat->Prop} {w w':World}
  (hc:CtxF no (bare w) S w' [(gf,85,flC A n cap)] [] (Vc.Sep 0 (fun S w'=>Keep w Sx S w'/\WdF w (q.getD Wd0) x S w') (RecK 9 A n cap xs))) (hx:xs=F.map Value.string) (hn:n=F.length):RetPl q Sx w (FlockK gf F) (.returned (.tuple #[.agg (wdC (q.getD Wd0) x).toArray,.bool q.isSome])) w':=by
 subst hx
 subst hn
 have sK:Stab (fun S w'=>Keep w Sx S w'/\WdF w (q.getD Wd0) x S w'):=(Keep.stab _ _).and (WdF.stab _ _ _)
 have hc2:=hc.now (X:=Vc.Sep 0 (Vc.Sep 0 (fun S w'=>Keep w Sx S w'/\WdF w (q.getD Wd0) x S w') (RecK 9 A F.length cap (F.map Value.string))) (fun _ _=>True)) (fun h=>⟨_,fun _=>False,fun y hy=>⟨hy,id⟩,fun _ h=>h.elim,h,trivial⟩) (Vc.Sep.stab (Vc.Sep.stab sK (RecK.stab _ _ _ _ _)) Stab.true)
 obtain⟨k1,Sn,Sk,k2,k3,⟨_,Sl,k4,k5⟩,k6⟩:=ObjK.leaveK hc2 (fun _ _ h=>h.1)
 exact⟨x,rfl,k1,Sn,Sl,k2,⟨A,cap,k3⟩,fun y hy=>⟨(k4 y hy).2,(k6 y (k4 y hy).1).1,(k6 y (k4 y hy).1).2⟩,k5⟩
theorem A1x (gf:Nat) (F:List ByteArray) (hF:∀ s∈F,s.size<=1073741824) (hn:F.length<=1000000) (i:Int) (Sx:Nat->Prop) (w:World) (hlt:∀ x,Sx x->x<w.heap.size) (he:EnvFree Sx w) (hK:FlockK gf F Sx w):
  Calls Tryz.prog 23 #[.pointer (some ⟨gf,0,none⟩),.int .i64 i] w (RetPl (X0 F i) Sx w (FlockK gf (A5w F i))):=by
 have hK0:=hK
 obtain⟨A,cap,hO⟩:=hK
 have hc:=hO.enter hlt (RecK.stab _ _ _ _ _) Stab.true
 refine vE Tryz.func23 ?_
 refine hc.n fun g4 wg4 hg4 hc=>?_
 rw [L7] at hc
 have henv:=he.now hc
 have hc:=hc.now (X:=Vc.Sep 0 (Keep w Sx) (RecK 9 A F.length cap (F.map Value.string))) (fun h=>h.left (Vc.Sep.stab (Keep.stab _ _) (RecK.stab _ _ _ _ _))) (Vc.Sep.stab (Keep.stab _ _) (RecK.stab _ _ _ _ _))
 have hsz:=hg4.below.size
 refine⟨(X1 gf F hF i Sx _ (fun x hx=>Nat.lt_of_lt_of_le (hlt x hx) hsz) henv (hK0.later hlt hg4.below)).mono fun en wq hq=>?_⟩
 obtain⟨x,e1,hb,hr⟩:=hq
 obtain⟨q,hq⟩:∃ q,q=X0 F i:=⟨_,rfl⟩
 have hpl:A5w F i=if q.isSome then F.take i.toNat++F.drop (i.toNat+1) else F:=by rw [hq];rfl
 have hqi:q.isSome=true->0<=i/\i<F.length:=by
  intro hs
  rw [hq] at hs
  unfold X0 at hs
  split at hs
  ·cases hs
  ·omega
 rw [<-hq] at e1 hr ⊢
 rw [hpl]
 clear hpl hq
 have hW:WdF w (q.getD Wd0) x (ext no wg4 wq) wq:=⟨_,fun y hy=>⟨hy,Nat.le_trans hsz (hy.elim (fun h=>h.elim) fun h=>h.1)⟩,hr⟩
 have hc:=hc.sepKnow (Keep.stab _ _) (RecK.stab _ _ _ _ _) hb hW (WdF.stab _ _ _)
 refine⟨_,e1,?_⟩
 refine hc.n fun g6 wg6 hg6 hc=>?_
 rw [L7] at hc
 refine hc.s 0 rfl fun wS hS hc=>?_
 have hc:=B8 hc (l':=[(g6,35,wdC (q.getD Wd0) x),(g4,35,wdC Wd0 WX0),(gf,85,flC A F.length cap)]) (by kernel_rfl)
 cases hs:q.isSome with
 | false=>
  refine⟨wdC (q.getD Wd0) x,rfl,hc.cells 0 rfl,?_⟩
  refine hc.s 1 rfl fun wS hS hc=>?_
  have hc:=B8 hc (l':=[(g6,35,wdC (q.getD Wd0) x),(g4,35,wdC (q.getD Wd0) x),(gf,85,flC A F.length cap)]) (by kernel_rfl)
  refine⟨wdC (q.getD Wd0) x,rfl,hc.cells 1 rfl,?_⟩
  have:=A9F (q:=q) hc.drop.drop rfl rfl
  rw [hs] at this
  exact this
 | true=>
  obtain⟨hi0,hi1⟩:=hqi hs
  obtain⟨k,hk⟩:∃ k:Nat,i=(k:Int):=⟨i.toNat,by omega⟩
  subst hk
  have hw1:IntKind.i64.wrap ((k:Int)+1)=(k:Int)+1:=IntWalk.i64_in _ ⟨by omega,by omega⟩
  have sK:Stab (fun S w'=>Keep w Sx S w'/\WdF w (q.getD Wd0) x S w'):=(Keep.stab _ _).and (WdF.stab _ _ _)
  refine hc.c 2 rfl rfl ?_
  have ef:(F.map fun s=>[Value.string s]).flatten=F.map Value.string:=A1q F
  have hrow:Row _ _ A F.length cap (F.map fun s=>[Value.string s]).flatten:=ef▸(hc.row.right (RecK.stab _ _ _ _ _)).row
  refine⟨(A4f A F.length cap (F.map fun s=>[Value.string s]) (A2O F) (List.length_map _) hn _ _ hrow).mono fun en wc hq=>?_⟩
  obtain⟨A2,cap2,e2,hb2,ho2⟩:=hq
  have hc:=hc.fresh hb2 ho2
  refine⟨_,e2,?_⟩
  refine⟨(B8P hc (List.length_map _) (A2O F) k (by omega) (IntKind.i64.wrap ((k:Int)+1)) hw1).mono fun en wd hq=>?_⟩
  obtain⟨A3,e3,hc⟩:=hq
  refine⟨_,e3,?_⟩
  refine hc.s 2 rfl fun wS hS hc=>?_
  have hc:=B8 hc (l':=[(g6,35,wdC (q.getD Wd0) x),(g4,35,wdC Wd0 WX0),(gf,85,flC A3 (F.length-1) cap2)]) (by kernel_rfl)
  refine⟨wdC (q.getD Wd0) x,rfl,hc.cells 0 rfl,?_⟩
  refine hc.s 1 rfl fun wS hS hc=>?_
  have hc:=B8 hc (l':=[(g6,35,wdC (q.getD Wd0) x),(g4,35,wdC (q.getD Wd0) x),(gf,85,flC A3 (F.length-1) cap2)]) (by kernel_rfl)
  refine⟨wdC (q.getD Wd0) x,rfl,hc.cells 1 rfl,?_⟩
  have hc:=hc.drop.drop.now (X:=fun S w'=>Keep w Sx S w'/\WdF w (q.getD Wd0) x S w') (fun h=>h.left sK) sK
  obtain⟨S9,hc⟩:=B4z hc
  have ex:(((F.map fun s=>[Value.string s]).take k)++(F.map fun s=>[Value.string s]).drop (k+1)).flatten=(F.take k++F.drop (k+1)).map Value.string:=by
   rw [<-A1q,List.map_append,List.map_take,List.map_drop]
  have:=A9F (q:=q) (F:=F.take k++F.drop (k+1)) hc ex (by rw [List.length_append,List.length_take,List.length_drop];omega)
  rw [hs] at this
  exact this
theorem A0f (n:Int) (w:World):Calls Tryz.prog 40 #[.int .i64 n] w (C7 (.bool (A2f n)) w):=by
 have hm:J9=1099511627776:=rfl
 obtain⟨z,hz⟩:∃ z,z=A2f n:=⟨_,rfl⟩
 rw [<-hz]
 refine vE Tryz.func40 ?_
 unfold A2f at hz
 by_cases h:0<=n
 ·refine dt h ?_
  rw [decide_eq_true h,Bool.true_and] at hz
  exact⟨B7 hz.symm,Below.refl _ _⟩
 ·refine df h ?_
  rw [decide_eq_false h,Bool.false_and] at hz
  exact⟨B7 hz.symm,Below.refl _ _⟩
structure HdW (v:Wd):Prop where
 kind:1<=v.kind/\v.kind<=11
 frm:0<=v.frm/\v.frm<=5
 to:0<=v.to/\v.to<=5
 ne:v.frm≠v.to
 err:0<=v.res.err/\v.res.err<=13
 ep:A2f v.ep=true
 seq:A2f v.seq=true
 req:A2f v.req=true
 til:A2f v.til=true
 ver:A2f v.res.ver=true
theorem A68 {v:Wd}:A99 v=true↔HdW v:=by
 rw [T5]
 constructor
 ·rintro⟨a,b,c,d,e,f,g,h,i,j⟩
  exact⟨a,b,c,d,j,E4.2 e,E4.2 f,E4.2 g,E4.2 h,E4.2 i⟩
 ·rintro⟨a,b,c,d,j,e,f,g,h,i⟩
  exact⟨a,b,c,d,E4.1 e,E4.1 f,E4.1 g,E4.1 h,E4.1 i,j⟩
theorem B6v {v:Wd} (h:¬ HdW v):J5 v=false:=by
 rw [Bool.eq_false_iff]
 exact fun hh=>h (A68.1 (I9.1 hh).1)
theorem A9G {v:Wd} (h:HdW v):J5 v=((eqR v.ros Ros0||A31 v.ros)&&(decide (v.deeds.length<=60)&&(v.deeds.all J4&&Q1 v.st))):=by
 unfold J5
 rw [A68.2 h,Bool.true_and]
theorem K9 (v:Wd) (hv:v.Ok) (x:WX) (S:Nat->Prop) (w:World) (hR:WdR v x S w):Calls Tryz.prog 13 #[.agg (wdC v x).toArray] w (C7 (.bool (J5 v)) w):=by
 have hMd:=C9 hR.1.2
 obtain⟨z,hz⟩:∃ z,z=J5 v:=⟨_,rfl⟩
 rw [<-hz]
 have no1:∀ {w':World},Below w.heap.size w w'->¬ HdW v->C7 (.bool z) w (.returned (.bool false)) w':=fun hb h=>⟨B7 (hz.trans (B6v h)).symm,hb⟩
 refine vE Tryz.func13 ?_
 have hc:=CtxF.start w no (fun _ h=>h.elim) (R:=fun _ _=>True) trivial Stab.true
 refine hc.n fun g1 wg1 hg1 hc=>?_
 refine hc.c 0 rfl rfl ?_
 by_cases k1:v.kind<1
 ·refine dt k1 ?_
  exact no1 hc.below fun h=>by have:=h.kind;omega
 refine df k1 ?_
 refine hc.c 0 rfl rfl ?_
 by_cases k2:11<v.kind
 ·refine dt k2 ?_
  exact no1 hc.below fun h=>by have:=h.kind;omega
 refine df k2 ?_
 refine hc.c 0 rfl rfl ?_
 by_cases f1:v.frm<0
 ·refine dt f1 ?_
  exact no1 hc.below fun h=>by have:=h.frm;omega
 refine df f1 ?_
 refine hc.c 0 rfl rfl ?_
 by_cases f2:5<v.frm
 ·refine dt f2 ?_
  exact no1 hc.below fun h=>by have:=h.frm;omega
 refine df f2 ?_
 refine hc.c 0 rfl rfl ?_
 by_cases t1:v.to<0
 ·refine dt t1 ?_
  exact no1 hc.below fun h=>by have:=h.to;omega
 refine df t1 ?_
 refine hc.c 0 rfl rfl ?_
 by_cases t2:5<v.to
 ·refine dt t2 ?_
  exact no1 hc.below fun h=>by have:=h.to;omega
 refine df t2 ?_
 refine hc.c 0 rfl rfl ?_
 refine hc.c 0 rfl rfl ?_
 by_cases ne:v.frm=v.to
 ·refine B6 (by show (v.frm==v.to)=true;rw [beq_iff_eq];exact ne) ?_
  exact no1 hc.below fun h=>h.ne ne
 refine B4 (by show (v.frm==v.to)=false;rw [beq_eq_false_iff_ne];exact ne) ?_
 refine hc.c 0 rfl rfl ?_
 have hq:=A0f v.ep
 cases bep:A2f v.ep with
 | false=>
  rw [bep] at hq
  refine hc.q (hq _) fun wQ hQ hc=>?_
  exact no1 hc.below fun h=>by have:=h.ep;rw [bep] at this;cases this
 | true=>
 rw [bep] at hq
 refine hc.q (hq _) fun wQ hQ hc=>?_
 clear hq
 refine hc.c 0 rfl rfl ?_
 have hq:=A0f v.seq
 cases bseq:A2f v.seq with
 | false=>
  rw [bseq] at hq
  refine hc.q (hq _) fun wQ hQ hc=>?_
  exact no1 hc.below fun h=>by have:=h.seq;rw [bseq] at this;cases this
 | true=>
 rw [bseq] at hq
 refine hc.q (hq _) fun wQ hQ hc=>?_
 clear hq
 refine hc.c 0 rfl rfl ?_
 have hq:=A0f v.req
 cases breq:A2f v.req with
 | false=>
  rw [breq] at hq
  refine hc.q (hq _) fun wQ hQ hc=>?_
  exact no1 hc.below fun h=>by have:=h.req;rw [breq] at this;cases this
 | true=>
 rw [breq] at hq
 refine hc.q (hq _) fun wQ hQ hc=>?_
 clear hq
 refine hc.c 0 rfl rfl ?_
 have hq:=A0f v.til
 cases btil:A2f v.til with
 | false=>
  rw [btil] at hq
  refine hc.q (hq _) fun wQ hQ hc=>?_
  exact no1 hc.below fun h=>by have:=h.til;rw [btil] at this;cases this
 | true=>
 rw [btil] at hq
 refine hc.q (hq _) fun wQ hQ hc=>?_
 clear hq
 refine hc.c 0 rfl rfl ?_
 by_cases r1:v.res.err<0
 ·refine dt r1 ?_
  exact no1 hc.below fun h=>by have:=h.err;omega
 refine df r1 ?_
 refine hc.c 0 rfl rfl ?_
 by_cases r2:13<v.res.err
 ·refine dt r2 ?_
  exact no1 hc.below fun h=>by have:=h.err;omega
 refine df r2 ?_
 refine hc.c 0 rfl rfl ?_
 have hq:=A0f v.res.ver
 cases bver:A2f v.res.ver with
 | false=>
  rw [bver] at hq
  refine hc.q (hq _) fun wQ hQ hc=>?_
  exact no1 hc.below fun h=>by have:=h.ver;rw [bver] at this;cases this
 | true=>
 rw [bver] at hq
 refine hc.q (hq _) fun wQ hQ hc=>?_
 clear hq
 have hh:HdW v:=⟨⟨by omega,by omega⟩,⟨by omega,by omega⟩,⟨by omega,by omega⟩,ne,⟨by omega,by omega⟩,bep,bseq,breq,btil,bver⟩
 rw [A9G hh] at hz
 clear no1 k1 k2 f1 f2 t1 t2 ne r1 r2 bep bseq breq btil bver hh
 refine hc.c 0 rfl rfl ?_
 by_cases h60:v.deeds.length<=60
 rotate_left
 ·refine dt (by omega) ?_
  rw [decide_eq_false h60,Bool.false_and,Bool.and_false] at hz
  exact⟨B7 hz.symm,hc.below⟩
 refine df (by omega) ?_
 rw [decide_eq_true h60,Bool.true_and] at hz
 refine⟨stX v.st x.y,rfl,hc.cellsAt 0 rfl 13 (stX v.st x.y) rfl,?_⟩
 have hq:=B1d v.st hv.st (stX v.st x.y) S
 cases hs:Q1 v.st with
 | false=>
  rw [hs] at hq
  refine hc.q (hq _ (hR.2.below hc.below)) fun wQ hQ hc=>?_
  rw [hs,Bool.and_false,Bool.and_false] at hz
  exact⟨B7 hz.symm,hc.below⟩
 | true=>
 rw [hs] at hq
 refine hc.q (hq _ (hR.2.below hc.below)) fun wQ hQ hc=>?_
 clear hq
 rw [hs,Bool.and_true] at hz
 refine⟨Nat,fun i=>[(1,.pointer (some ⟨g1,0,none⟩)),(3,.int .i64 i)],fun i w'=>i<=v.deeds.length/\(∀ d∈v.deeds.take i,J4 d=true)/\CtxF no w no w' [(g1,35,wdC v x)] [] (fun _ _=>True),fun i _=>v.deeds.length-i,0,⟨rfl,rfl,trivial⟩,⟨Nat.zero_le _,(fun d h=>by cases h),hc⟩,?_⟩
 clear hc
 rintro i w4 u ⟨hi,hall,hc⟩
 refine hc.c 0 rfl rfl ?_
 by_cases hlt:i<v.deeds.length
 ·refine dt (by omega) ?_
  obtain⟨ad,hA,hcell⟩:=RowD8.elem (hR.1.2.below hc.below) i hlt
  obtain⟨d,hd⟩:∃ d,d=v.deeds[i]:=⟨_,rfl⟩
  have hdo:d.Ok:=by rw [hd];exact hv.deeds _ (List.getElem_mem _)
  have hmem:d∈v.deeds:=by rw [hd];exact List.getElem_mem _
  have htk:v.deeds.take (i+1)=v.deeds.take i++[d]:=by rw [List.take_add_one,List.getElem?_eq_getElem hlt,hd];rfl
  rw [<-hd] at hcell
  refine⟨.slice (some ad) v.deeds.length x.cB,by rw [<-hA];exact hc.cell 0 rfl _ rfl,?_⟩
  refine⟨⟨by omega,by omega⟩,?_⟩
  refine⟨dC d,rfl,by rw [Int.toNat_natCast];exact hcell,?_⟩
  have hq:=B3g d hdo
  cases hb:J4 d with
  | false=>
   rw [hb] at hq
   refine hc.q (hq _) fun wQ hQ hc=>?_
   have hf:v.deeds.all J4=false:=by rw [List.all_eq_false];exact⟨d,hmem,by rw [hb];decide⟩
   rw [hf,Bool.and_false] at hz
   exact⟨B7 hz.symm,hc.below⟩
  | true=>
  rw [hb] at hq
  refine hc.q (hq _) fun wQ hQ hc=>?_
  refine⟨i+1,⟨rfl,congrArg _ (C1 (by omega)),trivial⟩,⟨hlt,fun y hy=>?_,hc⟩,by show v.deeds.length-(i+1)<v.deeds.length-i;omega⟩
  rw [htk,List.mem_append,List.mem_singleton] at hy
  rcases hy with hy | rfl
  ·exact hall y hy
  ·exact hb
 refine df (by omega) ?_
 have hi:i=v.deeds.length:=by omega
 subst hi
 rw [List.take_length] at hall
 rw [List.all_eq_true.2 hall,Bool.and_true] at hz
 refine⟨I0 v.ros x.A x.cA,rfl,hc.cellsAt 0 rfl 9 (I0 v.ros x.A x.cA) rfl,?_⟩
 have hq2:Calls Tryz.prog 43 [Value.agg (I0 v.ros x.A x.cA).toArray,Value.agg #[.int .i64 0,.slice none 0 0,.int .i64 0]].toArray w4 (C7 (.bool (eqR v.ros Ros0)) w4):=A9E (RosR.below hR.1.1 hc.below) (Ros0.rep no w4)
 cases hq:eqR v.ros Ros0 with
 | true=>
  rw [hq] at hq2
  refine hc.q (hq2) fun wQ hQ hc=>?_
  rw [hq,Bool.true_or] at hz
  exact⟨B7 hz.symm,hc.below⟩
 | false=>
 rw [hq] at hq2
 refine hc.q (hq2) fun wQ hQ hc=>?_
 rw [hq,Bool.false_or] at hz
 refine⟨I0 v.ros x.A x.cA,rfl,hc.cellsAt 0 rfl 9 (I0 v.ros x.A x.cA) rfl,?_⟩
 refine hc.q (B0O (RosR.below hR.1.1 hc.below)) fun wQ hQ hc=>?_
 exact⟨B7 hz.symm,hc.below⟩
theorem F9 (a b:Wd) (x y:WX) (S S':Nat->Prop) (w:World) (hA:WdR a x S w) (hB:WdR b y S' w):Calls Tryz.prog 15 #[.agg (wdC a x).toArray,.agg (wdC b y).toArray] w (C7 (.bool (eqW a b)) w):=by
 obtain⟨z,hz⟩:∃ z,z=eqW a b:=⟨_,rfl⟩
 rw [<-hz]
 have no1:∀ {w':World},Below w.heap.size w w'->a≠b->C7 (.bool z) w (.returned (.bool false)) w':=fun hb h=>⟨B7 (hz.trans (by rw [Bool.eq_false_iff];exact fun e=>h (M4.1 e))).symm,hb⟩
 refine vE Tryz.func15 ?_
 have hc:=CtxF.start w no (fun _ h=>h.elim) (R:=fun _ _=>True) trivial Stab.true
 refine hc.n fun g2 wg2 hg2 hc=>?_
 refine hc.n fun g3 wg3 hg3 hc=>?_
 refine hc.c 1 rfl rfl ?_
 refine hc.c 0 rfl rfl ?_
 rcases Bool.eq_false_or_eq_true (a.kind==b.kind) with hkind | hkind
 rotate_left
 ·refine B4 hkind ?_
  exact no1 hc.below fun e=>by rw [e,beq_self_eq_true] at hkind;cases hkind
 refine B6 hkind ?_
 refine hc.c 1 rfl rfl ?_
 refine hc.c 0 rfl rfl ?_
 rcases Bool.eq_false_or_eq_true (a.frm==b.frm) with hfrm | hfrm
 rotate_left
 ·refine B4 hfrm ?_
  exact no1 hc.below fun e=>by rw [e,beq_self_eq_true] at hfrm;cases hfrm
 refine B6 hfrm ?_
 refine hc.c 1 rfl rfl ?_
 refine hc.c 0 rfl rfl ?_
 rcases Bool.eq_false_or_eq_true (a.to==b.to) with hto | hto
 rotate_left
 ·refine B4 hto ?_
  exact no1 hc.below fun e=>by rw [e,beq_self_eq_true] at hto;cases hto
 refine B6 hto ?_
 refine hc.c 1 rfl rfl ?_
 refine hc.c 0 rfl rfl ?_
 rcases Bool.eq_false_or_eq_true (a.ep==b.ep) with hep | hep
 rotate_left
 ·refine B4 hep ?_
  exact no1 hc.below fun e=>by rw [e,beq_self_eq_true] at hep;cases hep
 refine B6 hep ?_
 refine hc.c 1 rfl rfl ?_
 refine hc.c 0 rfl rfl ?_
 rcases Bool.eq_false_or_eq_true (a.seq==b.seq) with hseq | hseq
 rotate_left
 ·refine B4 hseq ?_
  exact no1 hc.below fun e=>by rw [e,beq_self_eq_true] at hseq;cases hseq
 refine B6 hseq ?_
 refine hc.c 1 rfl rfl ?_
 refine hc.c 0 rfl rfl ?_
 rcases Bool.eq_false_or_eq_true (a.req==b.req) with hreq | hreq
 rotate_left
 ·refine B4 hreq ?_
  exact no1 hc.below fun e=>by rw [e,beq_self_eq_true] at hreq;cases hreq
 refine B6 hreq ?_
 refine hc.c 1 rfl rfl ?_
 refine hc.c 0 rfl rfl ?_
 rcases Bool.eq_false_or_eq_true (a.til==b.til) with htil | htil
 rotate_left
 ·refine B4 htil ?_
  exact no1 hc.below fun e=>by rw [e,beq_self_eq_true] at htil;cases htil
 refine B6 htil ?_
 refine⟨[.int .i64 a.res.err,.int .i64 a.res.ver],rfl,hc.cellsAt 1 rfl 7 _ rfl,?_⟩
 refine⟨[.int .i64 b.res.err,.int .i64 b.res.ver],rfl,hc.cellsAt 0 rfl 7 _ rfl,?_⟩
 refine⟨_,fun w=>A3S B1X (A2s 9998 · a.res b.res) _ _ w,?_⟩
 rcases Bool.eq_false_or_eq_true (a.res.err==b.res.err&&a.res.ver==b.res.ver) with hres | hres
 rotate_left
 ·refine B4 hres ?_
  exact no1 hc.below fun e=>by rw [e,beq_self_eq_true,beq_self_eq_true] at hres;cases hres
 refine B6 hres ?_
 refine⟨I0 a.ros x.A x.cA,rfl,hc.cellsAt 1 rfl 9 (I0 a.ros x.A x.cA) rfl,?_⟩
 refine⟨I0 b.ros y.A y.cA,rfl,hc.cellsAt 0 rfl 9 (I0 b.ros y.A y.cA) rfl,?_⟩
 refine hc.q (A9E (RosR.below hA.1.1 hc.below) (RosR.below hB.1.1 hc.below)) fun wQ hQ hc=>?_
 rcases Bool.eq_false_or_eq_true (eqR a.ros b.ros) with hr | hr
 rotate_left
 ·refine B4 hr ?_
  exact no1 hc.below fun e=>by rw [e,A2P.2 rfl] at hr;cases hr
 refine B6 hr ?_
 refine hc.c 1 rfl rfl ?_
 refine hc.c 0 rfl rfl ?_
 refine hc.q (A76 a.deeds b.deeds x.B y.B x.cB y.cB S S' _ (hA.1.2.below hc.below) (hB.1.2.below hc.below)) fun wQ hQ hc=>?_
 rcases Bool.eq_false_or_eq_true (D7 eqD a.deeds b.deeds) with hd | hd
 rotate_left
 ·refine B4 hd ?_
  exact no1 hc.below fun e=>by rw [e,(N5 (fun a b=>A5L)).2 rfl] at hd;cases hd
 refine B6 hd ?_
 refine⟨stX a.st x.y,rfl,hc.cellsAt 1 rfl 13 (stX a.st x.y) rfl,?_⟩
 refine⟨stX b.st y.y,rfl,hc.cellsAt 0 rfl 13 (stX b.st y.y) rfl,?_⟩
 refine hc.q (B31 a.st b.st (stX a.st x.y) (stX b.st y.y) (fun b=>S b\/S' b) _ ((hA.2.below hc.below).map fun h=>h.sub fun _ h=>.inl h) ((hB.2.below hc.below).map fun h=>h.sub fun _ h=>.inr h)) fun wQ hQ hc=>?_
 have e:eqW a b=eqS a.st b.st:=by unfold eqW;rw [hkind,hfrm,hto,hep,hseq,hreq,htil,hres,hr,hd];rfl
 rw [e] at hz
 exact⟨B7 hz.symm,hc.below⟩
theorem B6w {s:List UInt8} (hs:s.length<=1073741824) {u:Wd} (h:A56 s=some u):u.Ok:=by
 have hm:=(A5q h).1
 have hu:u=B0B (M7 (s.drop 8)).1:=by
  unfold A56 at h
  split at h
  ·cases h
  ·split at h
   ·cases h
   ·split at h
    ·cases h
    ·rename_i w e
     split at h
     ·cases h
      exact A3w e
     ·cases h
 have hb:=A4w (s.drop 8) (by rw [List.length_drop];omega)
 rw [<-hu] at hb
 exact Wd.ok_of hm hb.deeds hb.five
theorem A8C (s:ByteArray) (hs:s.size<=1073741824) (w:World) (hw:Env w):Calls Tryz.prog 19 #[.string s] w (C7 (.bool true) w):=by
 have hlen:s.data.toList.length=s.size:=L0 s
 refine vE Tryz.func19 ?_
 have hc:=CtxF.start w no (fun _ h=>h.elim) (R:=fun _ _=>True) trivial Stab.true
 refine⟨(A1w s hs _ (hw.below hc.below)).mono fun en wq hq=>?_⟩
 obtain⟨x,e1,hb,hR⟩:=hq
 have hc:=(hc.call hb).1.know (X:=WdR _ x) (hR.sub fun b h=>h.elim (fun h=>h.elim) .inr) (WdR.stab _ _)
 obtain⟨q,hq⟩:∃ q,q=A56 s.data.toList:=⟨_,rfl⟩
 rw [<-hq] at e1 hc hR
 refine⟨_,e1,?_⟩
 refine hc.n fun g3 wg3 hg3 hc=>?_
 rw [L7] at hc
 refine hc.s 0 rfl fun wS hS hc=>?_
 cases q with
 | none=>
  have hc:=B8 hc (l':=[(g3,35,wdC Wd0 x)]) (by kernel_rfl)
  refine⟨wdC Wd0 x,rfl,hc.cells 0 rfl,?_⟩
  have hq2:=F9 Wd0 Wd0 x WX0 _ no _ hc.row.2 (V2 no _)
  rw [M4.2 rfl] at hq2
  have hq3:Calls Tryz.prog 15 [Value.agg (wdC Wd0 x).toArray,Value.agg (wdC Wd0 WX0).toArray].toArray _ (C7 (.bool true) _):=hq2
  refine hc.q (hq3) fun wQ hQ hc=>?_
  exact⟨rfl,hc.below⟩
 | some u=>
  have hc:=B8 hc (l':=[(g3,35,wdC u x)]) (by kernel_rfl)
  obtain⟨h1,h2⟩:=A5q hq.symm
  have huo:=B6w (by omega) hq.symm
  refine⟨wdC u x,rfl,hc.cells 0 rfl,?_⟩
  have hq2:=K9 u huo x _ _ hc.row.2
  rw [h1] at hq2
  refine hc.q (hq2) fun wQ hQ hc=>?_
  refine⟨wdC u x,rfl,hc.cells 0 rfl,?_⟩
  refine hc.q (K8 u huo.bare x _ _ hc.row.2 (hw.below hc.below)) fun wQ hQ hc=>?_
  refine⟨B7 ?_,hc.below⟩
  rw [h2]
  exact C5.2 rfl
theorem RosR.sub {r:Ros} {A:Option Addr} {cap:Nat} {S S':Nat->Prop} {w:World} (h:RosR r A cap S w) (hs:∀ b,S b->S' b):RosR r A cap S' w:=Row.sub h hs
def A1B (r:Ros):Ros:=⟨r.ep,r.l.take 7,r.new⟩
def B8Q (q:Ros) (w:World) (en:Ending) (w':World):Prop:=∃ A c,en=.returned (.agg (I0 q A c).toArray)/\Below w.heap.size w w'/\w'.ownsRow w.heap.size 3 1 (.slice A q.l.length c) q.l.length (L2 q.l)
theorem B9p (n:Nat):(if (7:Int)<(n:Int) then (7:Int) else (n:Int))=((min n 7:Nat):Int):=by split<;>omega
theorem A5x {r:Ros} {A:Option Addr} {cap:Nat} {S:Nat->Prop} {w:World} (hR:RosR r A cap S w):Calls Tryz.prog 30 #[.agg (I0 r A cap).toArray] w (B8Q (A1B r) w):=by
 have hnc:=hR.1
 have hMx:=C9 hR
 have hm:=B9p r.l.length
 refine vE Tryz.func30 ?_
 have hc:=CtxF.start w no (fun _ h=>h.elim) (R:=fun _ _=>True) trivial Stab.true
 refine hc.n fun g1 wg1 hg1 hc=>?_
 refine hc.n fun g2 wg2 hg2 hc=>?_
 refine hc.c 1 rfl rfl ?_
 refine hc.c 1 rfl rfl ?_
 refine⟨⟨Int.le_refl _,by rw [hm];omega,by rw [hm];omega,Int.le_refl _⟩,?_⟩
 have hc:=hc.nil 3 1
 obtain⟨l,hl⟩:∃ l,l=r.l.take 7:=⟨_,rfl⟩
 have hll:min r.l.length 7=l.length:=by rw [hl,List.length_take];omega
 have hfr:Row S w A l.length cap (L2 l):=by
  have:=Row.front (show Row S w A r.l.length cap (r.l.map iC).flatten from hR) 1 (k:=l.length) (by omega)
  rwa [<-(T6 _).flat_take,<-List.map_take,show r.l.take l.length=l by rw [hl,List.length_take,Nat.min_comm];exact (List.take_eq_take_iff.2 (by omega))] at this
 refine A1I Tryz.underlying25 A4s rfl (by decide) hc (Row.below hfr hc.below) (by rw [B2w,Nat.mul_one]) (T6 l).ones (by omega) (by decide) rfl ?_ ?_
 ·show Value.slice (if (cap:Int)=0 then A else A.map (·.add ((0:Int).toNat*1))) ((if (7:Int)<(r.l.length:Int) then (7:Int) else (r.l.length:Int))-0).toNat ((cap:Int)-0).toNat=_
  rw [N2,hm,hll]
  congr 1<;>omega
 intro A1 cap1 w7 hc
 rw [Nat.zero_add l.length] at hc ⊢
 refine hc.s 1 rfl fun wS hS hc=>?_
 refine hc.a 1 rfl rfl ?_
 refine hc.s 0 rfl fun wS hS hc=>?_
 refine hc.a 0 rfl rfl ?_
 have e:A1B r=⟨r.ep,l,r.new⟩:=by unfold A1B;rw [<-hl]
 rw [e]
 exact⟨A1,cap1,rfl,hc.below,hc.fst.row⟩
def rA:Ros:=⟨1,[2,4],0⟩
def rB:Ros:=⟨2,[2,4,1],1⟩
def rC:Ros:=⟨3,[4,1],1⟩
def rD:Ros:=⟨1,[2,4],4⟩
theorem B0P (w:World):Calls Tryz.prog 57 #[] w (C7 (.bool true) w):=by
 have a1:B8e rA 1=(rB,true):=by kernel_rfl
 have a2:B3B rB 2=(rC,true):=by kernel_rfl
 have a3:B8e rB 5=(Ros0,false):=by kernel_rfl
 have a4:B3B rD 2=(Ros0,false):=by kernel_rfl
 refine vE Tryz.func57 ?_
 have hc:=CtxF.start w no (fun _ h=>h.elim) (R:=fun _ _=>True) trivial Stab.true
 refine hc.n fun g10 wg10 hg10 hc=>?_
 refine hc.n fun g1 wg1 hg1 hc=>?_
 refine hc.s 0 rfl fun wS hS hc=>?_
 have hc:=B8 hc (l':=[(g1,27,I0 rA (some ⟨g10,0,none⟩) 2),(g10,3,[.int .i64 2,.int .i64 4])]) (by kernel_rfl)
 have RA:∀ {w'},Blk w' g10 3 [.int .i64 2,.int .i64 4]->RosR rA (some ⟨g10,0,none⟩) 2 (fun b=>b=g10) w':=fun h=>B7C h 2 (by decide)
 refine⟨I0 rA (some ⟨g10,0,none⟩) 2,rfl,hc.cells 0 rfl,?_⟩
 have h1:=A67 1 (RA (hc.blk 1 rfl))
 rw [a1] at h1
 refine⟨h1.mono fun en wq hq=>?_⟩
 obtain⟨A1,c1,e1,hb,hr⟩:=hq
 have hc:=(hc.call hb).1.know (hr.sub fun b h=>h.elim (fun h=>h.elim) .inr) (RosR.stab _ _ _)
 refine⟨_,e1,?_⟩
 refine hc.n fun g2 wg2 hg2 hc=>?_
 refine hc.s 0 rfl fun wS hS hc=>?_
 have hc:=B8 hc (l':=[(g2,27,I0 rB A1 c1),(g1,27,I0 rA (some ⟨g10,0,none⟩) 2),(g10,3,[.int .i64 2,.int .i64 4])]) (by kernel_rfl)
 refine⟨I0 rB A1 c1,rfl,hc.cells 0 rfl,?_⟩
 have h2:=A4x 2 hc.row.2
 rw [a2] at h2
 refine⟨h2.mono fun en wq hq=>?_⟩
 obtain⟨A2,c2,e1,hb,hr⟩:=hq
 have hc:=(hc.call hb).1.know (hr.sub fun b h=>h.elim (fun h=>h.elim) .inr) (RosR.stab _ _ _)
 refine⟨_,e1,?_⟩
 refine hc.n fun g4 wg4 hg4 hc=>?_
 refine hc.s 0 rfl fun wS hS hc=>?_
 have hc:=B8 hc (l':=[(g4,27,I0 rC A2 c2),(g2,27,I0 rB A1 c1),(g1,27,I0 rA (some ⟨g10,0,none⟩) 2),(g10,3,[.int .i64 2,.int .i64 4])]) (by kernel_rfl)
 refine⟨I0 rB A1 c1,rfl,hc.cells 1 rfl,?_⟩
 have h3:=A67 5 hc.row.1.2
 rw [a3] at h3
 refine⟨h3.mono fun en wq hq=>?_⟩
 obtain⟨A3,c3,e1,hb,hr⟩:=hq
 have hc:=(hc.quiet hb).1
 refine⟨_,e1,?_⟩
 refine hc.n fun g6 wg6 hg6 hc=>?_
 refine hc.s 0 rfl fun wS hS hc=>?_
 refine hc.n fun g28 wg28 hg28 hc=>?_
 have h4:=A4x 2 (r:=rD) (B7C (hc.blk 0 rfl) 2 (by decide):RosR rD (some ⟨g28,0,none⟩) 2 (fun b=>b=g28) _)
 rw [a4] at h4
 refine⟨h4.mono fun en wq hq=>?_⟩
 obtain⟨A4,c4,e1,hb,hr⟩:=hq
 have hc:=(hc.quiet hb).1
 refine⟨_,e1,?_⟩
 refine hc.n fun g8 wg8 hg8 hc=>?_
 refine hc.s 0 rfl fun wS hS hc=>?_
 have hc:=hc.drop.drop.drop
 refine⟨I0 rA (some ⟨g10,0,none⟩) 2,rfl,hc.cells 2 rfl,?_⟩
 have m1:=W9 (RA (hc.blk 3 rfl))
 rw [show A31 rA=true from by decide +kernel] at m1
 refine hc.q (m1) fun wQ hQ hc=>?_
 have m2:=W9 (Ros0.rep no wQ)
 rw [show A31 Ros0=false from by decide +kernel] at m2
 have m3:Calls Tryz.prog 38 [Value.agg #[.int .i64 0,.slice none 0 0,.int .i64 0]].toArray wQ (C7 (.bool false) wQ):=m2
 refine hc.q (m3) fun wQ hQ hc=>?_
 refine⟨I0 rA (some ⟨g10,0,none⟩) 2,rfl,hc.cells 2 rfl,?_⟩
 have m4:=A89 4 (RA (hc.blk 3 rfl))
 rw [show decide ((4:Int)∈rA.l)=true from by decide +kernel] at m4
 refine hc.q (m4) fun wQ hQ hc=>?_
 refine⟨I0 rA (some ⟨g10,0,none⟩) 2,rfl,hc.cells 2 rfl,?_⟩
 have m5:=A89 1 (RA (hc.blk 3 rfl))
 rw [show decide ((1:Int)∈rA.l)=false from by decide +kernel] at m5
 refine hc.q (m5) fun wQ hQ hc=>?_
 refine⟨I0 rA (some ⟨g10,0,none⟩) 2,rfl,hc.cells 2 rfl,?_⟩
 have m6:=B20 (RA (hc.blk 3 rfl))
 rw [show B8H rA.l=2 from by decide +kernel] at m6
 refine hc.q (m6) fun wQ hQ hc=>?_
 refine⟨I0 rA (some ⟨g10,0,none⟩) 2,rfl,hc.cells 2 rfl,?_⟩
 have m7:=A60 (RA (hc.blk 3 rfl))
 rw [show A1v rA.l=4 from by decide +kernel] at m7
 refine hc.q (m7) fun wQ hQ hc=>?_
 refine⟨I0 rA (some ⟨g10,0,none⟩) 2,rfl,hc.cells 2 rfl,?_⟩
 have m8:=B21 2 (RA (hc.blk 3 rfl))
 rw [show B6k rA.l 2=4 from by decide +kernel] at m8
 refine hc.q (m8) fun wQ hQ hc=>?_
 refine⟨I0 rA (some ⟨g10,0,none⟩) 2,rfl,hc.cells 2 rfl,?_⟩
 have m9:=B0G 2 (RA (hc.blk 3 rfl))
 rw [show B2y rA.l 2=0 from by decide +kernel] at m9
 refine hc.q (m9) fun wQ hQ hc=>?_
 refine hc.c 1 rfl rfl ?_
 refine hc.c 1 rfl rfl ?_
 refine hc.c 0 rfl rfl ?_
 refine hc.c 0 rfl rfl ?_
 exact⟨rfl,hc.below⟩
theorem B0Q (w:World) (hw:Env w):Calls Tryz.prog 26 #[] w (C7 (.bool true) w):=by
 refine vE Tryz.func26 ?_
 refine C2 (A97 w hw) ?_
 intro w1 h1
 exact⟨rfl,h1⟩
theorem B0R (w:World):Calls Tryz.prog 27 #[] w (C7 (.bool true) w):=by
 refine vE Tryz.func27 ?_
 refine C2 (B0P w) ?_
 intro w1 h1
 exact⟨rfl,h1⟩
theorem RetPl.thing {q:Option Wd} {Sx:Nat->Prop} {w w':World} {O:Kn} {en:Ending} (h:RetPl q Sx w O en w'):∃ x,RetOb Sx w (.tuple #[.agg (wdC (q.getD Wd0) x).toArray,.bool q.isSome]) (Vc.Sep 0 (WdR (q.getD Wd0) x) O) en w':=by
 obtain⟨x,e,hT,Sn,Sl,h1,h2,h3,h4⟩:=h
 refine⟨x,e,hT,fun y=>Sn y\/Sl y,fun y hy=>?_,Sl,Sn,fun y hy=>⟨.inr hy,(h3 y hy).2.2⟩,fun y hy=>⟨.inl hy,Nat.zero_le _⟩,h4,h2⟩
 rcases hy with hy | hy
 ·exact h1 y hy
 ·exact⟨.inr (h3 y hy).1,(h3 y hy).2.1⟩
def dA:D:=⟨2,⟨#[107]⟩,⟨#[]⟩,0,0,⟨#[]⟩,4294967297,0⟩
def wA:Wd:=⟨4,1,2,3,4,0,0,⟨0,0⟩,Ros0,[dA],Stt0⟩
def wB:Wd:=⟨1,2,0,0,0,0,0,⟨0,0⟩,Ros0,[],Stt0⟩
theorem A69:J5 wA=true:=by kernel_rfl
theorem A9H:J5 wB=true:=by kernel_rfl
theorem B9F:J5 Wd0=false:=by kernel_rfl
theorem okA:wA.Ok:=Wd.ok_of A69 (fun d hd=>by
 rw [List.mem_singleton.1 hd]
 refine⟨?_,?_,?_,?_,?_,?_,?_,?_⟩<;>first | (unfold B9;decide) | (unfold G7;decide)) rfl
theorem okB:wB.Ok:=Wd.ok_of A9H (fun d hd=>by cases hd) rfl
def txW (v:Wd):ByteArray:=⟨(Z6 v).toArray⟩
theorem R0 {v:Wd} (h:v.Ok):(txW v).size<=270017:=by unfold txW;rw [H2];exact B4m h
theorem A5y {v:Wd} (h:v.Ok) (hm:J5 v=true):A56 (txW v).data.toList=some v:=A0q h hm
def xA (g:Nat):WX:=⟨none,0,some ⟨g,0,none⟩,1,SX0⟩
theorem A3y {w:World} {g:Nat} (h:Blk w g 60 (dC dA)):WdR wA (xA g) (fun b=>b=g) w:=⟨⟨Ros0.rep _ _,B7C h 1 (by decide)⟩,A9r _ _⟩
theorem M5 (w:World) (hw:Env w):Calls Tryz.prog 10 #[] w (C7 (.bool true) w):=by
 have zB:wdC wB WX0=[.int .i64 1,.int .i64 2,.int .i64 0,.int .i64 0,.int .i64 0,.int .i64 0,.int .i64 0,.int .i64 0,.int .i64 0,.int .i64 0,.slice none 0 0,.int .i64 0,.slice none 0 0,.int .i64 0,.slice none 0 0,.slice none 0 0,.int .i64 0,.int .i64 0,.int .i64 0,.int .i64 0,.int .i64 0]:=by kernel_rfl
 have z0:wdC Wd0 WX0=[.int .i64 0,.int .i64 0,.int .i64 0,.int .i64 0,.int .i64 0,.int .i64 0,.int .i64 0,.int .i64 0,.int .i64 0,.int .i64 0,.slice none 0 0,.int .i64 0,.slice none 0 0,.int .i64 0,.slice none 0 0,.slice none 0 0,.int .i64 0,.int .i64 0,.int .i64 0,.int .i64 0,.int .i64 0]:=by kernel_rfl
 have sA:=R0 okA
 have sB:=R0 okB
 have y1:A64 [] wA=([txW wA],true):=by unfold A64;rw [A69,if_neg (by simp)];rfl
 have y2:A64 [txW wA] wB=([txW wA,txW wB],true):=by unfold A64;rw [A9H,if_neg (by simp)];rfl
 have y3:A64 [txW wB] Wd0=([txW wB],false):=by unfold A64;rw [B9F,if_pos (.inl rfl)]
 have p1:X0 [txW wA,txW wB] 1=some wB:=A5y okB A9H
 have p0:X0 [txW wA,txW wB] 0=some wA:=A5y okA A69
 have u0:A5w [txW wA,txW wB] 0=[txW wB]:=by unfold A5w;rw [p0];rfl
 have hF2:∀ s∈[txW wA,txW wB],s.size<=1073741824:=fun s hs=>by
  rcases List.mem_cons.1 hs with rfl | hs
  ·omega
  ·rw [List.mem_singleton.1 hs];omega
 refine vE Tryz.func10 ?_
 have hc:=CtxF.start w no (fun _ h=>h.elim) (R:=fun _ _=>True) trivial Stab.true
 refine hc.n fun gD wgD hgD hc=>?_
 refine hc.n fun g1 wg1 hg1 hc=>?_
 rw [L7] at hc
 refine hc.s 0 rfl fun wS hS hc=>?_
 have hc:=B8 hc (l':=[(g1,35,wdC wA (xA gD)),(gD,60,dC dA)]) (by kernel_rfl)
 refine⟨wdC wA (xA gD),rfl,hc.cells 0 rfl,?_⟩
 refine hc.q (K8 wA okA.bare (xA gD) _ _ (A3y (hc.blk 1 rfl)) (hw.below hc.below)) fun wQ hQ hc=>?_
 have g1c:=A1w (txW wA) (by omega) wQ (hw.below hc.below)
 rw [A5y okA A69] at g1c
 refine⟨g1c.mono fun en wq hq=>?_⟩
 clear g1c
 obtain⟨x3,e1,hb,hr⟩:=hq
 have hc:=(hc.call hb).1.know (X:=WdR wA x3) (hr.sub fun b h=>h.elim (fun h=>h.elim) .inr) (WdR.stab _ _)
 refine⟨_,e1,?_⟩
 refine hc.n fun g3 wg3 hg3 hc=>?_
 rw [L7] at hc
 refine hc.s 0 rfl fun wS hS hc=>?_
 have hc:=B8 hc (l':=[(g3,35,wdC wA x3),(g1,35,wdC wA (xA gD)),(gD,60,dC dA)]) (by kernel_rfl)
 have g2c:=fun w hw=>A1w ⟨#[]⟩ (Nat.zero_le _) w hw
 rw [show A56 (⟨#[]⟩:ByteArray).data.toList=none from by kernel_rfl] at g2c
 refine⟨(g2c _ (hw.below hc.below)).mono fun en wq hq=>?_⟩
 clear g2c
 obtain⟨x5,e1,hb,hr⟩:=hq
 have hc:=(hc.quiet hb).1
 refine⟨_,e1,?_⟩
 refine hc.n fun g5 wg5 hg5 hc=>?_
 rw [L7] at hc
 refine hc.s 0 rfl fun wS hS hc=>?_
 have hc:=B8 hc (l':=[(g5,35,wdC Wd0 x5),(g3,35,wdC wA x3),(g1,35,wdC wA (xA gD)),(gD,60,dC dA)]) (by kernel_rfl)
 have hc:=hc.drop
 refine⟨(A23 _).mono fun en wq hq=>?_⟩
 obtain⟨gf,e1,hb,hO⟩:=hq
 have hc:=hc.sepNew hb hO (FlockK.stab _ _)
 refine⟨_,e1,?_⟩
 have sR:Stab (fun S w=>True/\WdR wA x3 S w):=Stab.true.and (WdR.stab _ _)
 refine⟨wdC wA (xA gD),rfl,hc.cells 1 rfl,?_⟩
 have hA:=A3y (hc.blk 2 rfl)
 have say1:=fun Sa hl hE hK=>A0e gf [] wA okA.bare (xA gD) _ Sa _ hA hl hE hK
 rw [y1] at say1
 obtain⟨S1,Sa,h1,h2,h3,hO⟩:=hc.row
 refine⟨(say1 Sa (fun x hx=>hc.ctx.lt x (h2 x hx).1) (hw.free hc.below h2) hO).mono fun en wq hq=>?_⟩
 clear say1 hA
 obtain⟨e1,hT,Sn,hSn,hO⟩:=hq
 have hc:=hc.turnO sR h1 h2 h3 hT hSn hO (FlockK.stab _ _)
 refine⟨_,e1,?_⟩
 have say2:=fun Sa w' hl hE hK=>A0e gf [txW wA] wB okB.bare WX0 no Sa w' ⟨⟨Ros0.rep _ _,B0Z _ _⟩,A9r _ _⟩ hl hE hK
 rw [y2,zB] at say2
 obtain⟨S1,Sa,h1,h2,h3,hO⟩:=hc.row
 refine⟨(say2 Sa _ (fun x hx=>hc.ctx.lt x (h2 x hx).1) (hw.free hc.below h2) hO).mono fun en wq hq=>?_⟩
 clear say2
 obtain⟨e1,hT,Sn,hSn,hO⟩:=hq
 have hc:=hc.turnO sR h1 h2 h3 hT hSn hO (FlockK.stab _ _)
 refine⟨_,e1,?_⟩
 have pk:=fun S w' hl hE hK=>X1 gf [txW wA,txW wB] hF2 1 S w' hl hE hK
 rw [p1] at pk
 refine⟨(pk _ _ hc.ctx.lt (hw.below hc.below) (hc.row.right (FlockK.stab _ _))).mono fun en wq hq=>?_⟩
 clear pk
 obtain⟨x10,e1,hb,hr⟩:=hq
 have hc:=hc.sepKnow sR (FlockK.stab _ _) hb hr (WdR.stab _ _)
 have sR2:=sR.and (WdR.stab wB x10)
 refine⟨_,e1,?_⟩
 refine hc.n fun g10 wg10 hg10 hc=>?_
 rw [L7] at hc
 refine hc.s 0 rfl fun wS hS hc=>?_
 have hc:=B8 hc (l':=[(g10,35,wdC wB x10),(g3,35,wdC wA x3),(g1,35,wdC wA (xA gD)),(gD,60,dC dA)]) (by kernel_rfl)
 have pl:=fun Sa w' hl hE hK=>A1x gf [txW wA,txW wB] hF2 (by decide) 0 Sa w' hl hE hK
 rw [p0,u0] at pl
 obtain⟨S1,Sa,h1,h2,h3,hO⟩:=hc.row
 refine⟨(pl Sa _ (fun x hx=>hc.ctx.lt x (h2 x hx).1) (hw.free hc.below h2) hO).mono fun en wq hq=>?_⟩
 clear pl
 obtain⟨x12,e1,hT,Sn,hSn,hO⟩:=hq.thing
 have hc:=hc.turnO sR2 h1 h2 h3 hT hSn hO (Vc.Sep.stab (WdR.stab _ _) (FlockK.stab _ _))
 have hc:=hc.now (fun h=>Vc.Sep.assoc sR2 (WdR.stab _ _) h) (Vc.Sep.stab (sR2.and (WdR.stab _ _)) (FlockK.stab _ _))
 refine⟨_,e1,?_⟩
 have sR3:=sR2.and (WdR.stab wA x12)
 refine hc.n fun g12 wg12 hg12 hc=>?_
 rw [L7] at hc
 refine hc.s 0 rfl fun wS hS hc=>?_
 have hc:=B8 hc (l':=[(g12,35,wdC wA x12),(g10,35,wdC wB x10),(g3,35,wdC wA x3),(g1,35,wdC wA (xA gD)),(gD,60,dC dA)]) (by kernel_rfl)
 refine hc.q (B0Q _ (hw.below hc.below)) fun wQ hQ hc=>?_
 refine hc.q (B0R _) fun wQ hQ hc=>?_
 refine⟨wdC wA (xA gD),rfl,hc.cells 3 rfl,?_⟩
 have m1:=A0s wA okA.bare.deeds okA.bare.key (xA gD) _ wQ (A3y (hc.blk 4 rfl))
 rw [A69] at m1
 refine hc.q (m1) fun wQ hQ hc=>?_
 have m2:=fun w=>A0s Wd0 (fun d hd=>by cases hd) (fun d hd=>by cases hd) WX0 no w (V2 _ _)
 rw [B9F,z0] at m2
 refine hc.q (m2 _) fun wQ hQ hc=>?_
 refine⟨wdC wA (xA gD),rfl,hc.cells 3 rfl,?_⟩
 refine⟨wdC wA (xA gD),rfl,hc.cells 3 rfl,?_⟩
 have q1:=A5t wA wA (xA gD) (xA gD) _ _ wQ (A3y (hc.blk 4 rfl)) (A3y (hc.blk 4 rfl))
 rw [M4.2 rfl] at q1
 refine hc.q (q1) fun wQ hQ hc=>?_
 refine⟨wdC wA x3,rfl,hc.cells 2 rfl,?_⟩
 refine⟨wdC wA (xA gD),rfl,hc.cells 3 rfl,?_⟩
 have q2:=F9 wA wA x3 (xA gD) _ _ wQ (hc.row.left sR3).1.1.2 (A3y (hc.blk 4 rfl))
 rw [M4.2 rfl] at q2
 refine hc.q (q2) fun wQ hQ hc=>?_
 refine hc.c 1 rfl rfl ?_
 refine⟨wdC wA x12,rfl,hc.cells 0 rfl,?_⟩
 refine⟨wdC wA (xA gD),rfl,hc.cells 3 rfl,?_⟩
 have q3:=F9 wA wA x12 (xA gD) _ _ wQ (hc.row.left sR3).2 (A3y (hc.blk 4 rfl))
 rw [M4.2 rfl] at q3
 refine hc.q (q3) fun wQ hQ hc=>?_
 refine hc.q (J2 gf [txW wB] _ _ (hc.row.right (FlockK.stab _ _))) fun wQ hQ hc=>?_
 have hsz:=K3 gf [txW wB] (fun s hs=>by rw [List.mem_singleton.1 hs];omega) (by decide) _ _ hc.ctx.lt (hc.row.right (FlockK.stab _ _))
 refine hc.q (hsz) fun wQ hQ hc=>?_
 have hpos:0<A0w [txW wB]:=by
  show 0<(txW wB).size+0
  unfold txW
  rw [H2,A0p A9H,List.length_append,D5]
  omega
 refine dt (by omega) ?_
 have say3:=fun Sa w' hl hE hK=>A0e gf [txW wB] Wd0 ⟨fun d hd=>(by cases hd),fun d hd=>(by cases hd),rfl⟩ WX0 no Sa w' (V2 _ _) hl hE hK
 rw [y3,z0] at say3
 obtain⟨S1,Sa,h1,h2,h3,hO⟩:=hc.row
 refine⟨(say3 Sa _ (fun x hx=>hc.ctx.lt x (h2 x hx).1) (hw.free hc.below h2) hO).mono fun en wq hq=>?_⟩
 obtain⟨e1,hT,Sn,hSn,hO⟩:=hq
 have hc:=hc.turnO sR3 h1 h2 h3 hT hSn hO (FlockK.stab _ _)
 refine⟨_,e1,?_⟩
 exact⟨rfl,hc.below⟩
theorem B83 (g m:Nat):((⟨g,0,none⟩:Addr).add ((m:Int).toNat*1))=⟨g,m,none⟩:=by rw [Nat.mul_one,Int.toNat_natCast,Addr.add_lit,Nat.zero_add]
theorem B3D (w:World) (tb:ByteArray) (m:Nat) (hm:m<tb.size) (v:Value) (hv:v.oneCell'=true):G5 (Lib.bytesWorld w 5 tb) ((⟨w.heap.size,0,none⟩:Addr).add ((m:Int).toNat*1)) [v] 0:=by
 have hc:=Lib.bytesWorld_cell w 5 tb m hm
 have hn:=Lib.bytesWorld_at_new w 5 tb
 refine⟨⟨_,by rw [B83,Addr.add_lit,Nat.add_zero];exact hc⟩,?_,hv,trivial⟩
 rw [B83,Addr.add_lit,Nat.add_zero]
 have hsz:m<(Lib.bytesCells w 5 tb).size:=by
  rcases Nat.lt_or_ge m (Lib.bytesCells w 5 tb).size with h | h
  ·exact h
  ·simp [World.cell?,hn,Array.getElem?_eq_none h] at hc
 simp only [World.frozen?,hn,Bool.and_eq_false_iff,decide_eq_false_iff_not]
 left
 omega
theorem B3E (w:World) (tb:ByteArray) (hM:tb.size<=maxLen) (m:Nat) (hm:m<tb.size) (c:UInt8) (wT:World) (hT:E2 (Lib.bytesWorld w 5 tb) ((⟨w.heap.size,0,none⟩:Addr).add ((m:Int).toNat*1)) [.int .u8 (c.toNat:Int)] wT):
  Below w.heap.size w wT/\Row (fun b=>b=w.heap.size) wT (some ⟨w.heap.size,0,none⟩) tb.size (grownCap w tb.size 0 5) (bv (tb.data.toList.set m c)):=by
 have hT:wT=(Lib.bytesWorld w 5 tb).setCell ⟨w.heap.size,m,none⟩ (.int .u8 (c.toNat:Int)):=by
  rw [hT,B83]
  show (Lib.bytesWorld w 5 tb).setCell ((⟨w.heap.size,m,none⟩:Addr).add 0) _=_
  rw [Addr.add_lit,Nat.add_zero]
 subst hT
 refine⟨(Lib.bytesWorld_below w _ tb).setCell (Nat.le_refl _) _,grownCap_ge w tb.size 0 _,grownCap_le_maxLen w tb.size 0 _ hM,fun _=>⟨_,rfl,rfl,fun j u hu=>?_⟩⟩
 have hj:j<(tb.data.toList.set m c).length:=by
  rcases Nat.lt_or_ge j (tb.data.toList.set m c).length with h | h
  ·exact h
  ·rw [List.getElem?_eq_none (by rw [A6B];exact h)] at hu
   cases hu
 rw [A4I _ _ hj] at hu
 cases hu
 have hjl:j<tb.size:=by
  rw [List.length_set] at hj
  exact hj
 have e3:(tb.data.toList.set m c).getD j 0=if m=j then c else tb.data.toList.getD j 0:=by
  have hl:m<tb.data.toList.length:=hm
  rw [List.getD_eq_getElem?_getD,List.getElem?_set,List.getD_eq_getElem?_getD]
  by_cases e:m=j
  ·subst e
   rw [if_pos rfl,if_pos hl,if_pos rfl]
   rfl
  ·rw [if_neg e,if_neg e]
 rw [Addr.add_lit,Nat.zero_add,e3]
 by_cases e:m=j
 ·subst e
  rw [if_pos rfl]
  exact World.cell?_setCell_same _ _ _ (Lib.bytesWorld_cell w _ tb m hm)
 ·rw [if_neg e,World.cell?_setCell_other (h:=fun h=>e (congrArg Addr.off h)),Lib.bytesWorld_cell w _ tb j hjl]
def I1 (v:Wd):Wd:=⟨v.kind,v.frm,v.to,v.ep,v.seq,v.req,v.til,v.res,A1B v.ros,(v.deeds.take 63).map A6l,cutS v.st⟩
def B8R (q:Wd) (w:World) (en:Ending) (w':World):Prop:=∃ x N,en=.returned (.agg (wdC q x).toArray)/\Below w.heap.size w w'/\WdO w.heap.size q x N w'
def B84 (q:Wd) (w:World) (en:Ending) (w':World):Prop:=∃ x,en=.returned (.agg (wdC q x).toArray)/\Below w.heap.size w w'/\WdR q x (ext no w w') w'
theorem A4y (v:Wd) (hv:v.Ok) (x:WX) (S:Nat->Prop) (w:World) (hR:WdR v x S w):Calls Tryz.prog 11 #[.agg (wdC v x).toArray] w (B8R (I1 v) w):=by
 have hMd:=C9 hR.1.2
 refine A0c lay_ok Tryz.func11 rfl (by kernel_rfl) (by kernel_rfl) ?_
 refine SemC.cut lay_ok (fun (y:Nat × Nat × Option Addr × Nat)=>[(1,.pointer (some ⟨y.1,0,none⟩)),(2,.pointer (some ⟨y.2.1,0,none⟩)),(3,.slice y.2.2.1 (I1 v).deeds.length y.2.2.2)]) (fun y w'=>CtxF no w no w' [(y.2.1,35,wdC Wd0 WX0),(y.1,35,wdC v x)] [⟨60,8,y.2.2.1,(I1 v).deeds.length,y.2.2.2,((I1 v).deeds.map dC).flatten⟩] (fun _ _=>True)) 2 (by kernel_rfl) ?_ ?_
 ·have hc:=CtxF.start w no (fun _ h=>h.elim) (R:=fun _ _=>True) trivial Stab.true
  refine hc.n fun g1 wg1 hg1 hc=>?_
  refine hc.n fun g2 wg2 hg2 hc=>?_
  rw [L7] at hc
  have hc:=hc.nil 60 8
  refine⟨Option Addr × Nat × Nat,fun (A',c,i)=>[(1,.pointer (some ⟨g1,0,none⟩)),(2,.pointer (some ⟨g2,0,none⟩)),(3,.slice A' i c),(4,.int .i64 i)],
   fun (A',c,i) w'=>i<=v.deeds.length/\i<=63/\CtxF no w no w' [(g2,35,wdC Wd0 WX0),(g1,35,wdC v x)] [⟨60,8,A',i,c,(((v.deeds.take i).map A6l).map dC).flatten⟩] (fun _ _=>True),
   fun (_,_,i) _=>63-i,(none,0,0),⟨rfl,rfl,rfl,rfl,trivial⟩,⟨Nat.zero_le _,Nat.zero_le _,hc⟩,?_⟩
  clear hc
  rintro⟨A',c,i⟩ w4 u ⟨hi,hi63,hc⟩
  refine hc.c 1 rfl rfl ?_
  have fin:i=min v.deeds.length 63->∀ w5,CtxF no w no w5 [(g2,35,wdC Wd0 WX0),(g1,35,wdC v x)] [⟨60,8,A',i,c,(((v.deeds.take i).map A6l).map dC).flatten⟩] (fun _ _=>True)->CtxF no w no w5 [(g2,35,wdC Wd0 WX0),(g1,35,wdC v x)] [⟨60,8,A',(I1 v).deeds.length,c,((I1 v).deeds.map dC).flatten⟩] (fun _ _=>True):=by
   intro e w5 hc
   have e1:v.deeds.take i=v.deeds.take 63:=by rw [e];exact (List.take_eq_take_iff.2 (by omega))
   have e2:(I1 v).deeds=(v.deeds.take i).map A6l:=by rw [e1];rfl
   rw [e2,List.length_map,List.length_take,Nat.min_eq_left hi]
   exact hc
  by_cases hlt:i<v.deeds.length/\i<63
  ·refine dt (by omega) ?_
   refine dt (by omega) ?_
   obtain⟨ad,hA,hcell⟩:=RowD8.elem (hR.1.2.below hc.below) i hlt.1
   obtain⟨d,hd⟩:∃ d,d=v.deeds[i]:=⟨_,rfl⟩
   have hdo:d.Ok:=by rw [hd];exact hv.deeds _ (List.getElem_mem _)
   have htk:v.deeds.take (i+1)=v.deeds.take i++[d]:=by rw [List.take_add_one,List.getElem?_eq_getElem hlt.1,hd];rfl
   rw [<-hd] at hcell
   refine⟨.slice (some ad) v.deeds.length x.cB,by rw [<-hA];exact hc.cell 1 rfl _ rfl,?_⟩
   refine⟨⟨by omega,by omega⟩,?_⟩
   refine⟨dC d,rfl,by rw [Int.toNat_natCast];exact hcell,?_⟩
   refine hc.q (B16 d hdo _) fun wQ hQ hc=>?_
   refine hc.n fun g23 wg23 hg23 hc=>?_
   refine D1 Tryz.underlying28 A00 rfl (by decide) hc (ys:=dC (A6l d)) (m:=1) rfl (hc.cells 0 rfl) rfl (by omega) (by decide) rfl rfl ?_
   intro A2 c2 w11 hc
   refine⟨(A2,c2,i+1),⟨rfl,rfl,rfl,congrArg _ (C1 (by omega)),trivial⟩,⟨hlt.1,hlt.2,?_⟩,by show 63-(i+1)<63-i;omega⟩
   have e:(((v.deeds.take (i+1)).map A6l).map dC).flatten=(((v.deeds.take i).map A6l).map dC).flatten++dC (A6l d):=by rw [htk,List.map_append,List.map_append,List.flatten_append];simp
   rw [e]
   exact hc.drop
  have hcn:=fin (by omega)
  have go:∀ w5,CtxF no w no w5 [(g2,35,wdC Wd0 WX0),(g1,35,wdC v x)] [⟨60,8,A',i,c,(((v.deeds.take i).map A6l).map dC).flatten⟩] (fun _ _=>True)->i=(I1 v).deeds.length:=by
   intro w5 hc
   show i=((v.deeds.take 63).map A6l).length
   rw [List.length_map,List.length_take]
   omega
  have hil:=go _ hc
  have hc:=hcn _ hc
  clear hcn go fin
  by_cases hl1:i<v.deeds.length
  rotate_left
  ·refine df (by omega) ?_
   exact⟨(g1,g2,A',c),⟨rfl,rfl,congrArg (fun n=>Value.slice A' n c) hil,trivial⟩,hc⟩
  ·refine dt (by omega) ?_
   refine df (by omega) ?_
   exact⟨(g1,g2,A',c),⟨rfl,rfl,congrArg (fun n=>Value.slice A' n c) hil,trivial⟩,hc⟩
 rintro⟨g1,g2,A',c⟩ u w1 hc
 refine SemC.vc lay_ok ?_
 refine vD (.Q [0,1,4] (.n 2 (.n 3 (.n 5 (.q 7 (.n 6 (.n 8 (.q 9 (.n 10 (.q 11 (.z 12)) .stop)) .stop) .stop)) .stop) (.n 5 (.q 7 (.n 3 (.n 6 (.n 8 (.q 9 (.n 10 (.q 11 (.z 12)) .stop)) .stop) .stop) .stop)) .stop)) (.n 5 (.n 2 (.q 7 (.n 3 (.n 6 (.n 8 (.q 9 (.n 10 (.q 11 (.z 12)) .stop)) .stop) .stop) .stop)) .stop) .stop))) (fun _=>True) trivial ?_
 have hc:=hc.drew
 refine⟨?_,?_⟩
 ·skip
  refine⟨stX v.st x.y,rfl,hc.cellsAt 1 rfl 13 (stX v.st x.y) rfl,trivial,?_⟩
  refine⟨?_,?_⟩
  ·skip
   refine⟨(A2E v.st hv.st (stX v.st x.y) S _ (hR.2.below hc.below)).mono fun en wq hq=>?_⟩
   obtain⟨cs,e1,hb,hrep⟩:=hq
   obtain⟨y,rfl⟩:=hrep.stX
   have hc:=(hc.call hb).1.know (X:=fun S w=>RepS S w (cutS v.st) (stX (cutS v.st) y)) (hrep.map fun h=>h.sub fun b h=>h.elim (fun h=>h.elim) .inr) (P8 _ _)
   refine⟨_,e1,trivial,?_⟩
   refine⟨⟨I0 v.ros x.A x.cA,rfl,hc.cellsAt 1 rfl 9 (I0 v.ros x.A x.cA) rfl,trivial,?_⟩,trivial⟩
   refine⟨⟨(A5x (RosR.below hR.1.1 hc.below)).mono fun en wq hq=>?_⟩,trivial⟩
   obtain⟨B',c',e1,hb,ho⟩:=hq
   have hc:=hc.fresh hb ho
   refine⟨_,e1,trivial,?_⟩
   refine⟨hc.s' 1 rfl fun wS hS hc=>?_,trivial⟩
   refine⟨hc.s' 1 rfl fun wS hS hc=>?_,trivial⟩
   refine hc.s 1 rfl fun wS hS hc=>?_
   have hc:=B8 hc (l':=[(g2,35,wdC Wd0 WX0),(g1,35,wdL (I1 v) B' (A1B v.ros).l.length c' A' (I1 v).deeds.length c (stX (cutS v.st) y))]) (by kernel_rfl)
   refine hc.a 1 rfl rfl ?_
   refine hc.s 0 rfl fun wS hS hc=>?_
   have hc:=B8 hc (l':=[(g2,35,wdL (I1 v) B' (A1B v.ros).l.length c' A' (I1 v).deeds.length c (stX (cutS v.st) y)),(g1,35,wdL (I1 v) B' (A1B v.ros).l.length c' A' (I1 v).deeds.length c (stX (cutS v.st) y))]) (by kernel_rfl)
   refine hc.a 0 rfl rfl ?_
   exact⟨⟨B',c',A',c,y⟩,_,rfl,hc.below,CtxF.wdO (v:=I1 v) (x:=⟨B',c',A',c,y⟩) hc fun h=>h.2⟩
  refine⟨⟨I0 v.ros x.A x.cA,rfl,hc.cellsAt 1 rfl 9 (I0 v.ros x.A x.cA) rfl,trivial,?_⟩,trivial⟩
  refine⟨⟨(A2E v.st hv.st (stX v.st x.y) S _ (hR.2.below hc.below)).mono fun en wq hq=>?_⟩,trivial⟩
  obtain⟨cs,e1,hb,hrep⟩:=hq
  obtain⟨y,rfl⟩:=hrep.stX
  have hc:=(hc.call hb).1.know (X:=fun S w=>RepS S w (cutS v.st) (stX (cutS v.st) y)) (hrep.map fun h=>h.sub fun b h=>h.elim (fun h=>h.elim) .inr) (P8 _ _)
  refine⟨_,e1,trivial,?_⟩
  refine⟨⟨(A5x (RosR.below hR.1.1 hc.below)).mono fun en wq hq=>?_⟩,trivial⟩
  obtain⟨B',c',e1,hb,ho⟩:=hq
  have hc:=hc.fresh hb ho
  refine⟨_,e1,trivial,?_⟩
  refine⟨hc.s' 1 rfl fun wS hS hc=>?_,trivial⟩
  refine⟨hc.s' 1 rfl fun wS hS hc=>?_,trivial⟩
  refine hc.s 1 rfl fun wS hS hc=>?_
  have hc:=B8 hc (l':=[(g2,35,wdC Wd0 WX0),(g1,35,wdL (I1 v) B' (A1B v.ros).l.length c' A' (I1 v).deeds.length c (stX (cutS v.st) y))]) (by kernel_rfl)
  refine hc.a 1 rfl rfl ?_
  refine hc.s 0 rfl fun wS hS hc=>?_
  have hc:=B8 hc (l':=[(g2,35,wdL (I1 v) B' (A1B v.ros).l.length c' A' (I1 v).deeds.length c (stX (cutS v.st) y)),(g1,35,wdL (I1 v) B' (A1B v.ros).l.length c' A' (I1 v).deeds.length c (stX (cutS v.st) y))]) (by kernel_rfl)
  refine hc.a 0 rfl rfl ?_
  exact⟨⟨B',c',A',c,y⟩,_,rfl,hc.below,CtxF.wdO (v:=I1 v) (x:=⟨B',c',A',c,y⟩) hc fun h=>h.2⟩
 refine⟨⟨I0 v.ros x.A x.cA,rfl,hc.cellsAt 1 rfl 9 (I0 v.ros x.A x.cA) rfl,trivial,?_⟩,trivial⟩
 refine⟨⟨stX v.st x.y,rfl,hc.cellsAt 1 rfl 13 (stX v.st x.y) rfl,trivial,?_⟩,trivial⟩
 refine⟨⟨(A2E v.st hv.st (stX v.st x.y) S _ (hR.2.below hc.below)).mono fun en wq hq=>?_⟩,trivial⟩
 obtain⟨cs,e1,hb,hrep⟩:=hq
 obtain⟨y,rfl⟩:=hrep.stX
 have hc:=(hc.call hb).1.know (X:=fun S w=>RepS S w (cutS v.st) (stX (cutS v.st) y)) (hrep.map fun h=>h.sub fun b h=>h.elim (fun h=>h.elim) .inr) (P8 _ _)
 refine⟨_,e1,trivial,?_⟩
 refine⟨⟨(A5x (RosR.below hR.1.1 hc.below)).mono fun en wq hq=>?_⟩,trivial⟩
 obtain⟨B',c',e1,hb,ho⟩:=hq
 have hc:=hc.fresh hb ho
 refine⟨_,e1,trivial,?_⟩
 refine⟨hc.s' 1 rfl fun wS hS hc=>?_,trivial⟩
 refine⟨hc.s' 1 rfl fun wS hS hc=>?_,trivial⟩
 refine hc.s 1 rfl fun wS hS hc=>?_
 have hc:=B8 hc (l':=[(g2,35,wdC Wd0 WX0),(g1,35,wdL (I1 v) B' (A1B v.ros).l.length c' A' (I1 v).deeds.length c (stX (cutS v.st) y))]) (by kernel_rfl)
 refine hc.a 1 rfl rfl ?_
 refine hc.s 0 rfl fun wS hS hc=>?_
 have hc:=B8 hc (l':=[(g2,35,wdL (I1 v) B' (A1B v.ros).l.length c' A' (I1 v).deeds.length c (stX (cutS v.st) y)),(g1,35,wdL (I1 v) B' (A1B v.ros).l.length c' A' (I1 v).deeds.length c (stX (cutS v.st) y))]) (by kernel_rfl)
 refine hc.a 0 rfl rfl ?_
 exact⟨⟨B',c',A',c,y⟩,_,rfl,hc.below,CtxF.wdO (v:=I1 v) (x:=⟨B',c',A',c,y⟩) hc fun h=>h.2⟩
theorem O9 (v:Wd) (hv:v.Ok) (x:WX) (S:Nat->Prop) (w:World) (hR:WdR v x S w):Calls Tryz.prog 11 #[.agg (wdC v x).toArray] w (B84 (I1 v) w):=by
 refine (A4y v hv x S w hR).mono fun en w' h=>?_
 obtain⟨x,N,e,hb,hW⟩:=h
 exact⟨x,e,hb,hW.wd fun b h1 h2=>.inr ⟨h1,h2⟩⟩
theorem B40 {r:Ros} (h:r.Ok):(A1B r).Ok:=⟨h.ep,fun n hn=>h.l n (List.mem_of_mem_take hn),h.new⟩
theorem Z3 {v:Wd} (h:v.Ok):(I1 v).Ok:=⟨h.kind,h.frm,h.to,h.ep,h.seq,h.req,h.til,h.err,h.ver,B40 h.ros,fun d hd=>by
 obtain⟨e,he,rfl⟩:=List.mem_map.1 hd
 exact B6F (h.deeds e (List.mem_of_mem_take he)),B6U h.st,h.five⟩
theorem Z4 (v:Wd):(txW v).data.toList=Z6 v:=by unfold txW;rfl
theorem B6x {v:Wd} (h:J5 v=false):txW v=⟨#[]⟩:=by unfold txW;rw [A5p h]
theorem B8S {v:Wd} (h:J5 v=true):txW v≠⟨#[]⟩:=fun e=>A79 h (by rw [<-Z4,e])
theorem B5Z {v:Wd} (h:J5 v=true):C8 (txW v) ⟨#[]⟩=false:=by
 rw [Bool.eq_false_iff]
 exact fun e=>B8S h (C5.1 e)
theorem Q0 (v:Wd):C8 (txW v) ⟨#[]⟩=!J5 v:=by
 cases h:J5 v with
 | true=>rw [B5Z h];rfl
 | false=>rw [B6x h];exact C5.2 rfl
theorem B5a {a b:Wd} (ka:a.Ok) (kb:b.Ok) (ha:J5 a=true) (hb:J5 b=true):C8 (txW a) (txW b)=eqW a b:=by
 rw [Bool.eq_iff_iff,C5,M4]
 constructor
 ·intro e
  exact B4n ka kb ha hb (by rw [<-Z4,e,Z4])
 ·rintro rfl
  rfl
theorem B6y (p:UInt8) (x:Int) (hx:0<=x/\x<=255):∃ c:UInt8,bits .xor .u8 (p.toNat:Int) x=(c.toNat:Int)/\(c=p↔x=0):=by
 have hw:∀ n:Fin 256,IntKind.u8.wrap ((n.val:Nat):Int)=(n.val:Int):=by decide +kernel
 have hp:BitVec.ofInt 8 (p.toNat:Int)=p.toBitVec:=by
  apply BitVec.eq_of_toNat_eq
  rw [BitVec.toNat_ofInt]
  have:=p.toNat_lt
  show _=p.toNat
  omega
 refine⟨⟨BitVec.ofInt 8 (p.toNat:Int) ^^^ BitVec.ofInt 8 x⟩,hw ⟨(BitVec.ofInt 8 (p.toNat:Int) ^^^ BitVec.ofInt 8 x).toNat,BitVec.isLt _⟩,?_⟩
 rw [hp]
 constructor
 ·intro e
  have e1:p.toBitVec ^^^ BitVec.ofInt 8 x=p.toBitVec:=congrArg UInt8.toBitVec e
  have e2:p.toBitVec ^^^ (p.toBitVec ^^^ BitVec.ofInt 8 x)=p.toBitVec ^^^ p.toBitVec:=by rw [e1]
  rw [<-BitVec.xor_assoc,BitVec.xor_self,BitVec.zero_xor] at e2
  have e3:=congrArg BitVec.toNat e2
  rw [BitVec.toNat_ofInt] at e3
  have e4:(x % 256).toNat=0:=e3
  omega
 ·rintro rfl
  have:BitVec.ofInt 8 0=0#8:=rfl
  rw [this,BitVec.xor_zero]
theorem B41 {v:Wd} (kv:v.Ok) (h:J5 v=true) {m:Nat} (hm:m<(Z6 v).length) {c:UInt8} {x:Int} (hc:c=(Z6 v).getD m 0↔x=0):(A56 ((Z6 v).set m c)).isSome=decide (x=0):=by
 have e:(Z6 v).getD m 0=(Z6 v)[m]:=A8A hm
 rw [e] at hc
 by_cases hx:x=0
 ·have hce:=hc.2 hx
  rw [hce,List.set_getElem_self,A0q kv h,decide_eq_true hx]
  rfl
 ·rw [B2v h hm (fun e=>hx (hc.1 e.symm)),decide_eq_false hx]
  rfl
def WsR:List Wd->List (List Value)->(Nat->Prop)->World->Prop
 | [],css,S,w=>css=[]
 | v::r,css,S,w=>∃ x t,css=wdC v x::t/\WdR v x S w/\WsR r t S w
theorem WsR.stab:∀ (l:List Wd) (css:List (List Value)),Stab (WsR l css)
 | [],css=>fun _ _ _ _ h _=>h
 | v::r,css=>fun S w S' w' h f=>by
  obtain⟨x,t,e,h1,h2⟩:=h
  exact⟨x,t,e,WdR.stab v x _ _ _ _ h1 f,WsR.stab r t _ _ _ _ h2 f⟩
theorem WsR.len {S:Nat->Prop} {w:World}:∀ {l:List Wd} {css:List (List Value)},WsR l css S w->css.length=l.length
 | [],css,h=>by rw [show css=[] from h];rfl
 | v::r,css,⟨x,t,e,h1,h2⟩=>by rw [e,List.length_cons,List.length_cons,h2.len]
theorem B42 (v:Wd) (x:WX):(wdC v x).length=21/\G9 (wdC v x)=true:=⟨rfl,rfl⟩
theorem WsR.flat {S:Nat->Prop} {w:World}:∀ {l:List Wd} {css:List (List Value)},WsR l css S w->Flat 21 css
 | [],css,h=>by rw [show css=[] from h];intro c hc;cases hc
 | v::r,css,⟨x,t,e,h1,h2⟩=>by
  rw [e]
  intro c hc
  cases hc with
  | head=>exact B42 _ _
  | tail _ hc=>exact h2.flat c hc
theorem WsR.get {S:Nat->Prop} {w:World}:∀ {l:List Wd} {css:List (List Value)},WsR l css S w->∀ (i:Nat) (hi:i<l.length),∃ x,css[i]?=some (wdC l[i] x)/\WdR l[i] x S w
 | v::r,css,⟨x,t,e,h1,h2⟩,0,hi=>⟨x,by rw [e];rfl,h1⟩
 | v::r,css,⟨x,t,e,h1,h2⟩,i+1,hi=>by
  obtain⟨x',e',h'⟩:=h2.get i (Nat.lt_of_succ_lt_succ hi)
  exact⟨x',by rw [e];exact e',h'⟩
theorem WsR.snoc {S:Nat->Prop} {w:World} {v:Wd} {x:WX}:∀ {l:List Wd} {css:List (List Value)},WsR l css S w->WdR v x S w->WsR (l++[v]) (css++[wdC v x]) S w
 | [],css,h,hk=>by rw [show css=[] from h];exact⟨x,[],rfl,hk,rfl⟩
 | v'::r,css,⟨x',t,e,h1,h2⟩,hk=>by rw [e];exact⟨x',_,rfl,h1,WsR.snoc h2 hk⟩
theorem WsR.take {S:Nat->Prop} {w:World}:∀ {l:List Wd} {css:List (List Value)},WsR l css S w->∀ i,WsR (l.take i) (css.take i) S w
 | [],css,h,i=>by rw [show css=[] from h];simp [WsR]
 | v::r,css,h,0=>rfl
 | v::r,css,⟨x,t,e,h1,h2⟩,i+1=>by rw [e];exact⟨x,_,rfl,h1,h2.take i⟩
theorem WsR.drop {S:Nat->Prop} {w:World}:∀ {l:List Wd} {css:List (List Value)},WsR l css S w->∀ i,WsR (l.drop i) (css.drop i) S w
 | [],css,h,i=>by rw [show css=[] from h];simp [WsR]
 | v::r,css,h,0=>h
 | v::r,css,⟨x,t,e,h1,h2⟩,i+1=>by rw [e];exact h2.drop i
theorem WsR.append {S:Nat->Prop} {w:World}:∀ {l m:List Wd} {a b:List (List Value)},WsR l a S w->WsR m b S w->WsR (l++m) (a++b) S w
 | [],m,a,b,h,k=>by rw [show a=[] from h];exact k
 | v::r,m,a,b,⟨x,t,e,h1,h2⟩,k=>by rw [e];exact⟨x,_,rfl,h1,WsR.append h2 k⟩
theorem Row.rest {S:Nat->Prop} {w:World} {A:Option Addr} {n cap k:Nat} {css:List (List Value)} (hR:Row S w A n cap css.flatten) (hn:css.length=n) (hF:Flat k css) (i:Nat) (hi:i<=n):
  Row S w (if (cap:Int)=(i:Int) then A else A.map (·.add ((i:Int).toNat*k))) (n-i) (cap-i) (css.drop i).flatten:=by
 obtain⟨h1,h2,h3⟩:=hR
 by_cases he:cap=i
 ·have e:css.drop i=[]:=List.drop_of_length_le (by omega)
  rw [e]
  exact⟨by omega,by omega,fun h=>absurd rfl h⟩
 ·rw [if_neg (by omega),Int.toNat_natCast]
  refine⟨by omega,by omega,fun hx=>?_⟩
  have e3:css.flatten=(css.take i).flatten++(css.drop i).flatten:=by rw [<-List.flatten_append,List.take_append_drop]
  have hne:css.flatten≠[]:=fun h=>by
   rw [h] at e3
   exact hx (List.append_eq_nil_iff.1 e3.symm).2
  obtain⟨a,rfl,hs,hc⟩:=h3 hne
  refine⟨a.add (i*k),rfl,by rw [P6];exact hs,fun j u hu=>?_⟩
  have hl:(css.take i).flatten.length=i*k:=by rw [(hF.take i).len,List.length_take,Nat.min_eq_left (by omega)]
  have e4:=hc (i*k+j) u (by
   rw [e3,List.getElem?_append_right (by omega),hl,Nat.add_sub_cancel_left]
   exact hu)
  rw [Go.Vc.add_add]
  exact e4
def GoodL (l:List Wd):Prop:=∀ v∈l,v.Ok/\J5 v=true
theorem GoodL.snoc {l:List Wd} {v:Wd} (h:GoodL l) (k:v.Ok) (m:J5 v=true):GoodL (l++[v]):=fun x hx=>by
 rcases List.mem_append.1 hx with hx | hx
 ·exact h x hx
 ·rw [List.mem_singleton.1 hx];exact⟨k,m⟩
def A8D (l:List Wd) (i:Nat):List Wd:=l.take i++l.drop (i+1)
theorem GoodL.del {l:List Wd} (h:GoodL l) (i:Nat):GoodL (A8D l i):=fun x hx=>by
 rcases List.mem_append.1 hx with hx | hx
 ·exact h x (List.mem_of_mem_take hx)
 ·exact h x (List.mem_of_mem_drop hx)
theorem B43 {l:List Wd} {i:Nat} (h:i<l.length):(A8D l i).length=l.length-1:=by unfold A8D;rw [List.length_append,List.length_take,List.length_drop];omega
theorem A9I {l:List Wd} {v:Wd} (h:l.length<300) (m:J5 v=true):A64 (l.map txW) v=((l++[v]).map txW,true):=by
 unfold A64
 rw [if_neg,List.map_append]
 ·rfl
 ·rw [m,List.length_map]
  rintro (h | h)
  ·cases h
  ·omega
theorem B3F {l:List Wd} {v:Wd} (m:J5 v=false):A64 (l.map txW) v=(l.map txW,false):=by
 unfold A64
 rw [if_pos (.inl m)]
theorem A5z {l:List Wd} (h:GoodL l) {i:Nat} (hi:i<l.length):X0 (l.map txW) (i:Int)=some l[i]:=by
 unfold X0
 rw [if_neg (by rw [List.length_map];omega),Int.toNat_natCast,A8A (by rw [List.length_map];exact hi),List.getElem_map,Z4]
 have:=h l[i] (List.getElem_mem _)
 exact A0q this.1 this.2
theorem A1y {l:List Wd} {i:Int} (hi:i<0\/(l.length:Int)<=i):X0 (l.map txW) i=none:=by
 unfold X0
 rw [if_pos (by rw [List.length_map];exact hi)]
theorem B3G {l:List Wd} (h:GoodL l) {i:Nat} (hi:i<l.length):A5w (l.map txW) (i:Int)=(A8D l i).map txW:=by
 unfold A5w
 rw [A5z h hi]
 show List.take ((i:Int)).toNat (l.map txW)++List.drop ((i:Int).toNat+1) (l.map txW)=_
 rw [Int.toNat_natCast]
 unfold A8D
 rw [List.map_append,List.map_take,List.map_drop]
theorem A9J {l:List Wd} {i:Int} (hi:i<0\/(l.length:Int)<=i):A5w (l.map txW) i=l.map txW:=by
 unfold A5w
 rw [A1y hi]
 rfl
def H4 (l:List Wd):Nat:=A0w (l.map txW)
theorem A1z (a b:List ByteArray):A0w (a++b)=A0w a+A0w b:=by unfold A0w;rw [List.map_append,List.sum_append]
theorem A4z (l:List Wd) (v:Wd):H4 (l++[v])=H4 l+(txW v).size:=by
 unfold H4
 rw [List.map_append,A1z]
 show _+((txW v).size+0)=_
 rw [Nat.add_zero]
theorem B3H {l:List Wd} {i:Nat} (hi:i<l.length):H4 l=H4 (A8D l i)+(txW l[i]).size:=by
 have e:l=l.take i++([l[i]]++l.drop (i+1)):=by rw [List.singleton_append,List.getElem_cons_drop hi,List.take_append_drop]
 have h1:H4 l=H4 (l.take i++([l[i]]++l.drop (i+1))):=congrArg H4 e
 have h2:A0w [txW l[i]]=(txW l[i]).size:=Nat.add_zero _
 rw [h1]
 unfold A8D H4
 rw [List.map_append,List.map_append,List.map_append,A1z,A1z,A1z,List.map_singleton,h2]
 omega
theorem A50 {l:List Wd} (h:GoodL l):H4 l<=1000000*l.length:=by
 have:=A9D (l.map txW) fun s hs=>by
  obtain⟨v,hv,rfl⟩:=List.mem_map.1 hs
  have:=R0 (h v hv).1
  omega
 rwa [List.length_map] at this
theorem I7 {l:List Wd} (h:GoodL l):∀ s∈l.map txW,s.size<=1000000:=fun s hs=>by
 obtain⟨v,hv,rfl⟩:=List.mem_map.1 hs
 have:=R0 (h v hv).1
 omega
def A7A (v:Wd) (x:Int):Nat->Wd
 | 0=>{ v with kind:=x }
 | 1=>{ v with frm:=x }
 | 2=>{ v with to:=x }
 | 3=>{ v with ep:=x }
 | 4=>{ v with seq:=x }
 | 5=>{ v with req:=x }
 | 6=>{ v with til:=x }
 | 7=>{ v with res:=⟨v.res.err,x⟩ }
 | _=>{ v with ros:=⟨v.ros.ep,v.ros.l,x⟩ }
theorem B6z {v:Wd} (h:v.Ok) {x:Int} (hx:B9 x) (k:Nat):(A7A v x k).Ok:=by
 obtain⟨a1,a2,a3,a4,a5,a6,a7,a8,a9,a10,a11,a12,a13⟩:=h
 match k with
 | 0=>exact⟨hx,a2,a3,a4,a5,a6,a7,a8,a9,a10,a11,a12,a13⟩
 | 1=>exact⟨a1,hx,a3,a4,a5,a6,a7,a8,a9,a10,a11,a12,a13⟩
 | 2=>exact⟨a1,a2,hx,a4,a5,a6,a7,a8,a9,a10,a11,a12,a13⟩
 | 3=>exact⟨a1,a2,a3,hx,a5,a6,a7,a8,a9,a10,a11,a12,a13⟩
 | 4=>exact⟨a1,a2,a3,a4,hx,a6,a7,a8,a9,a10,a11,a12,a13⟩
 | 5=>exact⟨a1,a2,a3,a4,a5,hx,a7,a8,a9,a10,a11,a12,a13⟩
 | 6=>exact⟨a1,a2,a3,a4,a5,a6,hx,a8,a9,a10,a11,a12,a13⟩
 | 7=>exact⟨a1,a2,a3,a4,a5,a6,a7,a8,hx,a10,a11,a12,a13⟩
 | n+8=>exact⟨a1,a2,a3,a4,a5,a6,a7,a8,a9,⟨a10.ep,a10.l,hx⟩,a11,a12,a13⟩
theorem B44 {v:Wd} {y:WX} {S:Nat->Prop} {w:World} (h:WdR v y S w) (x:Int) (k:Nat):WdR (A7A v x k) y S w:=by
 match k with
 | 0=>exact h
 | 1=>exact h
 | 2=>exact h
 | 3=>exact h
 | 4=>exact h
 | 5=>exact h
 | 6=>exact h
 | 7=>exact h
 | n+8=>exact h
end Go.Proofs.YtfekddndgakneaaGreatDoor
section
namespace Go.Proofs.YtfekddndgakneaaGreatDoor
open Go.Vc Go.RowKit Go.Fl Go.ChangeShapes Go.WideShapes Go.ChangeAt
theorem B60 {c:List Value} (h:c.length=21):∃ a0 a1 a2 a3 a4 a5 a6 a7 a8 a9 a10 a11 a12 a13 a14 a15 a16 a17 a18 a19 a20,c=[a0,a1,a2,a3,a4,a5,a6,a7,a8,a9,a10,a11,a12,a13,a14,a15,a16,a17,a18,a19,a20]:=by
 match c,h with
 | [a0,a1,a2,a3,a4,a5,a6,a7,a8,a9,a10,a11,a12,a13,a14,a15,a16,a17,a18,a19,a20],_=>exact⟨a0,a1,a2,a3,a4,a5,a6,a7,a8,a9,a10,a11,a12,a13,a14,a15,a16,a17,a18,a19,a20,rfl⟩
theorem B61 {c:List Value} (h:c.length=23):∃ a0 a1 a2 a3 a4 a5 a6 a7 a8 a9 a10 a11 a12 a13 a14 a15 a16 a17 a18 a19 a20 a21 a22,c=[a0,a1,a2,a3,a4,a5,a6,a7,a8,a9,a10,a11,a12,a13,a14,a15,a16,a17,a18,a19,a20,a21,a22]:=by
 match c,h with
 | [a0,a1,a2,a3,a4,a5,a6,a7,a8,a9,a10,a11,a12,a13,a14,a15,a16,a17,a18,a19,a20,a21,a22],_=>exact⟨a0,a1,a2,a3,a4,a5,a6,a7,a8,a9,a10,a11,a12,a13,a14,a15,a16,a17,a18,a19,a20,a21,a22,rfl⟩
theorem B5b:Tryz.prog.cellsOf 35=21:=by kernel_rfl
theorem B8T:Tryz.prog.cellsOf 27=3:=by kernel_rfl
theorem B8U:Tryz.prog.cellsOf 25=1:=by kernel_rfl
theorem B62:Tryz.prog.cellsOf 28=1:=by kernel_rfl
theorem B5c:Tryz.prog.cellsOf 53=23:=by kernel_rfl
structure Op11 where
 kind:Int
 i:Int
 v:Wd
def opW (o:Op11) (x:WX):List Value:=.int .i64 o.kind::.int .i64 o.i::wdC o.v x
structure Op11.Ok (o:Op11):Prop where
 kind:B9 o.kind
 i:B9 o.i
 v:o.v.Ok
section
variable {H:Type} {enc:TypeId × Value->H} {w:World} {base:Nat} {spare:Nat->Bool} {held:Bool} {fuel:Nat} {cs:List Value} {x:DataW H × List MemPlace}
theorem B8V (h:DataW.trod enc Tryz.prog w base spare held fuel 24 cs=some x):∃ r:Res,cs=[.int .i64 r.err,.int .i64 r.ver]/\B9 r.err/\B9 r.ver:=by
 obtain⟨hl,hf⟩:=L5 Tryz.underlying24 h
 rw [B6Q] at hl
 obtain⟨c0,c1,rfl⟩:=A8a hl
 obtain⟨_,_,h0⟩:=fld hf 0 _ rfl 22 rfl 1 B7y 0 rfl
 obtain⟨_,_,h1⟩:=fld hf 1 _ rfl 2 rfl 1 A1g 1 rfl
 obtain⟨n0,e0,k0⟩:=H1 Tryz.underlying22 h0
 obtain⟨n1,e1,k1⟩:=H1 Tryz.underlying2 h1
 cases e0;cases e1
 exact⟨⟨n0,n1⟩,rfl,k0,k1⟩
theorem B8W (h:DataW.trod enc Tryz.prog w base spare held fuel 27 cs=some x):∃ (r:Ros) (A:Option Addr) (cap:Nat),cs=I0 r A cap/\RosR r A cap (inW w) w/\r.Ok:=by
 obtain⟨hl,hf⟩:=L5 Tryz.underlying27 h
 rw [B8T] at hl
 obtain⟨c0,c1,c2,rfl⟩:=B1I hl
 obtain⟨_,_,h0⟩:=fld hf 0 _ rfl 2 rfl 1 A1g 0 rfl
 obtain⟨_,_,h1⟩:=fld hf 1 _ rfl 25 rfl 1 B8U 1 rfl
 obtain⟨_,_,h2⟩:=fld hf 2 _ rfl 3 rfl 1 A5W 2 rfl
 obtain⟨n0,e0,k0⟩:=H1 Tryz.underlying2 h0
 obtain⟨A,cap,l,e1,hr,hk⟩:=A5X iC B9 (by rw [A5W];decide) (fun _ _ _ h=>H1 Tryz.underlying3 h) Tryz.underlying25 h1
 obtain⟨n2,e2,k2⟩:=H1 Tryz.underlying3 h2
 cases e0;cases e1;cases e2
 exact⟨⟨n0,l,n2⟩,A,cap,rfl,hr,⟨k0,hk,k2⟩⟩
theorem B3I (h:DataW.trod enc Tryz.prog w base spare held fuel 35 cs=some x):∃ (v:Wd) (y:WX),cs=wdC v y/\WdR v y (inW w) w/\v.Ok:=by
 obtain⟨hl,hf⟩:=L5 Tryz.underlying35 h
 rw [B5b] at hl
 obtain⟨c0,c1,c2,c3,c4,c5,c6,c7,c8,c9,c10,c11,c12,c13,c14,c15,c16,c17,c18,c19,c20,rfl⟩:=B60 hl
 obtain⟨_,_,h0⟩:=fld hf 0 _ rfl 3 rfl 1 A5W 0 rfl
 obtain⟨_,_,h1⟩:=fld hf 1 _ rfl 3 rfl 1 A5W 1 rfl
 obtain⟨_,_,h2⟩:=fld hf 2 _ rfl 3 rfl 1 A5W 2 rfl
 obtain⟨_,_,h3⟩:=fld hf 3 _ rfl 2 rfl 1 A1g 3 rfl
 obtain⟨_,_,h4⟩:=fld hf 4 _ rfl 2 rfl 1 A1g 4 rfl
 obtain⟨_,_,h5⟩:=fld hf 5 _ rfl 2 rfl 1 A1g 5 rfl
 obtain⟨_,_,h6⟩:=fld hf 6 _ rfl 2 rfl 1 A1g 6 rfl
 obtain⟨_,_,h7⟩:=fld hf 7 _ rfl 24 rfl 2 B6Q 7 rfl
 obtain⟨_,_,h8⟩:=fld hf 8 _ rfl 27 rfl 3 B8T 9 rfl
 obtain⟨_,_,h9⟩:=fld hf 9 _ rfl 28 rfl 1 B62 12 rfl
 obtain⟨_,_,h10⟩:=fld hf 10 _ rfl 33 rfl 8 B70 13 rfl
 obtain⟨n0,e0,k0⟩:=H1 Tryz.underlying3 h0
 obtain⟨n1,e1,k1⟩:=H1 Tryz.underlying3 h1
 obtain⟨n2,e2,k2⟩:=H1 Tryz.underlying3 h2
 obtain⟨n3,e3,k3⟩:=H1 Tryz.underlying2 h3
 obtain⟨n4,e4,k4⟩:=H1 Tryz.underlying2 h4
 obtain⟨n5,e5,k5'⟩:=H1 Tryz.underlying2 h5
 obtain⟨n6,e6,k6⟩:=H1 Tryz.underlying2 h6
 obtain⟨r,e7,k7,k7'⟩:=B8V h7
 obtain⟨ro,A,cA,e8,k8,k8'⟩:=B8W h8
 obtain⟨B,cB,l,e9,k9,k9'⟩:=A5X dC D.Ok (by rw [B5M];decide) (fun _ _ _ h=>B6P h) Tryz.underlying28 h9
 obtain⟨st,k10,k10'⟩:=B4P h10
 have k5:=k10
 obtain⟨y,e10⟩:=k10.stX
 have k10:RepS (inW w) w st (stX st y):=e10▸k10
 have hfive:st.lows.length=5:=by
  obtain⟨_,_,_,_,_,_,_,_,_,_,_,el,_⟩:=k5.shape
  rw [el]
  rfl
 cases e0;cases e1;cases e2;cases e3;cases e4;cases e5;cases e6;cases e7;cases e8;cases e9;cases e10
 exact⟨⟨n0,n1,n2,n3,n4,n5,n6,r,ro,l,st⟩,⟨A,cA,B,cB,y⟩,rfl,⟨⟨k8,k9⟩,k10⟩,⟨k0,k1,k2,k3,k4,k5',k6,k7,k7',k8',k9',k10',hfive⟩⟩
theorem B63 (h:DataW.trod enc Tryz.prog w base spare held fuel 53 cs=some x):∃ o:Op11,∃ y:WX,cs=opW o y/\WdR o.v y (inW w) w/\o.Ok:=by
 obtain⟨hl,hf⟩:=L5 Tryz.underlying53 h
 rw [B5c] at hl
 obtain⟨c0,c1,c2,c3,c4,c5,c6,c7,c8,c9,c10,c11,c12,c13,c14,c15,c16,c17,c18,c19,c20,c21,c22,rfl⟩:=B61 hl
 obtain⟨_,_,h0⟩:=fld hf 0 _ rfl 3 rfl 1 A5W 0 rfl
 obtain⟨_,_,h1⟩:=fld hf 1 _ rfl 3 rfl 1 A5W 1 rfl
 obtain⟨_,_,h2⟩:=fld hf 2 _ rfl 35 rfl 21 B5b 2 rfl
 obtain⟨n0,e0,k0⟩:=H1 Tryz.underlying3 h0
 obtain⟨n1,e1,k1⟩:=H1 Tryz.underlying3 h1
 obtain⟨v,y,e2,k2,k3⟩:=B3I h2
 cases e0;cases e1
 exact⟨⟨n0,n1,v⟩,y,congrArg (fun l=>Value.int .i64 n0::Value.int .i64 n1::l) e2,k2,⟨k0,k1,k3⟩⟩
end
section
variable {H:Type} {enc:TypeId × Value->H} {W:World} {sp:Nat->Bool} {hd:Bool} {v:Value} {d:DataW H} {p:List MemPlace} {base:Nat}
theorem A0g (h:DataW.Trod enc Tryz.prog W 0 sp hd 35 v d p) (k:Value.okWide Tryz.prog W .any base 35 v):∃ (a:Wd) (y:WX),v=.agg (wdC a y).toArray/\WdR a y (inW W) W/\a.Ok:=by
 obtain⟨cs,rfl,_⟩:=okWide_struct Tryz.underlying35 k
 obtain⟨fuel,hf⟩:=h
 obtain⟨a,y,e,hr,ha⟩:=B3I hf
 refine⟨a,y,?_,hr,ha⟩
 rw [<-show (Value.agg cs).cells.toList=wdC a y from e]
 rfl
def B9G (l:List Op11) (css:List (List Value)) (w:World):Prop:=css.length=l.length/\∀ (i:Nat) (hi:i<l.length),∃ y,css[i]?=some (opW l[i] y)/\WdR l[i].v y (inW w) w
theorem B0S (h:DataW.Trod enc Tryz.prog W 0 sp hd 48 v d p) (k:Value.okWide Tryz.prog W .any base 48 v):∃ A cap,∃ l:List Op11,v=.slice A l.length cap/\(∃ css,B9G l css W/\Row (inW W) W A l.length cap css.flatten/\Flat 23 css)/\∀ a∈l,a.Ok:=by
 obtain⟨a0,len,cap0,rfl⟩:=okWide_slice Tryz.underlying48 k
 obtain⟨fuel,hf⟩:=h
 obtain⟨A,cap,l,css,e1,hl,hR,_,hrow⟩:=A7t (fun (o:Op11) c=>(∃ y,c=opW o y/\WdR o.v y (inW W) W)/\o.Ok) (by rw [B5c];decide) (fun _ _ _ h=>let ⟨o,y,h1,h2,h3⟩:=B63 h;⟨o,⟨y,h1,h2⟩,h3⟩) Tryz.underlying48 hf
 have e2:(Value.slice a0 len cap0).cells.toList=[.slice a0 len cap0]:=rfl
 rw [e2] at e1
 cases e1
 have hat:∀ (i:Nat) (hi:i<l.length),(∃ y,css[i]'(by omega)=opW l[i] y/\WdR l[i].v y (inW W) W)/\l[i].Ok:=fun i hi=>hR i _ _ (List.getElem?_eq_getElem hi) (List.getElem?_eq_getElem (by omega))
 refine⟨a0,cap0,l,rfl,⟨css,⟨hl,fun i hi=>?_⟩,hrow,fun c hc=>?_⟩,fun a ha=>?_⟩
 ·obtain⟨⟨y,e,h⟩,_⟩:=hat i hi
  exact⟨y,by rw [List.getElem?_eq_getElem (by omega),e],h⟩
 ·obtain⟨i,hi,rfl⟩:=List.getElem_of_mem hc
  obtain⟨⟨y,e,h⟩,_⟩:=hat i (by omega)
  rw [e]
  exact⟨rfl,rfl⟩
 ·obtain⟨i,hi,rfl⟩:=List.getElem_of_mem ha
  exact (hat i hi).2
end
end Go.Proofs.YtfekddndgakneaaGreatDoor
end
