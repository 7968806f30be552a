import Derived.Test.YtfekddndgakneaaGreatDoorM14
set_option maxRecDepth 100000
set_option maxHeartbeats 40000000
set_option linter.unusedVariables false
set_option linter.unusedSimpArgs false
/- Walk: FlockFull. -/
namespace Go.Proofs.YtfekddndgakneaaGreatDoor
open Go.Vc Go.RowKit Go.Fl Go.ChangeShapes Go.WideShapes Go.ChangeAt
def wdS (i:Int):Wd:=⟨1,1,0,0,i,0,0,⟨0,0⟩,Ros0,[],Stt0⟩
theorem B86:Q1 Stt0=true:=by kernel_rfl
theorem B64 {i:Int} (h0:0<=i) (h1:i<=310):J5 (wdS i)=true:=by
 have hm:J9=1099511627776:=rfl
 rw [A9G (v:=wdS i) ⟨⟨by show (1:Int)<=1;decide,by show (1:Int)<=11;decide⟩,⟨by show (0:Int)<=1;decide,by show (1:Int)<=5;decide⟩,⟨by show (0:Int)<=0;decide,by show (0:Int)<=5;decide⟩,by show (1:Int)≠0;decide,⟨by show (0:Int)<=0;decide,by show (0:Int)<=13;decide⟩,by show A2f 0=true;decide,E4.2 ⟨h0,by show i<=J9;omega⟩,by show A2f 0=true;decide,by show A2f 0=true;decide,by show A2f 0=true;decide⟩]
 show ((eqR Ros0 Ros0||A31 Ros0)&&(decide (([]:List D).length<=60)&&(([]:List D).all J4&&Q1 Stt0)))=true
 rw [A2P.2 rfl,B86]
 rfl
theorem okS {i:Int} (h0:0<=i) (h1:i<=310):(wdS i).Ok:=Wd.ok_of (B64 h0 h1) (fun d hd=>by cases hd) rfl
def A0h (k:Nat):List ByteArray:=(List.range (min k 300)).map fun (j:Nat)=>txW (wdS j)
theorem A10 (k:Nat):(A0h k).length=min k 300:=by unfold A0h;rw [List.length_map,List.length_range]
theorem B3J {k:Nat} (h:k<=310):A64 (A0h k) (wdS k)=(A0h (k+1),decide (k<300)):=by
 unfold A64
 rw [B64 (Int.natCast_nonneg k) (by omega),A10]
 by_cases h3:k<300
 ·rw [if_neg (fun h=>h.elim (fun h=>by cases h) (by omega)),decide_eq_true h3]
  unfold A0h
  rw [Nat.min_eq_left (by omega),Nat.min_eq_left (by omega),List.range_succ,List.map_append]
  rfl
 ·rw [if_pos (.inr (by omega)),decide_eq_false h3]
  unfold A0h
  rw [Nat.min_eq_right (by omega),Nat.min_eq_right (by omega)]
theorem B3K {k:Nat} (h:1<=k) (h3:k<=300):X0 (A0h k) ((k:Int)-1)=some (wdS ((k:Int)-1)):=by
 unfold X0
 rw [A10,if_neg (by omega)]
 have e:((k:Int)-1).toNat=k-1:=by omega
 have hl:k-1<(A0h k).length:=by rw [A10];omega
 rw [e,A8A hl]
 have e2:(A0h k)[k-1]=txW (wdS ((k-1:Nat):Int)):=by simp [A0h]
 rw [e2,show ((k-1:Nat):Int)=(k:Int)-1 by omega]
 exact A5y (okS (by omega) (by omega)) (B64 (by omega) (by omega))
theorem B0T (k:Nat):∀ s∈A0h k,s.size<=1073741824:=fun s hs=>by
 obtain⟨j,hj,rfl⟩:=List.mem_map.1 hs
 have:=List.mem_range.1 hj
 have:=R0 (okS (i:=(j:Int)) (by omega) (by omega))
 omega
theorem B3L (n:Int) (w:World) (hw:Env w):Calls Tryz.prog 7 #[.int .i64 n] w (C7 (.bool true) w):=by
 refine vE Tryz.func7 ?_
 have hc:=CtxF.start w no (fun _ h=>h.elim) (R:=fun _ _=>True) trivial Stab.true
 refine hc.q (M5 _ (hw.below hc.below)) fun wQ hQ hc=>?_
 by_cases n0:n<0
 ·refine dt n0 ?_
  exact⟨rfl,hc.below⟩
 refine df n0 ?_
 by_cases n1:310<n
 ·refine dt n1 ?_
  exact⟨rfl,hc.below⟩
 refine df n1 ?_
 obtain⟨m,rfl⟩:∃ m:Nat,n=(m:Int):=⟨n.toNat,by omega⟩
 refine⟨(A23 _).mono fun en wq hq=>?_⟩
 obtain⟨gf,e1,hb,hO⟩:=hq
 have hc:=hc.sepNew hb hO (FlockK.stab _ _)
 refine⟨_,e1,?_⟩
 refine⟨Nat,fun i=>[(0,.int .i64 m),(4,.pointer (some ⟨gf,0,none⟩)),(5,.int .i64 i)],fun i w'=>i<=m/\∃ S,CtxF no w S w' [] [] (Vc.Sep w.heap.size (fun _ _=>True) (FlockK gf (A0h i))),fun i _=>m-i,0,⟨rfl,rfl,rfl,trivial⟩,⟨Nat.zero_le _,_,hc⟩,?_⟩
 clear hc
 rintro i w4 u ⟨hi,S,hc⟩
 by_cases hlt:i<m
 ·refine dt (by omega) ?_
  have sy:=fun Sa w' hl hE hK=>A0e gf (A0h i) (wdS i) (okS (i:=(i:Int)) (by omega) (by omega)).bare WX0 no Sa w' ⟨⟨Ros0.rep _ _,B0Z _ _⟩,A9r _ _⟩ hl hE hK
  rw [B3J (by omega)] at sy
  obtain⟨S1,Sa,h1,h2,h3,hO⟩:=hc.row
  refine⟨(sy Sa _ (fun x hx=>hc.ctx.lt x (h2 x hx).1) (hw.free hc.below h2) hO).mono fun en wq hq=>?_⟩
  clear sy
  obtain⟨e1,hT,Sn,hSn,hO⟩:=hq
  have hc:=hc.turnO Stab.true h1 h2 h3 hT hSn hO (FlockK.stab _ _)
  refine⟨_,e1,?_⟩
  refine B4 (by
   show (decide (i<300) != decide ((i:Int)<300))=false
   by_cases h:i<300
   ·rw [decide_eq_true h,decide_eq_true (by omega)];rfl
   ·rw [decide_eq_false h,decide_eq_false (by omega)];rfl) ?_
  exact⟨i+1,⟨rfl,rfl,congrArg _ (C1 (by omega)),trivial⟩,⟨hlt,_,hc⟩,by show m-(i+1)<m-i;omega⟩
 refine df (by omega) ?_
 have hi:i=m:=by omega
 subst hi
 have hw1:IntKind.i64.wrap ((i:Int)-1)=(i:Int)-1:=IntWalk.i64_in _ ⟨by omega,by omega⟩
 have pk:=fun S w' hl hE hK=>X1 gf (A0h i) (B0T i) (IntKind.i64.wrap ((i:Int)-1)) S w' hl hE hK
 refine⟨(pk _ _ hc.ctx.lt (hw.below hc.below) (hc.row.right (FlockK.stab _ _))).mono fun en wq hq=>?_⟩
 clear pk
 rw [hw1] at hq
 obtain⟨x,e1,hb,hr⟩:=hq
 have hc:=hc.sepKnow Stab.true (FlockK.stab _ _) hb hr (WdR.stab _ _)
 refine⟨_,e1,?_⟩
 refine hc.n fun g6 wg6 hg6 hc=>?_
 rw [L7] at hc
 refine hc.s 0 rfl fun wS hS hc=>?_
 obtain⟨q,hq⟩:∃ q,q=X0 (A0h i) ((i:Int)-1):=⟨_,rfl⟩
 rw [<-hq] at hc ⊢
 have hc:=B8 hc (l':=[(g6,35,wdC (q.getD Wd0) x)]) (by kernel_rfl)
 refine hc.q (J2 gf (A0h i) _ _ (hc.row.right (FlockK.stab _ _))) fun wQ hQ hc=>?_
 have hl:=A10 i
 refine B6 (by
  show (((A0h i).length:Int)==(if (300:Int)<(i:Int) then (300:Int) else (i:Int)))=true
  rw [beq_iff_eq,hl]
  split<;>omega) ?_
 by_cases hi1:1<=i
 rotate_left
 ·have e:q=none:=by rw [hq];unfold X0;rw [if_pos (by omega)]
  subst e
  refine df (by omega) ?_
  exact⟨rfl,hc.below⟩
 refine dt (by omega) ?_
 by_cases hi3:i<=300
 ·have e:q=some (wdS ((i:Int)-1)):=by rw [hq];exact B3K hi1 hi3
  subst e
  refine B6 (by show (true==decide ((i:Int)<=300))=true;rw [decide_eq_true (by omega)];rfl) ?_
  refine hc.c 0 rfl rfl ?_
  refine⟨B7 ?_,hc.below⟩
  rw [hw1]
  exact beq_self_eq_true _
 ·have e:q=none:=by rw [hq];unfold X0;rw [if_pos (by rw [hl];omega)]
  subst e
  refine B6 (by show (false==decide ((i:Int)<=300))=true;rw [decide_eq_false (by omega)];rfl) ?_
  exact⟨rfl,hc.below⟩
theorem A7B {H:Type} (enc:TypeId × Value->H) (W:World) (hw:Env W) {base:Nat}
  (v0:Value) (d0:DataW H) (p0:List MemPlace) (h0:DataW.Trod enc Tryz.prog W 0 (fun _=>true) true 3 v0 d0 p0) (k0:Value.okWide Tryz.prog W .any base 3 v0):
  Calls Tryz.prog 7 #[v0] W (C7 (.bool true) W):=by
 obtain⟨a0,rfl,o0⟩:=A2w Tryz.underlying3 h0 k0
 exact B3L a0 W hw
end Go.Proofs.YtfekddndgakneaaGreatDoor
