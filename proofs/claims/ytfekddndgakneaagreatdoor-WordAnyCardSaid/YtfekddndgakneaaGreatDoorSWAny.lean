import Derived.Test.YtfekddndgakneaaGreatDoorM14
set_option maxRecDepth 100000
set_option maxHeartbeats 40000000
set_option linter.unusedVariables false
set_option linter.unusedSimpArgs false
/- Walk: armariumlaw11.WordAny. -/
namespace Go.Proofs.YtfekddndgakneaaGreatDoor
open Go.Vc Go.RowKit Go.Fl Go.ChangeShapes Go.WideShapes Go.ChangeAt
theorem B47 (s:ByteArray) (hs:s.size<=9223372036854775807) (v1:Wd) (k1:v1.Ok) (x1:WX) (ix x:Int) (hx:0<=x/\x<=255) (w:World) (hw:Env w) (hR1:WdR v1 x1 (inW w) w):Calls Tryz.prog 4 #[.string s,.agg (wdC v1 x1).toArray,.int .i64 ix,.int .u8 x] w (C7 (.bool true) w):=by
 obtain⟨a,ha⟩:∃ a,a=I1 v1:=⟨_,rfl⟩
 have hwa:=O9 v1 k1 x1
 have ka:=Z3 k1
 rw [<-ha] at hwa ka
 clear ha
 obtain⟨s',hs'⟩:∃ s',s'=cut s 60:=⟨_,rfl⟩
 have hcs:=fun w=>C4 s 60 w hs
 have hsz:s'.size<=60:=by
  rw [hs']
  exact A0k _ _
 rw [<-hs'] at hcs
 clear hs'
 have pa:∀ x S w,WdR a x S w->Env w->Calls Tryz.prog 16 #[.agg (wdC a x).toArray] w (C7 (.string (txW a)) w):=fun x S w=>K8 a ka.bare x S w
 have sa:=R0 ka
 have hgx:=fun {m:Nat} {c:UInt8} {x:Int} (hm:J5 a=true) (h:m<(Z6 a).length) (hc:c=(Z6 a).getD m 0↔x=0)=>B41 ka hm h hc
 have he:=Q0 a
 have htd:=Z4 a
 obtain⟨tb,htb⟩:∃ tb,tb=txW a:=⟨_,rfl⟩
 rw [<-htb] at pa sa he htd
 rw [<-htd] at hgx
 refine vE Tryz.func4 ?_
 have hc:=CtxF.start w no (fun _ h=>h.elim) (R:=fun _ _=>True) trivial Stab.true
 refine hc.n fun g5 wg5 hg5 hc=>?_
 refine hc.q (M5 _ (hw.below hc.below)) fun wQ hQ hc=>?_
 refine hc.q (hcs _) fun wQ hQ hc=>?_
 refine⟨wdC v1 x1,rfl,hc.cells 0 rfl,?_⟩
 refine⟨(hwa (inW w) _ (hR1.below hc.below)).mono fun en wq hq=>?_⟩
 obtain⟨y1,e1,hq,hrep⟩:=hq
 have hc:=(hc.call hq).1.know (X:=WdR a y1) (hrep.sub fun b h=>h.elim (fun h=>h.elim) .inr) (WdR.stab _ _)
 refine⟨_,e1,?_⟩
 refine hc.q (pa y1 _ _ hc.row.2 (hw.below hc.below)) fun wQ hQ hc=>?_
 have tl:=fun (s:ByteArray) (h:s.size<=1073741824) (w:World) (hw:Env w)=>A8C s h w hw
 refine hc.q (tl s' (by omega) _ (hw.below hc.below)) fun wQ hQ hc=>?_
 cases hm:J5 a with
 | false=>
  refine B6 (by rw [he,hm];rfl) ?_
  refine hc.q (tl s' (by omega) _ (hw.below hc.below)) fun wQ hQ hc=>?_
  exact⟨rfl,hc.below⟩
 | true=>
 refine B4 (by rw [he,hm];rfl) ?_
 refine R4 (fun hi=>?_) (fun hi=>?_)
 ·refine hc.q (tl s' (by omega) _ (hw.below hc.below)) fun wQ hQ hc=>?_
  exact⟨rfl,hc.below⟩
 have hi:0<=ix:=by simpa using hi
 have hne:0<tb.size:=by
  rcases Nat.eq_zero_or_pos tb.size with h | h
  ·exfalso
   rw [htb] at h
   refine A79 hm ?_
   rw [<-Z4]
   exact List.length_eq_zero_iff.1 h
  ·exact h
 have hln:tb.data.toList.length=tb.size:=L0 tb
 replace hgx:=fun {m:Nat} {c:UInt8} {x:Int}=>hgx (m:=m) (c:=c) (x:=x) hm
 refine⟨_,_,Lib.run_convert_string_bytes _ _ _ 5 _ Tryz.underlying9 Tryz.underlying45 Tryz.underlying5,?_⟩
 obtain⟨m,hmm,hml⟩:∃ m:Nat,ix.tmod ((tb.size:Nat):Int)=(m:Int)/\m<tb.size:=by
  refine⟨(ix.tmod ((tb.size:Nat):Int)).toNat,?_,?_⟩
  ·have:=Int.tmod_nonneg ((tb.size:Nat):Int) hi
   omega
  ·have:=Int.tmod_lt_of_pos ix (show (0:Int)<((tb.size:Nat):Int) by omega)
   omega
 refine J7 (show ((tb.size:Nat):Int)≠0 by omega) ?_
 rw [hmm]
 have hcell:(Lib.bytesWorld wQ 5 tb).cell? ((⟨wQ.heap.size,0,none⟩:Addr).add ((m:Int).toNat*1))=some (.int .u8 (tb.data.toList.getD m 0).toNat):=by
  rw [Nat.mul_one,Int.toNat_natCast,Addr.add_lit,Nat.zero_add]
  exact Lib.bytesWorld_cell _ _ _ _ hml
 refine⟨⟨by omega,by omega⟩,?_⟩
 refine⟨_,hcell,?_⟩
 obtain⟨c,hcx,hc0⟩:=B6y (tb.data.toList.getD m 0) x hx
 refine⟨⟨by omega,by omega⟩,?_⟩
 refine⟨B3D wQ tb m hml _ rfl,?_⟩
 intro wT hT
 rw [hcx] at hT
 obtain⟨hbT,hrT⟩:=B3E wQ tb (Nat.le_trans (show tb.size<=1073740000 by omega) (by decide)) m hml c wT hT
 have hc:=(hc.quiet hbT).1
 refine A1H (l:=tb.data.toList.set m c) Tryz.underlying45 Tryz.underlying5 Tryz.underlying9 hrT (by rw [List.length_set];rfl) ?_
 have hl2:(⟨(tb.data.toList.set m c).toArray⟩:ByteArray).size<=1073741824:=by
  show (tb.data.toList.set m c).toArray.size<=1073741824
  rw [List.size_toArray,List.length_set,hln]
  omega
 have hq:=hgx (by rw [hln];exact hml) hc0
 have gt:=A1w _ hl2
 have e2:(⟨(tb.data.toList.set m c).toArray⟩:ByteArray).data.toList=tb.data.toList.set m c:=rfl
 rw [e2] at gt
 obtain⟨q,hqe⟩:∃ q,q=A56 (tb.data.toList.set m c):=⟨_,rfl⟩
 rw [<-hqe] at gt hq
 clear hqe hgx
 refine⟨(gt _ (hw.below hc.below)).mono fun en wq hqq=>?_⟩
 obtain⟨x3,e1,hb3,hr3⟩:=hqq
 have hc:=(hc.quiet hb3).1
 refine⟨_,e1,?_⟩
 refine hc.n fun g12 wg12 hg12 hc=>?_
 rw [L7] at hc
 refine hc.s 0 rfl fun wS hS hc=>?_
 refine B6 (by
  show ((if q.isSome then (0:Int) else 1)==0)==(x==0)
  rw [hq]
  by_cases h0:x=0
  ·rw [decide_eq_true h0,if_pos rfl,h0];rfl
  ·rw [decide_eq_false h0,show (x==0)=false from by rw [beq_eq_false_iff_ne];exact h0];rfl) ?_
 refine J7 (show ((tb.size:Nat):Int)≠0 by omega) ?_
 rw [hmm]
 refine⟨⟨by omega,by omega,by omega⟩,?_⟩
 have hxs:(tb.extract ((0:Nat):Int).toNat ((m:Nat):Int).toNat).size<=1073741824:=by
  rw [ByteArray.size_extract]
  omega
 refine hc.q (tl _ hxs _ (hw.below hc.below)) fun wQ hQ hc=>?_
 refine hc.n fun gx wgx hgx hc=>?_
 obtain⟨c2,hc2⟩:∃ c2:UInt8,x=(c2.toNat:Int):=⟨UInt8.ofNat x.toNat,by
  rw [UInt8.toNat_ofNat']
  omega⟩
 have hrow:Row (fun b=>b=gx) _ (some ⟨gx,0,none⟩) 1 1 (bv [c2]):=B7C (hc2▸hc.blk 0 rfl) 1 (by decide)
 refine A1H (l:=[c2]) Tryz.underlying45 Tryz.underlying5 Tryz.underlying9 hrow rfl ?_
 have has:(tb++(⟨[c2].toArray⟩:ByteArray)).size<=1073741824:=by
  rw [ByteArray.size_append]
  have:(⟨[c2].toArray⟩:ByteArray).size=1:=rfl
  omega
 refine⟨show tb.size+1<=9223372036854775807 by omega,?_⟩
 refine hc.q (tl _ has _ (hw.below hc.below)) fun wQ hQ hc=>?_
 exact⟨rfl,hc.below⟩
theorem B0V {H:Type} (enc:TypeId × Value->H) (W:World) (hw:Env W) {base:Nat}
  (v0:Value) (d0:DataW H) (p0:List MemPlace) (h0:DataW.Trod enc Tryz.prog W 0 (fun _=>true) true 9 v0 d0 p0) (k0:Value.okWide Tryz.prog W .any base 9 v0)
  (v1:Value) (d1:DataW H) (p1:List MemPlace) (h1:DataW.Trod enc Tryz.prog W 0 (fun _=>true) true 35 v1 d1 p1) (k1:Value.okWide Tryz.prog W .any base 35 v1)
  (v2:Value) (d2:DataW H) (p2:List MemPlace) (h2:DataW.Trod enc Tryz.prog W 0 (fun _=>true) true 3 v2 d2 p2) (k2:Value.okWide Tryz.prog W .any base 3 v2)
  (v3:Value) (d3:DataW H) (p3:List MemPlace) (h3:DataW.Trod enc Tryz.prog W 0 (fun _=>true) true 5 v3 d3 p3) (k3:Value.okWide Tryz.prog W .any base 5 v3):
  Calls Tryz.prog 4 #[v0,v1,v2,v3] W (C7 (.bool true) W):=by
 obtain⟨a0,rfl,o0⟩:=B4Q h0 k0
 obtain⟨a1,y1,rfl,r1,o1⟩:=A0g h1 k1
 obtain⟨a2,rfl,o2⟩:=A2w Tryz.underlying3 h2 k2
 obtain⟨a3,rfl,o3⟩:=B6R h3 k3
 exact B47 a0 (Nat.le_trans o0 (by decide)) a1 o1 y1 a2 a3 o3 W hw r1
end Go.Proofs.YtfekddndgakneaaGreatDoor
