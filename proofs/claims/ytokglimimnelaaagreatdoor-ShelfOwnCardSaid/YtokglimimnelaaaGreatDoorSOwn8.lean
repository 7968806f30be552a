import Derived.Test.YtokglimimnelaaaGreatDoorM13
set_option linter.unusedVariables false
set_option linter.unusedSimpArgs false
/- Walk: armariumlaw8.ShelfOwn. -/
namespace Go.Proofs.YtokglimimnelaaaGreatDoor
open Go.Vc Go.RowKit Go.Fl Go.ChangeShapes Go.WideShapes Go.ChangeAt
set_option maxRecDepth 100000
def VsL (css:List (List Value)):Kn:=fun S w=>∀ c∈css,∃ k AV nv cv,c=[k,.slice AV nv cv]/\nv<=cv/\cv<=maxLen/\(0<nv->∃ b,AV=some ⟨b,0,none⟩/\S b/\∀ j,j<nv->Cel w ⟨b,j*3+2,none⟩)
def MsL (B:Option Addr) (m:Nat):Kn:=fun S w=>0<m->∃ b,B=some ⟨b,0,none⟩/\S b/\∀ j,j<m->Cel w ⟨b,j*3,none⟩
def EnL (A:Option Addr) (css:List (List Value)):Kn:=fun S w=>0<css.length->∃ b,A=some ⟨b,0,none⟩/\S b/\∀ i c,css[i]?=some c->Cel w ⟨b,i*2,none⟩/\∃ v,c[1]?=some v/\w.cell? ⟨b,i*2+1,none⟩=some v
def Loose (A:Option Addr) (css:List (List Value)) (B:Option Addr) (m:Nat):Kn:=Sep 0 (fun S w=>VsL css S w/\MsL B m S w) (EnL A css)
theorem VsL.stab (css:List (List Value)):Stab (VsL css):=fun S w S' w' h f c hc=>by
 obtain⟨k,AV,nv,cv,e,h1,h2,h3⟩:=h c hc
 refine⟨k,AV,nv,cv,e,h1,h2,fun h0=>?_⟩
 obtain⟨b,e1,h4,h5⟩:=h3 h0
 exact⟨b,e1,f.1 _ h4,fun j hj=>(h5 j hj).kept (f.2 _ h4)⟩
theorem MsL.stab (B:Option Addr) (m:Nat):Stab (MsL B m):=fun S w S' w' h f h0=>by
 obtain⟨b,e1,h4,h5⟩:=h h0
 exact⟨b,e1,f.1 _ h4,fun j hj=>(h5 j hj).kept (f.2 _ h4)⟩
theorem EnL.stab (A:Option Addr) (css:List (List Value)):Stab (EnL A css):=fun S w S' w' h f h0=>by
 obtain⟨b,e1,h4,h5⟩:=h h0
 refine⟨b,e1,f.1 _ h4,fun i c hc=>?_⟩
 obtain⟨k1,v,k2,k3⟩:=h5 i c hc
 exact⟨k1.kept (f.2 _ h4),v,k2,(World.cell?_of_block (f.2 _ h4)).trans k3⟩
theorem Loose.stab (A:Option Addr) (css:List (List Value)) (B:Option Addr) (m:Nat):Stab (Loose A css B m):=Sep.stab ((VsL.stab _).and (MsL.stab _ _)) (EnL.stab _ _)
theorem VsL.poke {css:List (List Value)} {S:Nat->Prop} {w w':World} {a:Addr} (h:VsL css S w) (hp:Poked w a w'):VsL css S w':=fun c hc=>by
 obtain⟨k,AV,nv,cv,e,h1,h2,h3⟩:=h c hc
 refine⟨k,AV,nv,cv,e,h1,h2,fun h0=>?_⟩
 obtain⟨b,e1,h4,h5⟩:=h3 h0
 exact⟨b,e1,h4,fun j hj=>hp.cel _ (h5 j hj)⟩
theorem MsL.poke {B:Option Addr} {m:Nat} {S:Nat->Prop} {w w':World} {a:Addr} (h:MsL B m S w) (hp:Poked w a w'):MsL B m S w':=fun h0=>by
 obtain⟨b,e1,h4,h5⟩:=h h0
 exact⟨b,e1,h4,fun j hj=>hp.cel _ (h5 j hj)⟩
theorem EnL.poke {A:Option Addr} {css:List (List Value)} {S:Nat->Prop} {w w':World} {a:Addr} (h:EnL A css S w) (hp:Poked w a w') (hn:∀ b,A=some ⟨b,0,none⟩->S b->∀ i,b≠a.block\/i*2+1≠a.off):EnL A css S w':=fun h0=>by
 obtain⟨b,e1,h4,h5⟩:=h h0
 refine⟨b,e1,h4,fun i c hc=>?_⟩
 obtain⟨k1,v,k2,k3⟩:=h5 i c hc
 exact⟨hp.cel _ k1,v,k2,(hp.cell ⟨b,i*2+1,none⟩ rfl (hn b e1 h4 i)).trans k3⟩
theorem ver_at (vs:List Ver) (j:Nat) (hj:j<vs.length):∃ v,(vs.map verC).flatten[j*3+2]?=some v:=by
 rw [List.getElem?_eq_getElem (by rw [(verC_flat vs).len,List.length_map];omega)]
 exact⟨_,rfl⟩
theorem mem_at (ms:List Mem) (j:Nat) (hj:j<ms.length):∃ v,(ms.map memC).flatten[j*3]?=some v:=by
 rw [List.getElem?_eq_getElem (by rw [(memC_flat ms).len,List.length_map];omega)]
 exact⟨_,rfl⟩
theorem RepEs.mem' {S:Nat->Prop} {w:World}:∀ {l:List Ent} {css:List (List Value)},RepEs S w l css->∀ c∈css,∃ e∈l,RepE S w e c
 | [],css,h,c,hc=>by rw [show css=[] from h] at hc;cases hc
 | e::r,css,⟨c0,t,e1,e2,e3⟩,c,hc=>by
  subst e1
  cases hc with
  | head=>exact⟨e,List.mem_cons_self ..,e2⟩
  | tail _ hc=>
   obtain⟨e',h1,h2⟩:=e3.mem' c hc
   exact⟨e',List.mem_cons_of_mem _ h1,h2⟩
theorem StM.loose {s:Stt} {x:SX} {css:List (List Value)} {S:Nat->Prop} {w:World} (h:StM s x css S w):Loose x.A css x.B s.ms.length S w/\css.length=s.l.length:=by
 obtain⟨S1,Sa,k1,k2,⟨Sr,h1,⟨hE,hM⟩,zB,zC⟩,⟨St,g1,hL,zA⟩⟩:=h
 refine⟨⟨S1,Sa,k1,k2,⟨fun c hc=>?_,fun h0=>?_⟩,fun h0=>?_⟩,hE.len⟩
 ·obtain⟨k,AV,nv,cv,e,z⟩:=zC c hc
  obtain⟨en,_,A,cap,e2,hR⟩:=hE.mem' c hc
  rw [e] at e2
  cases e2
  refine⟨_,_,_,_,e,hR.1,hR.2.1,fun h0=>?_⟩
  obtain⟨v0,hv0⟩:=ver_at en.vs 0 h0
  obtain⟨ad,e3,hS,hcl⟩:=hR.2.2 (fun e=>by rw [e] at hv0;cases hv0)
  have e4:=z ad e3
  obtain⟨b,o,sb⟩:=ad
  cases e4
  refine⟨b,e3,(h1 b hS).1,fun j hj=>?_⟩
  obtain⟨v,hv⟩:=ver_at en.vs j hj
  have:=hcl _ _ hv
  rw [Addr.add_lit,Nat.zero_add] at this
  exact Cel.of rfl (h1 b hS).2 this
 ·obtain⟨v0,hv0⟩:=mem_at s.ms 0 h0
  obtain⟨ad,e3,hS,hcl⟩:=hM.2.2 (fun e=>by rw [e] at hv0;cases hv0)
  have e4:=zB ad e3
  obtain⟨b,o,sb⟩:=ad
  cases e4
  refine⟨b,e3,(h1 b hS).1,fun j hj=>?_⟩
  obtain⟨v,hv⟩:=mem_at s.ms j hj
  have:=hcl _ _ hv
  rw [Addr.add_lit,Nat.zero_add] at this
  exact Cel.of rfl (h1 b hS).2 this
 ·have hF:=hE.flat
  have hat:∀ i c,css[i]?=some c->∃ k v,c=[k,v]/\css.flatten[i*2]?=some k/\css.flatten[i*2+1]?=some v:=fun i c hc=>by
   obtain⟨k,AV,nv,cv,e,z⟩:=zC c (List.mem_of_getElem? hc)
   subst e
   exact⟨_,_,rfl,flatAt hF i 0 _ _ hc rfl,flatAt hF i 1 _ _ hc rfl⟩
  obtain⟨k0,v0,_,hk0,_⟩:=hat 0 css[0] (List.getElem?_eq_getElem h0)
  obtain⟨ad,e3,hS,hcl⟩:=hL.2.2 (fun e=>by rw [e] at hk0;cases hk0)
  have e4:=zA ad e3
  obtain⟨b,o,sb⟩:=ad
  cases e4
  refine⟨b,e3,(g1 b hS).1,fun i c hc=>?_⟩
  obtain⟨k,v,e,q1,q2⟩:=hat i c hc
  have c1:=hcl _ _ q1
  have c2:=hcl _ _ q2
  rw [Addr.add_lit,Nat.zero_add] at c1 c2
  exact⟨Cel.of rfl (g1 b hS).2 c1,v,by rw [e];rfl,c2⟩
set_option maxHeartbeats 16000000 in
theorem own8_any (ds:List D) (A:Option Addr) (ca:Nat) (hdk:∀ d∈ds,d.Ok) (w:World) (hw:Env w) (hA:Row (inW w) w A ds.length ca (ds.map dC).flatten):Calls Tryz.prog 5 #[.slice A ds.length ca] w (RetB (.bool true) w):=by
 refine calls_sem lay_ok Tryz.func5 rfl (by kernel_rfl) (by kernel_rfl) ?_
 refine SemC.cut lay_ok (fun (x:Nat)=>[(4,.pointer (some ⟨x,0,none⟩))]) (fun x w'=>∃ H gj gc b S,Fit H 10/\H.k.b=Stt0/\CtxF no w S w' [] [] (Sep w.heap.size (fun _ _=>True) (ShelfK x gj gc b H))) 5 (by kernel_rfl) ?_ ?_
 ·have hc:=CtxF.start w no (fun _ h=>h.elim) (R:=fun _ _=>True) trivial Stab.true
  refine hc.q (begun8_any _ (hw.below hc.below)) fun wQ hQ hc=>?_
  refine⟨(new_any 1048576 _).mono fun en wq hq=>?_⟩
  rw [newC_c0 (by decide)] at hq
  obtain⟨gc,b,e1,hq,hO⟩:=hq
  have hc:=hc.sepNew hq hO (ChestK.stab _ _ _)
  refine⟨_,e1,?_⟩
  obtain⟨S1,Sa,h1,h2,h3,hO⟩:=hc.row
  refine⟨(snew_any gc b 1048576 (by decide) Sa _ (fun x hx=>hc.ctx.lt x (h2 x hx).1) (hw.free hc.below h2) hO).mono fun en wq hq=>?_⟩
  obtain⟨gs,gj,e1,hT,Sn,hSn,hO⟩:=hq
  have hc:=hc.turnO (Stab.true) h1 h2 h3 hT hSn hO (ShelfK.stab _ _ _ _ _)
  refine⟨_,e1,?_⟩
  have hmA:=row_max hA
  refine⟨Nat × Sh,fun (i,H)=>[(0,.slice A ds.length ca),(4,.pointer (some ⟨gs,0,none⟩)),(6,.int .i64 (i:Int))],
   fun (i,H) w'=>i<=ds.length/\i<=10/\Fit H i/\H.k.b=Stt0/\∃ S,CtxF no w S w' [] [] (Sep w.heap.size (fun _ _=>True) (ShelfK gs gj gc b H)),fun (i,_) _=>10-i,(0,H0 1048576),⟨rfl,rfl,rfl,trivial⟩,⟨Nat.zero_le _,Nat.zero_le _,Fit.h0,rfl,_,hc⟩,?_⟩
  clear hc
  rintro⟨i,H⟩ w1 u ⟨hi,hi15,hf,hb0,S,hc⟩
  by_cases hlt:i<ds.length/\i<10
  ·refine split_t (decide_eq_true (by omega)) ?_
   refine split_t (decide_eq_true (by omega)) ?_
   obtain⟨ad,rfl,hcell⟩:=RowD8.elem (hA.below hc.below) i hlt.1
   obtain⟨d,hd⟩:∃ d,d=ds[i]:=⟨_,rfl⟩
   have hdo:d.Ok:=by rw [hd];exact hdk _ (List.getElem_mem _)
   rw [<-hd] at hcell
   refine⟨⟨by omega,by omega⟩,?_⟩
   refine⟨dC d,rfl,by rw [Int.toNat_natCast];exact hcell,?_⟩
   refine hc.q (deed5_any d hdo _) fun wQ hQ hc=>?_
   obtain⟨H1,k1,hf1,_,_,_,had⟩:=add_fit hf (by omega) (cutD_ok hdo)
   obtain⟨S1,Sa,h1,h2,h3,hO⟩:=hc.row
   refine⟨(had gs gj gc b Sa _ (fun x hx=>hc.ctx.lt x (h2 x hx).1) (hw.free hc.below h2) hO).mono fun en wq hq=>?_⟩
   obtain⟨e1,hT,Sn,hSn,hO⟩:=hq
   have hc:=hc.turnO (Stab.true) h1 h2 h3 hT hSn hO (ShelfK.stab _ _ _ _ _)
   refine⟨_,e1,?_⟩
   have hkk:H1.k.b=H.k.b:=by
    rw [k1]
    unfold addKK
    split
    ·rfl
    ·split<;>rfl
   exact⟨(i+1,H1),⟨rfl,rfl,congrArg _ (i_down (by omega)),trivial⟩,⟨by omega,by omega,hf1,hkk.trans hb0,_,hc⟩,by show 10-(i+1)<10-i;omega⟩
  by_cases hl2:i<ds.length
  ·refine split_t (decide_eq_true (by omega)) ?_
   refine split_f (decide_eq_false (by omega)) ?_
   exact⟨gs,⟨rfl,trivial⟩,H,gj,gc,b,_,hf.mono (by omega),hb0,hc⟩
  ·refine split_f (decide_eq_false (by omega)) ?_
   exact⟨gs,⟨rfl,trivial⟩,H,gj,gc,b,_,hf.mono (by omega),hb0,hc⟩
 rintro gs u w1 ⟨H,gj,gc,b,S,hf,hb0,hc⟩
 have hpl:=hf.ok.k.len
 have hseq:H.k.seq=H.k.pend.length:=by unfold Known.seq;rw [hb0];show (0:Int)+_=_;omega
 refine SemC.cut lay_ok (fun (x:Nat × Nat × Option Addr × Nat × Option Addr × Nat × SX × SX × Sh)=>[(4,.pointer (some ⟨gs,0,none⟩)),(7,.pointer (some ⟨x.1,0,none⟩)),(8,.pointer (some ⟨x.2.1,0,none⟩)),(9,.slice x.2.2.1 x.2.2.2.2.2.2.2.2.k.pend.length x.2.2.2.1),(10,.slice x.2.2.2.2.1 x.2.2.2.2.2.2.2.2.k.pend.length x.2.2.2.2.2.1)]) (fun (g7,g8,A9,c9,A10,c10,xa,y,H1) w'=>Fit H1 11/\∃ css S,css.length=H1.k.b.l.length/\CtxF no w S w' [(g8,43,stX H1.k.b y),(g7,43,stX H1.k.b xa)] [orD A9 c9 H1.k.pend] (Sep w.heap.size (fun S w1=>(Sep w.heap.size (fun _ _=>True) (ShelfK gs gj gc b H1) S w1/\RepS S w1 H1.k.b (stX H1.k.b y))/\Row S w1 A10 H1.k.pend.length c10 (H1.k.pend.map dC).flatten) (Loose xa.A css xa.B H1.k.b.ms.length))) 1 (by kernel_rfl) ?_ ?_
 ·refine hc.q (Seq_any gs gj gc b H hf.ok _ _ (hc.row.right (ShelfK.stab _ _ _ _ _))) fun wQ hQ hc=>?_
  refine⟨by decide,?_⟩
  have hm:IntKind.i64.wrap (H.k.seq.tdiv 2)=((H.k.pend.length / 2:Nat):Int):=by
   rw [hseq,show ((H.k.pend.length:Int)).tdiv 2=((H.k.pend.length / 2:Nat):Int) from by rw [Int.tdiv_eq_ediv_of_nonneg (by omega)];omega,IntWalk.i64_in _ ⟨by omega,by omega⟩]
  obtain⟨H1,k1,hf1,w1',hc1⟩:=commit_fit hf (by omega) (m:=((H.k.pend.length / 2:Nat):Int)) (by unfold i64ok;omega) (by omega)
  rw [<-hm] at hc1
  obtain⟨S1,Sa,h1,h2,h3,hO⟩:=hc.row
  refine⟨(hc1 gs gj gc b Sa _ (fun x hx=>hc.ctx.lt x (h2 x hx).1) (hw.free hc.below h2) hO).mono fun en wq hq=>?_⟩
  obtain⟨Aa,ca1,e1,hT,Sn,Sl,hSn,hO,hSl,hX⟩:=hq
  have hc:=hc.turnO (Stab.true) h1 h2 h3 hT hSn hO (ShelfK.stab _ _ _ _ _)
  refine⟨_,e1,?_⟩
  have sS:Stab (Sep w.heap.size (fun _ _=>True) (ShelfK gs gj gc b H1)):=Sep.stab Stab.true (ShelfK.stab _ _ _ _ _)
  refine⟨(BookM_any gs gj gc b H1 hf1.ok _ _ (hc.row.right (ShelfK.stab _ _ _ _ _))).mono fun en wq hq=>?_⟩
  obtain⟨xa,css,e1,hq,hst⟩:=hq
  obtain⟨hlo,hcl⟩:=hst.loose
  have hc:=hc.sepNew hq hlo (Loose.stab _ _ _ _)
  refine⟨_,e1,?_⟩
  refine⟨(Book_any gs gj gc b H1 hf1.ok _ _ ((hc.row.left sS).right (ShelfK.stab _ _ _ _ _))).mono fun en wq hq=>?_⟩
  obtain⟨cB,e1,hq,hrB⟩:=hq
  obtain⟨y,rfl⟩:=hrB.stX
  have hc:=hc.sepKnow (X:=fun S w=>RepS S w H1.k.b (stX H1.k.b y)) sS (Loose.stab _ _ _ _) hq hrB (stab_S _ _)
  have s2:=sS.and (stab_S H1.k.b (stX H1.k.b y))
  refine⟨_,e1,?_⟩
  refine⟨(Pend_any gs gj gc b H1 hf1.ok _ _ ((hc.row.left s2).1.right (ShelfK.stab _ _ _ _ _))).mono fun en wq hq=>?_⟩
  obtain⟨A9,c9,e4,hq,ho⟩:=hq
  have hc:=hc.fresh hq ho
  refine⟨_,e4,?_⟩
  refine⟨(Pend_any gs gj gc b H1 hf1.ok _ _ ((hc.row.left s2).1.right (ShelfK.stab _ _ _ _ _))).mono fun en wq hq=>?_⟩
  obtain⟨A10,c10,e4,hq,ho⟩:=hq
  have hc:=hc.sepKnow (X:=fun S w=>Row S w A10 H1.k.pend.length c10 (H1.k.pend.map dC).flatten) s2 (Loose.stab _ _ _ _) hq (own_row hq ho no) row_stab
  refine⟨_,e4,?_⟩
  refine hc.n fun g7 wg7 hg7 hc=>?_
  refine hc.n fun g8 wg8 hg8 hc=>?_
  refine hc.s 1 rfl fun wS hS hc=>?_
  refine hc.s 0 rfl fun wS hS hc=>?_
  exact⟨(g7,g8,A9,c9,A10,c10,xa,y,H1),⟨rfl,rfl,rfl,rfl,rfl,trivial⟩,hf1,css,_,hcl,hc⟩
 clear hc hpl hseq hf hb0
 rintro⟨g7,g8,A9,c9,A10,c10,xa,y,H1⟩ u w1 ⟨hf,css,S,hcl,hc⟩
 have hK:=hf.ok.k
 have hpl:=hK.len
 obtain⟨f1,f2,f3⟩:=may_fits hK.may
 have sS:Stab (Sep w.heap.size (fun _ _=>True) (ShelfK gs gj gc b H1)):=Sep.stab Stab.true (ShelfK.stab _ _ _ _ _)
 have sR:Stab (fun S w1=>(Sep w.heap.size (fun _ _=>True) (ShelfK gs gj gc b H1) S w1/\RepS S w1 H1.k.b (stX H1.k.b y))/\Row S w1 A10 H1.k.pend.length c10 (H1.k.pend.map dC).flatten):=(sS.and (stab_S _ _)).and row_stab
 refine SemC.vc lay_ok ?_
 refine⟨_,hc.cell 1 rfl _ rfl,?_⟩
 refine⟨Nat,fun i=>[(4,.pointer (some ⟨gs,0,none⟩)),(7,.pointer (some ⟨g7,0,none⟩)),(8,.pointer (some ⟨g8,0,none⟩)),(9,.slice A9 H1.k.pend.length c9),(10,.slice A10 H1.k.pend.length c10),(57,.int .i64 (H1.k.b.l.length:Int)),(58,.int .i64 (i:Int))],
  fun i wS=>i<=H1.k.b.l.length/\∃ S,CtxF no w S wS [(g8,43,stX H1.k.b y),(g7,43,stX H1.k.b xa)] [orD A9 c9 H1.k.pend] (Sep w.heap.size (fun S w1=>(Sep w.heap.size (fun _ _=>True) (ShelfK gs gj gc b H1) S w1/\RepS S w1 H1.k.b (stX H1.k.b y))/\Row S w1 A10 H1.k.pend.length c10 (H1.k.pend.map dC).flatten) (Loose xa.A css xa.B H1.k.b.ms.length)),fun i _=>H1.k.b.l.length-i,0,⟨rfl,rfl,rfl,rfl,rfl,rfl,rfl,trivial⟩,⟨Nat.zero_le _,_,hc⟩,?_⟩
 clear hc
 rintro i w2 u2 ⟨hi,S,hc⟩
 by_cases hil:i<H1.k.b.l.length
 ·refine split_t (decide_eq_true (by omega)) ?_
  refine⟨_,hc.cell 1 rfl _ rfl,?_⟩
  obtain⟨S1,Sa,_,_,hlo⟩:=hc.row.right (Loose.stab _ _ _ _)
  obtain⟨bA,eA,_,hEn⟩:=hlo.2 (by omega)
  have hci:css[i]?=some css[i]:=List.getElem?_eq_getElem (by omega)
  obtain⟨k,AV,nv,cv,ec,hnv,hcv,_⟩:=hlo.1.1 css[i] (List.getElem_mem _)
  have hcm:[k,Value.slice AV nv cv]∈css:=by rw [<-ec];exact List.getElem_mem _
  rw [ec] at hci
  clear hlo hEn
  have hAa:xa.A=some ⟨bA,0,none⟩:=eA
  obtain⟨a0,cp0,aB,cpB,l0,l1,l2,l3,l4⟩:=xa
  cases hAa
  refine⟨⟨by omega,by omega⟩,?_⟩
  generalize hae:((⟨bA,0,none⟩:Addr).add ((i:Int).toNat*2))=ae
  have hae:(⟨bA,i*2,none⟩:Addr)=ae:=by rw [<-hae,Addr.add_lit,Nat.zero_add,Int.toNat_natCast]
  subst hae
  obtain⟨hm1,hk1⟩:=hc.poke sR (a:=⟨bA,i*2,none⟩) (v:=.string ⟨#[116,117,114,110,101,100]⟩) (O':=Loose (some ⟨bA,0,none⟩) css aB H1.k.b.ms.length) (fun Sa h=>by
    obtain⟨S1,S2,k1,k2,k3,k4⟩:=h
    obtain⟨b',e',hS,h5⟩:=k4 (by omega)
    cases e'
    exact⟨(k2 _ hS).1,(h5 i _ hci).1⟩) rfl (fun Sa w' h hp=>by
    obtain⟨S1,S2,k1,k2,⟨k3,k4⟩,k5⟩:=h
    exact⟨S1,S2,k1,k2,⟨k3.poke hp,k4.poke hp⟩,k5.poke hp fun b' e' _ j=>.inr (by show j*2+1≠i*2;omega)⟩) (Loose.stab _ _ _ _)
  refine⟨hm1,?_⟩
  intro w3 h3
  obtain⟨S3,hc⟩:=hk1 w3 h3
  refine⟨_,hc.cell 1 rfl _ rfl,?_⟩
  refine⟨⟨by omega,by omega⟩,?_⟩
  generalize hae:((⟨bA,0,none⟩:Addr).add ((i:Int).toNat*2))=ae
  have hae:(⟨bA,i*2,none⟩:Addr)=ae:=by rw [<-hae,Addr.add_lit,Nat.zero_add,Int.toNat_natCast]
  subst hae
  have hslc:∀ {S:Nat->Prop} {w4:World} {l:List LB} {os:List OR} {R:Kn},CtxF no w S w4 l os (Sep w.heap.size R (Loose (some ⟨bA,0,none⟩) css aB H1.k.b.ms.length))->w4.cell? ⟨bA,i*2+1,none⟩=some (.slice AV nv cv):=fun hc=>by
   obtain⟨S1,Sa,_,_,hlo⟩:=hc.row.right (Loose.stab _ _ _ _)
   obtain⟨b',e',_,hEn⟩:=hlo.2 (by omega)
   cases e'
   obtain⟨_,v,hv,hcv⟩:=hEn i _ hci
   cases hv
   exact hcv
  refine⟨_,hslc hc,?_⟩
  refine⟨Nat,fun j=>[(4,.pointer (some ⟨gs,0,none⟩)),(7,.pointer (some ⟨g7,0,none⟩)),(8,.pointer (some ⟨g8,0,none⟩)),(9,.slice A9 H1.k.pend.length c9),(10,.slice A10 H1.k.pend.length c10),(11,.int .i64 (i:Int)),(57,.int .i64 (H1.k.b.l.length:Int)),(58,.int .i64 (i:Int)),(72,.int .i64 (nv:Int)),(73,.int .i64 (j:Int))],
   fun j wS=>j<=nv/\∃ S,CtxF no w S wS [(g8,43,stX H1.k.b y),(g7,43,stX H1.k.b ⟨some ⟨bA,0,none⟩,cp0,aB,cpB,l0,l1,l2,l3,l4⟩)] [orD A9 c9 H1.k.pend] (Sep w.heap.size (fun S w1=>(Sep w.heap.size (fun _ _=>True) (ShelfK gs gj gc b H1) S w1/\RepS S w1 H1.k.b (stX H1.k.b y))/\Row S w1 A10 H1.k.pend.length c10 (H1.k.pend.map dC).flatten) (Loose (some ⟨bA,0,none⟩) css aB H1.k.b.ms.length)),fun j _=>nv-j,0,⟨rfl,rfl,rfl,rfl,rfl,rfl,rfl,rfl,rfl,rfl,trivial⟩,⟨Nat.zero_le _,_,hc⟩,?_⟩
  clear hc hk1 hm1
  rintro j w4 u4 ⟨hj,S,hc⟩
  have hmx:maxLen=9223372036854775807:=rfl
  by_cases hjn:j<nv
  ·refine split_t (decide_eq_true (by omega)) ?_
   refine⟨_,hc.cell 1 rfl _ rfl,?_⟩
   refine⟨⟨by omega,by omega⟩,?_⟩
   generalize hae:((⟨bA,0,none⟩:Addr).add ((i:Int).toNat*2))=ae
   have hae:(⟨bA,i*2,none⟩:Addr)=ae:=by rw [<-hae,Addr.add_lit,Nat.zero_add,Int.toNat_natCast]
   subst hae
   refine⟨_,hslc hc,?_⟩
   obtain⟨S1,Sa,_,_,hlo⟩:=hc.row.right (Loose.stab _ _ _ _)
   obtain⟨k',AV',nv',cv',ec',_,_,hV⟩:=hlo.1.1 _ hcm
   cases ec'
   obtain⟨bV,eV,_,_⟩:=hV (by omega)
   subst eV
   clear hV hlo
   refine⟨⟨by omega,by omega⟩,?_⟩
   generalize hae:((⟨bV,0,none⟩:Addr).add ((j:Int).toNat*3))=ae
   have hae:(⟨bV,j*3,none⟩:Addr)=ae:=by rw [<-hae,Addr.add_lit,Nat.zero_add,Int.toNat_natCast]
   subst hae
   have hpick:∀ {Sa:Nat->Prop} {w5:World},Loose (some ⟨bA,0,none⟩) css aB H1.k.b.ms.length Sa w5->∃ S1 S2:Nat->Prop,(∀ x,S1 x->Sa x/\¬ S2 x)/\(∀ x,S2 x->Sa x/\0<=x)/\(VsL css S1 w5/\MsL aB H1.k.b.ms.length S1 w5)/\EnL (some ⟨bA,0,none⟩) css S2 w5/\S1 bV/\Cel w5 ⟨bV,j*3+2,none⟩:=fun h=>by
    obtain⟨S1,S2,k1,k2,k3,k4⟩:=h
    obtain⟨k',AV',nv',cv',ec',_,_,hV⟩:=k3.1 _ hcm
    cases ec'
    obtain⟨b',e',hS,h5⟩:=hV (by omega)
    cases e'
    exact⟨S1,S2,k1,k2,k3,k4,hS,h5 j hjn⟩
   obtain⟨hm1,hk1⟩:=hc.poke sR (a:=⟨bV,j*3+2,none⟩) (v:=.string ⟨#[122]⟩) (O':=Loose (some ⟨bA,0,none⟩) css aB H1.k.b.ms.length) (fun Sa h=>by
     obtain⟨S1,S2,k1,k2,k3,k4,hS,h5⟩:=hpick h
     exact⟨(k1 _ hS).1,h5⟩) rfl (fun Sa w' h hp=>by
     obtain⟨S1,S2,k1,k2,⟨k3,k3'⟩,k5,hS,h5⟩:=hpick h
     exact⟨S1,S2,k1,k2,⟨k3.poke hp,k3'.poke hp⟩,k5.poke hp fun b' e' hS2 jj=>.inl fun e=>(k1 _ hS).2 (by show S2 bV;rw [show bV=b' from e.symm];exact hS2)⟩) (Loose.stab _ _ _ _)
   refine⟨hm1,?_⟩
   intro w5 h5
   obtain⟨S5,hc⟩:=hk1 w5 h5
   exact⟨j+1,⟨rfl,rfl,rfl,rfl,rfl,rfl,rfl,rfl,rfl,congrArg _ (i_down (by omega)),trivial⟩,⟨hjn,_,hc⟩,by show nv-(j+1)<nv-j;omega⟩
  refine split_f (decide_eq_false (by omega)) ?_
  exact⟨i+1,⟨rfl,rfl,rfl,rfl,rfl,rfl,congrArg _ (i_down (by omega)),trivial⟩,⟨hil,_,hc⟩,by show H1.k.b.l.length-(i+1)<H1.k.b.l.length-i;omega⟩
 refine split_f (decide_eq_false (by omega)) ?_
 refine⟨_,hc.cell 1 rfl _ rfl,?_⟩
 refine⟨Nat,fun i=>[(4,.pointer (some ⟨gs,0,none⟩)),(7,.pointer (some ⟨g7,0,none⟩)),(8,.pointer (some ⟨g8,0,none⟩)),(9,.slice A9 H1.k.pend.length c9),(10,.slice A10 H1.k.pend.length c10),(89,.int .i64 (H1.k.b.ms.length:Int)),(90,.int .i64 (i:Int))],
  fun i wS=>i<=H1.k.b.ms.length/\∃ S,CtxF no w S wS [(g8,43,stX H1.k.b y),(g7,43,stX H1.k.b xa)] [orD A9 c9 H1.k.pend] (Sep w.heap.size (fun S w1=>(Sep w.heap.size (fun _ _=>True) (ShelfK gs gj gc b H1) S w1/\RepS S w1 H1.k.b (stX H1.k.b y))/\Row S w1 A10 H1.k.pend.length c10 (H1.k.pend.map dC).flatten) (Loose xa.A css xa.B H1.k.b.ms.length)),fun i _=>H1.k.b.ms.length-i,0,⟨rfl,rfl,rfl,rfl,rfl,rfl,rfl,trivial⟩,⟨Nat.zero_le _,_,hc⟩,?_⟩
 clear hc
 rintro i w2 u2 ⟨hi,S,hc⟩
 by_cases hil:i<H1.k.b.ms.length
 ·refine split_t (decide_eq_true (by omega)) ?_
  refine⟨_,hc.cell 1 rfl _ rfl,?_⟩
  obtain⟨S1,Sa,_,_,hlo⟩:=hc.row.right (Loose.stab _ _ _ _)
  obtain⟨bB,eB,_,_⟩:=hlo.1.2 (by omega)
  clear hlo
  have hAa:xa.B=some ⟨bB,0,none⟩:=eB
  obtain⟨a0,cp0,aB,cpB,l0,l1,l2,l3,l4⟩:=xa
  cases hAa
  refine⟨⟨by omega,by omega⟩,?_⟩
  generalize hae:((⟨bB,0,none⟩:Addr).add ((i:Int).toNat*3))=ae
  have hae:(⟨bB,i*3,none⟩:Addr)=ae:=by rw [<-hae,Addr.add_lit,Nat.zero_add,Int.toNat_natCast]
  subst hae
  have hpick:∀ {Sa:Nat->Prop} {w5:World},Loose a0 css (some ⟨bB,0,none⟩) H1.k.b.ms.length Sa w5->∃ S1 S2:Nat->Prop,(∀ x,S1 x->Sa x/\¬ S2 x)/\(∀ x,S2 x->Sa x/\0<=x)/\(VsL css S1 w5/\MsL (some ⟨bB,0,none⟩) H1.k.b.ms.length S1 w5)/\EnL a0 css S2 w5/\S1 bB/\Cel w5 ⟨bB,i*3,none⟩:=fun h=>by
   obtain⟨S1,S2,k1,k2,k3,k4⟩:=h
   obtain⟨b',e',hS,h5⟩:=k3.2 (by omega)
   cases e'
   exact⟨S1,S2,k1,k2,k3,k4,hS,h5 i hil⟩
  obtain⟨hm1,hk1⟩:=hc.poke sR (a:=⟨bB,i*3,none⟩) (v:=.int .i64 1) (O':=Loose a0 css (some ⟨bB,0,none⟩) H1.k.b.ms.length) (fun Sa h=>by
    obtain⟨S1,S2,k1,k2,k3,k4,hS,h5⟩:=hpick h
    exact⟨(k1 _ hS).1,h5⟩) rfl (fun Sa w' h hp=>by
    obtain⟨S1,S2,k1,k2,⟨k3,k3'⟩,k5,hS,h5⟩:=hpick h
    exact⟨S1,S2,k1,k2,⟨k3.poke hp,k3'.poke hp⟩,k5.poke hp fun b' e' hS2 jj=>.inl fun e=>(k1 _ hS).2 (by show S2 bB;rw [show bB=b' from e.symm];exact hS2)⟩) (Loose.stab _ _ _ _)
  refine⟨hm1,?_⟩
  intro w5 h5
  obtain⟨S5,hc⟩:=hk1 w5 h5
  exact⟨i+1,⟨rfl,rfl,rfl,rfl,rfl,rfl,congrArg _ (i_down (by omega)),trivial⟩,⟨hil,_,hc⟩,by show H1.k.b.ms.length-(i+1)<H1.k.b.ms.length-i;omega⟩
 refine split_f (decide_eq_false (by omega)) ?_
 cases hA9:A9 with
 | none=>
  have h0:H1.k.pend.length=0:=(hc.fst.none' hA9).1
  subst hA9
  refine⟨Unit,fun _=>[(4,.pointer (some ⟨gs,0,none⟩)),(8,.pointer (some ⟨g8,0,none⟩)),(10,.slice A10 H1.k.pend.length c10),(100,.int .i64 (H1.k.pend.length:Int)),(101,.int .i64 0)],fun _ wS=>∃ S,CtxF no w S wS [(g8,43,stX H1.k.b y),(g7,43,stX H1.k.b xa)] [orD none c9 H1.k.pend] (Sep w.heap.size (fun S w1=>(Sep w.heap.size (fun _ _=>True) (ShelfK gs gj gc b H1) S w1/\RepS S w1 H1.k.b (stX H1.k.b y))/\Row S w1 A10 H1.k.pend.length c10 (H1.k.pend.map dC).flatten) (Loose xa.A css xa.B H1.k.b.ms.length)),fun _ _=>0,(),⟨rfl,rfl,rfl,rfl,rfl,trivial⟩,⟨_,hc⟩,?_⟩
  clear hc
  rintro⟨⟩ w3 u3 ⟨S,hc⟩
  refine split_f (decide_eq_false (show ¬ (0:Int)<(H1.k.pend.length:Int) by omega)) ?_
  refine vD (.q 0 (.n 1 (.n 2 (.n 3 (.Q [4,5,7] (.n 6 (.n 8 (.Q [9,10] .fin) .stop) .stop)) .stop) .stop) (.n 2 (.n 1 (.n 3 (.Q [4,5,7] (.n 6 (.n 8 (.Q [9,10] .fin) .stop) .stop)) .stop) .stop) .stop))) (fun _=>True) trivial ?_
  have hc:=hc.drew
  refine⟨?_,?_⟩
  ·skip
   refine⟨(Book_any gs gj gc b H1 hf.ok _ _ ((hc.row.left sR).1.1.right (ShelfK.stab _ _ _ _ _))).mono fun en wq hq=>?_⟩
   obtain⟨cB,e1,hq,hrB⟩:=hq
   obtain⟨z,rfl⟩:=hrB.stX
   have hc:=hc.sepKnow (X:=fun S w=>RepS S w H1.k.b (stX H1.k.b z)) sR (Loose.stab _ _ _ _) hq hrB (stab_S _ _)
   refine⟨_,e1,trivial,?_⟩
   refine⟨hc.a' 0 rfl rfl ?_,trivial⟩
   refine⟨?_,trivial⟩
   have heq:=reqS_any H1.k.b H1.k.b _ _ _ _ (hc.row.left (sR.and (stab_S _ _))).2 (hc.row.left (sR.and (stab_S _ _))).1.1.2
   rw [eqS_iff.2 rfl] at heq
   refine hc.q' (heq) fun wQ hQ hc=>?_
   refine⟨⟨(Pend_any gs gj gc b H1 hf.ok _ _ ((hc.row.left (sR.and (stab_S _ _))).1.1.1.right (ShelfK.stab _ _ _ _ _))).mono fun en wq hq=>?_⟩,trivial⟩
   obtain⟨A3,c3,e4,hq,ho⟩:=hq
   have hrow3:=own_row hq ho no
   have hc:=(hc.quiet hq).1
   refine⟨_,e4,trivial,?_⟩
   refine⟨?_,trivial⟩
   have hed:=eqDeeds_any H1.k.pend H1.k.pend A3 A10 c3 c10 _ _ _ hrow3 (hc.row.left (sR.and (stab_S _ _))).1.2
   rw [eqDs_refl] at hed
   refine hc.q' (hed) fun wQ hQ hc=>?_
   exact⟨rfl,hc.below⟩
  refine⟨hc.a' 0 rfl rfl ?_,trivial⟩
  refine⟨⟨(Book_any gs gj gc b H1 hf.ok _ _ ((hc.row.left sR).1.1.right (ShelfK.stab _ _ _ _ _))).mono fun en wq hq=>?_⟩,trivial⟩
  obtain⟨cB,e1,hq,hrB⟩:=hq
  obtain⟨z,rfl⟩:=hrB.stX
  have hc:=hc.sepKnow (X:=fun S w=>RepS S w H1.k.b (stX H1.k.b z)) sR (Loose.stab _ _ _ _) hq hrB (stab_S _ _)
  refine⟨_,e1,trivial,?_⟩
  refine⟨?_,trivial⟩
  have heq:=reqS_any H1.k.b H1.k.b _ _ _ _ (hc.row.left (sR.and (stab_S _ _))).2 (hc.row.left (sR.and (stab_S _ _))).1.1.2
  rw [eqS_iff.2 rfl] at heq
  refine hc.q' (heq) fun wQ hQ hc=>?_
  refine⟨⟨(Pend_any gs gj gc b H1 hf.ok _ _ ((hc.row.left (sR.and (stab_S _ _))).1.1.1.right (ShelfK.stab _ _ _ _ _))).mono fun en wq hq=>?_⟩,trivial⟩
  obtain⟨A3,c3,e4,hq,ho⟩:=hq
  have hrow3:=own_row hq ho no
  have hc:=(hc.quiet hq).1
  refine⟨_,e4,trivial,?_⟩
  refine⟨?_,trivial⟩
  have hed:=eqDeeds_any H1.k.pend H1.k.pend A3 A10 c3 c10 _ _ _ hrow3 (hc.row.left (sR.and (stab_S _ _))).1.2
  rw [eqDs_refl] at hed
  refine hc.q' (hed) fun wQ hQ hc=>?_
  exact⟨rfl,hc.below⟩
 | some a9=>
 obtain⟨g9,cur,e9,hco,hcl9,_,hcn,_⟩:=hc.opened hA9
 clear hc
 have hc:=hco
 clear hco
 have e9:A9=some ⟨g9,0,none⟩:=e9
 subst e9
 cases hA9
 have hcl9:cur.length=c9*8:=hcl9
 have hcn:H1.k.pend.length<=c9:=hcn
 refine⟨Nat × List Value,fun (i,_)=>[(4,.pointer (some ⟨gs,0,none⟩)),(8,.pointer (some ⟨g8,0,none⟩)),(9,.slice (some ⟨g9,0,none⟩) H1.k.pend.length c9),(10,.slice A10 H1.k.pend.length c10),(100,.int .i64 (H1.k.pend.length:Int)),(101,.int .i64 (i:Int))],fun (i,cur) wS=>i<=H1.k.pend.length/\cur.length=c9*8/\∃ S,CtxF no w S wS [(g9,32,cur),(g8,43,stX H1.k.b y),(g7,43,stX H1.k.b xa)] [] (Sep w.heap.size (fun S w1=>(Sep w.heap.size (fun _ _=>True) (ShelfK gs gj gc b H1) S w1/\RepS S w1 H1.k.b (stX H1.k.b y))/\Row S w1 A10 H1.k.pend.length c10 (H1.k.pend.map dC).flatten) (Loose xa.A css xa.B H1.k.b.ms.length)),fun (i,_) _=>H1.k.pend.length-i,(0,cur),⟨rfl,rfl,rfl,rfl,rfl,rfl,trivial⟩,⟨Nat.zero_le _,hcl9,_,hc⟩,?_⟩
 clear hc
 rintro⟨i,cur⟩ w3 u3 ⟨hi,hcl9,S,hc⟩
 by_cases hil:i<H1.k.pend.length
 ·refine split_t (decide_eq_true (by omega)) ?_
  refine⟨⟨by omega,by omega⟩,?_⟩
  generalize hae:((⟨g9,0,none⟩:Addr).add ((i:Int).toNat*8))=ae
  have hae:(⟨g9,i*8,none⟩:Addr)=ae:=by rw [<-hae,Addr.add_lit,Nat.zero_add,Int.toNat_natCast]
  subst hae
  refine⟨hc.may 0 rfl (i*8+1) [.string ⟨#[122]⟩] (by show i*8+1+1<=cur.length;omega) rfl,?_⟩
  intro wS hS
  have hS:Stored _ ⟨g9,i*8+1,none⟩ [.string ⟨#[122]⟩] wS:=hS
  have hc:=(hc.set 0 rfl hS).1
  exact⟨(i+1,putAt cur (i*8+1) [.string ⟨#[122]⟩]),⟨rfl,rfl,rfl,rfl,rfl,congrArg _ (i_down (by omega)),trivial⟩,⟨hil,by rw [putAt_len];exact hcl9,_,hc⟩,by show H1.k.pend.length-(i+1)<H1.k.pend.length-i;omega⟩
 refine split_f (decide_eq_false (by omega)) ?_
 refine vD (.q 0 (.n 1 (.n 2 (.n 3 (.Q [4,5,7] (.n 6 (.n 8 (.Q [9,10] .fin) .stop) .stop)) .stop) .stop) (.n 2 (.n 1 (.n 3 (.Q [4,5,7] (.n 6 (.n 8 (.Q [9,10] .fin) .stop) .stop)) .stop) .stop) .stop))) (fun _=>True) trivial ?_
 have hc:=hc.drew
 refine⟨?_,?_⟩
 ·skip
  refine⟨(Book_any gs gj gc b H1 hf.ok _ _ ((hc.row.left sR).1.1.right (ShelfK.stab _ _ _ _ _))).mono fun en wq hq=>?_⟩
  obtain⟨cB,e1,hq,hrB⟩:=hq
  obtain⟨z,rfl⟩:=hrB.stX
  have hc:=hc.sepKnow (X:=fun S w=>RepS S w H1.k.b (stX H1.k.b z)) sR (Loose.stab _ _ _ _) hq hrB (stab_S _ _)
  refine⟨_,e1,trivial,?_⟩
  refine⟨hc.a' 1 rfl rfl ?_,trivial⟩
  refine⟨?_,trivial⟩
  have heq:=reqS_any H1.k.b H1.k.b _ _ _ _ (hc.row.left (sR.and (stab_S _ _))).2 (hc.row.left (sR.and (stab_S _ _))).1.1.2
  rw [eqS_iff.2 rfl] at heq
  refine hc.q' (heq) fun wQ hQ hc=>?_
  refine⟨⟨(Pend_any gs gj gc b H1 hf.ok _ _ ((hc.row.left (sR.and (stab_S _ _))).1.1.1.right (ShelfK.stab _ _ _ _ _))).mono fun en wq hq=>?_⟩,trivial⟩
  obtain⟨A3,c3,e4,hq,ho⟩:=hq
  have hrow3:=own_row hq ho no
  have hc:=(hc.quiet hq).1
  refine⟨_,e4,trivial,?_⟩
  refine⟨?_,trivial⟩
  have hed:=eqDeeds_any H1.k.pend H1.k.pend A3 A10 c3 c10 _ _ _ hrow3 (hc.row.left (sR.and (stab_S _ _))).1.2
  rw [eqDs_refl] at hed
  refine hc.q' (hed) fun wQ hQ hc=>?_
  exact⟨rfl,hc.below⟩
 refine⟨hc.a' 1 rfl rfl ?_,trivial⟩
 refine⟨⟨(Book_any gs gj gc b H1 hf.ok _ _ ((hc.row.left sR).1.1.right (ShelfK.stab _ _ _ _ _))).mono fun en wq hq=>?_⟩,trivial⟩
 obtain⟨cB,e1,hq,hrB⟩:=hq
 obtain⟨z,rfl⟩:=hrB.stX
 have hc:=hc.sepKnow (X:=fun S w=>RepS S w H1.k.b (stX H1.k.b z)) sR (Loose.stab _ _ _ _) hq hrB (stab_S _ _)
 refine⟨_,e1,trivial,?_⟩
 refine⟨?_,trivial⟩
 have heq:=reqS_any H1.k.b H1.k.b _ _ _ _ (hc.row.left (sR.and (stab_S _ _))).2 (hc.row.left (sR.and (stab_S _ _))).1.1.2
 rw [eqS_iff.2 rfl] at heq
 refine hc.q' (heq) fun wQ hQ hc=>?_
 refine⟨⟨(Pend_any gs gj gc b H1 hf.ok _ _ ((hc.row.left (sR.and (stab_S _ _))).1.1.1.right (ShelfK.stab _ _ _ _ _))).mono fun en wq hq=>?_⟩,trivial⟩
 obtain⟨A3,c3,e4,hq,ho⟩:=hq
 have hrow3:=own_row hq ho no
 have hc:=(hc.quiet hq).1
 refine⟨_,e4,trivial,?_⟩
 refine⟨?_,trivial⟩
 have hed:=eqDeeds_any H1.k.pend H1.k.pend A3 A10 c3 c10 _ _ _ hrow3 (hc.row.left (sR.and (stab_S _ _))).1.2
 rw [eqDs_refl] at hed
 refine hc.q' (hed) fun wQ hQ hc=>?_
 exact⟨rfl,hc.below⟩
set_option maxRecDepth 100000 in
theorem shelfOwn_ct {H:Type} (enc:TypeId × Value->H) (W:World) (hw:Env W) {base:Nat}
  (v0:Value) (d0:DataW H) (p0:List MemPlace) (h0:DataW.Trod enc Tryz.prog W 0 (fun _=>true) true 22 v0 d0 p0) (k0:Value.okWide Tryz.prog W .any base 22 v0):
  Calls Tryz.prog 5 #[v0] W (RetB (.bool true) W):=by
 obtain⟨A0,c0,a0,rfl,r0,o0⟩:=open_deeds h0 k0
 exact own8_any a0 A0 c0 o0 W hw r0
end Go.Proofs.YtokglimimnelaaaGreatDoor
