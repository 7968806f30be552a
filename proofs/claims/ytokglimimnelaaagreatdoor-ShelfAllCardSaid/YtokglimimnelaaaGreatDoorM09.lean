import Derived.Test.YtokglimimnelaaaGreatDoorM08
import Derived.Test.YtokglimimnelaaaGreatDoorRows
import Derived.Test.YtokglimimnelaaaGreatDoorCards
import Derived.Test.YtokglimimnelaaaGreatDoorTie
import Derived.WalkKit
import Derived.ProofKit
import Derived.OpenShut
import Derived.Deep.DeepHandedRow
import Derived.Deep.DeepWitnessRowRef
import Derived.Lib.LaidTab
import Derived.Stop.LaidErr
import Derived.Lay
import Derived.Carry
import Derived.RowKit3
import Derived.Maps.OwnSet
import Derived.Maps.Views
import Derived.Maps.StringElems
set_option linter.unusedVariables false
set_option linter.unusedSimpArgs false
namespace Go.Proofs.YtokglimimnelaaaGreatDoor
open Go.Vc Go.RowKit Go.Fl
set_option maxRecDepth 100000
theorem low_row {w:World} {g T:Nat} {cs:List Value} (h:Blk w g T cs) (o:Nat) (xs:List Value) (hx:(cs.drop o).take xs.length=xs) (hn:xs.length<=1000):Row (fun b=>b=g) w (some ⟨g,o,none⟩) xs.length xs.length xs:=
 ⟨Nat.le_refl _,Nat.le_trans hn (by decide),fun _=>⟨_,rfl,rfl,fun j u hu=>by
  have e1:(⟨g,o,none⟩:Addr).add j=⟨g,o+j,none⟩:=Addr.add_lit _ _ _
  rw [e1,h.cell (o+j)]
  rw [<-hx,List.getElem?_take] at hu
  split at hu
  ·rw [List.getElem?_drop] at hu;exact hu
  ·cases hu⟩⟩
theorem row_cast {S:Nat->Prop} {w:World} {A B:Option Addr} {n cap:Nat} {xs:List Value} (h:Row S w A n cap xs) (e:B=A):Row S w B n cap xs:=by rw [e];exact h
set_option maxHeartbeats 1000000 in
theorem bput_any (s:Stt) (hk:∀ e∈s.l,strok e.key) (cs:List Value) (S0:Nat->Prop) (w:World) (hs:RepS S0 w s cs) (ht:Tab w):Calls Tryz.prog 108 #[.agg cs.toArray] w (RetB (.string ⟨(putStt s).toArray⟩) w):=by
 obtain⟨A,cap,css,B,cap',l0,l1,l2,l3,l4,rfl,el,hE,hR,hM⟩:=hs.shape
 refine vE Tryz.func108 ?_
 intro g1 w1 h1
 have hc:=((CtxF.start w no (fun _ h=>h.elim) (R:=fun _ _=>True) trivial Stab.true).loc h1).1
 refine hc.a 0 rfl rfl ?_
 refine hc.q (bmay_any s hk _ S0 w1 (hs.below hc.below)) fun w2 h2 hc=>?_
 rcases Bool.eq_false_or_eq_true (mayS s) with hm | hm
 rotate_left
 ·refine split_t (by show (!mayS s)=true;rw [hm];rfl) ?_
  refine⟨?_,hc.below⟩
  rw [putStt,hm]
  rfl
 refine split_f (by show (!mayS s)=false;rw [hm];rfl) ?_
 obtain⟨_,⟨hl40,hm100⟩,hris,_,_⟩:=mayS_parts.1 hm
 have hv12:∀ e∈s.l,e.vs.length<=1000000:=fun e he=>by
  have:=(mayE_parts.1 (((risE_iff _ _ _).1 hris).1 e he).1).2.2.2
  omega
 refine hc.n fun g3 w3 h3 hc=>?_
 refine⟨hc.may 0 rfl 0 _ (nle rfl) rfl,?_⟩
 intro w4 h4
 have hc:=(hc.set 0 rfl h4).1
 have hlt:∀ b,b<w4.heap.size->b<w4.heap.size:=fun _ h=>h
 refine vD (.Q [0,1,3,4,5,7,8,9,11,12] (.n 2 (.n 6 (.n 10 (.n 13 (.n 14 (.n 15 (.n 16 (.q 17 .fin) .stop) .stop) .stop) .stop) .stop) .stop) .stop)) (Keeps (fun b=>b<w4.heap.size) w4) (Keeps.start _ _) ?_
 have hk1:=Keeps.start (fun b=>b<w4.heap.size) w4
 refine⟨_,fun x hx=>hx.look (hc.cell 1 rfl _ rfl),?_⟩
 refine⟨_,fun x hx=>hx.look (hc.cell 1 rfl _ rfl),?_⟩
 refine⟨_,fun x hx=>hx.look (hc.cell 1 rfl _ rfl),?_⟩
 refine⟨⟨by decide,by decide,by decide,by decide⟩,?_⟩
 have hc:=hc.drew
 refine⟨call_b (bnum_any s.seq _) ?_,trivial⟩
 intro w5 h5
 have hc:=(hc.quiet h5).1.know (X:=fun S w=>RepC S w (vNum s.seq) [.int .i64 1,.int .i64 s.seq,.string ⟨#[]⟩,.slice none 0 0]) (RepC.leaf _ _ 1 s.seq ⟨#[]⟩) (stab_C _ _)
 have hk1:=hk1.below hlt h5
 refine⟨hk1,?_⟩
 refine⟨⟨(listEnt_any s.l css A cap S0 _ ⟨g3,0,none⟩ (hc.cell 0 rfl _ rfl) (hE.below hc.below) hv12 (hR.below hc.below) (by omega)).mono fun en w6 hq=>?_⟩,trivial⟩
 obtain⟨ka,na,sa,Aa,la,ca,e1,h6,hrep⟩:=hq
 have hc:=(hc.call h6).1.know (hrep.sub fun b h=>h.elim (fun h=>h.elim) .inr) (stab_C _ _)
 have hk1:=hk1.below hlt h6
 refine⟨_,e1,hk1,?_⟩
 refine⟨⟨(listMem_any s.ms B cap' S0 _ (hM.below hc.below) (by omega)).mono fun en w7 hq=>?_⟩,trivial⟩
 obtain⟨kb,nb,sb,Ab,lb,cb,e1,h7,hrep⟩:=hq
 have hc:=(hc.call h7).1.know (hrep.sub fun b h=>h.elim (fun h=>h.elim) .inr) (stab_C _ _)
 have hk1:=hk1.below hlt h7
 refine⟨_,e1,hk1,?_⟩
 refine⟨⟨(listInt_any [l0,l1,l2,l3,l4] _ _ (fun b=>b=g1) _ (row_cast (low_row (hc.blk 1 rfl) 3 [.int .i64 l0,.int .i64 l1,.int .i64 l2,.int .i64 l3,.int .i64 l4] rfl (nle rfl)) (front_eq _ 5 1)) (nle rfl)).mono fun en w8 hq=>?_⟩,trivial⟩
 obtain⟨kd,nd,sd,Ad,ld,cd,e1,h8,hrep⟩:=hq
 have hc:=(hc.call h8).1.know (hrep.sub fun b h=>h.elim (fun h=>h.elim) .inr) (stab_C _ _)
 have hk1:=hk1.below hlt h8
 refine⟨_,e1,hk1,?_⟩
 refine⟨fun g9 w9 h9=>?_,trivial⟩
 have hc:=hc.made h9 4 4 rfl (by decide)
 have hk1:=hk1.below hlt h9.below
 refine⟨hk1,?_⟩
 refine⟨hc.q (brow_any (some ⟨g9,0,none⟩) 4 4 _) fun w10 h10 hc=>?_,trivial⟩
 have hk1:=hk1.below hlt h10
 refine⟨hk1,?_⟩
 obtain⟨S2,_,hc⟩:=hc.told
 have hrep:RepC S2 w10 (vStt s) [.int .i64 3,.int .i64 0,.string ⟨#[]⟩,.slice (some ⟨g9,0,none⟩) 4 4]:=by
  have ho:=hc.row
  rw [vStt,el,vRow,RepC]
  exact⟨some ⟨g9,0,none⟩,4,_,rfl,.cons ho.1.1.1.1.2 (.cons ho.1.1.1.2 (.cons ho.1.1.2 (.cons ho.1.2 (.nil _ _)))),ho.2⟩
 have h5:s.lows.length=5:=by rw [el];rfl
 have hsz:(putV (vStt s)).length<=1073741824:=by
  have h1:=txt_vStt s h5 hm
  have h3:=putV_len (vStt s)
  have:=dec_len7 (u:=(txtV (vStt s)).length) (by omega)
  omega
 refine⟨hc.q (vput_any (vStt s) (okV_vStt s hm) hsz 3 0 ⟨#[]⟩ _ 4 4 _ _ hrep (ht.below hc.below)) fun w11 h11 hc=>?_,trivial⟩
 have hk1:=hk1.below hlt h11
 refine⟨hk1,?_⟩
 refine⟨?_,hc.below⟩
 rw [putStt,if_pos hm]
 rfl
def cellsV (v:V) (A:Option Addr) (cap:Nat):List Value:=[.int .i64 (vK v),.int .i64 (vN v),.string (vS v),.slice A (vL v).length cap]
theorem RepC.cells {S:Nat->Prop} {w:World} {v:V} {cs:List Value} (h:RepC S w v cs):∃ A cap,cs=cellsV v A cap:=by
 obtain⟨k,n,s,l⟩:=v
 rw [RepC] at h
 obtain⟨A,cap,xs,e,_,_⟩:=h
 exact⟨A,cap,e⟩
theorem RepC.rows {S:Nat->Prop} {w:World} {v:V} {A:Option Addr} {cap:Nat} (h:RepC S w v (cellsV v A cap)):∃ xs,RepL S w (vL v) xs/\Row S w A (vL v).length cap xs:=by
 obtain⟨k,n,s,l⟩:=v
 rw [RepC] at h
 obtain⟨A',cap',xs,e,h1,h2⟩:=h
 cases e
 exact⟨xs,h1,h2⟩
def RetW (u:V) (S:Nat->Prop) (w:World) (en:Ending) (w':World):Prop:=∃ A cap,en=.returned (.agg (cellsV u A cap).toArray)/\Below w.heap.size w w'/\RepC S w' u (cellsV u A cap)
theorem batV_any (v:V) (i:Nat) (A:Option Addr) (cap:Nat) (S:Nat->Prop) (w:World) (hr:RepC S w v (cellsV v A cap)):Calls Tryz.prog 122 #[.agg (cellsV v A cap).toArray,.int .i64 i] w (RetW (atV v i) S w):=by
 obtain⟨xs,hL,hR⟩:=hr.rows
 refine vE Tryz.func122 ?_
 intro g1 w1 h1
 have hc:=((CtxF.start w no (fun _ h=>h.elim) (R:=fun _ _=>True) trivial Stab.true).loc h1).1
 refine hc.n fun g2 w2 h2 hc=>?_
 refine⟨_,hc.cell 1 rfl _ rfl,?_⟩
 rcases Nat.lt_or_ge i (vL v).length with hi | hi
 rotate_left
 ·refine split_t (decide_eq_true (by omega)) ?_
  refine hc.s 0 rfl fun wS hS hc=>?_
  refine hc.a 0 rfl rfl ?_
  have e:atV v i=V0:=by unfold atV;rw [List.getD_eq_getElem?_getD,List.getElem?_eq_none hi];rfl
  rw [e]
  exact⟨none,0,rfl,hc.below,RepC.V0 _ _⟩
 refine split_f (decide_eq_false (by omega)) ?_
 have e:atV v i=(vL v)[i]:=by unfold atV;rw [List.getD_eq_getElem?_getD,List.getElem?_eq_getElem hi];rfl
 obtain⟨ad,cs,rfl,hrep,hl4,hcell⟩:=Rep.elem hL hR i hi
 have hcell:=cellsAt_later hc.below _ _ hcell
 obtain⟨A2,cap2,rfl⟩:=hrep.cells
 rw [e]
 generalize (vL v)[i]=u at*
 refine⟨_,hc.cell 1 rfl _ rfl,?_⟩
 refine⟨⟨by omega,by omega⟩,?_⟩
 refine⟨cellsV u A2 cap2,rfl,hcell,?_⟩
 refine⟨hc.may 0 rfl 0 _ (Nat.le_refl 4) rfl,?_⟩
 intro w3 h3
 have hc:=(hc.set 0 rfl h3).1
 refine hc.a 0 rfl rfl ?_
 exact⟨A2,cap2,rfl,hc.below,hrep.below hc.below⟩
theorem read1_any (v:V) (A:Option Addr) (cap:Nat) (S:Nat->Prop) (w:World) (hr:RepC S w v (cellsV v A cap)):Calls Tryz.prog 121 #[.agg (cellsV v A cap).toArray] w (RetB (.agg (verC (verV v)).toArray) w):=by
 refine vE Tryz.func121 ?_
 intro g1 w1 h1
 have hc:=((Ctx.start w no (fun _ h=>h.elim)).loc h1).1
 refine hc.n fun g2 w3 h3 hc=>?_
 have b1:=hc.blk 1 rfl
 have hlt:∀ b,(fun b=>b=g1) b->b<w3.heap.size:=fun b e=>by subst e;exact b1.lt
 refine vD (.Q [0,3,7] (.n 1 (.q 2 (.n 4 (.Q [5,6] (.n 8 (.Q [9,10] (.z 11)) .stop)) .stop)) .stop)) (Keeps (fun b=>b=g1) w3) (Keeps.start _ _) ?_
 have hk:=Keeps.start (fun b=>b=g1) w3
 have hc:=hc.drew
 iterate 3 (refine⟨cellsV v A cap,?_,fun x hx=>hx.cells b1 rfl,?_⟩;(· rfl))
 refine⟨⟨(batV_any v 0 A cap S _ (hr.below hc.below)).mono fun en wq hq=>?_⟩,trivial⟩
 obtain⟨A0,cap0,e1,hq,_⟩:=hq
 have hc:=(hc.quiet hq).1
 have hk:=hk.below hlt hq
 refine⟨_,e1,hk,?_⟩
 refine⟨⟨(batV_any v 1 A cap S _ (hr.below hc.below)).mono fun en wq hq=>?_⟩,trivial⟩
 obtain⟨A1,cap1,e1,hq,_⟩:=hq
 have hc:=(hc.quiet hq).1
 have hk:=hk.below hlt hq
 refine⟨_,e1,hk,?_⟩
 refine⟨⟨(batV_any v 2 A cap S _ (hr.below hc.below)).mono fun en wq hq=>?_⟩,trivial⟩
 obtain⟨A2,cap2,e1,hq,_⟩:=hq
 have hc:=(hc.quiet hq).1
 have hk:=hk.below hlt hq
 refine⟨_,e1,hk,?_⟩
 refine⟨hc.may 0 rfl 0 _ (Nat.le_refl 3) rfl,?_⟩
 intro w5 h5
 have hc:=(hc.set 0 rfl h5).1
 refine hc.a 0 rfl rfl ?_
 exact⟨rfl,hc.below⟩
theorem read3_any (v:V) (A:Option Addr) (cap:Nat) (S:Nat->Prop) (w:World) (hr:RepC S w v (cellsV v A cap)):Calls Tryz.prog 127 #[.agg (cellsV v A cap).toArray] w (RetB (.agg (memC (memV v)).toArray) w):=by
 refine vE Tryz.func127 ?_
 intro g1 w1 h1
 have hc:=((Ctx.start w no (fun _ h=>h.elim)).loc h1).1
 refine hc.n fun g2 w3 h3 hc=>?_
 have b1:=hc.blk 1 rfl
 have hlt:∀ b,(fun b=>b=g1) b->b<w3.heap.size:=fun b e=>by subst e;exact b1.lt
 refine vD (.Q [0,3,6] (.n 1 (.q 2 (.n 4 (.q 5 (.n 7 (.Q [8,9,10] (.z 11)) .stop)) .stop)) .stop)) (Keeps (fun b=>b=g1) w3) (Keeps.start _ _) ?_
 have hk:=Keeps.start (fun b=>b=g1) w3
 have hc:=hc.drew
 iterate 3 (refine⟨cellsV v A cap,?_,fun x hx=>hx.cells b1 rfl,?_⟩;(· rfl))
 refine⟨⟨(batV_any v 0 A cap S _ (hr.below hc.below)).mono fun en wq hq=>?_⟩,trivial⟩
 obtain⟨A0,cap0,e1,hq,_⟩:=hq
 have hc:=(hc.quiet hq).1
 have hk:=hk.below hlt hq
 refine⟨_,e1,hk,?_⟩
 refine⟨⟨(batV_any v 1 A cap S _ (hr.below hc.below)).mono fun en wq hq=>?_⟩,trivial⟩
 obtain⟨A1,cap1,e1,hq,_⟩:=hq
 have hc:=(hc.quiet hq).1
 have hk:=hk.below hlt hq
 refine⟨_,e1,hk,?_⟩
 refine⟨⟨(batV_any v 2 A cap S _ (hr.below hc.below)).mono fun en wq hq=>?_⟩,trivial⟩
 obtain⟨A2,cap2,e1,hq,_⟩:=hq
 have hc:=(hc.quiet hq).1
 have hk:=hk.below hlt hq
 refine⟨_,e1,hk,?_⟩
 refine⟨hc.may 0 rfl 0 _ (Nat.le_refl 3) rfl,?_⟩
 intro w5 h5
 have hc:=(hc.set 0 rfl h5).1
 refine hc.a 0 rfl rfl ?_
 exact⟨rfl,hc.below⟩
theorem stab_row (A:Option Addr) (n cap:Nat) (xs:List Value):Stab (fun S w=>Row S w A n cap xs):=fun _ _ _ _ h f=>h.fut f
theorem stab_Es (l:List Ent) (css:List (List Value)):Stab (fun S w=>RepEs S w l css):=fun _ _ _ _ h f=>RepEs.map (fun h=>h.fut f) h
theorem RepEs.snoc {S:Nat->Prop} {w:World} {l:List Ent} {css:List (List Value)} {e:Ent} {c:List Value} (h:RepEs S w l css) (hc:RepE S w e c):RepEs S w (l++[e]) (css++[c]):=h.append ⟨c,[],rfl,hc,rfl⟩
set_option maxHeartbeats 1000000 in
theorem someVer_any (v:V) (A:Option Addr) (cap:Nat) (S0:Nat->Prop) (w:World) (hr:RepC S0 w v (cellsV v A cap)) (hn:(vL v).length<=1000000) :
  Calls Tryz.prog 125 #[.agg (cellsV v A cap).toArray,.func (.func 121) #[] #[]] w (fun en w'=>∃ A2 c2,en=.returned (.slice A2 ((vL v).map verV).length c2)/\Below w.heap.size w w'/\Row (ext no w w') w' A2 ((vL v).map verV).length c2 (((vL v).map verV).map verC).flatten):=by
 obtain⟨ys,hL,hR⟩:=hr.rows
 refine vE Tryz.func125 ?_
 intro g2 w1 h1
 have hc:=((CtxF.start w no (fun _ h=>h.elim) (R:=fun S w=>True) trivial (Stab.true)).loc h1).1
 have hc:=hc.nil 52 3
 refine⟨_,hc.cell 0 rfl _ rfl,?_⟩
 refine⟨Nat × Option Addr × Nat,fun x=>[(1,.func (.func 121) #[] #[]),(5,.slice x.2.1 x.1 x.2.2),(9,.slice A (vL v).length cap),(10,.int .i64 (vL v).length),(11,.int .i64 x.1)],
  fun x w'=>x.1<=(vL v).length/\∃ S css,CtxF no w S w' [(g2,108,cellsV v A cap)] [⟨52,3,x.2.1,x.1,x.2.2,css⟩] (fun S w=>True)/\css=((((vL v).take x.1).map verV).map verC).flatten,
  fun x _=>(vL v).length-x.1,(0,none,0),⟨rfl,rfl,rfl,rfl,rfl,trivial⟩,⟨Nat.zero_le _,no,[],hc,rfl⟩,?_⟩
 clear hc
 rintro⟨i,A',cap'⟩ w4 u ⟨hi,S,css,hc,hcs⟩
 simp only at hi hc
 by_cases hlt:i<(vL v).length
 ·refine split_t (decide_eq_true (by omega)) ?_
  obtain⟨ad,cs,rfl,hrep,hl4,hcell⟩:=Rep.elem hL hR i hlt
  have hcell:=cellsAt_later hc.below _ _ hcell
  obtain⟨A1,cap1,rfl⟩:=hrep.cells
  have hmem:(vL v)[i]∈vL v:=List.getElem_mem hlt
  have et:((vL v).take (i+1)).map verV=((vL v).take i).map verV++[verV (vL v)[i]]:=by rw [List.take_add_one,List.getElem?_eq_getElem hlt,List.map_append];rfl
  generalize (vL v)[i]=x at*
  refine⟨⟨by first | omega | (simp only;omega),by first | omega | (simp only;omega)⟩,?_⟩
  refine⟨cellsV x A1 cap1,rfl,hcell,?_⟩
  refine hc.n fun g7 w7 h7 hc=>?_
  refine⟨hc.may 0 rfl 0 _ (Nat.le_refl 4) rfl,?_⟩
  intro w8 h8
  have hc:=(hc.set 0 rfl h8).1
  refine⟨cellsV x A1 cap1,rfl,hc.cells 0 rfl,?_⟩
  refine hc.q (read1_any x A1 cap1 S0 _ (hrep.below hc.below)) fun w9 h9 hc=>?_
  refine hc.n fun g20 w10 h10 hc=>?_
  refine app_ownF Tryz.underlying48 info_V rfl (by decide) hc (ys:=verC (verV x)) (m:=1) rfl (hc.cells 0 rfl) rfl (by omega) (by decide) rfl rfl ?_
  intro A2 cap2 w11 hc
  exact⟨(i+1,A2,cap2),⟨rfl,rfl,rfl,rfl,congrArg _ (i_down (by first | omega | (simp only;omega))),trivial⟩,⟨hlt,_,_,hc.drop.drop,by simp only;rw [et,List.map_append,List.flatten_append,hcs];simp⟩,by show (vL v).length-(i+1)<(vL v).length-i;omega⟩
 ·refine split_f (decide_eq_false (by first | omega | (simp only;omega))) ?_
  have hi:i=(vL v).length:=by omega
  subst hi
  rw [List.take_length] at*
  obtain⟨S2,_,hc⟩:=hc.told
  have ho:=hc.out
  subst hcs
  exact⟨A',cap',by rw [List.length_map];rfl,hc.below,by rw [List.length_map];exact ho.2⟩
theorem read2_any (v:V) (A:Option Addr) (cap:Nat) (S0:Nat->Prop) (w:World) (hr:RepC S0 w v (cellsV v A cap)) (hn:(vL (atV v 1)).length<=1000000) (a:Addr) (ha:w.cell? a=some (.func (.func 121) #[] #[])):
  Calls Tryz.prog 124 #[.agg (cellsV v A cap).toArray,.pointer (some a)] w (fun en w'=>∃ A2 c2,en=.returned (.agg #[.string (entV v).key,.slice A2 (entV v).vs.length c2])/\Below w.heap.size w w'/\Row (ext no w w') w' A2 (entV v).vs.length c2 ((entV v).vs.map verC).flatten):=by
 obtain⟨ab,ao,asub⟩:=a
 refine vE Tryz.func124 ?_
 intro g1 w1 h1
 have hc:=((CtxF.start w no (fun _ h=>h.elim) (R:=fun _ _=>True) trivial Stab.true).loc h1).1
 refine hc.n fun g2 w3 h3 hc=>?_
 have hlt:∀ b,b<w3.heap.size->b<w3.heap.size:=fun _ h=>h
 have ha:=cell_later hc.below ha
 refine vD (.Q [0,3,5] (.n 1 (.q 2 (.n 4 (.n 6 (.q 7 (.z 8)) .stop) .stop)) .stop)) (Keeps (fun b=>b<w3.heap.size) w3) (Keeps.start _ _) ?_
 have hk:=Keeps.start (fun b=>b<w3.heap.size) w3
 iterate 2 (refine⟨cellsV v A cap,?_,fun x hx=>hx.looks _ _ (hc.cells 1 rfl),?_⟩;(· rfl))
 refine⟨_,fun x hx=>hx.look ha,?_⟩
 have hc:=hc.drew
 refine⟨⟨(batV_any v 0 A cap S0 _ (hr.below hc.below)).mono fun en wq hq=>?_⟩,trivial⟩
 obtain⟨A0,cap0,e1,hq,_⟩:=hq
 have hc:=(hc.quiet hq).1
 have hk:=hk.below hlt hq
 refine⟨_,e1,hk,?_⟩
 refine⟨⟨(batV_any v 1 A cap S0 _ (hr.below hc.below)).mono fun en wq hq=>?_⟩,trivial⟩
 obtain⟨A1,cap1,e1,hq,hrep⟩:=hq
 have hc:=(hc.quiet hq).1
 have hk:=hk.below hlt hq
 refine⟨_,e1,hk,?_⟩
 refine⟨⟨(someVer_any (atV v 1) A1 cap1 S0 _ hrep hn).mono fun en w5 hq=>?_⟩,trivial⟩
 obtain⟨A2,c2,e1,h5,hrow⟩:=hq
 have hc:=(hc.call h5).1.know (hrow.sub fun b h=>h.elim (fun h=>h.elim) .inr) (stab_row _ _ _ _)
 have hk:=hk.below hlt h5
 refine⟨_,e1,hk,?_⟩
 refine⟨hc.may 0 rfl 0 _ (Nat.le_refl 2) rfl,?_⟩
 intro w8 h8
 have hc:=(hc.set 0 rfl h8).1
 refine hc.a 0 rfl rfl ?_
 exact⟨A2,c2,rfl,hc.below,hc.out.2⟩
set_option maxHeartbeats 1000000 in
theorem someMem_any (v:V) (A:Option Addr) (cap:Nat) (S0:Nat->Prop) (w:World) (hr:RepC S0 w v (cellsV v A cap)) (hn:(vL v).length<=1000000) :
  Calls Tryz.prog 126 #[.agg (cellsV v A cap).toArray,.func (.func 127) #[] #[]] w (fun en w'=>∃ A2 c2,en=.returned (.slice A2 ((vL v).map memV).length c2)/\Below w.heap.size w w'/\Row (ext no w w') w' A2 ((vL v).map memV).length c2 (((vL v).map memV).map memC).flatten):=by
 obtain⟨ys,hL,hR⟩:=hr.rows
 refine vE Tryz.func126 ?_
 intro g2 w1 h1
 have hc:=((CtxF.start w no (fun _ h=>h.elim) (R:=fun S w=>True) trivial (Stab.true)).loc h1).1
 have hc:=hc.nil 56 3
 refine⟨_,hc.cell 0 rfl _ rfl,?_⟩
 refine⟨Nat × Option Addr × Nat,fun x=>[(1,.func (.func 127) #[] #[]),(5,.slice x.2.1 x.1 x.2.2),(9,.slice A (vL v).length cap),(10,.int .i64 (vL v).length),(11,.int .i64 x.1)],
  fun x w'=>x.1<=(vL v).length/\∃ S css,CtxF no w S w' [(g2,108,cellsV v A cap)] [⟨56,3,x.2.1,x.1,x.2.2,css⟩] (fun S w=>True)/\css=((((vL v).take x.1).map memV).map memC).flatten,
  fun x _=>(vL v).length-x.1,(0,none,0),⟨rfl,rfl,rfl,rfl,rfl,trivial⟩,⟨Nat.zero_le _,no,[],hc,rfl⟩,?_⟩
 clear hc
 rintro⟨i,A',cap'⟩ w4 u ⟨hi,S,css,hc,hcs⟩
 simp only at hi hc
 by_cases hlt:i<(vL v).length
 ·refine split_t (decide_eq_true (by omega)) ?_
  obtain⟨ad,cs,rfl,hrep,hl4,hcell⟩:=Rep.elem hL hR i hlt
  have hcell:=cellsAt_later hc.below _ _ hcell
  obtain⟨A1,cap1,rfl⟩:=hrep.cells
  have hmem:(vL v)[i]∈vL v:=List.getElem_mem hlt
  have et:((vL v).take (i+1)).map memV=((vL v).take i).map memV++[memV (vL v)[i]]:=by rw [List.take_add_one,List.getElem?_eq_getElem hlt,List.map_append];rfl
  generalize (vL v)[i]=x at*
  refine⟨⟨by first | omega | (simp only;omega),by first | omega | (simp only;omega)⟩,?_⟩
  refine⟨cellsV x A1 cap1,rfl,hcell,?_⟩
  refine hc.n fun g7 w7 h7 hc=>?_
  refine⟨hc.may 0 rfl 0 _ (Nat.le_refl 4) rfl,?_⟩
  intro w8 h8
  have hc:=(hc.set 0 rfl h8).1
  refine⟨cellsV x A1 cap1,rfl,hc.cells 0 rfl,?_⟩
  refine hc.q (read3_any x A1 cap1 S0 _ (hrep.below hc.below)) fun w9 h9 hc=>?_
  refine hc.n fun g20 w10 h10 hc=>?_
  refine app_ownF Tryz.underlying40 info_M rfl (by decide) hc (ys:=memC (memV x)) (m:=1) rfl (hc.cells 0 rfl) rfl (by omega) (by decide) rfl rfl ?_
  intro A2 cap2 w11 hc
  exact⟨(i+1,A2,cap2),⟨rfl,rfl,rfl,rfl,congrArg _ (i_down (by first | omega | (simp only;omega))),trivial⟩,⟨hlt,_,_,hc.drop.drop,by simp only;rw [et,List.map_append,List.flatten_append,hcs];simp⟩,by show (vL v).length-(i+1)<(vL v).length-i;omega⟩
 ·refine split_f (decide_eq_false (by first | omega | (simp only;omega))) ?_
  have hi:i=(vL v).length:=by omega
  subst hi
  rw [List.take_length] at*
  obtain⟨S2,_,hc⟩:=hc.told
  have ho:=hc.out
  subst hcs
  exact⟨A',cap',by rw [List.length_map];rfl,hc.below,by rw [List.length_map];exact ho.2⟩
set_option maxHeartbeats 1000000 in
theorem someEnt_any (v:V) (A:Option Addr) (cap:Nat) (S0:Nat->Prop) (w:World) (hr:RepC S0 w v (cellsV v A cap)) (hn:(vL v).length<=1000000) (hn2:∀ x∈vL v,(vL (atV x 1)).length<=1000000) (a:Addr) (ha:w.cell? a=some (.func (.func 121) #[] #[])):
  Calls Tryz.prog 123 #[.agg (cellsV v A cap).toArray,.func (.func 124) #[] #[.pointer (some a)]] w (fun en w'=>∃ A2 c2 css,en=.returned (.slice A2 ((vL v).map entV).length c2)/\Below w.heap.size w w'/\RepEs (ext no w w') w' ((vL v).map entV) css/\Row (ext no w w') w' A2 ((vL v).map entV).length c2 css.flatten):=by
 obtain⟨ys,hL,hR⟩:=hr.rows
 refine vE Tryz.func123 ?_
 intro g2 w1 h1
 have hc:=((CtxF.start w no (fun _ h=>h.elim) (R:=fun S w=>RepEs S w [] []) rfl (stab_Es _ _)).loc h1).1
 have hc:=hc.nil 50 2
 refine⟨_,hc.cell 0 rfl _ rfl,?_⟩
 refine⟨Nat × Option Addr × Nat,fun x=>[(1,.func (.func 124) #[] #[.pointer (some a)]),(5,.slice x.2.1 x.1 x.2.2),(9,.slice A (vL v).length cap),(10,.int .i64 (vL v).length),(11,.int .i64 x.1)],
  fun x w'=>x.1<=(vL v).length/\∃ S css,CtxF no w S w' [(g2,108,cellsV v A cap)] [⟨50,2,x.2.1,x.1,x.2.2,css.flatten⟩] (fun S w=>RepEs S w (((vL v).take x.1).map entV) css)/\True,
  fun x _=>(vL v).length-x.1,(0,none,0),⟨rfl,rfl,rfl,rfl,rfl,trivial⟩,⟨Nat.zero_le _,no,[],hc,trivial⟩,?_⟩
 clear hc
 rintro⟨i,A',cap'⟩ w4 u ⟨hi,S,css,hc,hcs⟩
 simp only at hi hc
 by_cases hlt:i<(vL v).length
 ·refine split_t (decide_eq_true (by omega)) ?_
  obtain⟨ad,cs,rfl,hrep,hl4,hcell⟩:=Rep.elem hL hR i hlt
  have hcell:=cellsAt_later hc.below _ _ hcell
  obtain⟨A1,cap1,rfl⟩:=hrep.cells
  have hmem:(vL v)[i]∈vL v:=List.getElem_mem hlt
  have et:((vL v).take (i+1)).map entV=((vL v).take i).map entV++[entV (vL v)[i]]:=by rw [List.take_add_one,List.getElem?_eq_getElem hlt,List.map_append];rfl
  generalize (vL v)[i]=x at*
  refine⟨⟨by first | omega | (simp only;omega),by first | omega | (simp only;omega)⟩,?_⟩
  refine⟨cellsV x A1 cap1,rfl,hcell,?_⟩
  refine hc.n fun g7 w7 h7 hc=>?_
  refine⟨hc.may 0 rfl 0 _ (Nat.le_refl 4) rfl,?_⟩
  intro w8 h8
  have hc:=(hc.set 0 rfl h8).1
  refine⟨cellsV x A1 cap1,rfl,hc.cells 0 rfl,?_⟩
  refine⟨(read2_any x A1 cap1 S0 _ (hrep.below hc.below) (hn2 x hmem) a (cell_later hc.below ha)).mono fun en w9 hq=>?_⟩
  obtain⟨A3,c3,e1,h9,hrow⟩:=hq
  have hc:=(hc.call h9).1.know (hrow.sub fun b h=>h.elim (fun h=>h.elim) .inr) (stab_row _ _ _ _)
  refine⟨_,e1,?_⟩
  refine hc.n fun g20 w10 h10 hc=>?_
  refine app_ownF Tryz.underlying39 info_E rfl (by decide) hc (ys:=[.string (entV x).key,.slice A3 (entV x).vs.length c3]) (m:=1) rfl (hc.cells 0 rfl) rfl (by omega) (by decide) rfl rfl ?_
  intro A2 cap2 w11 hc
  have hf:=hc.drop.drop.now (X:=fun S w=>RepEs S w (((vL v).take i).map entV++[entV x]) (css++[[.string (entV x).key,.slice A3 (entV x).vs.length c3]])) (fun h=>RepEs.snoc h.1 ⟨A3,c3,rfl,h.2⟩) (stab_Es _ _)
  have ef:css.flatten++[Value.string (entV x).key,Value.slice A3 (entV x).vs.length c3]=(css++[[Value.string (entV x).key,Value.slice A3 (entV x).vs.length c3]]).flatten:=by rw [List.flatten_append];simp
  rw [<-et,ef] at hf
  exact⟨(i+1,A2,cap2),⟨rfl,rfl,rfl,rfl,congrArg _ (i_down (by first | omega | (simp only;omega))),trivial⟩,⟨hlt,_,_,hf,trivial⟩,by show (vL v).length-(i+1)<(vL v).length-i;omega⟩
 ·refine split_f (decide_eq_false (by first | omega | (simp only;omega))) ?_
  have hi:i=(vL v).length:=by omega
  subst hi
  rw [List.take_length] at*
  obtain⟨S2,_,hc⟩:=hc.told
  have ho:=hc.out
  exact⟨A',cap',css,by rw [List.length_map];rfl,hc.below,ho.1,by rw [List.length_map];exact ho.2⟩
set_option maxRecDepth 100000
theorem hasPre_any (s p:ByteArray) (w:World):Calls Tryz.prog 195 #[.string s,.string p] w (RetB (.bool (hasPre s p)) w):=
 (Tryz.strings_HasPrefix s p w).mono fun e w' h=>⟨h.1,by rw [h.2];exact Below.refl _ _⟩
theorem clamp1 (n:Int):(if (20:Int)<(if (1:Int) > n then 1 else n) then 20 else (if (1:Int) > n then 1 else n))=(clampN n:Int):=by
 unfold clampN
 split<;>split<;>omega
theorem clamp_range (n:Int):1<=clampN n/\clampN n<=20:=by unfold clampN;omega
def pcond (pre after:ByteArray) (now:Bool) (e:Ent):Bool:=hasPre e.key pre&&strLt after e.key&&(!now||(nowE e).2)
theorem pageL_snoc (pre after:ByteArray) (now:Bool) (l:List Ent) (i:Nat) (hi:i<l.length):pageL (l.take (i+1)) pre after now=pageL (l.take i) pre after now++(if pcond pre after now l[i]=true then [l[i]] else []):=by
 rw [List.take_add_one,List.getElem?_eq_getElem hi]
 unfold pageL
 show List.filter _ (l.take i++[l[i]])=_
 rw [List.filter_append,List.filter_cons]
 unfold pcond
 cases (hasPre l[i].key pre&&strLt after l[i].key&&(!now||(nowE l[i]).2))<;>rfl
theorem names1_any (e:Ent) (A:Option Addr) (cap:Nat) (S:Nat->Prop) (w:World) (hR:Row S w A e.vs.length cap (e.vs.map verC).flatten):Calls Tryz.prog 150 #[.agg #[.string e.key,.slice A e.vs.length cap]] w (RetB (.bool (!true||(nowE e).2)) w):=by
 refine vE Tryz.func150 ?_
 have hc:=CtxF.start w no (fun _ h=>h.elim) (R:=fun _ _=>True) trivial Stab.true
 refine hc.n fun g1 wg1 hg1 hc=>?_
 refine hc.a 0 rfl rfl ?_
 refine hc.q (now_any e A cap S _ (hR.below hc.below)) fun wQ hQ hc=>?_
 refine hc.n fun g3 wg3 hg3 hc=>?_
 refine hc.s 0 rfl fun wS hS hc=>?_
 exact⟨rfl,hc.below⟩
def RetP (S:Nat->Prop) (q:List Ent × Bool) (w:World) (en:Ending) (w':World):Prop:=
 ∃ A c css,en=.returned (.tuple #[.slice A q.1.length c,.bool q.2])/\Below w.heap.size w w'/\RepEs (ext S w w') w' q.1 css/\Row (ext S w w') w' A q.1.length c css.flatten
theorem RepEs.takeRow {S:Nat->Prop} {w:World} {l:List Ent} {css:List (List Value)} {A:Option Addr} {c:Nat} (hE:RepEs S w l css) (hR:Row S w A l.length c css.flatten) (k:Nat) (hk:k<=l.length):RepEs S w (l.take k) (css.take k)/\Row S w A k c (css.take k).flatten:=by
 refine⟨hE.take k,?_⟩
 rw [hE.flat.flat_take]
 exact hR.front 2 hk
set_option maxHeartbeats 2000000 in
theorem pageN_any (s:Stt) (pre after:ByteArray) (most:Int) (hl:s.l.length<=1000000) (hv:∀ e∈s.l,e.vs.length<=1000000) (cs:List Value) (S0:Nat->Prop) (w:World) (hs:RepS S0 w s cs):
  Calls Tryz.prog 149 #[.agg cs.toArray,.string pre,.string after,.int .i64 most,.func (.func 150) #[] #[]] w (RetP no (pageS s pre after most true) w):=by
 obtain⟨A,cap,css0,B,cap',l0,l1,l2,l3,l4,rfl,el,hE,hR,hM⟩:=hs.shape
 refine vE Tryz.func149 ?_
 have hc:=CtxF.start w no (fun _ h=>h.elim) (R:=fun S w=>RepEs S w [] []) rfl (RepEs.stab _ _)
 refine hc.n fun g5 wg5 hg5 hc=>?_
 refine⟨_,hc.cell 0 rfl _ rfl,?_⟩
 have hc:=hc.nil 50 2
 have hcr:=clamp_range most
 refine⟨Nat × Option Addr × Nat,fun x=>[(1,.string pre),(2,.string after),(3,.int .i64 (clampN most:Int)),(4,.func (.func 150) #[] #[]),(12,.slice x.2.1 (pageL (s.l.take x.1) pre after true).length x.2.2),(19,.slice A s.l.length cap),(20,.int .i64 s.l.length),(21,.int .i64 x.1)],
  fun x w'=>x.1<=s.l.length/\∃ S css,CtxF no w S w' [(g5,43,stC s A cap B cap' l0 l1 l2 l3 l4)] [⟨50,2,x.2.1,(pageL (s.l.take x.1) pre after true).length,x.2.2,css.flatten⟩] (fun S w=>RepEs S w (pageL (s.l.take x.1) pre after true) css),
  fun x _=>s.l.length-x.1,(0,none,0),⟨rfl,rfl,congrArg _ (clamp1 most),rfl,rfl,rfl,rfl,rfl,trivial⟩,⟨Nat.zero_le _,no,[],hc⟩,?_⟩
 clear hc
 rintro⟨i,A',n'⟩ w4 u ⟨hi,S,css,hc⟩
 simp only at hi hc
 by_cases hlt:i<s.l.length
 ·refine split_t (decide_eq_true (by first | omega | (simp only;omega))) ?_
  obtain⟨ad,A1,cap1,rfl,hcell0,hRe⟩:=RowE.elem hR hE i hlt
  have hvx:=hv _ (List.getElem_mem hlt)
  have hps:=pageL_snoc pre after true s.l i hlt
  have hpl:(pageL (s.l.take i) pre after true).length<=i:=Nat.le_trans (List.length_filter_le ..) (by rw [List.length_take];omega)
  generalize s.l[i]=x at*
  refine⟨⟨by first | omega | (simp only;omega),by first | omega | (simp only;omega)⟩,?_⟩
  refine⟨[.string x.key,.slice A1 x.vs.length cap1],rfl,cellsAt_later hc.below _ _ hcell0,?_⟩
  refine hc.n fun g14 wg14 hg14 hc=>?_
  refine hc.s 0 rfl fun wS hS hc=>?_
  refine⟨_,hc.cell 0 rfl _ rfl,?_⟩
  refine hc.q (hasPre_any x.key pre _) fun wQ hQ hc=>?_
  have no_:∀ wz S2,CtxF no w S2 wz [(g14,50,[.string x.key,.slice A1 x.vs.length cap1]),(g5,43,stC s (some ad) cap B cap' l0 l1 l2 l3 l4)] [⟨50,2,A',(pageL (s.l.take i) pre after true).length,n',css.flatten⟩] (fun S w=>RepEs S w (pageL (s.l.take i) pre after true) css)->pcond pre after true x=false->
    pageL (s.l.take (i+1)) pre after true=pageL (s.l.take i) pre after true/\CtxF no w S2 wz [(g5,43,stC s (some ad) cap B cap' l0 l1 l2 l3 l4)] [⟨50,2,A',(pageL (s.l.take (i+1)) pre after true).length,n',css.flatten⟩] (fun S w=>RepEs S w (pageL (s.l.take (i+1)) pre after true) css):=by
   intro wz S2 h hp
   have e1:pageL (s.l.take (i+1)) pre after true=pageL (s.l.take i) pre after true:=by rw [hps,hp,if_neg (by decide),List.append_nil]
   rw [e1]
   exact⟨rfl,h.drop⟩
  rcases Bool.eq_false_or_eq_true (hasPre x.key pre) with c1 | c1
  rotate_left
  ·refine split_f c1 ?_
   obtain⟨e1,hf⟩:=no_ _ _ hc (by unfold pcond;rw [c1];rfl)
   exact⟨(i+1,A',n'),⟨rfl,rfl,rfl,rfl,by simp only [e1];rfl,rfl,rfl,congrArg _ (i_down (by first | omega | (simp only;omega))),trivial⟩,⟨hlt,_,css,hf⟩,by show s.l.length-(i+1)<s.l.length-i;omega⟩
  refine split_t c1 ?_
  refine⟨_,hc.cell 0 rfl _ rfl,?_⟩
  have etri:(!(strLt x.key after||strEq x.key after))=strLt after x.key:=by rw [<-strLt_tri after x.key,Bool.not_not]
  rcases Bool.eq_false_or_eq_true (strLt after x.key) with c2 | c2
  rotate_left
  ·refine split_f (etri.trans c2) ?_
   obtain⟨e1,hf⟩:=no_ _ _ hc (by unfold pcond;rw [c1,c2];rfl)
   exact⟨(i+1,A',n'),⟨rfl,rfl,rfl,rfl,by simp only [e1];rfl,rfl,rfl,congrArg _ (i_down (by first | omega | (simp only;omega))),trivial⟩,⟨hlt,_,css,hf⟩,by show s.l.length-(i+1)<s.l.length-i;omega⟩
  refine split_t (etri.trans c2) ?_
  refine hc.a 0 rfl rfl ?_
  refine hc.q (names1_any x A1 cap1 S0 _ (hRe.below hc.below)) fun wQ hQ hc=>?_
  rcases Bool.eq_false_or_eq_true (!true||(nowE x).2) with c3 | c3
  rotate_left
  ·refine split_f c3 ?_
   obtain⟨e1,hf⟩:=no_ _ _ hc (by unfold pcond;rw [c1,c2,c3];rfl)
   exact⟨(i+1,A',n'),⟨rfl,rfl,rfl,rfl,by simp only [e1];rfl,rfl,rfl,congrArg _ (i_down (by first | omega | (simp only;omega))),trivial⟩,⟨hlt,_,css,hf⟩,by show s.l.length-(i+1)<s.l.length-i;omega⟩
  refine split_t c3 ?_
  have e1:pageL (s.l.take (i+1)) pre after true=pageL (s.l.take i) pre after true++[x]:=by rw [hps,if_pos (by unfold pcond;rw [c1,c2,c3];rfl)]
  have e2:(pageL (s.l.take (i+1)) pre after true).length=(pageL (s.l.take i) pre after true).length+1:=by rw [e1,List.length_append];rfl
  refine vD (.Q [0,1,2,3,4] (.n 5 (.q 6 (.n 7 (.n 8 (.q 9 .fin) .stop) .stop)) .stop)) (fun z=>Blk z g14 50 [.string x.key,.slice A1 x.vs.length cap1]) (hc.blk 0 rfl) ?_
  refine⟨_,fun z hz=>hz.cell 0,?_⟩
  refine⟨_,fun z hz=>hz.cell 1,?_⟩
  have hc:=hc.drew
  refine⟨⟨(cloneV_any A1 x.vs.length cap1 (x.vs.map verC) (verC_flat _) (List.length_map _) hvx S0 _ (hRe.below hc.below)).mono fun en w9 hq=>?_⟩,trivial⟩
  obtain⟨A2,c4,e3,h9,ho⟩:=hq
  have hc:=hc.fresh h9 ho
  obtain⟨S2,_,hc⟩:=hc.told
  refine⟨_,e3,hc.blk 0 rfl,?_⟩
  refine⟨hc.n fun gb wgb hgb hc=>?_,trivial⟩
  refine⟨hc.blk 1 rfl,?_⟩
  refine⟨app_ownF Tryz.underlying39 info_E rfl (by decide) hc (ys:=[.string x.key,.slice A2 x.vs.length c4]) (m:=1) rfl (hc.cells 0 rfl) rfl (by omega) (by decide) rfl rfl ?_,trivial⟩
  intro A3 c5 w11 hc
  refine⟨hc.blk 1 rfl,?_⟩
  have hf:=hc.drop.drop.now (X:=fun S w=>RepEs S w (pageL (s.l.take i) pre after true++[x]) (css++[[.string x.key,.slice A2 x.vs.length c4]])) (fun h=>RepEs.snoc h.1 ⟨A2,c4,rfl,h.2⟩) (RepEs.stab _ _)
  have ef:css.flatten++[Value.string x.key,Value.slice A2 x.vs.length c4]=(css++[[Value.string x.key,Value.slice A2 x.vs.length c4]]).flatten:=by rw [List.flatten_append];simp
  rw [<-e1,<-e2,ef] at hf
  exact⟨(i+1,A3,c5),⟨rfl,rfl,rfl,rfl,by simp only [e2];rfl,rfl,rfl,congrArg _ (i_down (by first | omega | (simp only;omega))),trivial⟩,⟨hlt,_,_,hf⟩,by show s.l.length-(i+1)<s.l.length-i;omega⟩
 ·refine split_f (decide_eq_false (by first | omega | (simp only;omega))) ?_
  have hi:i=s.l.length:=by omega
  subst hi
  simp only [List.take_length] at hc ⊢
  obtain⟨S2,_,hc⟩:=hc.told
  have ho:=hc.out
  unfold pageS
  generalize pageL s.l pre after true=pl at*
  have hnc:=ho.2.1
  have hkk:(if (clampN most:Int)<(pl.length:Int) then (clampN most:Int) else (pl.length:Int))=((pl.take (clampN most)).length:Int):=by
   rw [List.length_take]
   split<;>omega
  have hkl:(pl.take (clampN most)).length<=pl.length:=by rw [List.length_take];omega
  have hnc:pl.length<=n':=hnc
  refine⟨⟨Int.le_refl _,by rw [hkk];omega,by rw [hkk];omega,Int.le_refl _⟩,?_⟩
  generalize hkn:(pl.take (clampN most)).length=kk at*
  have htk:pl.take kk=pl.take (clampN most):=by
   rw [<-hkn,List.length_take,Nat.min_def]
   split
   ·rfl
   ·rw [List.take_length,List.take_of_length_le (by omega)]
  obtain⟨k1,k2⟩:=RepEs.takeRow ho.1 ho.2 kk hkl
  rw [htk] at k1
  refine⟨A',n',css.take kk,?_,hc.below,k1,by rw [hkn];exact k2⟩
  show Ending.returned (.tuple #[.slice (if (n':Int)=0 then A' else A'.map (·.add ((0:Int).toNat*2))) ((if (clampN most:Int)<(pl.length:Int) then (clampN most:Int) else (pl.length:Int))-0).toNat ((n':Int)-0).toNat,.bool (decide ((clampN most:Int)<(pl.length:Int)))])=_
  rw [front_eq,hkk]
  simp only [hkn]
  have e6:((kk:Int)-0).toNat=kk:=by omega
  have e7:((n':Int)-0).toNat=n':=by omega
  have e8:decide ((clampN most:Int)<(pl.length:Int))=decide (clampN most<pl.length):=by congr 1;exact propext Int.ofNat_lt
  rw [e6,e7,e8]
theorem info_str:(Tryz.prog.info? 9).map (fun i=>(i.zero,i.size,i.bytes))=some (some (.string ⟨#[]⟩),1,16):=by kernel_rfl
def keyC (e:Ent):Value:=.string e.key
def RetN (S:Nat->Prop) (q:List Ent × Bool) (w:World) (en:Ending) (w':World):Prop:=
 ∃ A c,en=.returned (.tuple #[.slice A q.1.length c,.bool q.2])/\Below w.heap.size w w'/\Row (ext S w w') w' A q.1.length c (q.1.map keyC)
theorem pageS_len (s:Stt) (pre after:ByteArray) (most:Int) (now:Bool):(pageS s pre after most now).1.length<=20:=by
 have:=(clamp_range most).2
 unfold pageS
 show (List.take _ _).length<=20
 rw [List.length_take];omega
theorem stab_P (l:List Ent) (css:List (List Value)) (A:Option Addr) (c:Nat):Stab (fun S w=>RepEs S w l css/\Row S w A l.length c css.flatten):=fun _ _ _ _ h f=>⟨RepEs.fut h.1 f,h.2.fut f⟩
set_option maxHeartbeats 1000000 in
theorem bnames_any (s:Stt) (pre after:ByteArray) (most:Int) (hl:s.l.length<=1000000) (hv:∀ e∈s.l,e.vs.length<=1000000) (cs:List Value) (S0:Nat->Prop) (w:World)  (hs:RepS S0 w s cs):
  Calls Tryz.prog 107 #[.agg cs.toArray,.string pre,.string after,.int .i64 most] w (RetN no (pageS s pre after most true) w):=by
 obtain⟨A,cap,css0,B,cap',l0,l1,l2,l3,l4,rfl,el,hE,hR,hM⟩:=hs.shape
 have hp20:=pageS_len s pre after most true
 refine vE Tryz.func107 ?_
 have hc:=CtxF.start w no (fun _ h=>h.elim) (R:=fun S w=>True) trivial Stab.true
 refine hc.n fun g4 wg4 hg4 hc=>?_
 refine hc.a 0 rfl rfl ?_
 refine⟨(pageN_any s pre after most hl hv _ S0 _ (hs.below hc.below)).mono fun en w9 hq=>?_⟩
 obtain⟨A1,c1,css,e1,h1,hE1,hR1⟩:=hq
 generalize pageS s pre after most true=q at*
 obtain⟨l,more⟩:=q
 have hc:=(hc.call h1).1.know (X:=fun S w=>RepEs S w l css/\Row S w A1 l.length c1 css.flatten) ⟨hE1,hR1⟩ (stab_P _ _ _ _)
 refine⟨_,e1,?_⟩
 have hc:=hc.nil 9 1
 refine⟨Nat × Option Addr × Nat,fun x=>[(10,.slice A1 l.length c1),(11,.bool more),(12,.slice x.2.1 x.1 x.2.2),(23,.slice A1 l.length c1),(24,.int .i64 l.length),(25,.int .i64 x.1)],
  fun x w'=>x.1<=l.length/\∃ S,CtxF no w S w' [(g4,43,stC s A cap B cap' l0 l1 l2 l3 l4)] [⟨9,1,x.2.1,x.1,x.2.2,(l.take x.1).map keyC⟩] (fun S w=>RepEs S w l css/\Row S w A1 l.length c1 css.flatten),
  fun x _=>l.length-x.1,(0,none,0),⟨rfl,rfl,rfl,rfl,rfl,rfl,trivial⟩,⟨Nat.zero_le _,_,hc.now (fun h=>h.2) (stab_P _ _ _ _)⟩,?_⟩
 clear hc hE1 hR1
 rintro⟨i,A',n'⟩ w4 u ⟨hi,S,hc⟩
 simp only at hi hc hp20
 by_cases hlt:i<l.length
 ·refine split_t (decide_eq_true (by first | omega | (simp only;omega))) ?_
  obtain⟨ad,A3,cap3,rfl,hcell,hRe⟩:=RowE.elem hc.row.2 hc.row.1 i hlt
  have e2:(l.take (i+1)).map keyC=(l.take i).map keyC++[keyC l[i]]:=by rw [List.take_add_one,List.getElem?_eq_getElem hlt,List.map_append];rfl
  generalize l[i]=x at*
  refine⟨⟨by first | omega | (simp only;omega),by first | omega | (simp only;omega)⟩,?_⟩
  refine⟨[.string x.key,.slice A3 x.vs.length cap3],rfl,hcell,?_⟩
  refine hc.n fun g14 wg14 hg14 hc=>?_
  refine hc.s 0 rfl fun wS hS hc=>?_
  refine⟨_,hc.cell 0 rfl _ rfl,?_⟩
  refine hc.n fun gb wgb hgb hc=>?_
  refine app_ownF Tryz.underlying102 info_str rfl (by decide) hc (ys:=[keyC x]) (m:=1) rfl (hc.cells 0 rfl) rfl (by omega) (by decide) rfl rfl ?_
  intro A4 c4 w11 hc
  have hf:=hc.drop.drop
  rw [<-e2] at hf
  exact⟨(i+1,A4,c4),⟨rfl,rfl,rfl,rfl,rfl,congrArg _ (i_down (by first | omega | (simp only;omega))),trivial⟩,⟨hlt,_,hf⟩,by show l.length-(i+1)<l.length-i;omega⟩
 ·refine split_f (decide_eq_false (by first | omega | (simp only;omega))) ?_
  have hi:i=l.length:=by omega
  subst hi
  simp only [List.take_length] at hc
  obtain⟨S2,_,hc⟩:=hc.told
  exact⟨A',n',rfl,hc.below,hc.out.2⟩
set_option maxRecDepth 100000
def Sm (f N:Nat) (v:V):Prop:=v=V0\/(cnt f v<=6000/\(putV v).length<=N)
theorem Sm.mem {f N:Nat} {v:V} (h:Sm (f+1) N v):(vL v).length<=6000/\∀ x∈vL v,Sm f N x:=by
 rcases h with rfl | ⟨hc,hp⟩
 ·exact⟨Nat.zero_le _,fun x hx=>by cases hx⟩
 obtain⟨k,n,s,l⟩:=v
 show l.length<=6000/\∀ x∈l,_
 rw [cnt] at hc
 by_cases h1:(k==1&&mt s&&((l.length:Int)==0))||(k==2&&n==0&&((l.length:Int)==0))
 ·have h0:l=[]:=by
   simp only [Bool.or_eq_true,Bool.and_eq_true,beq_iff_eq] at h1
   have:l.length=0:=by omega
   exact List.eq_nil_of_length_eq_zero this
  subst h0
  exact⟨Nat.zero_le _,fun x hx=>by cases hx⟩
 rw [if_neg h1] at hc
 by_cases h2:(k != 3||!(n==0)||!mt s)=true
 ·rw [if_pos h2] at hc;omega
 rw [if_neg h2] at hc
 obtain⟨h3,h4⟩:=cntL_le (cnt f) (fun v=>(cnt_range f v).1) l 1 hc
 have e3:k=3:=by
  simp only [Bool.or_eq_true,not_or,Bool.not_eq_true] at h2
  simpa using h2.1.1
 subst e3
 have ht:txtV (.mk 3 n s l)=putL l:=by simp [txtV]
 have h6:(putL l).length<=N:=by rw [putV_len,ht] at hp;omega
 exact⟨by omega,fun x hx=>.inr ⟨by have:=h4 x hx;omega,Nat.le_trans (putV_mem_le hx) h6⟩⟩
theorem Sm.at {f N:Nat} {v:V} (h:Sm (f+1) N v) (i:Nat):Sm f N (atV v i):=by
 unfold atV
 rw [List.getD_eq_getElem?_getD]
 cases hg:(vL v)[i]? with
 | none=>exact .inl rfl
 | some x=>exact h.mem.2 x (List.mem_of_getElem? hg)
theorem Sm.str {f N:Nat} {v:V} (h:Sm f N v):(vS v).size<=N:=by
 rcases h with rfl | ⟨hc,hp⟩
 ·exact Nat.zero_le _
 ·exact Nat.le_trans (small_strs hc) hp
theorem allV_sm (t:List UInt8):Sm 6 t.length (allV t).1:=by
 by_cases he:(allV t).2=0
 ·have ha:allV t=((allV t).1,0):=by rw [<-he]
  obtain⟨k1,k2,k3⟩:=allV_get ha
  exact .inr ⟨by simpa [mayV] using k2,by rw [k1];exact Nat.le_refl _⟩
 ·left
  unfold allV at he ⊢
  simp only at he ⊢
  split at he
  ·rename_i h;rw [if_pos h]
  ·exact absurd rfl he
theorem All_V (t:List UInt8) (w:World) (ht:t.length<=1073741824) (hw:Env w):
  Calls Tryz.prog 75 #[.string ⟨t.toArray⟩] w (fun e w'=>∃ A cap,e=.returned (.tuple #[.agg (cellsV (allV t).1 A cap).toArray,.int .i64 (allV t).2])/\Below w.heap.size w w'/\RepC (ext no w w') w' (allV t).1 (cellsV (allV t).1 A cap)):=
 (All_any t w ht hw).mono fun e w' h=>by
  obtain⟨k,n,s,A,len,cap,e1,hb,hr⟩:=h
  obtain⟨A',cap',e2⟩:=hr.cells
  rw [e2] at hr
  exact⟨A',cap',by rw [e1,<-e2],hb,hr⟩
def RetRd (q:Stt × Int) (w:World) (en:Ending) (w':World):Prop:=∃ cs,en=.returned (.tuple #[.agg cs.toArray,.int .i64 q.2])/\Below w.heap.size w w'/\RepS (ext no w w') w' q.1 cs
def stt0C:List Value:=[.int .i64 0,.slice none 0 0,.slice none 0 0,.int .i64 0,.int .i64 0,.int .i64 0,.int .i64 0,.int .i64 0]
theorem row0 (S:Nat->Prop) (w:World):Row S w none 0 0 []:=⟨Nat.le_refl _,Nat.zero_le _,fun h=>absurd rfl h⟩
theorem rep0 (S:Nat->Prop) (w:World):RepS S w Stt0 stt0C:=⟨none,0,[],none,0,rfl,rfl,rfl,row0 S w,row0 S w⟩
def lowU (u:V) (i j:Nat):Int:=if j<i then vN (atV u j) else 0
def lowUC (u:V) (i:Nat):List Value:=[.int .i64 (lowU u i 0),.int .i64 (lowU u i 1),.int .i64 (lowU u i 2),.int .i64 (lowU u i 3),.int .i64 (lowU u i 4)]
theorem lowU_put (a b c:Value) (u:V) (i:Nat) (hi:i<5):putAt ([a,b,c]++lowUC u i) (3+i) [.int .i64 (vN (atV u i))]=[a,b,c]++lowUC u (i+1):=by
 match i,hi with
 | 0,_=>simp [putAt,lowUC,lowU]
 | 1,_=>simp [putAt,lowUC,lowU]
 | 2,_=>simp [putAt,lowUC,lowU]
 | 3,_=>simp [putAt,lowUC,lowU]
 | 4,_=>simp [putAt,lowUC,lowU]
theorem stab_S (s:Stt) (cs:List Value):Stab (fun S w=>RepS S w s cs):=fun _ _ _ _ h f=>h.map (fun h=>h.fut f)
set_option maxHeartbeats 2000000 in
theorem bread_any (t:List UInt8) (ht:t.length<=1073741824) (w:World) (hw:Env w):Calls Tryz.prog 77 #[.string ⟨t.toArray⟩] w (RetRd (readStt t) w):=by
 refine vE Tryz.func77 ?_
 have hc:=CtxF.start w no (fun _ h=>h.elim) (R:=fun S w=>True) trivial Stab.true
 refine hc.n fun g2 wg2 hg2 hc=>?_
 refine⟨(All_V t _ ht (hw.below hc.below)).mono fun en wq hq=>?_⟩
 obtain⟨A,cap,e1,hq,hrep⟩:=hq
 have hc:=(hc.call hq).1.know (hrep.sub fun b h=>h.elim (fun h=>h.elim) .inr) (stab_C _ _)
 have hsm:=allV_sm t
 have eR:readStt t=if (allV t).2≠0 then (Stt0,1) else if putStt (sttV (allV t).1)=[]\/putStt (sttV (allV t).1)≠t then (Stt0,1) else (sttV (allV t).1,0):=rfl
 rw [eR]
 clear eR hrep
 generalize allV t=q at*
 obtain⟨v,er⟩:=q
 simp only at hsm hc ⊢
 refine⟨_,e1,?_⟩
 refine hc.n fun g4 wg4 hg4 hc=>?_
 refine hc.s 0 rfl fun wS hS hc=>?_
 by_cases he:er=0
 rotate_left
 ·refine split_t (by show (er != 0)=true;simpa using he) ?_
  refine hc.s 1 rfl fun wS hS hc=>?_
  refine hc.a 1 rfl rfl ?_
  rw [if_pos he]
  exact⟨stt0C,rfl,hc.below,rep0 _ _⟩
 refine split_f (by show (er != 0)=false;simpa using he) ?_
 rw [if_neg (show ¬ er≠0 by omega)]
 refine hc.n fun g6 wg6 hg6 hc=>?_
 refine hc.s 0 rfl fun wS hS hc=>?_
 refine hc.a 1 rfl rfl ?_
 refine⟨(batV_any v 0 A cap _ _ hc.row.2).mono fun en wq hq=>?_⟩
 obtain⟨A0,cap0,e1,hq,_⟩:=hq
 have hc:=(hc.quiet hq).1
 refine⟨_,e1,?_⟩
 refine hc.n fun g7 wg7 hg7 hc=>?_
 refine hc.s 0 rfl fun wS hS hc=>?_
 refine hc.a 2 rfl rfl ?_
 refine⟨(batV_any v 1 A cap _ _ hc.row.2).mono fun en wq hq=>?_⟩
 obtain⟨A1,cap1,e1,hq,hr1⟩:=hq
 have hc:=(hc.quiet hq).1.know hr1 (stab_C _ _)
 refine⟨_,e1,?_⟩
 have hs1:=hsm.at 1
 refine⟨(someEnt_any (atV v 1) A1 cap1 _ _ hc.row.2 (Nat.le_trans hs1.mem.1 (by decide)) (fun x hx=>Nat.le_trans ((hs1.mem.2 x hx).at 1).mem.1 (by decide)) ⟨g6,0,none⟩ (hc.cell 1 rfl 0 rfl)).mono fun en wq hq=>?_⟩
 obtain⟨A2,c2,css,e1,hq,hE,hR⟩:=hq
 have hc:=(hc.call hq).1.know (X:=fun S w=>RepEs S w ((vL (atV v 1)).map entV) css/\Row S w A2 ((vL (atV v 1)).map entV).length c2 css.flatten) ⟨hE.map (fun h=>h.sub fun b h=>h.elim (fun h=>h.elim) .inr),hR.sub fun b h=>h.elim (fun h=>h.elim) .inr⟩ (fun _ _ _ _ h f=>⟨RepEs.map (fun h=>h.fut f) h.1,h.2.fut f⟩)
 refine⟨_,e1,?_⟩
 refine hc.s 0 rfl fun wS hS hc=>?_
 refine hc.a 2 rfl rfl ?_
 refine⟨(batV_any v 2 A cap _ _ hc.row.1.1.2).mono fun en wq hq=>?_⟩
 obtain⟨A3,cap3,e1,hq,hr2⟩:=hq
 have hc:=(hc.quiet hq).1
 refine⟨_,e1,?_⟩
 refine⟨(someMem_any (atV v 2) A3 cap3 _ _ hr2 (Nat.le_trans (hsm.at 2).mem.1 (by decide))).mono fun en wq hq=>?_⟩
 obtain⟨A4,c4,e1,hq,hM⟩:=hq
 have hc:=(hc.call hq).1.know (hM.sub fun b h=>h.elim (fun h=>h.elim) .inr) (stab_row _ _ _ _)
 refine⟨_,e1,?_⟩
 refine hc.s 0 rfl fun wS hS hc=>?_
 refine⟨Nat,fun i=>[(0,.string ⟨t.toArray⟩),(2,.pointer (some ⟨g2,0,none⟩)),(4,.pointer (some ⟨g4,0,none⟩)),(7,.pointer (some ⟨g7,0,none⟩)),(31,.int .i64 i)],
  fun i w'=>i<=5/\∃ S,CtxF no w S w' [(g7,43,[.int .i64 (vN (atV v 0)),.slice A2 ((vL (atV v 1)).map entV).length c2,.slice A4 ((vL (atV v 2)).map memV).length c4]++lowUC (atV v 3) i),(g6,186,[.func (.func 121) #[] #[]]),(g4,108,cellsV v A cap),(g2,43,(lay.ty 43).zero)] []
   (fun S w=>RepC S w v (cellsV v A cap)/\(RepEs S w ((vL (atV v 1)).map entV) css/\Row S w A2 ((vL (atV v 1)).map entV).length c2 css.flatten)/\Row S w A4 ((vL (atV v 2)).map memV).length c4 (((vL (atV v 2)).map memV).map memC).flatten),
  fun i _=>5-i,0,⟨rfl,rfl,rfl,rfl,rfl,trivial⟩,⟨Nat.zero_le _,_,hc.now (fun h=>⟨h.1.1.1.2,h.1.2,h.2⟩) ((stab_C _ _).and (Stab.and (fun _ _ _ _ h f=>⟨RepEs.map (fun h=>h.fut f) h.1,h.2.fut f⟩) (stab_row _ _ _ _)))⟩,?_⟩
 clear hc hE hR hM hr1 hr2
 rintro i w4 u ⟨hi,S,hc⟩
 by_cases hlt:i<5
 ·refine split_t (decide_eq_true (by omega)) ?_
  refine hc.a 2 rfl rfl ?_
  refine⟨(batV_any v 3 A cap _ _ hc.row.1).mono fun en wq hq=>?_⟩
  obtain⟨A5,cap5,e1,hq,hr3⟩:=hq
  have hc:=(hc.quiet hq).1
  refine⟨_,e1,?_⟩
  refine⟨(batV_any (atV v 3) i A5 cap5 _ _ hr3).mono fun en wq hq=>?_⟩
  obtain⟨A6,cap6,e1,hq,_⟩:=hq
  have hc:=(hc.quiet hq).1
  refine⟨_,e1,?_⟩
  refine⟨⟨Int.natCast_nonneg _,by omega⟩,?_⟩
  generalize hae:((⟨g7,0+3,none⟩:Addr).add ((i:Int).toNat*1))=ae
  have hae:(⟨g7,3+i,none⟩:Addr)=ae:=by rw [<-hae,Addr.add_lit,Nat.mul_one,Nat.zero_add,Int.toNat_natCast]
  subst hae
  refine⟨hc.may 0 rfl (3+i) [.int .i64 (vN (atV (atV v 3) i))] (by show 3+i+1<=8;omega) rfl,?_⟩
  intro w21 h21
  have h21:Stored _ ⟨g7,3+i,none⟩ [.int .i64 (vN (atV (atV v 3) i))] w21:=h21
  have hc:=(hc.set 0 rfl h21).1
  have ep:=lowU_put (.int .i64 (vN (atV v 0))) (.slice A2 ((vL (atV v 1)).map entV).length c2) (.slice A4 ((vL (atV v 2)).map memV).length c4) (atV v 3) i hlt
  refine⟨i+1,⟨rfl,rfl,rfl,rfl,congrArg _ (i_down (by omega)),trivial⟩,⟨hlt,S,by rw [<-ep];exact hc⟩,by show 5-(i+1)<5-i;omega⟩
 ·refine split_f (decide_eq_false (by omega)) ?_
  have hi:i=5:=by omega
  subst hi
  refine hc.a 0 rfl rfl ?_
  have hrS:Stab (fun S w=>RepC S w v (cellsV v A cap)/\(RepEs S w ((vL (atV v 1)).map entV) css/\Row S w A2 ((vL (atV v 1)).map entV).length c2 css.flatten)/\Row S w A4 ((vL (atV v 2)).map memV).length c4 (((vL (atV v 2)).map memV).map memC).flatten):=hc.stab
  have mkS:∀ (S:Nat->Prop) (w:World),(RepC S w v (cellsV v A cap)/\(RepEs S w ((vL (atV v 1)).map entV) css/\Row S w A2 ((vL (atV v 1)).map entV).length c2 css.flatten)/\Row S w A4 ((vL (atV v 2)).map memV).length c4 (((vL (atV v 2)).map memV).map memC).flatten)->
    RepS S w (sttV v) ([.int .i64 (vN (atV v 0)),.slice A2 ((vL (atV v 1)).map entV).length c2,.slice A4 ((vL (atV v 2)).map memV).length c4]++lowUC (atV v 3) 5):=fun S w h=>⟨A2,c2,css,A4,c4,rfl,rfl,h.2.1.1,h.2.1.2,h.2.2⟩
  have hkk:∀ e∈(sttV v).l,strok e.key:=by
   intro e he
   obtain⟨x,hx,rfl⟩:=List.mem_map.1 he
   have:=(((hsm.at 1).mem.2 x hx).at 0).str
   show (vS (atV x 0)).size<=_
   omega
  refine hc.q (bput_any (sttV v) hkk _ _ _ (mkS _ _ hc.row) (hw.tab.below hc.below)) fun wQ hQ hc=>?_
  have err:(putStt (sttV v)=[]\/putStt (sttV v)≠t)->(if putStt (sttV v)=[]\/putStt (sttV v)≠t then ((Stt0,1):Stt × Int) else (sttV v,0))=(Stt0,1):=fun h=>if_pos h
  by_cases h0:putStt (sttV v)=[]
  ·refine split_t (by rw [strEq_iff,h0]) ?_
   refine hc.s 3 rfl fun wS hS hc=>?_
   refine hc.a 3 rfl rfl ?_
   rw [err (.inl h0)]
   exact⟨stt0C,rfl,hc.below,rep0 _ _⟩
  refine split_f (by
   cases h:strEq ⟨(putStt (sttV v)).toArray⟩ ⟨#[]⟩
   ·rfl
   ·rw [strEq_iff] at h
    exact absurd (by simpa using h) h0) ?_
  by_cases h1:putStt (sttV v)=t
  ·refine split_f (by show (!strEq ⟨(putStt (sttV v)).toArray⟩ ⟨t.toArray⟩)=false;rw [h1,strEq_iff.2 rfl];rfl) ?_
   refine hc.a 0 rfl rfl ?_
   refine hc.s 3 rfl fun wS hS hc=>?_
   refine hc.a 3 rfl rfl ?_
   rw [if_neg (by rintro (h | h);exact h0 h;exact h h1)]
   exact⟨_,rfl,hc.below,mkS _ _ hc.out⟩
  ·refine split_t (by
    show (!strEq ⟨(putStt (sttV v)).toArray⟩ ⟨t.toArray⟩)=true
    cases h:strEq ⟨(putStt (sttV v)).toArray⟩ ⟨t.toArray⟩
    ·rfl
    ·rw [strEq_iff] at h
     exact absurd (by simpa using h) h1) ?_
   refine hc.s 3 rfl fun wS hS hc=>?_
   refine hc.a 3 rfl rfl ?_
   rw [err (.inr h1)]
   exact⟨stt0C,rfl,hc.below,rep0 _ _⟩
set_option maxRecDepth 100000
def cut (s:ByteArray) (n:Nat):ByteArray:=s.extract 0 (min s.size n)
theorem cutN_any (s:ByteArray) (n:Nat) (w:World) (hs:s.size<=9223372036854775807):Calls Tryz.prog 47 #[.string s,.int .i64 n] w (RetB (.string (cut s n)) w):=by
 have:=cut_any s n w (Int.natCast_nonneg _) hs
 rw [Int.toNat_natCast] at this
 exact this
theorem cut_size (s:ByteArray) (n:Nat):(cut s n).size<=n:=by
 unfold cut
 rw [ByteArray.size_extract]
 omega
def cutD (d:D):D:=⟨d.kind,cut d.key 42,cut d.body 302,d.ver,d.cond,cut d.tag 10,d.req,d.low⟩
theorem cutD_ok {d:D} (h:d.Ok):(cutD d).Ok:=
 ⟨h.kind,Nat.le_trans (cut_size _ _) (by decide),Nat.le_trans (cut_size _ _) (by decide),h.ver,h.cond,Nat.le_trans (cut_size _ _) (by decide),h.req,h.low⟩
set_option maxHeartbeats 4000000 in
theorem deed5_any (d:D) (h:d.Ok) (w:World):Calls Tryz.prog 17 #[.agg (dC d).toArray] w (RetB (.agg (dC (cutD d)).toArray) w):=by
 refine vE Tryz.func17 ?_
 have hc:=CtxF.start w no (fun _ h=>h.elim) (R:=fun _ _=>True) trivial Stab.true
 refine hc.n fun g1 wg1 hg1 hc=>?_
 refine hc.n fun g2 wg2 hg2 hc=>?_
 refine vD (.Q [0,3,6] (.n 1 (.n 2 (.n 4 (.n 5 (.n 7 (.q 9 (.n 8 (.n 10 (.q 11 (.n 12 (.q 13 (.z 14)) .stop)) .stop) .stop)) .stop) (.n 7 (.q 9 (.n 5 (.n 8 (.n 10 (.q 11 (.n 12 (.q 13 (.z 14)) .stop)) .stop) .stop) .stop)) .stop)) (.n 7 (.n 4 (.q 9 (.n 5 (.n 8 (.n 10 (.q 11 (.n 12 (.q 13 (.z 14)) .stop)) .stop) .stop) .stop)) .stop) .stop)) (.n 4 (.n 2 (.n 5 (.n 7 (.q 9 (.n 8 (.n 10 (.q 11 (.n 12 (.q 13 (.z 14)) .stop)) .stop) .stop)) .stop) (.n 7 (.q 9 (.n 5 (.n 8 (.n 10 (.q 11 (.n 12 (.q 13 (.z 14)) .stop)) .stop) .stop) .stop)) .stop)) (.n 7 (.n 2 (.q 9 (.n 5 (.n 8 (.n 10 (.q 11 (.n 12 (.q 13 (.z 14)) .stop)) .stop) .stop) .stop)) .stop) .stop)) (.n 7 (.n 2 (.n 4 (.q 9 (.n 5 (.n 8 (.n 10 (.q 11 (.n 12 (.q 13 (.z 14)) .stop)) .stop) .stop) .stop)) .stop) (.n 4 (.n 2 (.q 9 (.n 5 (.n 8 (.n 10 (.q 11 (.n 12 (.q 13 (.z 14)) .stop)) .stop) .stop) .stop)) .stop) .stop)) .stop))) (.n 4 (.n 1 (.n 2 (.n 5 (.n 7 (.q 9 (.n 8 (.n 10 (.q 11 (.n 12 (.q 13 (.z 14)) .stop)) .stop) .stop)) .stop) (.n 7 (.q 9 (.n 5 (.n 8 (.n 10 (.q 11 (.n 12 (.q 13 (.z 14)) .stop)) .stop) .stop) .stop)) .stop)) (.n 7 (.n 2 (.q 9 (.n 5 (.n 8 (.n 10 (.q 11 (.n 12 (.q 13 (.z 14)) .stop)) .stop) .stop) .stop)) .stop) .stop)) (.n 7 (.n 1 (.n 2 (.q 9 (.n 5 (.n 8 (.n 10 (.q 11 (.n 12 (.q 13 (.z 14)) .stop)) .stop) .stop) .stop)) .stop) .stop) .stop)) (.n 7 (.n 1 (.n 2 (.n 4 (.q 9 (.n 5 (.n 8 (.n 10 (.q 11 (.n 12 (.q 13 (.z 14)) .stop)) .stop) .stop) .stop)) .stop) (.n 4 (.n 2 (.q 9 (.n 5 (.n 8 (.n 10 (.q 11 (.n 12 (.q 13 (.z 14)) .stop)) .stop) .stop) .stop)) .stop) .stop)) (.n 4 (.n 1 (.n 2 (.q 9 (.n 5 (.n 8 (.n 10 (.q 11 (.n 12 (.q 13 (.z 14)) .stop)) .stop) .stop) .stop)) .stop) .stop) .stop)) .stop)))) (fun _=>True) trivial ?_
 have hc:=hc.drew
 refine⟨?_,?_⟩
 ·skip
  refine⟨_,hc.cell 1 rfl _ rfl,trivial,?_⟩
  refine⟨?_,?_⟩
  ·skip
   refine hc.q' (cutN_any d.key 42 _ h.key) fun wQ hQ hc=>?_
   refine⟨?_,?_⟩
   ·skip
    refine⟨_,hc.cell 1 rfl _ rfl,trivial,?_⟩
    refine⟨?_,?_⟩
    ·skip
     refine hc.q' (cutN_any d.body 302 _ h.body) fun wQ hQ hc=>?_
     refine⟨⟨_,hc.cell 1 rfl _ rfl,trivial,?_⟩,trivial⟩
     refine⟨hc.q' (cutN_any d.tag 10 _ h.tag) fun wQ hQ hc=>?_,trivial⟩
     refine⟨hc.s' 1 rfl fun wS hS hc=>?_,trivial⟩
     refine⟨hc.s' 1 rfl fun wS hS hc=>?_,trivial⟩
     refine hc.s 1 rfl fun wS hS hc=>?_
     refine hc.a 1 rfl rfl ?_
     refine hc.s 0 rfl fun wS hS hc=>?_
     refine hc.a 0 rfl rfl ?_
     exact⟨rfl,hc.below⟩
    refine⟨⟨_,hc.cell 1 rfl _ rfl,trivial,?_⟩,trivial⟩
    refine⟨hc.q' (cutN_any d.body 302 _ h.body) fun wQ hQ hc=>?_,trivial⟩
    refine⟨hc.q' (cutN_any d.tag 10 _ h.tag) fun wQ hQ hc=>?_,trivial⟩
    refine⟨hc.s' 1 rfl fun wS hS hc=>?_,trivial⟩
    refine⟨hc.s' 1 rfl fun wS hS hc=>?_,trivial⟩
    refine hc.s 1 rfl fun wS hS hc=>?_
    refine hc.a 1 rfl rfl ?_
    refine hc.s 0 rfl fun wS hS hc=>?_
    refine hc.a 0 rfl rfl ?_
    exact⟨rfl,hc.below⟩
   refine⟨⟨_,hc.cell 1 rfl _ rfl,trivial,?_⟩,trivial⟩
   refine⟨⟨_,hc.cell 1 rfl _ rfl,trivial,?_⟩,trivial⟩
   refine⟨hc.q' (cutN_any d.body 302 _ h.body) fun wQ hQ hc=>?_,trivial⟩
   refine⟨hc.q' (cutN_any d.tag 10 _ h.tag) fun wQ hQ hc=>?_,trivial⟩
   refine⟨hc.s' 1 rfl fun wS hS hc=>?_,trivial⟩
   refine⟨hc.s' 1 rfl fun wS hS hc=>?_,trivial⟩
   refine hc.s 1 rfl fun wS hS hc=>?_
   refine hc.a 1 rfl rfl ?_
   refine hc.s 0 rfl fun wS hS hc=>?_
   refine hc.a 0 rfl rfl ?_
   exact⟨rfl,hc.below⟩
  refine⟨?_,?_⟩
  ·skip
   refine⟨_,hc.cell 1 rfl _ rfl,trivial,?_⟩
   refine⟨?_,?_⟩
   ·skip
    refine hc.q' (cutN_any d.key 42 _ h.key) fun wQ hQ hc=>?_
    refine⟨?_,?_⟩
    ·skip
     refine hc.q' (cutN_any d.body 302 _ h.body) fun wQ hQ hc=>?_
     refine⟨⟨_,hc.cell 1 rfl _ rfl,trivial,?_⟩,trivial⟩
     refine⟨hc.q' (cutN_any d.tag 10 _ h.tag) fun wQ hQ hc=>?_,trivial⟩
     refine⟨hc.s' 1 rfl fun wS hS hc=>?_,trivial⟩
     refine⟨hc.s' 1 rfl fun wS hS hc=>?_,trivial⟩
     refine hc.s 1 rfl fun wS hS hc=>?_
     refine hc.a 1 rfl rfl ?_
     refine hc.s 0 rfl fun wS hS hc=>?_
     refine hc.a 0 rfl rfl ?_
     exact⟨rfl,hc.below⟩
    refine⟨⟨_,hc.cell 1 rfl _ rfl,trivial,?_⟩,trivial⟩
    refine⟨hc.q' (cutN_any d.body 302 _ h.body) fun wQ hQ hc=>?_,trivial⟩
    refine⟨hc.q' (cutN_any d.tag 10 _ h.tag) fun wQ hQ hc=>?_,trivial⟩
    refine⟨hc.s' 1 rfl fun wS hS hc=>?_,trivial⟩
    refine⟨hc.s' 1 rfl fun wS hS hc=>?_,trivial⟩
    refine hc.s 1 rfl fun wS hS hc=>?_
    refine hc.a 1 rfl rfl ?_
    refine hc.s 0 rfl fun wS hS hc=>?_
    refine hc.a 0 rfl rfl ?_
    exact⟨rfl,hc.below⟩
   refine⟨⟨_,hc.cell 1 rfl _ rfl,trivial,?_⟩,trivial⟩
   refine⟨hc.q' (cutN_any d.key 42 _ h.key) fun wQ hQ hc=>?_,trivial⟩
   refine⟨hc.q' (cutN_any d.body 302 _ h.body) fun wQ hQ hc=>?_,trivial⟩
   refine⟨hc.q' (cutN_any d.tag 10 _ h.tag) fun wQ hQ hc=>?_,trivial⟩
   refine⟨hc.s' 1 rfl fun wS hS hc=>?_,trivial⟩
   refine⟨hc.s' 1 rfl fun wS hS hc=>?_,trivial⟩
   refine hc.s 1 rfl fun wS hS hc=>?_
   refine hc.a 1 rfl rfl ?_
   refine hc.s 0 rfl fun wS hS hc=>?_
   refine hc.a 0 rfl rfl ?_
   exact⟨rfl,hc.below⟩
  refine⟨⟨_,hc.cell 1 rfl _ rfl,trivial,?_⟩,trivial⟩
  refine⟨?_,?_⟩
  ·skip
   refine hc.q' (cutN_any d.key 42 _ h.key) fun wQ hQ hc=>?_
   refine⟨⟨_,hc.cell 1 rfl _ rfl,trivial,?_⟩,trivial⟩
   refine⟨hc.q' (cutN_any d.body 302 _ h.body) fun wQ hQ hc=>?_,trivial⟩
   refine⟨hc.q' (cutN_any d.tag 10 _ h.tag) fun wQ hQ hc=>?_,trivial⟩
   refine⟨hc.s' 1 rfl fun wS hS hc=>?_,trivial⟩
   refine⟨hc.s' 1 rfl fun wS hS hc=>?_,trivial⟩
   refine hc.s 1 rfl fun wS hS hc=>?_
   refine hc.a 1 rfl rfl ?_
   refine hc.s 0 rfl fun wS hS hc=>?_
   refine hc.a 0 rfl rfl ?_
   exact⟨rfl,hc.below⟩
  refine⟨⟨_,hc.cell 1 rfl _ rfl,trivial,?_⟩,trivial⟩
  refine⟨hc.q' (cutN_any d.key 42 _ h.key) fun wQ hQ hc=>?_,trivial⟩
  refine⟨hc.q' (cutN_any d.body 302 _ h.body) fun wQ hQ hc=>?_,trivial⟩
  refine⟨hc.q' (cutN_any d.tag 10 _ h.tag) fun wQ hQ hc=>?_,trivial⟩
  refine⟨hc.s' 1 rfl fun wS hS hc=>?_,trivial⟩
  refine⟨hc.s' 1 rfl fun wS hS hc=>?_,trivial⟩
  refine hc.s 1 rfl fun wS hS hc=>?_
  refine hc.a 1 rfl rfl ?_
  refine hc.s 0 rfl fun wS hS hc=>?_
  refine hc.a 0 rfl rfl ?_
  exact⟨rfl,hc.below⟩
 refine⟨?_,?_⟩
 ·skip
  refine⟨_,hc.cell 1 rfl _ rfl,trivial,?_⟩
  refine⟨?_,?_⟩
  ·skip
   refine⟨_,hc.cell 1 rfl _ rfl,trivial,?_⟩
   refine⟨?_,?_⟩
   ·skip
    refine hc.q' (cutN_any d.key 42 _ h.key) fun wQ hQ hc=>?_
    refine⟨?_,?_⟩
    ·skip
     refine hc.q' (cutN_any d.body 302 _ h.body) fun wQ hQ hc=>?_
     refine⟨⟨_,hc.cell 1 rfl _ rfl,trivial,?_⟩,trivial⟩
     refine⟨hc.q' (cutN_any d.tag 10 _ h.tag) fun wQ hQ hc=>?_,trivial⟩
     refine⟨hc.s' 1 rfl fun wS hS hc=>?_,trivial⟩
     refine⟨hc.s' 1 rfl fun wS hS hc=>?_,trivial⟩
     refine hc.s 1 rfl fun wS hS hc=>?_
     refine hc.a 1 rfl rfl ?_
     refine hc.s 0 rfl fun wS hS hc=>?_
     refine hc.a 0 rfl rfl ?_
     exact⟨rfl,hc.below⟩
    refine⟨⟨_,hc.cell 1 rfl _ rfl,trivial,?_⟩,trivial⟩
    refine⟨hc.q' (cutN_any d.body 302 _ h.body) fun wQ hQ hc=>?_,trivial⟩
    refine⟨hc.q' (cutN_any d.tag 10 _ h.tag) fun wQ hQ hc=>?_,trivial⟩
    refine⟨hc.s' 1 rfl fun wS hS hc=>?_,trivial⟩
    refine⟨hc.s' 1 rfl fun wS hS hc=>?_,trivial⟩
    refine hc.s 1 rfl fun wS hS hc=>?_
    refine hc.a 1 rfl rfl ?_
    refine hc.s 0 rfl fun wS hS hc=>?_
    refine hc.a 0 rfl rfl ?_
    exact⟨rfl,hc.below⟩
   refine⟨⟨_,hc.cell 1 rfl _ rfl,trivial,?_⟩,trivial⟩
   refine⟨hc.q' (cutN_any d.key 42 _ h.key) fun wQ hQ hc=>?_,trivial⟩
   refine⟨hc.q' (cutN_any d.body 302 _ h.body) fun wQ hQ hc=>?_,trivial⟩
   refine⟨hc.q' (cutN_any d.tag 10 _ h.tag) fun wQ hQ hc=>?_,trivial⟩
   refine⟨hc.s' 1 rfl fun wS hS hc=>?_,trivial⟩
   refine⟨hc.s' 1 rfl fun wS hS hc=>?_,trivial⟩
   refine hc.s 1 rfl fun wS hS hc=>?_
   refine hc.a 1 rfl rfl ?_
   refine hc.s 0 rfl fun wS hS hc=>?_
   refine hc.a 0 rfl rfl ?_
   exact⟨rfl,hc.below⟩
  refine⟨⟨_,hc.cell 1 rfl _ rfl,trivial,?_⟩,trivial⟩
  refine⟨⟨_,hc.cell 1 rfl _ rfl,trivial,?_⟩,trivial⟩
  refine⟨hc.q' (cutN_any d.key 42 _ h.key) fun wQ hQ hc=>?_,trivial⟩
  refine⟨hc.q' (cutN_any d.body 302 _ h.body) fun wQ hQ hc=>?_,trivial⟩
  refine⟨hc.q' (cutN_any d.tag 10 _ h.tag) fun wQ hQ hc=>?_,trivial⟩
  refine⟨hc.s' 1 rfl fun wS hS hc=>?_,trivial⟩
  refine⟨hc.s' 1 rfl fun wS hS hc=>?_,trivial⟩
  refine hc.s 1 rfl fun wS hS hc=>?_
  refine hc.a 1 rfl rfl ?_
  refine hc.s 0 rfl fun wS hS hc=>?_
  refine hc.a 0 rfl rfl ?_
  exact⟨rfl,hc.below⟩
 refine⟨⟨_,hc.cell 1 rfl _ rfl,trivial,?_⟩,trivial⟩
 refine⟨?_,?_⟩
 ·skip
  refine⟨_,hc.cell 1 rfl _ rfl,trivial,?_⟩
  refine⟨?_,?_⟩
  ·skip
   refine hc.q' (cutN_any d.key 42 _ h.key) fun wQ hQ hc=>?_
   refine⟨⟨_,hc.cell 1 rfl _ rfl,trivial,?_⟩,trivial⟩
   refine⟨hc.q' (cutN_any d.body 302 _ h.body) fun wQ hQ hc=>?_,trivial⟩
   refine⟨hc.q' (cutN_any d.tag 10 _ h.tag) fun wQ hQ hc=>?_,trivial⟩
   refine⟨hc.s' 1 rfl fun wS hS hc=>?_,trivial⟩
   refine⟨hc.s' 1 rfl fun wS hS hc=>?_,trivial⟩
   refine hc.s 1 rfl fun wS hS hc=>?_
   refine hc.a 1 rfl rfl ?_
   refine hc.s 0 rfl fun wS hS hc=>?_
   refine hc.a 0 rfl rfl ?_
   exact⟨rfl,hc.below⟩
  refine⟨⟨_,hc.cell 1 rfl _ rfl,trivial,?_⟩,trivial⟩
  refine⟨hc.q' (cutN_any d.key 42 _ h.key) fun wQ hQ hc=>?_,trivial⟩
  refine⟨hc.q' (cutN_any d.body 302 _ h.body) fun wQ hQ hc=>?_,trivial⟩
  refine⟨hc.q' (cutN_any d.tag 10 _ h.tag) fun wQ hQ hc=>?_,trivial⟩
  refine⟨hc.s' 1 rfl fun wS hS hc=>?_,trivial⟩
  refine⟨hc.s' 1 rfl fun wS hS hc=>?_,trivial⟩
  refine hc.s 1 rfl fun wS hS hc=>?_
  refine hc.a 1 rfl rfl ?_
  refine hc.s 0 rfl fun wS hS hc=>?_
  refine hc.a 0 rfl rfl ?_
  exact⟨rfl,hc.below⟩
 refine⟨⟨_,hc.cell 1 rfl _ rfl,trivial,?_⟩,trivial⟩
 refine⟨⟨_,hc.cell 1 rfl _ rfl,trivial,?_⟩,trivial⟩
 refine⟨hc.q' (cutN_any d.key 42 _ h.key) fun wQ hQ hc=>?_,trivial⟩
 refine⟨hc.q' (cutN_any d.body 302 _ h.body) fun wQ hQ hc=>?_,trivial⟩
 refine⟨hc.q' (cutN_any d.tag 10 _ h.tag) fun wQ hQ hc=>?_,trivial⟩
 refine⟨hc.s' 1 rfl fun wS hS hc=>?_,trivial⟩
 refine⟨hc.s' 1 rfl fun wS hS hc=>?_,trivial⟩
 refine hc.s 1 rfl fun wS hS hc=>?_
 refine hc.a 1 rfl rfl ?_
 refine hc.s 0 rfl fun wS hS hc=>?_
 refine hc.a 0 rfl rfl ?_
 exact⟨rfl,hc.below⟩
set_option maxRecDepth 100000
def cutV (v:Ver):Ver:=⟨v.ver,v.gone,cut v.body 302⟩
def cutE (e:Ent):Ent:=⟨cut e.key 42,(e.vs.take 14).map cutV⟩
set_option maxRecDepth 100000
def putDeed (key body:ByteArray) (n:Int):D:=⟨1,key,body,0,0,⟨#[]⟩,4294967296+n,0⟩
theorem put5_any (key body:ByteArray) (n:Int) (h0:0<=n) (h1:n<=1000000) (w:World):Calls Tryz.prog 103 #[.string key,.string body,.int .i64 n] w (RetB (.agg (dC (putDeed key body n)).toArray) w):=by
 refine vE Tryz.func103 ?_
 have hc:=CtxF.start w no (fun _ h=>h.elim) (R:=fun _ _=>True) trivial Stab.true
 refine hc.n fun g6 wg6 hg6 hc=>?_
 have hw:IntKind.i64.wrap (4294967296+n)=4294967296+n:=by rw [IntWalk.i64_in _ ⟨by omega,by omega⟩]
 refine⟨hc.may 0 rfl _ _ (nle rfl) rfl,?_⟩
 intro wS hS
 rw [hw] at hS
 have hc:=(hc.set 0 rfl hS).1
 refine hc.a 0 rfl rfl ?_
 exact⟨rfl,hc.below⟩
def cutS (s:Stt):Stt:=⟨s.seq,(s.l.take 42).map cutE,s.ms.take 103,s.lows⟩
def RetSt (s:Stt) (S:Nat->Prop) (w:World) (en:Ending) (w':World):Prop:=∃ cs,en=.returned (.agg cs.toArray)/\Below w.heap.size w w'/\RepS (ext S w w') w' s cs
set_option maxRecDepth 100000
theorem mayD_ok {d:D} (h:mayD d=true):d.Ok:=by
 have hs:=mayD_sizes h
 have hh:=homeI_ok (mayD_home h)
 have hl:=mayD_low h
 have hk:=mayD_kind h
 unfold mayD at h
 simp only [Bool.and_eq_true,Bool.not_eq_true',decide_eq_false_iff_not] at h
 obtain⟨⟨⟨_,h1⟩,_⟩,h2⟩:=h
 have hvc:i64ok d.ver/\i64ok d.cond:=by
  unfold i64ok
  rcases hk with hk | hk | hk
  ·simp [hk] at h2;omega
  ·simp [hk] at h2;omega
  ·simp [hk] at h2;omega
 refine⟨by unfold i64ok;omega,by unfold strok;omega,by unfold strok;omega,hvc.1,hvc.2,by unfold strok;omega,by unfold i64ok;omega,by unfold i64ok;omega⟩
theorem mayS_ok {s:Stt} (h5:s.lows.length=5) (h:mayS s=true):s.Ok:=by
 obtain⟨⟨a1,a2⟩,⟨a3,a4⟩,a5,a6,a7⟩:=mayS_parts.1 h
 have hm:maxN=1099511627776:=rfl
 refine⟨by unfold i64ok;omega,fun e he=>?_,fun m hm'=>?_,fun x hx=>?_⟩
 ·have ho:=((risE_iff _ _ _).1 a5).1 e he
  have hp:=mayE_parts.1 ho.1
  have:=keyB_len hp.2.1
  refine⟨by unfold strok;omega,fun v hv=>?_⟩
  obtain⟨n1,n2⟩:=verOk_nums (okEnt_vers ho v hv)
  exact⟨n1,by unfold strok;omega⟩
 ·obtain⟨n1,n2,n3⟩:=okM_nums a2 (((memB_iff _ _ _ _).1 a7).1 m hm')
  exact⟨n1,n2,n3⟩
 ·obtain⟨j,hj,hx⟩:=List.getElem_of_mem hx
  rcases (lowsB_iff _ _).1 a6 j x (by rw [<-hx];exact List.getElem?_eq_getElem hj) with h0 | h0
  ·unfold i64ok;omega
  ·have:=homeI_ok (n:=x) (by omega)
   unfold i64ok;omega
theorem putV_deed_len (d:D) (hk:d.Ok) (h:mayD d=true):(putV (vDeed d)).length<=1073741824:=by
 have h1:=txt_vDeed d hk h
 have h3:=putV_len (vDeed d)
 have:=dec_len7 (u:=(txtV (vDeed d)).length) (by omega)
 omega
set_option maxRecDepth 100000
theorem dec2:Lib.decDigits 2=[50]:=by rw [Lib.decDigits,dif_pos (by decide)];rfl
theorem dec5:Lib.decDigits 5=[53]:=by rw [Lib.decDigits,dif_pos (by decide)];rfl
theorem dec1:Lib.decDigits 1=[49]:=by rw [Lib.decDigits,dif_pos (by decide)];rfl
theorem dec10:Lib.decDigits 10=[49,48]:=by rw [Lib.decDigits,dif_neg (by decide),show 10 / 10=1 from rfl,dec1];rfl
def vBeg:V:=vRow [vNum (-5),vStr ⟨#[97,98]⟩]
def tBeg:List UInt8:=[49,48,58,50,58,45,53,35,50,58,97,98,44,93]
theorem putV_beg1:putV (vNum (-5))=[50,58,45,53,35]:=by
 have e:txtV (vNum (-5))=[45,53]:=by show Lib.itoa (-5)=_;rw [Lib.itoa,if_pos (by decide),show (-5:Int).natAbs=5 from rfl,dec5]
 rw [putV_eq,e,show ([45,53]:List UInt8).length=2 from rfl,dec2]
 rfl
theorem putV_beg2:putV (vStr ⟨#[97,98]⟩)=[50,58,97,98,44]:=by
 have e:txtV (vStr ⟨#[97,98]⟩)=[97,98]:=rfl
 rw [putV_eq,e,show ([97,98]:List UInt8).length=2 from rfl,dec2]
 rfl
theorem txt_beg:txtV vBeg=[50,58,45,53,35,50,58,97,98,44]:=by
 rw [vBeg,txt_row,putL,putL,putL,putV_beg1,putV_beg2];rfl
theorem putV_beg:putV vBeg=tBeg:=by
 rw [putV_eq,txt_beg,show ([50,58,45,53,35,50,58,97,98,44]:List UInt8).length=10 from rfl,dec10]
 rfl
theorem mayV_beg:mayV vBeg=true:=by kernel_rfl
theorem okV_beg:okV vBeg:=okV_row _ (by
 rw [okL,okL,okL]
 exact⟨okV_num _ (by unfold i64ok;omega),okV_str _,trivial⟩)
theorem putS_beg:putS vBeg=tBeg:=by
 rw [putS,mayV_beg,txt_beg,show ([50,58,45,53,35,50,58,97,98,44]:List UInt8).length=10 from rfl,dec10,putV_beg]
 rfl
theorem getV_beg:getV (tBeg++[122])=(vBeg,14,0):=by
 have h:=getP_put 6 vBeg (by
  have:=mayV_beg
  unfold mayV at this
  simpa using this) okV_beg (by rw [txt_beg];decide) [122]
 rw [putV_beg] at h
 unfold getV
 simp only [h,mayV_beg,Bool.true_eq_false,and_false,if_false]
 rfl
theorem getV_beg2:getV [49,48,58,50]=(V0,0,2):=by kernel_rfl
theorem getV_beg3:getV [120]=(V0,0,1):=by kernel_rfl
theorem zText_beg:zText (7,255)=[48,48,48,55,48,48,102,102]:=by kernel_rfl
theorem zRead_beg:zRead [48,48,48,55,48,48,102,102]=((7,255),true):=by kernel_rfl
theorem is2:Is 4611686018427387904 2:=by have:=dbl_is 2 (by decide);rwa [show dbl 2=4611686018427387904 by kernel_rfl] at this
theorem is4:Is 4616189618054758400 4:=by have:=dbl_is 4 (by decide);rwa [show dbl 4=4616189618054758400 by kernel_rfl] at this
theorem gMul_beg (w:World):Calls Tryz.prog 196 #[.complex .f64 4611686018427387904 4613937818241073152,.complex .f64 4616189618054758400 4617315517961601024] w (RetB (.complex .f64 4679236989180968960 4626885667169763328) w):=by
 have h:=gMul_any is2 is3 is4 is5 (by decide) (by decide) (by decide) (by decide) w
 rwa [show dbl ((2*4-3*5) % 65521)=4679236989180968960 by kernel_rfl,show dbl ((2*5+3*4) % 65521)=4626885667169763328 by kernel_rfl] at h
theorem gText_beg (w:World):Calls Tryz.prog 114 #[.complex .f64 4619567317775286272 4643176031446892544] w (RetB (.string ⟨#[48,48,48,55,48,48,102,102]⟩) w):=by
 have h:=gText_any (z:=(7,255)) ⟨by decide,by decide⟩ w
 rwa [zText_beg,show dbl (7,255).1=4619567317775286272 by kernel_rfl,show dbl ((7,255):Int × Int).2=4643176031446892544 by kernel_rfl] at h
theorem gRead_beg (w:World):Calls Tryz.prog 98 #[.string ⟨#[48,48,48,55,48,48,102,102]⟩] w (RetB (.tuple #[.complex .f64 4619567317775286272 4643176031446892544,.bool true]) w):=by
 have h:=gread_any ⟨#[48,48,48,55,48,48,102,102]⟩ w
 rw [show (⟨#[48,48,48,55,48,48,102,102]⟩:ByteArray).data.toList=[48,48,48,55,48,48,102,102] from rfl,zRead_beg] at h
 rwa [show dbl ((7:Int),(255:Int)).1=4619567317775286272 by kernel_rfl,show dbl ((7:Int),(255:Int)).2=4643176031446892544 by kernel_rfl] at h
theorem gMark_beg0 (w:World):Calls Tryz.prog 115 #[.slice none 0 0] w (RetB (.complex .f64 0 4607182418800017408) w):=by
 have h:=gMark_any (S:=no) (A:=none) (n:=0) (cap:=0) (l:=[]) rfl (by decide) w (row0 _ _)
 rwa [show dbl (zOn (0,1) []).1=0 by kernel_rfl,show dbl (zOn (0,1) []).2=4607182418800017408 by kernel_rfl] at h
theorem gMark_beg1 (S:Nat->Prop) (A:Option Addr) (w:World) (hR:Row S w A 1 1 (bv [0])):Calls Tryz.prog 115 #[.slice A 1 1] w (RetB (.complex .f64 4679237401497829376 4613937818241073152) w):=by
 have h:=gMark_any (S:=S) (A:=A) (n:=1) (cap:=1) (l:=[0]) rfl (by decide) w hR
 rwa [show dbl (zOn (0,1) [0]).1=4679237401497829376 by kernel_rfl,show dbl (zOn (0,1) [0]).2=4613937818241073152 by kernel_rfl] at h
theorem Get_V (t:List UInt8) (w:World) (ht:t.length<=1073741824) (hw:Env w):Calls Tryz.prog 119 #[.string ⟨t.toArray⟩] w (fun en w'=>∃ A cap,en=.returned (.tuple #[.agg (cellsV (getV t).1 A cap).toArray,.int .i64 ((getV t).2.1:Nat),.int .i64 (getV t).2.2])/\Below w.heap.size w w'/\RepC (ext no w w') w' (getV t).1 (cellsV (getV t).1 A cap)):=
 (Get_any t w ht hw).mono fun e w' h=>by
  obtain⟨cs,e1,hb,hr⟩:=h
  obtain⟨A',cap',e2⟩:=hr.cells
  subst e2
  exact⟨A',cap',e1,hb,hr⟩
theorem beg_cat:((⟨tBeg.toArray⟩:ByteArray)++⟨#[122]⟩)=⟨(tBeg++[122]).toArray⟩:=by kernel_rfl
theorem beg_cut:((⟨tBeg.toArray⟩:ByteArray).extract 0 4)=⟨[49,48,58,50].toArray⟩:=by kernel_rfl
set_option maxHeartbeats 2000000 in
theorem begun1_any (w:World) (hw:Env w):Calls Tryz.prog 162 #[] w (RetB (.bool true) w):=by
 refine vE Tryz.func162 ?_
 have hc:=CtxF.start w no (fun _ h=>h.elim) (R:=fun _ _=>True) trivial Stab.true
 refine hc.q (gMul_beg _) fun wQ hQ hc=>?_
 intro g18 w18 h18
 have hc:=hc.made h18 4 2 rfl (by decide)
 refine hc.n fun g2 wg2 hg2 hc=>?_
 refine hc.s 0 rfl fun wS hS hc=>?_
 obtain⟨S1,_,hc⟩:=hc.told
 have hrep:∀ (S:Nat->Prop) (w:World),(True/\Row S w (some ⟨g18,0,none⟩) 2 2 [.int .i64 1,.int .i64 (-5),.string ⟨#[]⟩,.slice none 0 0,.int .i64 2,.int .i64 0,.string ⟨#[97,98]⟩,.slice none 0 0])->RepC S w vBeg [.int .i64 3,.int .i64 0,.string ⟨#[]⟩,.slice (some ⟨g18,0,none⟩) 2 2]:=fun S w h=>by
  rw [vBeg,vRow,RepC]
  exact⟨some ⟨g18,0,none⟩,2,_,rfl,.cons (.leaf _ _ 1 (-5) ⟨#[]⟩) (.cons (.leaf _ _ 2 0 ⟨#[97,98]⟩) (.nil _ _)),h.2⟩
 have hc:=hc.now (hrep _ _) (stab_C _ _)
 refine hc.a 0 rfl rfl ?_
 have hput:=vput_any vBeg okV_beg (by rw [putV_beg];decide) 3 0 ⟨#[]⟩ (some ⟨g18,0,none⟩) 2 2 _ _ hc.row (hw.tab.below hc.below)
 rw [putS_beg] at hput
 refine hc.q (hput) fun wQ hQ hc=>?_
 refine⟨by decide,?_⟩
 have hg:=Get_V (tBeg++[122]) _ (by decide) (hw.below hc.below)
 rw [<-beg_cat,getV_beg] at hg
 refine⟨hg.mono fun en wq hq=>?_⟩
 obtain⟨A1,c1,e1,hq,hr1⟩:=hq
 have hc:=(hc.call hq).1.know (hr1.sub fun b h=>h.elim (fun h=>h.elim) .inr) (stab_C _ _)
 refine⟨_,e1,?_⟩
 refine hc.n fun g4 wg4 hg4 hc=>?_
 refine hc.s 0 rfl fun wS hS hc=>?_
 refine⟨⟨by decide,by decide,by decide⟩,?_⟩
 have hg:=Get_V [49,48,58,50] _ (by decide) (hw.below hc.below)
 rw [<-beg_cut,getV_beg2] at hg
 refine⟨hg.mono fun en wq hq=>?_⟩
 obtain⟨A2,c2,e1,hq,_⟩:=hq
 have hc:=(hc.quiet hq).1
 refine⟨_,e1,?_⟩
 refine hc.n fun g7 wg7 hg7 hc=>?_
 refine hc.s 0 rfl fun wS hS hc=>?_
 have hg:=Get_V [120] _ (by decide) (hw.below hc.below)
 rw [getV_beg3] at hg
 refine⟨hg.mono fun en wq hq=>?_⟩
 obtain⟨A3,c3,e1,hq,_⟩:=hq
 have hc:=(hc.quiet hq).1
 refine⟨_,e1,?_⟩
 refine hc.n fun g10 wg10 hg10 hc=>?_
 refine hc.s 0 rfl fun wS hS hc=>?_
 refine hc.q (gText_beg _) fun wQ hQ hc=>?_
 refine hc.q (gRead_beg _) fun wQ hQ hc=>?_
 refine⟨.bool true,fun w=>by kernel_rfl,?_⟩
 refine hc.q (gMark_beg0 _) fun wQ hQ hc=>?_
 refine⟨.bool true,fun w=>by kernel_rfl,?_⟩
 intro g56 w56 h56
 have hb1:=(h56.row 1 (by decide))
 have hc:=(hc.loc h56).1
 refine hc.q (gMark_beg1 _ _ _ hb1) fun wQ hQ hc=>?_
 refine⟨.bool true,fun w=>by kernel_rfl,?_⟩
 refine hc.q (gText_beg _) fun wQ hQ hc=>?_
 refine⟨.bool true,fun w=>by kernel_rfl,?_⟩
 refine hc.a 3 rfl rfl ?_
 refine hc.a 4 rfl rfl ?_
 have hE:=veq_any _ vBeg (Nat.lt_succ_self _) vBeg _ _ _ _ hc.row.2 hc.row.1
 rw [eqV_refl] at hE
 refine hc.q (hE) fun wQ hQ hc=>?_
 exact⟨rfl,hc.below⟩
set_option maxRecDepth 100000
def d1B:D:=putDeed ⟨#[107]⟩ ⟨#[118]⟩ 1
def d2B:D:=⟨2,⟨#[107]⟩,⟨#[]⟩,0,0,⟨#[]⟩,4294967298,0⟩
def sB:Stt:=⟨1,[⟨⟨#[107]⟩,[⟨1,false,⟨#[118]⟩⟩]⟩],[⟨4294967297,⟨0,1⟩⟩],[0,0,0,0,0]⟩
def uB:Stt:=⟨2,[⟨⟨#[107]⟩,[⟨1,false,⟨#[118]⟩⟩,⟨2,true,⟨#[]⟩⟩]⟩],[⟨4294967297,⟨0,1⟩⟩,⟨4294967298,⟨0,2⟩⟩],[0,0,0,0,0]⟩
def aB:Stt:=⟨3,uB.l,uB.ms,uB.lows⟩
theorem do_b1:doS Stt0 d1B=(sB,⟨0,1⟩):=by kernel_rfl
theorem do_b2:doS sB d2B=(uB,⟨0,2⟩):=by kernel_rfl
theorem do_b3:doS uB d1B=(aB,⟨0,1⟩):=by kernel_rfl
theorem may_b1:mayD d1B=true:=by kernel_rfl
theorem may_b2:mayD d2B=true:=by kernel_rfl
theorem may_b0:mayD D0=false:=by kernel_rfl
theorem mayS_bs:mayS sB=true:=by kernel_rfl
theorem mayS_bu:mayS uB=true:=by kernel_rfl
theorem get_b1:getS sB ⟨#[107]⟩ 0=(⟨1,false,⟨#[118]⟩⟩,0):=by kernel_rfl
theorem get_b2:getS uB ⟨#[107]⟩ 0=(Ver0,10):=by kernel_rfl
theorem page_b:pageS sB ⟨#[]⟩ ⟨#[]⟩ 5 true=(sB.l,false):=by kernel_rfl
theorem getD_b0:getD' []=(D0,1):=by kernel_rfl
theorem key_b1:keyB ⟨#[97,47,98,46,99,45,49,95]⟩=true:=by kernel_rfl
theorem key_b2:keyB ⟨#[65]⟩=false:=by kernel_rfl
theorem home_b:homeI 12884901889=3:=by kernel_rfl
theorem make_b:makeI 2 5=8589934597:=by kernel_rfl
theorem mayE_b:mayE ⟨⟨#[107]⟩,[⟨1,false,⟨#[118]⟩⟩,⟨2,true,⟨#[]⟩⟩]⟩=true:=by kernel_rfl
theorem putD_len {d:D} (h:mayD d=true):(putD d).length<=1073741824:=by
 rw [putD_may d (mayD_ok h) h]
 exact putV_deed_len d (mayD_ok h) h
theorem putStt_len {s:Stt} (h5:s.lows.length=5) (h:mayS s=true):(putStt s).length<=1073741824:=by
 rw [putStt_may s h5 h]
 have h1:=txt_vStt s h5 h
 have h3:=putV_len (vStt s)
 have:=dec_len7 (u:=(txtV (vStt s)).length) (by omega)
 omega
theorem Begun1_any (w:World) (hw:Env w):Calls Tryz.prog 109 #[] w (RetB (.bool true) w):=by
 refine vE Tryz.func109 ?_
 have hc:=CtxF.start w no (fun _ h=>h.elim) (R:=fun _ _=>True) trivial Stab.true
 refine hc.q (begun1_any _ hw) fun wQ hQ hc=>?_
 exact⟨rfl,hc.below⟩
theorem res_eql (a b:Res) (ox oy:Operand) (w:World):(do eqGuard BinOp.eql 54 ox oy (.agg #[.int .i64 a.err,.int .i64 a.ver]) (.agg #[.int .i64 b.err,.int .i64 b.ver]);Go.binOp BinOp.eql 54 (.agg #[.int .i64 a.err,.int .i64 a.ver]) (.agg #[.int .i64 b.err,.int .i64 b.ver]):Sem Value).run Tryz.prog w=.ok (.bool (a.err==b.err&&a.ver==b.ver)) w:=eql_run gd_res (eqRes_in 9998 · a b) ox oy w
set_option maxHeartbeats 4000000 in
theorem begun5_any (w:World) (hw:Env w):Calls Tryz.prog 68 #[] w (RetB (.bool true) w):=by
 refine vE Tryz.func68 ?_
 have hc:=CtxF.start w no (fun _ h=>h.elim) (R:=fun _ _=>True) trivial Stab.true
 have k1:=mayD_ok may_b1
 have k2:=mayD_ok may_b2
 refine hc.q (put5_any ⟨#[107]⟩ ⟨#[118]⟩ 1 (by decide) (by decide) _) fun wQ hQ hc=>?_
 refine hc.n fun g1 wg1 hg1 hc=>?_
 refine hc.s 0 rfl fun wS hS hc=>?_
 refine hc.a 0 rfl rfl ?_
 refine hc.q (putD_any d1B k1 _ (hw.tab.below hc.below)) fun wQ hQ hc=>?_
 have hg:=getD_any (putD d1B) (putD_len may_b1) _ (hw.below hc.below)
 rw [getD_put d1B k1 may_b1] at hg
 refine hc.q (hg) fun wQ hQ hc=>?_
 refine hc.n fun g3 wg3 hg3 hc=>?_
 refine hc.s 0 rfl fun wS hS hc=>?_
 have hg:=getD_any [] (by decide) _ (hw.below hc.below)
 rw [getD_b0] at hg
 refine hc.q (hg) fun wQ hQ hc=>?_
 refine hc.n fun g5 wg5 hg5 hc=>?_
 refine hc.s 0 rfl fun wS hS hc=>?_
 refine hc.a 2 rfl rfl ?_
 have hd:=bdo_any Stt0 d1B (fun e he=>by cases he) k1 stt0C _ _ hc.ctx.lt (rep0 _ _)
 rw [do_b1] at hd
 refine⟨hd.mono fun en wq hq=>?_⟩
 obtain⟨cs,e1,hq,hrep⟩:=hq
 have hc:=(hc.call hq).1.know hrep (stab_S _ _)
 obtain⟨A,cap,css,B,cap',l0,l1,l2,l3,l4,rfl,el,_⟩:=hrep.shape
 refine⟨_,e1,?_⟩
 refine hc.n fun g7 wg7 hg7 hc=>?_
 refine hc.n fun g8 wg8 hg8 hc=>?_
 refine hc.s 1 rfl fun wS hS hc=>?_
 refine hc.s 0 rfl fun wS hS hc=>?_
 refine hc.a 1 rfl rfl ?_
 have hd:=bdo_any sB d2B (fun e he=>((mayS_ok rfl mayS_bs).l e he).key) k2 _ _ _ hc.ctx.lt hc.row.2
 rw [do_b2] at hd
 refine⟨hd.mono fun en wq hq=>?_⟩
 obtain⟨cs,e1,hq,hrep⟩:=hq
 have hc:=(hc.call hq).1.know hrep (stab_S _ _)
 obtain⟨A',cap2,css',B',cap3,m0,m1,m2,m3,m4,rfl,em,_⟩:=hrep.shape
 refine⟨_,e1,?_⟩
 refine hc.n fun g9 wg9 hg9 hc=>?_
 refine hc.n fun g10 wg10 hg10 hc=>?_
 refine hc.s 1 rfl fun wS hS hc=>?_
 refine hc.s 0 rfl fun wS hS hc=>?_
 refine hc.a 3 rfl rfl ?_
 have hg:=bget_any sB ⟨#[107]⟩ 0 _ _ _ hc.row.1.2
 rw [get_b1] at hg
 refine hc.q (hg) fun wQ hQ hc=>?_
 refine hc.n fun g11 wg11 hg11 hc=>?_
 refine hc.s 0 rfl fun wS hS hc=>?_
 refine hc.a 2 rfl rfl ?_
 have hg:=bget_any uB ⟨#[107]⟩ 0 _ _ _ hc.row.2
 rw [get_b2] at hg
 refine hc.q (hg) fun wQ hQ hc=>?_
 refine hc.n fun g13 wg13 hg13 hc=>?_
 refine hc.s 0 rfl fun wS hS hc=>?_
 refine hc.a 5 rfl rfl ?_
 have hn:=bnames_any sB ⟨#[]⟩ ⟨#[]⟩ 5 (by decide) (by intro e he;cases he with | head=>decide | tail _ h=>cases h) _ _ _ hc.row.1.2
 rw [page_b] at hn
 refine⟨hn.mono fun en wq hq=>?_⟩
 obtain⟨An,cn,e1,hq,_⟩:=hq
 have hc:=(hc.quiet hq).1
 refine⟨_,e1,?_⟩
 refine hc.a 3 rfl rfl ?_
 refine hc.a 8 rfl rfl ?_
 have hd:=bdo_any uB d1B (fun e he=>((mayS_ok rfl mayS_bu).l e he).key) k1 _ _ _ hc.ctx.lt hc.row.2
 rw [do_b3] at hd
 refine⟨hd.mono fun en wq hq=>?_⟩
 obtain⟨cs,e1,hq,hrep⟩:=hq
 have hc:=(hc.call hq).1
 obtain⟨A3,cap4,css3,B3,cap5,n0,n1,n2,n3,n4,rfl,en,_⟩:=hrep.shape
 refine⟨_,e1,?_⟩
 refine hc.n fun g17 wg17 hg17 hc=>?_
 refine hc.n fun g18 wg18 hg18 hc=>?_
 refine hc.s 1 rfl fun wS hS hc=>?_
 refine hc.s 0 rfl fun wS hS hc=>?_
 refine hc.a 5 rfl rfl ?_
 refine hc.q (bput_any uB (fun e he=>((mayS_ok rfl mayS_bu).l e he).key) _ _ _ hc.row.2 (hw.tab.below hc.below)) fun wQ hQ hc=>?_
 have hr:=bread_any (putStt uB) (putStt_len rfl mayS_bu) _ (hw.below hc.below)
 rw [readStt_put uB rfl mayS_bu] at hr
 refine⟨hr.mono fun en wq hq=>?_⟩
 obtain⟨cs,e1,hq,hrep⟩:=hq
 have hc:=(hc.call hq).1.know (hrep.map fun h=>h.sub fun b h=>h.elim (fun h=>h.elim) .inr) (stab_S _ _)
 obtain⟨A5,cap6,css5,B5,cap7,p0,p1,p2,p3,p4,rfl,ep,_⟩:=hrep.shape
 refine⟨_,e1,?_⟩
 refine hc.n fun g19 wg19 hg19 hc=>?_
 refine hc.s 0 rfl fun wS hS hc=>?_
 refine hc.q (Begun1_any _ (hw.below hc.below)) fun wQ hQ hc=>?_
 have hg:=key_any ⟨#[97,47,98,46,99,45,49,95]⟩ (by decide) wQ
 rw [key_b1] at hg
 refine hc.q (hg) fun wQ hQ hc=>?_
 have hg:=key_any ⟨#[65]⟩ (by decide) wQ
 rw [key_b2] at hg
 refine hc.q (hg) fun wQ hQ hc=>?_
 refine hc.a 11 rfl rfl ?_
 have hg:=may_any d1B k1 wQ
 rw [may_b1] at hg
 refine hc.q (hg) fun wQ hQ hc=>?_
 have hg:=may_any D0 (by constructor<;>(first | (unfold i64ok;decide) | (unfold strok;decide))) wQ
 rw [may_b0] at hg
 refine hc.q (hg) fun wQ hQ hc=>?_
 have hg:=home_any 12884901889 wQ
 rw [home_b] at hg
 refine hc.q (hg) fun wQ hQ hc=>?_
 have hg:=make_any 2 5 wQ
 rw [make_b] at hg
 refine hc.q (hg) fun wQ hQ hc=>?_
 refine hc.a 10 rfl rfl ?_
 refine hc.a 11 rfl rfl ?_
 refine⟨.bool true,fun w=>by have:=eql_run gd_deed (eqD_in 9998 · d1B d1B) (.tmp 102) (.tmp 103) w;rw [eqD_iff.2 rfl] at this;exact this,?_⟩
 refine hc.a 7 rfl rfl ?_
 refine⟨.bool true,fun w=>res_eql ⟨0,1⟩ ⟨0,1⟩ _ _ w,?_⟩
 refine hc.a 5 rfl rfl ?_
 refine⟨.bool true,fun w=>res_eql ⟨0,2⟩ ⟨0,2⟩ _ _ w,?_⟩
 refine⟨_,hc.cell 4 rfl _ rfl,?_⟩
 refine⟨_,hc.cell 2 rfl _ rfl,?_⟩
 refine hc.a 1 rfl rfl ?_
 refine hc.a 7 rfl rfl ?_
 refine⟨.bool true,fun w=>res_eql ⟨0,1⟩ ⟨0,1⟩ _ _ w,?_⟩
 refine hc.a 0 rfl rfl ?_
 refine hc.a 6 rfl rfl ?_
 have hE:=beqS_any uB uB _ _ _ _ hc.row.2 hc.row.1.2
 rw [eqS_iff.2 rfl] at hE
 refine hc.q (hE) fun wQ hQ hc=>?_
 obtain⟨Ax,capx,cssx,Bx,capy,x0,x1,x2,x3,x4,ecs,_,hEx,hRx,hMx⟩:=hc.row.1.2.shape
 cases ecs
 obtain⟨ad,A1,cap1,hA,hcell,hRe⟩:=RowE.elem hRx hEx 0 (by decide)
 refine⟨_,hc.cell 6 rfl _ rfl,?_⟩
 subst hA
 refine⟨⟨by decide,by decide⟩,?_⟩
 refine⟨[.string ⟨#[107]⟩,.slice A1 2 cap1],rfl,hcell,?_⟩
 have hT:=tmay_any ⟨⟨#[107]⟩,[⟨1,false,⟨#[118]⟩⟩,⟨2,true,⟨#[]⟩⟩]⟩ (by unfold strok;decide) A1 cap1 _ _ hRe
 rw [mayE_b] at hT
 refine hc.q (hT) fun wQ hQ hc=>?_
 refine⟨_,hc.cell 6 rfl _ rfl,?_⟩
 refine⟨⟨by decide,by decide⟩,?_⟩
 obtain⟨Ax,capx,cssx,Bx,capy,x0,x1,x2,x3,x4,ecs,_,hEx,hRx,hMx⟩:=hc.row.1.2.shape
 cases ecs
 obtain⟨ad2,A2,cap2,hA,hcell,hRe⟩:=RowE.elem hRx hEx 0 (by decide)
 cases hA
 generalize hae:ad.add (0*2)=ae at hcell
 have hae:ad.add ((0:Int).toNat*2)=ae:=hae
 rw [hae]
 obtain⟨ab,ao,asub⟩:=ae
 refine⟨_,hcell.2.1,?_⟩
 refine hc.a 6 rfl rfl ?_
 have hT:=bmay_any uB (fun e he=>((mayS_ok rfl mayS_bu).l e he).key) _ _ _ hc.row.1.2
 rw [mayS_bu] at hT
 refine hc.q (hT) fun wQ hQ hc=>?_
 exact⟨rfl,hc.below⟩
end Go.Proofs.YtokglimimnelaaaGreatDoor
namespace Go.Proofs.YtokglimimnelaaaGreatDoor
open Go.Vc Go.RowKit Go.Fl Go.ChangeShapes Go.WideShapes Go.ChangeAt
set_option maxRecDepth 100000
abbrev laid5:List (String × DataW Unit):=[("math/bits.deBruijn32tab",Rows.laid_math_bits_deBruijn32tab),("math/bits.deBruijn64tab",Rows.laid_math_bits_deBruijn64tab),("internal/strconv.uint64pow10",Rows.laid_internal_strconv_uint64pow10),("strconv.ErrRange",Rows.laid_strconv_ErrRange),("strconv.ErrSyntax",Rows.laid_strconv_ErrSyntax)]
theorem ownK:ownKnob Tryz.prog.godebug=none:=by kernel_rfl
theorem gTab:∃ g,Tryz.prog.globalNamed "internal/strconv.uint64pow10"=some g/\(Tryz.prog.globals[g]?).map (·.type)=some 284:=⟨2,by kernel_rfl,by kernel_rfl⟩
theorem gES:∃ g,Tryz.prog.globalNamed "strconv.ErrSyntax"=some g/\(Tryz.prog.globals[g]?).map (·.type)=some 232:=⟨3,by kernel_rfl,by kernel_rfl⟩
theorem gER:∃ g,Tryz.prog.globalNamed "strconv.ErrRange"=some g/\(Tryz.prog.globals[g]?).map (·.type)=some 232:=⟨4,by kernel_rfl,by kernel_rfl⟩
theorem cTab:Tryz.prog.cellsOf 284=20:=by kernel_rfl
theorem cU64:Tryz.prog.cellsOf 271=1:=by kernel_rfl
theorem cES:Tryz.prog.cellsOf 309=1:=by kernel_rfl
theorem cStr:Tryz.prog.cellsOf 9=1:=by kernel_rfl
theorem starE : "*" ++ "errors.errorString" = "*errors.errorString":=by decide
theorem rowES (u:TypeId) (h:Tryz.prog.typeName? 3 u=some "*errors.errorString"):u=307:=
 typeName_ptr_named (nm := "errors.errorString") (by rw [starE];kernel_rfl) (by kernel_rfl) (by decide) u (by rw [starE];exact h)
theorem env_laid {W:World} (h:laidMetH Tryz.prog laid5 W):Env W:=by
 rw [MakeChecks.laidMetH_plain _ _ _ (by kernel_rfl)] at h
 obtain⟨g1,a1,a2⟩:=gTab
 obtain⟨g2,b1,b2⟩:=gER
 obtain⟨g3,c1,c2⟩:=gES
 have ht:=Lib.tabIs_of_head (k:=.u64) (zs:=Lib.pow10Tab) a1 a2 Tryz.underlying284 Tryz.underlying271 cU64 cTab h.tail.tail
 obtain⟨x0,s0,hv0,-,-,-⟩:=laid_sentinel h.tail.tail.tail b1 b2 Tryz.underlying232 rowES Tryz.underlying307 Tryz.underlying309 rfl rfl Tryz.underlying9 cES cStr
 obtain⟨x1,s1,hv1,-,-,-⟩:=laid_sentinel h.tail.tail.tail.tail c1 c2 Tryz.underlying232 rowES Tryz.underlying307 Tryz.underlying309 rfl rfl Tryz.underlying9 cES cStr
 exact⟨ht,⟨_,_,hv1⟩,⟨_,_,hv0⟩⟩
theorem laid_met (os:Os) (args:Array Value):laidMetH Tryz.prog laid5 ((World.laidAll Tryz.prog os laid5).forCall (fun _ _=>0) ⟨#[],args,[]⟩).memory:=by
 rw [MakeChecks.laidMetH_plain _ _ _ (by kernel_rfl)]
 exact laidMet_laidAll args (by kernel_rfl) (by kernel_rfl)
set_option maxRecDepth 100000
theorem and2 {a b:Bool} (h:a=true) (k:b=true):(a&&b)=true:=by rw [h,k];rfl
theorem lay5:laidOutB Tryz.prog=true:=by kernel_rfl
theorem all_stays {H:Type} {enc:TypeId × Value->H} {P:Program} (hP:laidOutB P=true) {W W':World} {sp:Nat->Bool} (hb:Below W.heap.size W W') (ts:List TypeId):∀ {vs:List Value} {ds:List (DataW H)} {ps:List MemPlace},
  ts.all (fun t=>P.readableRec t&&decide (t<P.types.size))=true->DataW.TrodAll enc P W 0 (fun _=>true) true ts vs ds ps->(∀ x∈ps,x.block<W.heap.size)->(∀ x∈ps,sp x.block=true)->
  DataW.TrodAll enc P W' 0 sp true ts vs ds ps:=by
 induction ts with
 | nil=>
  intro _ _ _ _ h _ _
  obtain⟨rfl,rfl,rfl⟩:=trodAll_nil h
  exact trodAll_mk0
 | cons t ts ih=>
  intro _ _ _ hr h hl hs
  obtain⟨v,vs1,d,ds1,a,b,rfl,rfl,rfl,h1,h2⟩:=trodAll_cons h
  rw [List.all_cons,Bool.and_eq_true,Bool.and_eq_true,decide_eq_true_eq] at hr
  exact trodAll_cons_mk (WideElems.Trod_stays hP hr.1.1 hr.1.2 h1 (fun x hx=>hb.same (hl x (List.mem_append_left _ hx))) (fun x hx=>hs x (List.mem_append_left _ hx)))
   (ih hr.2 h2 (fun x hx=>hl x (List.mem_append_right _ hx)) (fun x hx=>hs x (List.mem_append_right _ hx)))
theorem post_true {H:Type} {enc:TypeId × Value->H} {f:Func} {s:ChangeSpec} {W W':World} {args:Array Value} {ds gs:List (DataW H)} {before:List MemPlace} (hv:s.vars=[]) (hr:f.resultTypes=#[4])
  (hrd:f.params.toList.all (fun t=>Tryz.prog.readableRec t&&decide (t<Tryz.prog.types.size))=true) (hfn:gs=[]->s.fn H (ds++gs)={ results:=[.lit (.bool true)],args:=ds })
  (hW:DataW.Whole enc Tryz.prog f.params.toList s.vars false W args.toList ds gs before) (hb:Below W.heap.size W W'):
  s.post enc Tryz.prog f false true false false W args (.bool true) W':=by
 have hlt:=fun x (hx:x∈before)=>hW.lt x hx
 have hW':=hW
 obtain⟨p,q,hA,hV,rfl,hfz,hnd⟩:=hW
 rw [hv] at hV
 obtain⟨rfl,rfl⟩:=trodVars_none hV
 have hfn:=hfn rfl
 refine⟨ds,[],p++[],[],p,[],hW',?_,?_,?_,hb.frame _,fun h=>by cases h⟩
 ·rw [hfn,hr]
  exact trodAll_mk1 (shut_bool Tryz.underlying4 true)
 ·rw [hfn]
  exact all_stays lay5 hb _ hrd hA (fun x hx=>hlt x (List.mem_append_left _ hx)) (fun x hx=>by simpa using hlt x (List.mem_append_left _ hx))
 ·rw [hfn,hv]
  rfl
end Go.Proofs.YtokglimimnelaaaGreatDoor
section
namespace Go.Proofs.YtokglimimnelaaaGreatDoor
open Go.Vc Go.RowKit Go.Fl Go.ChangeShapes Go.WideShapes Go.ChangeAt
set_option maxRecDepth 100000
section
variable {H:Type} {enc:TypeId × Value->H} {P:Program} {w:World} {base:Nat} {spare:Nat->Bool} {held:Bool} {fuel:Nat} {t:TypeId} {cs:List Value} {x:DataW H × List MemPlace}
theorem rd_i64 (ht:P.underlying t=some (.int .i64)) (h:DataW.trod enc P w base spare held fuel t cs=some x):∃ n,cs=[.int .i64 n]/\i64ok n:=by
 obtain⟨n,e,_,hw⟩:=DataW.trod_int ht h
 simp only [Lit.wf,Bool.and_eq_true,decide_eq_true_eq] at hw
 refine⟨n,e,?_⟩
 have h1:=hw.1
 have h2:=hw.2
 rw [show IntKind.i64.min = -9223372036854775808 by decide] at h1
 rw [show IntKind.i64.max=9223372036854775807 by decide] at h2
 exact⟨h1,h2⟩
theorem rd_str (ht:P.underlying t=some .string) (h:DataW.trod enc P w base spare held fuel t cs=some x):∃ s,cs=[.string s]/\s.size<=maxLen:=by
 obtain⟨s,e,_,hw⟩:=DataW.trod_string ht h
 exact⟨s,e,hw⟩
theorem rd_struct {fs:Array Field} (ht:P.underlying t=some (.struct fs)) (h:DataW.trod enc P w base spare held fuel t cs=some x):
  cs.length=P.cellsOf t/\∀ (i:Nat) (f:Field),fs[i]?=some f->∃ n y,DataW.trod enc P w base spare held n f.type ((cs.drop f.offset).take (P.cellsOf f.type))=some y:=by
 obtain⟨xs,n,_,_,hl,hlen,hf⟩:=DataW.trod_struct ht h
 refine⟨hl,fun i f hi=>⟨n,?_⟩⟩
 have hi':i<xs.length:=by
  rw [hlen]
  exact (Array.getElem?_eq_some_iff.1 hi).1
 exact⟨xs[i],by rw [hf i f hi,List.getElem?_eq_getElem hi']⟩
theorem fld {fs:Array Field} (h2:∀ (i:Nat) (f:Field),fs[i]?=some f->∃ n y,DataW.trod enc P w base spare held n f.type ((cs.drop f.offset).take (P.cellsOf f.type))=some y)
  (i:Nat) (f:Field) (hi:fs[i]?=some f) (T:TypeId) (hT:f.type=T) (k:Nat) (hk:P.cellsOf T=k) (o:Nat) (ho:f.offset=o):∃ n y,DataW.trod enc P w base spare held n T ((cs.drop o).take k)=some y:=by
 subst hT;subst hk;subst ho
 exact h2 i f hi
theorem cell_in {a:Addr} {u:Value} (h:w.cell? a=some u):a.block<w.heap.size:=by
 rcases Nat.lt_or_ge a.block w.heap.size with h1 | h1
 ·exact h1
 ·have h2:w.heap[a.block]?=none:=by simp;omega
  simp [World.cell?,h2] at h
theorem rd_slice {e:TypeId} (hk:0<P.cellsOf e) (ht:P.underlying t=some (.slice e)) (h:DataW.trod enc P w base spare held fuel t cs=some x):
  ∃ A len cap,cs=[.slice A len cap]/\len<=cap/\cap<=maxLen/\∀ i,i<len->∃ a c n y,A=some a/\c.length=P.cellsOf e/\a.block<w.heap.size/\(∀ j,j<P.cellsOf e->w.cell? (a.add (i*P.cellsOf e+j))=c[j]?)/\DataW.trod enc P w base spare held n e c=some y:=by
 rcases DataW.trod_slice ht h with ⟨rfl,_⟩ | ⟨a,len,cap,elems,rest,n,_,rfl,_,hb,hlc,hcm,hel,hi,_⟩
 ·exact⟨none,0,0,rfl,Nat.le_refl _,Nat.zero_le _,fun i hi=>absurd hi (by omega)⟩
 ·refine⟨some a,len,cap,rfl,hlc,hcm,fun i hil=>?_⟩
  have h1:=hi i hil
  rw [List.getElem?_eq_getElem (by omega)] at h1
  obtain⟨c,hc,hr⟩:=Option.bind_eq_some_iff.1 h1
  obtain⟨_,hcl,hcc⟩:=World.cells?_some hc
  refine⟨a,c,n,_,rfl,hcl,?_,fun j hj=>?_,hr⟩
  ·have h0:=hcc 0 hk
   rw [List.getElem?_eq_getElem (by omega)] at h0
   have:=cell_in h0
   rwa [add_block,add_block] at this
  ·rw [<-add_add]
   exact hcc j hj
theorem flat_at {k:Nat}:∀ (css:List (List Value)),(∀ c∈css,c.length=k)->∀ (m:Nat) (u:Value),css.flatten[m]?=some u->∃ i j c,css[i]?=some c/\j<k/\m=i*k+j/\c[j]?=some u
 | [],_,m,u,h=>by simp at h
 | c::r,hl,m,u,h=>by
  have hc:=hl c (by simp)
  rw [List.flatten_cons] at h
  rcases Nat.lt_or_ge m k with hm | hm
  ·rw [List.getElem?_append_left (by omega)] at h
   exact⟨0,m,c,rfl,hm,by omega,h⟩
  ·rw [List.getElem?_append_right (by omega),hc] at h
   obtain⟨i,j,c',h1,h2,h3,h4⟩:=flat_at r (fun x hx=>hl x (by simp [hx])) (m-k) u h
   exact⟨i+1,j,c',by simpa using h1,h2,by rw [Nat.succ_mul];omega,h4⟩
theorem rd_rowR {α:Type} {e:TypeId} (R:α->List Value->Prop) (hk:0<P.cellsOf e) (hread:∀ n c y,DataW.trod enc P w base spare held n e c=some y->∃ a,R a c)
  (ht:P.underlying t=some (.slice e)) (h:DataW.trod enc P w base spare held fuel t cs=some x):
  ∃ A cap,∃ (l:List α) (css:List (List Value)),cs=[.slice A l.length cap]/\css.length=l.length/\(∀ (i:Nat) (a:α) (c:List Value),l[i]?=some a->css[i]?=some c->R a c)/\(∀ c∈css,c.length=P.cellsOf e)/\Row (fun b=>b<w.heap.size) w A l.length cap css.flatten:=by
 obtain⟨A,len,cap,rfl,hlc,hcm,hel⟩:=rd_slice hk ht h
 have hex:∀ i:Fin len,∃ q:Addr × List Value × α,A=some q.1/\q.2.1.length=P.cellsOf e/\q.1.block<w.heap.size/\(∀ j,j<P.cellsOf e->w.cell? (q.1.add (i.val*P.cellsOf e+j))=q.2.1[j]?)/\R q.2.2 q.2.1:=by
  intro i
  obtain⟨a,c,n,y,h1,h2,h3,h4,h5⟩:=hel i.val i.isLt
  obtain⟨b,hb⟩:=hread n c y h5
  exact⟨(a,c,b),h1,h2,h3,h4,hb⟩
 obtain⟨f,hf⟩:=Classical.axiomOfChoice hex
 refine⟨A,cap,List.ofFn fun i=>(f i).2.2,List.ofFn fun i=>(f i).2.1,by simp,by simp,?_,?_,?_⟩
 ·intro i a c h1 h2
  rw [List.getElem?_ofFn] at h1 h2
  split at h1
  ·rename_i hi
   rw [dif_pos hi] at h2
   cases h1;cases h2
   exact (hf ⟨i,hi⟩).2.2.2.2
  ·cases h1
 ·intro c hc
  obtain⟨i,rfl⟩:=List.mem_ofFn.1 hc
  exact (hf i).2.1
 ·rw [List.length_ofFn]
  refine⟨hlc,hcm,fun hne=>?_⟩
  have hpos:0<len:=by
   rcases Nat.eq_zero_or_pos len with h0 | h0
   ·subst h0
    exact absurd (by simp) hne
   ·exact h0
  obtain⟨hA,_,hS,_,_⟩:=hf ⟨0,hpos⟩
  refine⟨(f ⟨0,hpos⟩).1,hA,hS,fun m u hu=>?_⟩
  obtain⟨i,j,c,h1,h2,rfl,h4⟩:=flat_at _ (fun c hc=>by
   obtain⟨i,rfl⟩:=List.mem_ofFn.1 hc
   exact (hf i).2.1) m u hu
  rw [List.getElem?_ofFn] at h1
  split at h1
  ·rename_i hi
   cases h1
   rw [Option.some.inj (hA.symm.trans (hf ⟨i,hi⟩).1)]
   rw [(hf ⟨i,hi⟩).2.2.2.1 j h2]
   exact h4
  ·cases h1
end
theorem shape8 {c:List Value} (h:c.length=8):∃ a0 a1 a2 a3 a4 a5 a6 a7,c=[a0,a1,a2,a3,a4,a5,a6,a7]:=by
 match c,h with
 | [a0,a1,a2,a3,a4,a5,a6,a7],_=>exact⟨a0,a1,a2,a3,a4,a5,a6,a7,rfl⟩
theorem cIntA:Tryz.prog.cellsOf 3=1:=by kernel_rfl
theorem cI64A:Tryz.prog.cellsOf 2=1:=by kernel_rfl
theorem cStrA:Tryz.prog.cellsOf 9=1:=by kernel_rfl
theorem cDeedA:Tryz.prog.cellsOf 32=8:=by kernel_rfl
section
variable {H:Type} {enc:TypeId × Value->H} {w:World} {base:Nat} {spare:Nat->Bool} {held:Bool} {fuel:Nat} {cs:List Value} {x:DataW H × List MemPlace}
set_option maxRecDepth 100000 in
theorem rd_deed (h:DataW.trod enc Tryz.prog w base spare held fuel 32 cs=some x):∃ d:D,cs=dC d/\d.Ok:=by
 obtain⟨hl,hf⟩:=rd_struct Tryz.underlying32 h
 rw [cDeedA] at hl
 obtain⟨c0,c1,c2,c3,c4,c5,c6,c7,rfl⟩:=shape8 hl
 obtain⟨_,_,h0⟩:=fld hf 0 _ rfl 3 rfl 1 cIntA 0 rfl
 obtain⟨_,_,h1⟩:=fld hf 1 _ rfl 9 rfl 1 cStrA 1 rfl
 obtain⟨_,_,h2⟩:=fld hf 2 _ rfl 9 rfl 1 cStrA 2 rfl
 obtain⟨_,_,h3⟩:=fld hf 3 _ rfl 2 rfl 1 cI64A 3 rfl
 obtain⟨_,_,h4⟩:=fld hf 4 _ rfl 3 rfl 1 cIntA 4 rfl
 obtain⟨_,_,h5⟩:=fld hf 5 _ rfl 9 rfl 1 cStrA 5 rfl
 obtain⟨_,_,h6⟩:=fld hf 6 _ rfl 2 rfl 1 cI64A 6 rfl
 obtain⟨_,_,h7⟩:=fld hf 7 _ rfl 2 rfl 1 cI64A 7 rfl
 obtain⟨n0,e0,k0⟩:=rd_i64 Tryz.underlying3 h0
 obtain⟨n1,e1,k1⟩:=rd_str Tryz.underlying9 h1
 obtain⟨n2,e2,k2⟩:=rd_str Tryz.underlying9 h2
 obtain⟨n3,e3,k3⟩:=rd_i64 Tryz.underlying2 h3
 obtain⟨n4,e4,k4⟩:=rd_i64 Tryz.underlying3 h4
 obtain⟨n5,e5,k5⟩:=rd_str Tryz.underlying9 h5
 obtain⟨n6,e6,k6⟩:=rd_i64 Tryz.underlying2 h6
 obtain⟨n7,e7,k7⟩:=rd_i64 Tryz.underlying2 h7
 cases e0;cases e1;cases e2;cases e3;cases e4;cases e5;cases e6;cases e7
 have hm:∀ {n:Nat},n<=maxLen->n<=9223372036854775807:=fun h=>Nat.le_trans h (by decide)
 exact⟨⟨n0,n1,n2,n3,n4,n5,n6,n7⟩,rfl,⟨k0,hm k1,hm k2,k3,k4,hm k5,k6,k7⟩⟩
end
section
variable {H:Type} {enc:TypeId × Value->H} {P:Program} {w:World} {base:Nat} {spare:Nat->Bool} {held:Bool} {fuel:Nat} {t:TypeId} {cs:List Value} {x:DataW H × List MemPlace}
theorem rd_flat {α:Type} {e:TypeId} (f:α->List Value) (Ok:α->Prop) (hk:0<P.cellsOf e) (hread:∀ n c y,DataW.trod enc P w base spare held n e c=some y->∃ a,c=f a/\Ok a)
  (ht:P.underlying t=some (.slice e)) (h:DataW.trod enc P w base spare held fuel t cs=some x):
  ∃ A cap,∃ l:List α,cs=[.slice A l.length cap]/\Row (fun b=>b<w.heap.size) w A l.length cap (l.map f).flatten/\∀ a∈l,Ok a:=by
 obtain⟨A,cap,l,css,rfl,hl,hR,_,hrow⟩:=rd_rowR (fun a c=>c=f a/\Ok a) hk hread ht h
 refine⟨A,cap,l,rfl,?_,fun a ha=>?_⟩
 ·have:css=l.map f:=by
   refine List.ext_getElem (by simpa using hl) fun i h1 h2=>?_
   rw [List.getElem_map]
   exact (hR i _ _ (List.getElem?_eq_getElem (by omega)) (List.getElem?_eq_getElem h1)).1
  rwa [this] at hrow
 ·obtain⟨i,hi,rfl⟩:=List.getElem_of_mem ha
  exact (hR i _ _ (List.getElem?_eq_getElem hi) (List.getElem?_eq_getElem (by omega))).2
end
theorem mx {n:Nat} (h:n<=maxLen):n<=9223372036854775807:=Nat.le_trans h (by decide)
section
variable {H:Type} {enc:TypeId × Value->H} {w:World} {base:Nat} {spare:Nat->Bool} {held:Bool} {fuel:Nat} {cs:List Value} {x:DataW H × List MemPlace}
abbrev inW (w:World) (b:Nat):Prop:=b<w.heap.size
end
section
variable {H:Type} {enc:TypeId × Value->H} {W:World} {base:Nat} {sp:Nat->Bool} {hd:Bool} {v:Value} {d:DataW H} {p:List MemPlace}
set_option maxRecDepth 100000 in
theorem open_flat {α:Type} {t e:TypeId} (f:α->List Value) (Ok:α->Prop) (hk:0<Tryz.prog.cellsOf e) (hread:∀ n c y,DataW.trod enc Tryz.prog W 0 sp hd n e c=some y->∃ a,c=f a/\Ok a) (ht:Tryz.prog.underlying t=some (.slice e))
  (h:DataW.Trod enc Tryz.prog W 0 sp hd t v d p) (k:Value.okWide Tryz.prog W .any base t v):∃ A cap,∃ l:List α,v=.slice A l.length cap/\Row (inW W) W A l.length cap (l.map f).flatten/\∀ a∈l,Ok a:=by
 obtain⟨a0,len,cap0,rfl⟩:=okWide_slice ht k
 obtain⟨fuel,hf⟩:=h
 obtain⟨A,cap,l,e1,hr,hl⟩:=rd_flat f Ok hk hread ht hf
 have e2:(Value.slice a0 len cap0).cells.toList=[.slice a0 len cap0]:=rfl
 rw [e2] at e1
 cases e1
 exact⟨a0,cap0,l,rfl,hr,hl⟩
end
end Go.Proofs.YtokglimimnelaaaGreatDoor
end
section
namespace Go.Vc
open Go Go.RowKit
set_option maxRecDepth 100000
theorem Drawn.join {P:Program} {id:Nat} {ops:Array Oper} {f:Fr} {w:World} {K:Fr->World->Prop} {α:Type} (l:α->List (Nat × Value)) (R:α->World->Prop)
  (h:Drawn P id ops f w (fun f' w'=>∃ x,fits f' (l x)/\R x w')) (hk:∀ x u w',R x w'->K (Go.Vc.mk (l x) u) w'):Drawn P id ops f w K:=
 ⟨fun n a h1 h2=>wp_mono (h.wp n a h1 h2) fun e a' w' ⟨he,f',ha,x,hf,hr⟩=>⟨he,f',ha,by
  have:=hk x f' w' hr
  rwa [mk_fits hf] at this⟩⟩
abbrev Old (w x:World):Prop:=Keeps (fun b=>b<w.heap.size) w x
theorem Old.start (w:World):Old w w.drew:=Keeps.start _ _
theorem CtxF.old0 {S0 S:Nat->Prop} {w0 w:World} {l:List LB} {os:List OR} {R:Kn} (_:CtxF S0 w0 S w l os R):Old w w.drew:=Keeps.start _ _
theorem CtxF.swapL {S0 S:Nat->Prop} {w0 w:World} {x y:LB} {l:List LB} {os:List OR} {R:Kn} (hc:CtxF S0 w0 S w (x::y::l) os R):CtxF S0 w0 S w (y::x::l) os R:=by
 obtain⟨⟨h1,h2,h3,h4,h5⟩,h6,h7,h8⟩:=hc
 obtain⟨g,T,cs⟩:=x
 obtain⟨g',T',cs'⟩:=y
 obtain⟨a1,a2,a3,a4,b1,b2,b3,b4,b5⟩:=h5
 refine⟨⟨h1,h2,h3,h4,b1,b2,b3,fun z hz=>?_,a1,a2,a3,fun z hz=>a4 z (List.mem_cons_of_mem _ hz),b5⟩,h6.step fun o ho a ha=>⟨rfl,((h6.mem o ho).out a ha).1,fun z hz=>((h6.mem o ho).out a ha).2 z ?_⟩,h7,h8⟩
 ·cases hz with
  | head=>exact fun e=>a4 (g',T',cs') (List.mem_cons_self ..) e.symm
  | tail _ hz=>exact b4 z hz
 ·cases hz with
  | head=>exact List.mem_cons_of_mem _ (List.mem_cons_self ..)
  | tail _ hz=>
   cases hz with
   | head=>exact List.mem_cons_self ..
   | tail _ hz=>exact List.mem_cons_of_mem _ (List.mem_cons_of_mem _ hz)
end Go.Vc
namespace Go.Proofs.YtokglimimnelaaaGreatDoor
open Go.Vc Go.RowKit Go.Fl Go.ChangeShapes Go.WideShapes Go.ChangeAt
structure SX where
 A:Option Addr
 cap:Nat
 B:Option Addr
 cap':Nat
 l0:Int
 l1:Int
 l2:Int
 l3:Int
 l4:Int
def stX (s:Stt) (x:SX):List Value:=[.int .i64 s.seq,.slice x.A s.l.length x.cap,.slice x.B s.ms.length x.cap',.int .i64 x.l0,.int .i64 x.l1,.int .i64 x.l2,.int .i64 x.l3,.int .i64 x.l4]
def SX0:SX:=⟨none,0,none,0,0,0,0,0,0⟩
theorem RepS.stX {S:Nat->Prop} {w:World} {s:Stt} {cs:List Value} (h:RepS S w s cs):∃ x,cs=stX s x:=by
 obtain⟨A,cap,css,B,cap',l0,l1,l2,l3,l4,rfl,_⟩:=h.shape
 exact⟨⟨A,cap,B,cap',l0,l1,l2,l3,l4⟩,rfl⟩
theorem RepS.lowsX {S:Nat->Prop} {w:World} {s:Stt} {x:SX} (h:RepS S w s (Go.Proofs.YtokglimimnelaaaGreatDoor.stX s x)):s.lows=[x.l0,x.l1,x.l2,x.l3,x.l4]:=by
 obtain⟨A,cap,css,B,cap',l0,l1,l2,l3,l4,e,el,_⟩:=h.shape
 unfold Go.Proofs.YtokglimimnelaaaGreatDoor.stX at e
 simp only [List.cons.injEq,Value.int.injEq,true_and,and_true] at e
 rw [el,e.2.2.1,e.2.2.2.1,e.2.2.2.2.1,e.2.2.2.2.2.1,e.2.2.2.2.2.2]
theorem rep0X (S:Nat->Prop) (w:World):RepS S w Stt0 (stX Stt0 SX0):=rep0 S w
theorem res_selfN (a:Res) (ox oy:Operand) (w:World):(do eqGuard BinOp.neq 54 ox oy (.agg #[.int .i64 a.err,.int .i64 a.ver]) (.agg #[.int .i64 a.err,.int .i64 a.ver]);Go.binOp BinOp.neq 54 (.agg #[.int .i64 a.err,.int .i64 a.ver]) (.agg #[.int .i64 a.err,.int .i64 a.ver]):Sem Value).run Tryz.prog w=.ok (.bool false) w:=by
 have h:=neq_run gd_res (eqRes_in 9998 · a a) ox oy w
 rw [show (!(a.err==a.err&&a.ver==a.ver))=false by simp] at h
 exact h
theorem dC_flat (l:List D):Flat 8 (l.map dC):=Flat.map dC (fun d=>⟨rfl,rfl⟩) l
theorem RowD.elem {S:Nat->Prop} {w:World} {A:Option Addr} {n cap:Nat} {l:List D} (hR:Row S w A n cap (l.map dC).flatten) (i:Nat) (hi:i<l.length):∃ ad,A=some ad/\Go.Vc.cellsAt w (ad.add (i*8)) (dC l[i]) 0:=by
 obtain⟨ad,e,h⟩:=Row.elemF hR (by decide) (dC_flat l) i (by rw [List.length_map];exact hi)
 rw [List.getElem_map] at h
 exact⟨ad,e,h⟩
theorem own_row {w w':World} {e sz n cap:Nat} {A:Option Addr} {xs:List Value} (hb:Below w.heap.size w w') (ho:w'.ownsRow w.heap.size e sz (.slice A n cap) n xs) (S:Nat->Prop):Row (ext S w w') w' A n cap xs:=by
 have h0:Own no w.heap.size w' [] e sz A n cap xs:=⟨ho,fun a ha=>⟨fun h=>h.elim,fun x hx=>by cases hx⟩⟩
 obtain⟨h1,h2,h3⟩:=h0.told ((Ctx.start w no (fun _ h=>h.elim)).quiet hb).1
 refine (h3 h0.fit.1 h0.fit.2).sub fun b hb=>?_
 rcases hb with hb | ⟨a,ha,rfl⟩
 ·exact hb.elim
 ·exact .inr (h0.lt ha)
theorem RetA.row {A:Option Addr} {cap:Nat} {e:Ent} {q:Ent × Bool} {w w':World} {en:Ending} {S:Nat->Prop} (h:RetA A cap e q w en w') (hq:q.2=false->q.1=e) (hR:Row S w A e.vs.length cap (e.vs.map verC).flatten):
  ∃ A' cap',en=.returned (.tuple #[.agg #[.string q.1.key,.slice A' q.1.vs.length cap'],.bool q.2])/\Below w.heap.size w w'/\Row (ext S w w') w' A' q.1.vs.length cap' (q.1.vs.map verC).flatten:=by
 obtain⟨q1,q2⟩:=q
 cases q2
 ·rw [RetA,if_neg (fun h=>by cases h)] at h
  obtain⟨h1,hb⟩:=h
  have e0:q1=e:=hq rfl
  subst e0
  exact⟨A,cap,h1,hb,(hR.below hb).sub fun b h=>.inl h⟩
 ·rw [RetA,if_pos rfl] at h
  obtain⟨A',c',e1,hb,ho⟩:=h
  exact⟨A',c',e1,hb,own_row hb ho S⟩
theorem Old.looks {w x:World} (h:Old w x) {a:Addr} {cs:List Value} {i:Nat} (hc:Go.Vc.cellsAt w a cs i):Go.Vc.cellsAt x a cs i:=Keeps.looks h _ _ hc
end Go.Proofs.YtokglimimnelaaaGreatDoor
end
namespace Go.Proofs.YtokglimimnelaaaGreatDoor
open Go.Vc Go.RowKit Go.Fl
set_option maxRecDepth 100000
def doF (s:Stt) (d:D):Stt × Res:=
 if d.req<lowAt s.lows (homeI d.req) then (⟨s.seq+1,s.l,s.ms,s.lows⟩,⟨12,0⟩)
 else match memAt s.ms d.req with
  | some m=>(⟨s.seq+1,s.l,s.ms,s.lows⟩,m.res)
  | none=>
   if 100<=s.ms.length then (⟨s.seq+1,s.l,s.ms,s.lows⟩,⟨5,0⟩)
   else
    let q:=doK s.l (s.seq+1) d
    let ms:=s.ms.take (posM s.ms d.req)++⟨d.req,q.2⟩::s.ms.drop (posM s.ms d.req)
    if lowAt s.lows (homeI d.req)<d.low/\homeI d.low=homeI d.req then
     (⟨s.seq+1,q.1,keepM d.low (homeI d.req) ms,s.lows.set (homeI d.req-1).toNat d.low⟩,q.2)
    else (⟨s.seq+1,q.1,ms,s.lows⟩,q.2)
theorem doS_F {s:Stt} {d:D} (h:mayS s=true) (hd:mayD d=true) (hq:s.seq<maxN):doS s d=doF s d:=by
 unfold doS doF
 rw [if_neg (by rw [h,hd];decide),if_neg (by omega)]
 rfl
theorem doS_seq (s:Stt) (d:D):(doS s d).1.seq<=s.seq+1:=by
 cases doS_done s d with
 | form _ e=>rw [e];show s.seq<=_;omega
 | top _ e=>rw [e];show s.seq<=_;omega
 | old _ _ _ _ e=>rw [e];exact Int.le_refl _
 | told _ _ _ _ _ _ e=>rw [e];exact Int.le_refl _
 | full _ _ _ _ _ _ e=>rw [e];exact Int.le_refl _
 | new _ _ _ _ _ _ _ _ _ _ e=>rw [e];exact Int.le_refl _
def foldS (s:Stt) (l:List D):Stt:=l.foldl (fun s d=>(doS s d).1) s
theorem foldS_ok:∀ (l:List D) {s:Stt},mayS s=true->s.lows.length=5->mayS (foldS s l)=true/\(foldS s l).lows.length=5/\(foldS s l).seq<=s.seq+l.length
 | [],s,h,h5=>⟨h,h5,by show s.seq<=s.seq+((0:Nat):Int);omega⟩
 | d::r,s,h,h5=>by
  obtain⟨a,b,c⟩:=foldS_ok r (mayS_doS (d:=d) h5 h) (doS_lows5 d h5)
  have:=doS_seq s d
  refine⟨a,b,Int.le_trans c ?_⟩
  rw [List.length_cons]
  omega
theorem foldS_keys {s:Stt} (h:mayS s=true) (h5:s.lows.length=5):∀ e∈s.l,strok e.key:=fun e he=>((mayS_ok h5 h).l e he).key
theorem foldS_snoc (s:Stt) (l:List D) (d:D):foldS s (l++[d])=(doS (foldS s l) d).1:=by
 unfold foldS
 rw [List.foldl_append]
 rfl
theorem _root_.Go.Vc.Old.new {w x x':World} {cs:List Value} {T g:Nat} (hk:Old w x) (h:New x cs T g x'):¬ g<w.heap.size:=by
 have h1:=hk.2
 have h2:=h.1
 omega
end Go.Proofs.YtokglimimnelaaaGreatDoor
namespace Go.Proofs.YtokglimimnelaaaGreatDoor
open Go.Vc Go.RowKit Go.Fl Go.ChangeShapes Go.WideShapes Go.ChangeAt
set_option maxRecDepth 100000
structure Scroll where
 s:ByteArray
 pressed:Int
 kept:Bool
structure Chest where
 room:Int
 f:ByteArray->Option Scroll
 k:Nat
def scC (r:Scroll):List Value:=[.string r.s,.int .i64 r.pressed,.bool r.kept]
def sc0:Scroll:=⟨⟨#[]⟩,0,false⟩
def scD (r:Scroll):DataW Unit:=.agg [.lit (.string r.s.data.toList),.lit (.int .i64 r.pressed),.lit (.bool r.kept)]
def scR:Value->Option (DataW Unit × List MemPlace)
 | .agg cs=>match cs.toList with
  | [.string s,.int .i64 p,.bool k]=>some (scD ⟨s,p,k⟩,[])
  | _=>none
 | _=>none
theorem scR_mk (r:Scroll):scR (.agg (scC r).toArray)=some (scD r,[]):=rfl
theorem scD_inj {a b:Scroll} (h:scD a=scD b):a=b:=by
 obtain⟨s,p,k⟩:=a
 obtain⟨s',p',k'⟩:=b
 unfold scD at h
 injection h with h
 injection h with h1 h2
 injection h2 with h2 h3
 injection h3 with h3 h4
 injection h1 with h1
 injection h1 with h1
 injection h2 with h2
 injection h2 with _ h2
 injection h3 with h3
 injection h3 with h3
 have h1:s.data.toList=s'.data.toList:=h1
 have e:s=s':=strEq_iff.1 (beq_iff_eq.2 h1)
 have h2:p=p':=h2
 have h3:k=k':=h3
 subst e h2 h3
 rfl
theorem scR_inv {v:Value} {d:DataW Unit} {ps:List MemPlace} (h:scR v=some (d,ps)):∃ r,v=.agg (scC r).toArray/\d=scD r:=by
 unfold scR at h
 split at h
 ·rename_i cs
  split at h
  ·rename_i s p k e
   cases h
   refine⟨⟨s,p,k⟩,?_,rfl⟩
   show Value.agg cs=.agg (scC ⟨s,p,k⟩).toArray
   rw [show scC ⟨s,p,k⟩=cs.toList from e.symm,Array.toArray_toList]
  ·cases h
 ·cases h
def MapC (b k:Nat) (f:ByteArray->Option Scroll) (w:World):Prop:=
 ∃ D:DataW Unit,w.ownsMap Tryz.prog 9 scR b k D/\Maps.size D=k/\∀ x:ByteArray,x.size<=maxLen->Maps.has D (.string x.data.toList)=(f x).isSome/\∀ r,f x=some r->D.atKey (.string x.data.toList) (scD sc0)=scD r
theorem MapC.eq {b k:Nat} {f:ByteArray->Option Scroll} {w w':World} (h:MapC b k f w) (e:w'.heap[b]?=w.heap[b]?):MapC b k f w':=by
 obtain⟨D,⟨es,clock,h1,h2⟩,h3⟩:=h
 exact⟨D,⟨es,clock,e.trans h1,h2⟩,h3⟩
theorem MapC.lt {b k:Nat} {f:ByteArray->Option Scroll} {w:World} (h:MapC b k f w):b<w.heap.size:=by
 obtain⟨D,h,_⟩:=h
 exact h.lt
theorem mapUC:Tryz.prog.underlying 89=some (.map 9 114):=Tryz.underlying89
theorem zeroSc (w:World):(zeroValue 114).run Tryz.prog w=.ok (.agg (scC sc0).toArray) w:=by kernel_rfl
theorem keyedS:Maps.Keyed Tryz.prog 9:=Maps.string_keyed Tryz.underlying9
theorem keyS {x:ByteArray} (h:x.size<=maxLen):keyOf Tryz.prog 9 (.string x)=some (.string x.data.toList):=WideMaps.keyOf_string_mk Tryz.underlying9 h
theorem litS_ne {x y:ByteArray} (h:x≠y):(Lit.string x.data.toList)≠.string y.data.toList:=fun e=>h (by
 injection e with e
 exact strEq_iff.1 (beq_iff_eq.2 e))
theorem MapC.made (w:World):MapC w.heap.size 0 (fun _=>none) (w.alloc (.map #[] 0)):=
 ⟨.map [],World.ownsMap_made w _ _ _,rfl,fun x _=>⟨rfl,fun s h=>by cases h⟩⟩
theorem getD_at {D:DataW Unit} {f:ByteArray->Option Scroll} {x:ByteArray} (h:Maps.has D (.string x.data.toList)=(f x).isSome/\∀ r,f x=some r->D.atKey (.string x.data.toList) (scD sc0)=scD r):D.atKey (.string x.data.toList) (scD sc0)=scD ((f x).getD sc0):=by
 cases e:f x with
 | none=>
  rw [e] at h
  exact Maps.atKey_of_not_has h.1 _
 | some r=>exact h.2 r e
theorem MapC.look_ok {b k:Nat} {f:ByteArray->Option Scroll} {w:World} (h:MapC b k f w) {x:ByteArray} (hx:x.size<=maxLen):(Instr.lookup 89 (.map (some b)) (.string x) true).run Tryz.prog w=.ok (.tuple #[.agg (scC ((f x).getD sc0)).toArray,.bool (f x).isSome]) w:=by
 obtain⟨D,hD,_,hf⟩:=h
 obtain⟨v,ps,hr,hv⟩:=hD.look_ok keyedS mapUC (zeroSc w) (scR_mk sc0) (keyS hx)
 rw [getD_at (hf x hx)] at hv
 obtain⟨r,rfl,hd⟩:=scR_inv hv
 rw [(hf x hx).1,<-scD_inj hd] at hr
 exact hr
theorem MapC.look {b k:Nat} {f:ByteArray->Option Scroll} {w:World} (h:MapC b k f w) {x:ByteArray} (hx:x.size<=maxLen):(Instr.lookup 89 (.map (some b)) (.string x) false).run Tryz.prog w=.ok (.agg (scC ((f x).getD sc0)).toArray) w:=by
 obtain⟨D,hD,_,hf⟩:=h
 obtain⟨v,ps,hr,hv⟩:=hD.lookup keyedS mapUC (zeroSc w) (scR_mk sc0) (keyS hx)
 rw [getD_at (hf x hx)] at hv
 obtain⟨r,rfl,hd⟩:=scR_inv hv
 rw [<-scD_inj hd] at hr
 exact hr
def putF (f:ByteArray->Option Scroll) (x:ByteArray) (r:Scroll):ByteArray->Option Scroll:=fun y=>if y=x then some r else f y
def delF (f:ByteArray->Option Scroll) (x:ByteArray):ByteArray->Option Scroll:=fun y=>if y=x then none else f y
def putN (f:ByteArray->Option Scroll) (k:Nat) (x:ByteArray):Nat:=if (f x).isSome then k else k+1
def delN (f:ByteArray->Option Scroll) (k:Nat) (x:ByteArray):Nat:=if (f x).isSome then k-1 else k
theorem ownsMap_tight {P:Program} {t:TypeId} {R:Value->Option (DataW Unit × List MemPlace)} {w:World} {b n:Nat} {D:DataW Unit} (h:w.ownsMap P t R b n D):w.ownsMap P t R b (Maps.size D) D:=by
 obtain⟨es,clock,h1,h2,h3,rfl⟩:=h
 exact⟨es,clock,h1,h2,by simp [Maps.size,length_sorted],rfl⟩
theorem MapC.store {b k:Nat} {f:ByteArray->Option Scroll} {w:World} (h:MapC b k f w) {x:ByteArray} (hx:x.size<=maxLen) (hk:k<1000000) (r:Scroll):
  ∃ w',(Instr.mapUpdate 89 (.map (some b)) (.string x) (.agg (scC r).toArray)).run Tryz.prog w=.ok () w'/\w.grownBy w' (some b)/\w'.heap.size=w.heap.size/\MapC b (putN f k x) (putF f x r) w':=by
 obtain⟨D,hD,hz,hf⟩:=h
 obtain⟨w',h1,h2,h3⟩:=hD.store keyedS mapUC (Nat.lt_of_lt_of_le hk (by decide)) (keyS hx) (scR_mk r)
 have hI:=hD.isMap
 have hkl:WideAt.IsKeyLit (.string x.data.toList):=trivial
 have hsz:=Maps.size_put (k:=.string x.data.toList) (hD.tidy keyedS) (scD r)
 have h2':=ownsMap_tight h2
 have e:Maps.size (D.put (.string x.data.toList) (scD r))=putN f k x:=by
  rw [hsz,(hf x hx).1,hz]
  rfl
 rw [e] at h2'
 refine⟨w',h1,h3.grown,?_,_,h2',e,fun y hy=>?_⟩
 ·obtain⟨es,clock,es',clock',_,rfl⟩:=h3
  simp [ChangeMaps.setBlock]
 unfold putF
 by_cases hyx:y=x
 ·subst hyx
  rw [if_pos rfl]
  refine⟨Maps.has_put_same hI hkl _,fun t ht=>?_⟩
  rw [Maps.atKey_put_same hI hkl]
  cases ht
  rfl
 ·rw [if_neg hyx]
  exact⟨(Maps.has_put_other (litS_ne hyx) _).trans (hf y hy).1,fun t ht=>(Maps.atKey_put_other (litS_ne hyx) _ _).trans ((hf y hy).2 t ht)⟩
theorem delB {P:Program} {ts cs} {ty:TypeId} {args:Array Value} {w w':World} {v:Value} (h:(Builtin.delete_ ts ty args).run P w=.ok v w'):(builtin .delete ts ty cs args).run P w=.ok (.value v) w':=by
 show ((do pure (Next.value (<-Builtin.delete_ ts ty args))):Sem Next).run P w=_
 rw [Sem.run_bind,h]
 rfl
theorem MapC.drop {b k:Nat} {f:ByteArray->Option Scroll} {w:World} (h:MapC b k f w) {x:ByteArray} (hx:x.size<=maxLen) (ty:TypeId) (cs:Array Bool):
  ∃ w',(builtin .delete #[89,9] ty cs #[.map (some b),.string x]).run Tryz.prog w=.ok (.value (.tuple #[])) w'/\w.grownBy w' (some b)/\w'.heap.size=w.heap.size/\MapC b (delN f k x) (delF f x) w':=by
 obtain⟨D,hD,hz,hf⟩:=h
 obtain⟨w',h1,h2,h3⟩:=hD.drop keyedS mapUC (keyS hx) ty
 have hsz:=Maps.size_del (k:=.string x.data.toList) (hD.tidy keyedS)
 have h2':=ownsMap_tight h2
 have e:Maps.size (D.del (.string x.data.toList))=delN f k x:=by
  rw [(hf x hx).1,hz] at hsz
  unfold delN
  split
  ·rename_i h
   rw [h] at hsz
   simp only [if_true] at hsz
   omega
  ·rename_i h
   rw [if_neg h] at hsz
   omega
 rw [e] at h2'
 refine⟨w',delB h1,h3.grown,?_,_,h2',e,fun y hy=>?_⟩
 ·obtain⟨es,clock,es',clock',_,rfl⟩:=h3
  simp [ChangeMaps.setBlock]
 unfold delF
 by_cases hyx:y=x
 ·subst hyx
  rw [if_pos rfl]
  exact⟨Maps.has_del_same,fun t ht=>by cases ht⟩
 ·rw [if_neg hyx]
  exact⟨(Maps.has_del_other (litS_ne hyx)).trans (hf y hy).1,fun t ht=>(Maps.atKey_del_other (litS_ne hyx) _).trans ((hf y hy).2 t ht)⟩
def nameB (s:ByteArray):Bool:=s.data.toList.all (fun c=>65<=c&&c<=90)&&decide (1<=s.size)&&decide (s.size<=10)
theorem name1_any (c:UInt8) (w:World):Calls Tryz.prog 168 #[.int .u8 (c.toNat:Int)] w (RetB (.bool (!(65<=c&&c<=90))) w):=by
 refine vE Tryz.func168 ?_
 have h1:(65<=c)↔(65:Int)<=(c.toNat:Int):=by rw [UInt8.le_iff_toNat_le];show 65<=c.toNat↔_;omega
 have h2:(c<=90)↔(c.toNat:Int)<=(90:Int):=by rw [UInt8.le_iff_toNat_le];show c.toNat<=90↔_;omega
 by_cases h:(c.toNat:Int)<65
 ·refine split_t (decide_eq_true h) ?_
  refine⟨ret_bool ?_,Below.refl _ _⟩
  have e:¬ 65<=c:=by rw [h1];omega
  simp [e]
 ·refine split_f (decide_eq_false h) ?_
  have e:65<=c:=by rw [h1];omega
  refine⟨ret_bool ?_,Below.refl _ _⟩
  have e2:decide ((90:Int)<(c.toNat:Int))=!(decide (65<=c)&&decide (c<=90)):=by
   rw [decide_eq_true e]
   by_cases h3:c<=90
   ·rw [decide_eq_true h3,decide_eq_false (by rw [h2] at h3;omega)]
    rfl
   ·rw [decide_eq_false h3,decide_eq_true (by rw [h2] at h3;omega)]
    rfl
  exact e2
end Go.Proofs.YtokglimimnelaaaGreatDoor
