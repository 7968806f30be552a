import Derived.Test.YtfekddndgakneaaGreatDoorM07
import Derived.Test.YtfekddndgakneaaGreatDoorRows
import Derived.Test.YtfekddndgakneaaGreatDoorCards
import Derived.Test.YtfekddndgakneaaGreatDoorTie
import Derived.WalkKit
import Derived.ProofKit
import Derived.OpenShut
import Derived.Deep.DeepHandedRow
import Derived.Deep.DeepWitnessRowRef
import Derived.Lib.LaidTab
import Derived.Stop.LaidErr
import Derived.Lay
import Derived.Carry
import Derived.RowKit3
set_option maxRecDepth 100000
set_option maxHeartbeats 40000000
set_option linter.unusedVariables false
set_option linter.unusedSimpArgs false
namespace Go.Proofs.YtfekddndgakneaaGreatDoor
open Go.Vc Go.RowKit Go.Fl
theorem B6E {w:World} {g T:Nat} {cs:List Value} (h:Blk w g T cs) (o:Nat) (xs:List Value) (hx:(cs.drop o).take xs.length=xs) (hn:xs.length<=1000):Row (fun b=>b=g) w (some ⟨g,o,none⟩) xs.length xs.length xs:=
 ⟨Nat.le_refl _,Nat.le_trans hn (by decide),fun _=>⟨_,rfl,rfl,fun j u hu=>by
  have e1:(⟨g,o,none⟩:Addr).add j=⟨g,o+j,none⟩:=Addr.add_lit _ _ _
  rw [e1,h.cell (o+j)]
  rw [<-hx,List.getElem?_take] at hu
  split at hu
  ·rw [List.getElem?_drop] at hu;exact hu
  ·cases hu⟩⟩
theorem B4D {S:Nat->Prop} {w:World} {A B:Option Addr} {n cap:Nat} {xs:List Value} (h:Row S w A n cap xs) (e:B=A):Row S w B n cap xs:=by rw [e];exact h
theorem A2u (s:Stt) (hk:∀ e∈s.l,G7 e.key) (cs:List Value) (S0:Nat->Prop) (w:World) (hs:RepS S0 w s cs) (ht:Tab w):Calls Tryz.prog 81 #[.agg cs.toArray] w (C7 (.string ⟨(E1 s).toArray⟩) w):=by
 obtain⟨A,cap,css,B,cap',l0,l1,l2,l3,l4,rfl,el,hE,hR,hM⟩:=hs.shape
 refine vE Tryz.func81 ?_
 intro g1 w1 h1
 have hc:=((CtxF.start w no (fun _ h=>h.elim) (R:=fun _ _=>True) trivial Stab.true).loc h1).1
 refine hc.a 0 rfl rfl ?_
 refine hc.q (A1c s hk _ S0 w1 (hs.below hc.below)) fun w2 h2 hc=>?_
 rcases Bool.eq_false_or_eq_true (Q1 s) with hm | hm
 rotate_left
 ·refine B6 (by show (!Q1 s)=true;rw [hm];rfl) ?_
  refine⟨?_,hc.below⟩
  rw [E1,hm]
  rfl
 refine B4 (by show (!Q1 s)=false;rw [hm];rfl) ?_
 obtain⟨_,⟨hl40,hm100⟩,hris,_,_⟩:=E5.1 hm
 have hv12:∀ e∈s.l,e.vs.length<=1000000:=fun e he=>by
  have:=(F4.1 (((L8 _ _ _).1 hris).1 e he).1).2.2.2
  omega
 refine hc.n fun g3 w3 h3 hc=>?_
 refine⟨hc.may 0 rfl 0 _ (nle rfl) rfl,?_⟩
 intro w4 h4
 have hc:=(hc.set 0 rfl h4).1
 have hlt:∀ b,b<w4.heap.size->b<w4.heap.size:=fun _ h=>h
 refine vD (.Q [0,1,3,4,5,7,8,9,11,12] (.n 2 (.n 6 (.n 10 (.n 13 (.n 14 (.n 15 (.n 16 (.q 17 .fin) .stop) .stop) .stop) .stop) .stop) .stop) .stop)) (Keeps (fun b=>b<w4.heap.size) w4) (Keeps.start _ _) ?_
 have hk1:=Keeps.start (fun b=>b<w4.heap.size) w4
 refine⟨_,fun x hx=>hx.look (hc.cell 1 rfl _ rfl),?_⟩
 refine⟨_,fun x hx=>hx.look (hc.cell 1 rfl _ rfl),?_⟩
 refine⟨_,fun x hx=>hx.look (hc.cell 1 rfl _ rfl),?_⟩
 refine⟨⟨by decide,by decide,by decide,by decide⟩,?_⟩
 have hc:=hc.drew
 refine⟨C2 (Y2 s.seq _) ?_,trivial⟩
 intro w5 h5
 have hc:=(hc.quiet h5).1.know (X:=fun S w=>RepC S w (I4 s.seq) [.int .i64 1,.int .i64 s.seq,.string ⟨#[]⟩,.slice none 0 0]) (RepC.leaf _ _ 1 s.seq ⟨#[]⟩) (E8 _ _)
 have hk1:=hk1.below hlt h5
 refine⟨hk1,?_⟩
 refine⟨⟨(A7k s.l css A cap S0 _ ⟨g3,0,none⟩ (hc.cell 0 rfl _ rfl) (hE.below hc.below) hv12 (hR.below hc.below) (by omega)).mono fun en w6 hq=>?_⟩,trivial⟩
 obtain⟨ka,na,sa,Aa,la,ca,e1,h6,hrep⟩:=hq
 have hc:=(hc.call h6).1.know (hrep.sub fun b h=>h.elim (fun h=>h.elim) .inr) (E8 _ _)
 have hk1:=hk1.below hlt h6
 refine⟨_,e1,hk1,?_⟩
 refine⟨⟨(A7l s.ms B cap' S0 _ (hM.below hc.below) (by omega)).mono fun en w7 hq=>?_⟩,trivial⟩
 obtain⟨kb,nb,sb,Ab,lb,cb,e1,h7,hrep⟩:=hq
 have hc:=(hc.call h7).1.know (hrep.sub fun b h=>h.elim (fun h=>h.elim) .inr) (E8 _ _)
 have hk1:=hk1.below hlt h7
 refine⟨_,e1,hk1,?_⟩
 refine⟨⟨(A7m [l0,l1,l2,l3,l4] _ _ (fun b=>b=g1) _ (B4D (B6E (hc.blk 1 rfl) 3 [.int .i64 l0,.int .i64 l1,.int .i64 l2,.int .i64 l3,.int .i64 l4] rfl (nle rfl)) (N2 _ 5 1)) (nle rfl)).mono fun en w8 hq=>?_⟩,trivial⟩
 obtain⟨kd,nd,sd,Ad,ld,cd,e1,h8,hrep⟩:=hq
 have hc:=(hc.call h8).1.know (hrep.sub fun b h=>h.elim (fun h=>h.elim) .inr) (E8 _ _)
 have hk1:=hk1.below hlt h8
 refine⟨_,e1,hk1,?_⟩
 refine⟨fun g9 w9 h9=>?_,trivial⟩
 have hc:=hc.made h9 4 4 rfl (by decide)
 have hk1:=hk1.below hlt h9.below
 refine⟨hk1,?_⟩
 refine⟨hc.q (A2t (some ⟨g9,0,none⟩) 4 4 _) fun w10 h10 hc=>?_,trivial⟩
 have hk1:=hk1.below hlt h10
 refine⟨hk1,?_⟩
 obtain⟨S2,_,hc⟩:=hc.told
 have hrep:RepC S2 w10 (A4O s) [.int .i64 3,.int .i64 0,.string ⟨#[]⟩,.slice (some ⟨g9,0,none⟩) 4 4]:=by
  have ho:=hc.row
  rw [A4O,el,J3,RepC]
  exact⟨some ⟨g9,0,none⟩,4,_,rfl,.cons ho.1.1.1.1.2 (.cons ho.1.1.1.2 (.cons ho.1.1.2 (.cons ho.1.2 (.nil _ _)))),ho.2⟩
 have h5:s.lows.length=5:=by rw [el];rfl
 have hsz:(I8 (A4O s)).length<=1073741824:=by
  have h1:=A1a s h5 hm
  have h3:=D8 (A4O s)
  have:=F2 (u:=(G6 (A4O s)).length) (by omega)
  omega
 refine⟨hc.q (X8 (A4O s) (A8k s hm) hsz 3 0 ⟨#[]⟩ _ 4 4 _ _ hrep (ht.below hc.below)) fun w11 h11 hc=>?_,trivial⟩
 have hk1:=hk1.below hlt h11
 refine⟨hk1,?_⟩
 refine⟨?_,hc.below⟩
 rw [E1,if_pos hm]
 rfl
def D2 (v:V) (A:Option Addr) (cap:Nat):List Value:=[.int .i64 (vK v),.int .i64 (vN v),.string (vS v),.slice A (vL v).length cap]
theorem RepC.cells {S:Nat->Prop} {w:World} {v:V} {cs:List Value} (h:RepC S w v cs):∃ A cap,cs=D2 v A cap:=by
 obtain⟨k,n,s,l⟩:=v
 rw [RepC] at h
 obtain⟨A,cap,xs,e,_,_⟩:=h
 exact⟨A,cap,e⟩
theorem RepC.rows {S:Nat->Prop} {w:World} {v:V} {A:Option Addr} {cap:Nat} (h:RepC S w v (D2 v A cap)):∃ xs,RepL S w (vL v) xs/\Row S w A (vL v).length cap xs:=by
 obtain⟨k,n,s,l⟩:=v
 rw [RepC] at h
 obtain⟨A',cap',xs,e,h1,h2⟩:=h
 cases e
 exact⟨xs,h1,h2⟩
def B9I (u:V) (S:Nat->Prop) (w:World) (en:Ending) (w':World):Prop:=∃ A cap,en=.returned (.agg (D2 u A cap).toArray)/\Below w.heap.size w w'/\RepC S w' u (D2 u A cap)
theorem K7 (v:V) (i:Nat) (A:Option Addr) (cap:Nat) (S:Nat->Prop) (w:World) (hr:RepC S w v (D2 v A cap)):Calls Tryz.prog 132 #[.agg (D2 v A cap).toArray,.int .i64 i] w (B9I (atV v i) S w):=by
 obtain⟨xs,hL,hR⟩:=hr.rows
 refine vE Tryz.func132 ?_
 intro g1 w1 h1
 have hc:=((CtxF.start w no (fun _ h=>h.elim) (R:=fun _ _=>True) trivial Stab.true).loc h1).1
 refine hc.n fun g2 w2 h2 hc=>?_
 refine hc.c 1 rfl rfl ?_
 rcases Nat.lt_or_ge i (vL v).length with hi | hi
 rotate_left
 ·refine dt (by omega) ?_
  refine hc.s 0 rfl fun wS hS hc=>?_
  refine hc.a 0 rfl rfl ?_
  have e:atV v i=V0:=by unfold atV;rw [List.getD_eq_getElem?_getD,List.getElem?_eq_none hi];rfl
  rw [e]
  exact⟨none,0,rfl,hc.below,RepC.V0 _ _⟩
 refine df (by omega) ?_
 have e:atV v i=(vL v)[i]:=by unfold atV;rw [List.getD_eq_getElem?_getD,List.getElem?_eq_getElem hi];rfl
 obtain⟨ad,cs,rfl,hrep,hl4,hcell⟩:=Rep.elem hL hR i hi
 have hcell:=cellsAt_later hc.below _ _ hcell
 obtain⟨A2,cap2,rfl⟩:=hrep.cells
 rw [e]
 generalize (vL v)[i]=u at*
 refine hc.c 1 rfl rfl ?_
 refine⟨⟨by omega,by omega⟩,?_⟩
 refine⟨D2 u A2 cap2,rfl,hcell,?_⟩
 refine⟨hc.may 0 rfl 0 _ (Nat.le_refl 4) rfl,?_⟩
 intro w3 h3
 have hc:=(hc.set 0 rfl h3).1
 refine hc.a 0 rfl rfl ?_
 exact⟨A2,cap2,rfl,hc.below,hrep.below hc.below⟩
theorem B1z (v:V) (A:Option Addr) (cap:Nat) (S:Nat->Prop) (w:World) (hr:RepC S w v (D2 v A cap)):Calls Tryz.prog 131 #[.agg (D2 v A cap).toArray] w (C7 (.agg (F3 (A9W v)).toArray) w):=by
 refine vE Tryz.func131 ?_
 intro g1 w1 h1
 have hc:=((Ctx.start w no (fun _ h=>h.elim)).loc h1).1
 refine hc.n fun g2 w3 h3 hc=>?_
 have b1:=hc.blk 1 rfl
 have hlt:∀ b,(fun b=>b=g1) b->b<w3.heap.size:=fun b e=>by subst e;exact b1.lt
 refine vD (.Q [0,3,7] (.n 1 (.q 2 (.n 4 (.Q [5,6] (.n 8 (.Q [9,10] (.z 11)) .stop)) .stop)) .stop)) (Keeps (fun b=>b=g1) w3) (Keeps.start _ _) ?_
 have hk:=Keeps.start (fun b=>b=g1) w3
 have hc:=hc.drew
 iterate 3 (refine⟨D2 v A cap,?_,fun x hx=>hx.cells b1 rfl,?_⟩;(· rfl))
 refine⟨⟨(K7 v 0 A cap S _ (hr.below hc.below)).mono fun en wq hq=>?_⟩,trivial⟩
 obtain⟨A0,cap0,e1,hq,_⟩:=hq
 have hc:=(hc.quiet hq).1
 have hk:=hk.below hlt hq
 refine⟨_,e1,hk,?_⟩
 refine⟨⟨(K7 v 1 A cap S _ (hr.below hc.below)).mono fun en wq hq=>?_⟩,trivial⟩
 obtain⟨A1,cap1,e1,hq,_⟩:=hq
 have hc:=(hc.quiet hq).1
 have hk:=hk.below hlt hq
 refine⟨_,e1,hk,?_⟩
 refine⟨⟨(K7 v 2 A cap S _ (hr.below hc.below)).mono fun en wq hq=>?_⟩,trivial⟩
 obtain⟨A2,cap2,e1,hq,_⟩:=hq
 have hc:=(hc.quiet hq).1
 have hk:=hk.below hlt hq
 refine⟨_,e1,hk,?_⟩
 refine⟨hc.may 0 rfl 0 _ (Nat.le_refl 3) rfl,?_⟩
 intro w5 h5
 have hc:=(hc.set 0 rfl h5).1
 refine hc.a 0 rfl rfl ?_
 exact⟨rfl,hc.below⟩
theorem B10 (v:V) (A:Option Addr) (cap:Nat) (S:Nat->Prop) (w:World) (hr:RepC S w v (D2 v A cap)):Calls Tryz.prog 137 #[.agg (D2 v A cap).toArray] w (C7 (.agg (F5 (A30 v)).toArray) w):=by
 refine vE Tryz.func137 ?_
 intro g1 w1 h1
 have hc:=((Ctx.start w no (fun _ h=>h.elim)).loc h1).1
 refine hc.n fun g2 w3 h3 hc=>?_
 have b1:=hc.blk 1 rfl
 have hlt:∀ b,(fun b=>b=g1) b->b<w3.heap.size:=fun b e=>by subst e;exact b1.lt
 refine vD (.Q [0,3,6] (.n 1 (.q 2 (.n 4 (.q 5 (.n 7 (.Q [8,9,10] (.z 11)) .stop)) .stop)) .stop)) (Keeps (fun b=>b=g1) w3) (Keeps.start _ _) ?_
 have hk:=Keeps.start (fun b=>b=g1) w3
 have hc:=hc.drew
 iterate 3 (refine⟨D2 v A cap,?_,fun x hx=>hx.cells b1 rfl,?_⟩;(· rfl))
 refine⟨⟨(K7 v 0 A cap S _ (hr.below hc.below)).mono fun en wq hq=>?_⟩,trivial⟩
 obtain⟨A0,cap0,e1,hq,_⟩:=hq
 have hc:=(hc.quiet hq).1
 have hk:=hk.below hlt hq
 refine⟨_,e1,hk,?_⟩
 refine⟨⟨(K7 v 1 A cap S _ (hr.below hc.below)).mono fun en wq hq=>?_⟩,trivial⟩
 obtain⟨A1,cap1,e1,hq,_⟩:=hq
 have hc:=(hc.quiet hq).1
 have hk:=hk.below hlt hq
 refine⟨_,e1,hk,?_⟩
 refine⟨⟨(K7 v 2 A cap S _ (hr.below hc.below)).mono fun en wq hq=>?_⟩,trivial⟩
 obtain⟨A2,cap2,e1,hq,_⟩:=hq
 have hc:=(hc.quiet hq).1
 have hk:=hk.below hlt hq
 refine⟨_,e1,hk,?_⟩
 refine⟨hc.may 0 rfl 0 _ (Nat.le_refl 3) rfl,?_⟩
 intro w5 h5
 have hc:=(hc.set 0 rfl h5).1
 refine hc.a 0 rfl rfl ?_
 exact⟨rfl,hc.below⟩
theorem A2v (A:Option Addr) (n cap:Nat) (xs:List Value):Stab (fun S w=>Row S w A n cap xs):=fun _ _ _ _ h f=>h.fut f
theorem B11 (l:List Ent) (css:List (List Value)):Stab (fun S w=>RepEs S w l css):=fun _ _ _ _ h f=>RepEs.map (fun h=>h.fut f) h
theorem RepEs.snoc {S:Nat->Prop} {w:World} {l:List Ent} {css:List (List Value)} {e:Ent} {c:List Value} (h:RepEs S w l css) (hc:RepE S w e c):RepEs S w (l++[e]) (css++[c]):=h.append ⟨c,[],rfl,hc,rfl⟩
theorem A7n (v:V) (A:Option Addr) (cap:Nat) (S0:Nat->Prop) (w:World) (hr:RepC S0 w v (D2 v A cap)) (hn:(vL v).length<=1000000) :
  Calls Tryz.prog 135 #[.agg (D2 v A cap).toArray,.func (.func 131) #[] #[]] w (fun en w'=>∃ A2 c2,en=.returned (.slice A2 ((vL v).map A9W).length c2)/\Below w.heap.size w w'/\Row (ext no w w') w' A2 ((vL v).map A9W).length c2 (((vL v).map A9W).map F3).flatten):=by
 obtain⟨ys,hL,hR⟩:=hr.rows
 refine vE Tryz.func135 ?_
 intro g2 w1 h1
 have hc:=((CtxF.start w no (fun _ h=>h.elim) (R:=fun S w=>True) trivial (Stab.true)).loc h1).1
 have hc:=hc.nil 102 3
 refine hc.c 0 rfl rfl ?_
 refine⟨Nat × Option Addr × Nat,fun x=>[(1,.func (.func 131) #[] #[]),(5,.slice x.2.1 x.1 x.2.2),(9,.slice A (vL v).length cap),(10,.int .i64 (vL v).length),(11,.int .i64 x.1)],
  fun x w'=>x.1<=(vL v).length/\∃ S css,CtxF no w S w' [(g2,79,D2 v A cap)] [⟨102,3,x.2.1,x.1,x.2.2,css⟩] (fun S w=>True)/\css=((((vL v).take x.1).map A9W).map F3).flatten,
  fun x _=>(vL v).length-x.1,(0,none,0),⟨rfl,rfl,rfl,rfl,rfl,trivial⟩,⟨Nat.zero_le _,no,[],hc,rfl⟩,?_⟩
 clear hc
 rintro⟨i,A',cap'⟩ w4 u ⟨hi,S,css,hc,hcs⟩
 simp only at hi hc
 by_cases hlt:i<(vL v).length
 ·refine dt (by omega) ?_
  obtain⟨ad,cs,rfl,hrep,hl4,hcell⟩:=Rep.elem hL hR i hlt
  have hcell:=cellsAt_later hc.below _ _ hcell
  obtain⟨A1,cap1,rfl⟩:=hrep.cells
  have hmem:(vL v)[i]∈vL v:=List.getElem_mem hlt
  have et:((vL v).take (i+1)).map A9W=((vL v).take i).map A9W++[A9W (vL v)[i]]:=by rw [List.take_add_one,List.getElem?_eq_getElem hlt,List.map_append];rfl
  generalize (vL v)[i]=x at*
  refine⟨⟨by first | omega | (simp only;omega),by first | omega | (simp only;omega)⟩,?_⟩
  refine⟨D2 x A1 cap1,rfl,hcell,?_⟩
  refine hc.n fun g7 w7 h7 hc=>?_
  refine⟨hc.may 0 rfl 0 _ (Nat.le_refl 4) rfl,?_⟩
  intro w8 h8
  have hc:=(hc.set 0 rfl h8).1
  refine⟨D2 x A1 cap1,rfl,hc.cells 0 rfl,?_⟩
  refine hc.q (B1z x A1 cap1 S0 _ (hrep.below hc.below)) fun w9 h9 hc=>?_
  refine hc.n fun g20 w10 h10 hc=>?_
  refine D1 Tryz.underlying88 A4S rfl (by decide) hc (ys:=F3 (A9W x)) (m:=1) rfl (hc.cells 0 rfl) rfl (by omega) (by decide) rfl rfl ?_
  intro A2 cap2 w11 hc
  exact⟨(i+1,A2,cap2),⟨rfl,rfl,rfl,rfl,congrArg _ (C1 (by first | omega | (simp only;omega))),trivial⟩,⟨hlt,_,_,hc.drop.drop,by simp only;rw [et,List.map_append,List.flatten_append,hcs];simp⟩,by show (vL v).length-(i+1)<(vL v).length-i;omega⟩
 ·refine df (by first | omega | (simp only;omega)) ?_
  have hi:i=(vL v).length:=by omega
  subst hi
  rw [List.take_length] at*
  obtain⟨S2,_,hc⟩:=hc.told
  have ho:=hc.out
  subst hcs
  exact⟨A',cap',by rw [List.length_map];rfl,hc.below,by rw [List.length_map];exact ho.2⟩
theorem B12 (v:V) (A:Option Addr) (cap:Nat) (S0:Nat->Prop) (w:World) (hr:RepC S0 w v (D2 v A cap)) (hn:(vL (atV v 1)).length<=1000000) (a:Addr) (ha:w.cell? a=some (.func (.func 131) #[] #[])):
  Calls Tryz.prog 134 #[.agg (D2 v A cap).toArray,.pointer (some a)] w (fun en w'=>∃ A2 c2,en=.returned (.agg #[.string (Z9 v).key,.slice A2 (Z9 v).vs.length c2])/\Below w.heap.size w w'/\Row (ext no w w') w' A2 (Z9 v).vs.length c2 ((Z9 v).vs.map F3).flatten):=by
 obtain⟨ab,ao,asub⟩:=a
 refine vE Tryz.func134 ?_
 intro g1 w1 h1
 have hc:=((CtxF.start w no (fun _ h=>h.elim) (R:=fun _ _=>True) trivial Stab.true).loc h1).1
 refine hc.n fun g2 w3 h3 hc=>?_
 have hlt:∀ b,b<w3.heap.size->b<w3.heap.size:=fun _ h=>h
 have ha:=cell_later hc.below ha
 refine vD (.Q [0,3,5] (.n 1 (.q 2 (.n 4 (.n 6 (.q 7 (.z 8)) .stop) .stop)) .stop)) (Keeps (fun b=>b<w3.heap.size) w3) (Keeps.start _ _) ?_
 have hk:=Keeps.start (fun b=>b<w3.heap.size) w3
 iterate 2 (refine⟨D2 v A cap,?_,fun x hx=>hx.looks _ _ (hc.cells 1 rfl),?_⟩;(· rfl))
 refine⟨_,fun x hx=>hx.look ha,?_⟩
 have hc:=hc.drew
 refine⟨⟨(K7 v 0 A cap S0 _ (hr.below hc.below)).mono fun en wq hq=>?_⟩,trivial⟩
 obtain⟨A0,cap0,e1,hq,_⟩:=hq
 have hc:=(hc.quiet hq).1
 have hk:=hk.below hlt hq
 refine⟨_,e1,hk,?_⟩
 refine⟨⟨(K7 v 1 A cap S0 _ (hr.below hc.below)).mono fun en wq hq=>?_⟩,trivial⟩
 obtain⟨A1,cap1,e1,hq,hrep⟩:=hq
 have hc:=(hc.quiet hq).1
 have hk:=hk.below hlt hq
 refine⟨_,e1,hk,?_⟩
 refine⟨⟨(A7n (atV v 1) A1 cap1 S0 _ hrep hn).mono fun en w5 hq=>?_⟩,trivial⟩
 obtain⟨A2,c2,e1,h5,hrow⟩:=hq
 have hc:=(hc.call h5).1.know (hrow.sub fun b h=>h.elim (fun h=>h.elim) .inr) (A2v _ _ _ _)
 have hk:=hk.below hlt h5
 refine⟨_,e1,hk,?_⟩
 refine⟨hc.may 0 rfl 0 _ (Nat.le_refl 2) rfl,?_⟩
 intro w8 h8
 have hc:=(hc.set 0 rfl h8).1
 refine hc.a 0 rfl rfl ?_
 exact⟨A2,c2,rfl,hc.below,hc.out.2⟩
theorem A7o (v:V) (A:Option Addr) (cap:Nat) (S0:Nat->Prop) (w:World) (hr:RepC S0 w v (D2 v A cap)) (hn:(vL v).length<=1000000) :
  Calls Tryz.prog 136 #[.agg (D2 v A cap).toArray,.func (.func 137) #[] #[]] w (fun en w'=>∃ A2 c2,en=.returned (.slice A2 ((vL v).map A30).length c2)/\Below w.heap.size w w'/\Row (ext no w w') w' A2 ((vL v).map A30).length c2 (((vL v).map A30).map F5).flatten):=by
 obtain⟨ys,hL,hR⟩:=hr.rows
 refine vE Tryz.func136 ?_
 intro g2 w1 h1
 have hc:=((CtxF.start w no (fun _ h=>h.elim) (R:=fun S w=>True) trivial (Stab.true)).loc h1).1
 have hc:=hc.nil 104 3
 refine hc.c 0 rfl rfl ?_
 refine⟨Nat × Option Addr × Nat,fun x=>[(1,.func (.func 137) #[] #[]),(5,.slice x.2.1 x.1 x.2.2),(9,.slice A (vL v).length cap),(10,.int .i64 (vL v).length),(11,.int .i64 x.1)],
  fun x w'=>x.1<=(vL v).length/\∃ S css,CtxF no w S w' [(g2,79,D2 v A cap)] [⟨104,3,x.2.1,x.1,x.2.2,css⟩] (fun S w=>True)/\css=((((vL v).take x.1).map A30).map F5).flatten,
  fun x _=>(vL v).length-x.1,(0,none,0),⟨rfl,rfl,rfl,rfl,rfl,trivial⟩,⟨Nat.zero_le _,no,[],hc,rfl⟩,?_⟩
 clear hc
 rintro⟨i,A',cap'⟩ w4 u ⟨hi,S,css,hc,hcs⟩
 simp only at hi hc
 by_cases hlt:i<(vL v).length
 ·refine dt (by omega) ?_
  obtain⟨ad,cs,rfl,hrep,hl4,hcell⟩:=Rep.elem hL hR i hlt
  have hcell:=cellsAt_later hc.below _ _ hcell
  obtain⟨A1,cap1,rfl⟩:=hrep.cells
  have hmem:(vL v)[i]∈vL v:=List.getElem_mem hlt
  have et:((vL v).take (i+1)).map A30=((vL v).take i).map A30++[A30 (vL v)[i]]:=by rw [List.take_add_one,List.getElem?_eq_getElem hlt,List.map_append];rfl
  generalize (vL v)[i]=x at*
  refine⟨⟨by first | omega | (simp only;omega),by first | omega | (simp only;omega)⟩,?_⟩
  refine⟨D2 x A1 cap1,rfl,hcell,?_⟩
  refine hc.n fun g7 w7 h7 hc=>?_
  refine⟨hc.may 0 rfl 0 _ (Nat.le_refl 4) rfl,?_⟩
  intro w8 h8
  have hc:=(hc.set 0 rfl h8).1
  refine⟨D2 x A1 cap1,rfl,hc.cells 0 rfl,?_⟩
  refine hc.q (B10 x A1 cap1 S0 _ (hrep.below hc.below)) fun w9 h9 hc=>?_
  refine hc.n fun g20 w10 h10 hc=>?_
  refine D1 Tryz.underlying30 A1b rfl (by decide) hc (ys:=F5 (A30 x)) (m:=1) rfl (hc.cells 0 rfl) rfl (by omega) (by decide) rfl rfl ?_
  intro A2 cap2 w11 hc
  exact⟨(i+1,A2,cap2),⟨rfl,rfl,rfl,rfl,congrArg _ (C1 (by first | omega | (simp only;omega))),trivial⟩,⟨hlt,_,_,hc.drop.drop,by simp only;rw [et,List.map_append,List.flatten_append,hcs];simp⟩,by show (vL v).length-(i+1)<(vL v).length-i;omega⟩
 ·refine df (by first | omega | (simp only;omega)) ?_
  have hi:i=(vL v).length:=by omega
  subst hi
  rw [List.take_length] at*
  obtain⟨S2,_,hc⟩:=hc.told
  have ho:=hc.out
  subst hcs
  exact⟨A',cap',by rw [List.length_map];rfl,hc.below,by rw [List.length_map];exact ho.2⟩
theorem A7p (v:V) (A:Option Addr) (cap:Nat) (S0:Nat->Prop) (w:World) (hr:RepC S0 w v (D2 v A cap)) (hn:(vL v).length<=1000000) (hn2:∀ x∈vL v,(vL (atV x 1)).length<=1000000) (a:Addr) (ha:w.cell? a=some (.func (.func 131) #[] #[])):
  Calls Tryz.prog 133 #[.agg (D2 v A cap).toArray,.func (.func 134) #[] #[.pointer (some a)]] w (fun en w'=>∃ A2 c2 css,en=.returned (.slice A2 ((vL v).map Z9).length c2)/\Below w.heap.size w w'/\RepEs (ext no w w') w' ((vL v).map Z9) css/\Row (ext no w w') w' A2 ((vL v).map Z9).length c2 css.flatten):=by
 obtain⟨ys,hL,hR⟩:=hr.rows
 refine vE Tryz.func133 ?_
 intro g2 w1 h1
 have hc:=((CtxF.start w no (fun _ h=>h.elim) (R:=fun S w=>RepEs S w [] []) rfl (B11 _ _)).loc h1).1
 have hc:=hc.nil 90 2
 refine hc.c 0 rfl rfl ?_
 refine⟨Nat × Option Addr × Nat,fun x=>[(1,.func (.func 134) #[] #[.pointer (some a)]),(5,.slice x.2.1 x.1 x.2.2),(9,.slice A (vL v).length cap),(10,.int .i64 (vL v).length),(11,.int .i64 x.1)],
  fun x w'=>x.1<=(vL v).length/\∃ S css,CtxF no w S w' [(g2,79,D2 v A cap)] [⟨90,2,x.2.1,x.1,x.2.2,css.flatten⟩] (fun S w=>RepEs S w (((vL v).take x.1).map Z9) css)/\True,
  fun x _=>(vL v).length-x.1,(0,none,0),⟨rfl,rfl,rfl,rfl,rfl,trivial⟩,⟨Nat.zero_le _,no,[],hc,trivial⟩,?_⟩
 clear hc
 rintro⟨i,A',cap'⟩ w4 u ⟨hi,S,css,hc,hcs⟩
 simp only at hi hc
 by_cases hlt:i<(vL v).length
 ·refine dt (by omega) ?_
  obtain⟨ad,cs,rfl,hrep,hl4,hcell⟩:=Rep.elem hL hR i hlt
  have hcell:=cellsAt_later hc.below _ _ hcell
  obtain⟨A1,cap1,rfl⟩:=hrep.cells
  have hmem:(vL v)[i]∈vL v:=List.getElem_mem hlt
  have et:((vL v).take (i+1)).map Z9=((vL v).take i).map Z9++[Z9 (vL v)[i]]:=by rw [List.take_add_one,List.getElem?_eq_getElem hlt,List.map_append];rfl
  generalize (vL v)[i]=x at*
  refine⟨⟨by first | omega | (simp only;omega),by first | omega | (simp only;omega)⟩,?_⟩
  refine⟨D2 x A1 cap1,rfl,hcell,?_⟩
  refine hc.n fun g7 w7 h7 hc=>?_
  refine⟨hc.may 0 rfl 0 _ (Nat.le_refl 4) rfl,?_⟩
  intro w8 h8
  have hc:=(hc.set 0 rfl h8).1
  refine⟨D2 x A1 cap1,rfl,hc.cells 0 rfl,?_⟩
  refine⟨(B12 x A1 cap1 S0 _ (hrep.below hc.below) (hn2 x hmem) a (cell_later hc.below ha)).mono fun en w9 hq=>?_⟩
  obtain⟨A3,c3,e1,h9,hrow⟩:=hq
  have hc:=(hc.call h9).1.know (hrow.sub fun b h=>h.elim (fun h=>h.elim) .inr) (A2v _ _ _ _)
  refine⟨_,e1,?_⟩
  refine hc.n fun g20 w10 h10 hc=>?_
  refine D1 Tryz.underlying29 A0S rfl (by decide) hc (ys:=[.string (Z9 x).key,.slice A3 (Z9 x).vs.length c3]) (m:=1) rfl (hc.cells 0 rfl) rfl (by omega) (by decide) rfl rfl ?_
  intro A2 cap2 w11 hc
  have hf:=hc.drop.drop.now (X:=fun S w=>RepEs S w (((vL v).take i).map Z9++[Z9 x]) (css++[[.string (Z9 x).key,.slice A3 (Z9 x).vs.length c3]])) (fun h=>RepEs.snoc h.1 ⟨A3,c3,rfl,h.2⟩) (B11 _ _)
  have ef:css.flatten++[Value.string (Z9 x).key,Value.slice A3 (Z9 x).vs.length c3]=(css++[[Value.string (Z9 x).key,Value.slice A3 (Z9 x).vs.length c3]]).flatten:=by rw [List.flatten_append];simp
  rw [<-et,ef] at hf
  exact⟨(i+1,A2,cap2),⟨rfl,rfl,rfl,rfl,congrArg _ (C1 (by first | omega | (simp only;omega))),trivial⟩,⟨hlt,_,_,hf,trivial⟩,by show (vL v).length-(i+1)<(vL v).length-i;omega⟩
 ·refine df (by first | omega | (simp only;omega)) ?_
  have hi:i=(vL v).length:=by omega
  subst hi
  rw [List.take_length] at*
  obtain⟨S2,_,hc⟩:=hc.told
  have ho:=hc.out
  exact⟨A',cap',css,by rw [List.length_map];rfl,hc.below,ho.1,by rw [List.length_map];exact ho.2⟩
theorem A9g (s p:ByteArray) (w:World):Calls Tryz.prog 250 #[.string s,.string p] w (C7 (.bool (A6T s p)) w):=
 (Tryz.strings_HasPrefix s p w).mono fun e w' h=>⟨h.1,by rw [h.2];exact Below.refl _ _⟩
theorem B7b (n:Int):(if (20:Int)<(if (1:Int) > n then 1 else n) then 20 else (if (1:Int) > n then 1 else n))=(N7 n:Int):=by
 unfold N7
 split<;>split<;>omega
theorem A3a (n:Int):1<=N7 n/\N7 n<=20:=by unfold N7;omega
def A7q (pre after:ByteArray) (now:Bool) (e:Ent):Bool:=A6T e.key pre&&D9 after e.key&&(!now||(A2X e).2)
theorem A9h (pre after:ByteArray) (now:Bool) (l:List Ent) (i:Nat) (hi:i<l.length):R9 (l.take (i+1)) pre after now=R9 (l.take i) pre after now++(if A7q pre after now l[i]=true then [l[i]] else []):=by
 rw [List.take_add_one,List.getElem?_eq_getElem hi]
 unfold R9
 show List.filter _ (l.take i++[l[i]])=_
 rw [List.filter_append,List.filter_cons]
 unfold A7q
 cases (A6T l[i].key pre&&D9 after l[i].key&&(!now||(A2X l[i]).2))<;>rfl
theorem A9i (e:Ent) (A:Option Addr) (cap:Nat) (S:Nat->Prop) (w:World) (hR:Row S w A e.vs.length cap (e.vs.map F3).flatten):Calls Tryz.prog 221 #[.agg #[.string e.key,.slice A e.vs.length cap]] w (C7 (.bool (!true||(A2X e).2)) w):=by
 refine vE Tryz.func221 ?_
 have hc:=CtxF.start w no (fun _ h=>h.elim) (R:=fun _ _=>True) trivial Stab.true
 refine hc.n fun g1 wg1 hg1 hc=>?_
 refine hc.a 0 rfl rfl ?_
 refine hc.q (A5M e A cap S _ (hR.below hc.below)) fun wQ hQ hc=>?_
 refine hc.n fun g3 wg3 hg3 hc=>?_
 refine hc.s 0 rfl fun wS hS hc=>?_
 exact⟨rfl,hc.below⟩
def B9J (S:Nat->Prop) (q:List Ent × Bool) (w:World) (en:Ending) (w':World):Prop:=
 ∃ A c css,en=.returned (.tuple #[.slice A q.1.length c,.bool q.2])/\Below w.heap.size w w'/\RepEs (ext S w w') w' q.1 css/\Row (ext S w w') w' A q.1.length c css.flatten
theorem RepEs.takeRow {S:Nat->Prop} {w:World} {l:List Ent} {css:List (List Value)} {A:Option Addr} {c:Nat} (hE:RepEs S w l css) (hR:Row S w A l.length c css.flatten) (k:Nat) (hk:k<=l.length):RepEs S w (l.take k) (css.take k)/\Row S w A k c (css.take k).flatten:=by
 refine⟨hE.take k,?_⟩
 rw [hE.flat.flat_take]
 exact hR.front 2 hk
theorem B13 (s:Stt) (pre after:ByteArray) (most:Int) (hl:s.l.length<=1000000) (hv:∀ e∈s.l,e.vs.length<=1000000) (cs:List Value) (S0:Nat->Prop) (w:World) (hs:RepS S0 w s cs):
  Calls Tryz.prog 220 #[.agg cs.toArray,.string pre,.string after,.int .i64 most,.func (.func 221) #[] #[]] w (B9J no (A7b s pre after most true) w):=by
 obtain⟨A,cap,css0,B,cap',l0,l1,l2,l3,l4,rfl,el,hE,hR,hM⟩:=hs.shape
 refine vE Tryz.func220 ?_
 have hc:=CtxF.start w no (fun _ h=>h.elim) (R:=fun S w=>RepEs S w [] []) rfl (RepEs.stab _ _)
 refine hc.n fun g5 wg5 hg5 hc=>?_
 refine hc.c 0 rfl rfl ?_
 have hc:=hc.nil 90 2
 have hcr:=A3a most
 refine⟨Nat × Option Addr × Nat,fun x=>[(1,.string pre),(2,.string after),(3,.int .i64 (N7 most:Int)),(4,.func (.func 221) #[] #[]),(12,.slice x.2.1 (R9 (s.l.take x.1) pre after true).length x.2.2),(19,.slice A s.l.length cap),(20,.int .i64 s.l.length),(21,.int .i64 x.1)],
  fun x w'=>x.1<=s.l.length/\∃ S css,CtxF no w S w' [(g5,33,stC s A cap B cap' l0 l1 l2 l3 l4)] [⟨90,2,x.2.1,(R9 (s.l.take x.1) pre after true).length,x.2.2,css.flatten⟩] (fun S w=>RepEs S w (R9 (s.l.take x.1) pre after true) css),
  fun x _=>s.l.length-x.1,(0,none,0),⟨rfl,rfl,congrArg _ (B7b most),rfl,rfl,rfl,rfl,rfl,trivial⟩,⟨Nat.zero_le _,no,[],hc⟩,?_⟩
 clear hc
 rintro⟨i,A',n'⟩ w4 u ⟨hi,S,css,hc⟩
 simp only at hi hc
 by_cases hlt:i<s.l.length
 ·refine dt (by first | omega | (simp only;omega)) ?_
  obtain⟨ad,A1,cap1,rfl,hcell0,hRe⟩:=RowE.elem hR hE i hlt
  have hvx:=hv _ (List.getElem_mem hlt)
  have hps:=A9h pre after true s.l i hlt
  have hpl:(R9 (s.l.take i) pre after true).length<=i:=Nat.le_trans (List.length_filter_le ..) (by rw [List.length_take];omega)
  generalize s.l[i]=x at*
  refine⟨⟨by first | omega | (simp only;omega),by first | omega | (simp only;omega)⟩,?_⟩
  refine⟨[.string x.key,.slice A1 x.vs.length cap1],rfl,cellsAt_later hc.below _ _ hcell0,?_⟩
  refine hc.n fun g14 wg14 hg14 hc=>?_
  refine hc.s 0 rfl fun wS hS hc=>?_
  refine hc.c 0 rfl rfl ?_
  refine hc.q (A9g x.key pre _) fun wQ hQ hc=>?_
  have no_:∀ wz S2,CtxF no w S2 wz [(g14,90,[.string x.key,.slice A1 x.vs.length cap1]),(g5,33,stC s (some ad) cap B cap' l0 l1 l2 l3 l4)] [⟨90,2,A',(R9 (s.l.take i) pre after true).length,n',css.flatten⟩] (fun S w=>RepEs S w (R9 (s.l.take i) pre after true) css)->A7q pre after true x=false->
    R9 (s.l.take (i+1)) pre after true=R9 (s.l.take i) pre after true/\CtxF no w S2 wz [(g5,33,stC s (some ad) cap B cap' l0 l1 l2 l3 l4)] [⟨90,2,A',(R9 (s.l.take (i+1)) pre after true).length,n',css.flatten⟩] (fun S w=>RepEs S w (R9 (s.l.take (i+1)) pre after true) css):=by
   intro wz S2 h hp
   have e1:R9 (s.l.take (i+1)) pre after true=R9 (s.l.take i) pre after true:=by rw [hps,hp,if_neg (by decide),List.append_nil]
   rw [e1]
   exact⟨rfl,h.drop⟩
  rcases Bool.eq_false_or_eq_true (A6T x.key pre) with c1 | c1
  rotate_left
  ·refine B4 c1 ?_
   obtain⟨e1,hf⟩:=no_ _ _ hc (by unfold A7q;rw [c1];rfl)
   exact⟨(i+1,A',n'),⟨rfl,rfl,rfl,rfl,by simp only [e1];rfl,rfl,rfl,congrArg _ (C1 (by first | omega | (simp only;omega))),trivial⟩,⟨hlt,_,css,hf⟩,by show s.l.length-(i+1)<s.l.length-i;omega⟩
  refine B6 c1 ?_
  refine hc.c 0 rfl rfl ?_
  have etri:(!(D9 x.key after||C8 x.key after))=D9 after x.key:=by rw [<-A0M after x.key,Bool.not_not]
  rcases Bool.eq_false_or_eq_true (D9 after x.key) with c2 | c2
  rotate_left
  ·refine B4 (etri.trans c2) ?_
   obtain⟨e1,hf⟩:=no_ _ _ hc (by unfold A7q;rw [c1,c2];rfl)
   exact⟨(i+1,A',n'),⟨rfl,rfl,rfl,rfl,by simp only [e1];rfl,rfl,rfl,congrArg _ (C1 (by first | omega | (simp only;omega))),trivial⟩,⟨hlt,_,css,hf⟩,by show s.l.length-(i+1)<s.l.length-i;omega⟩
  refine B6 (etri.trans c2) ?_
  refine hc.a 0 rfl rfl ?_
  refine hc.q (A9i x A1 cap1 S0 _ (hRe.below hc.below)) fun wQ hQ hc=>?_
  rcases Bool.eq_false_or_eq_true (!true||(A2X x).2) with c3 | c3
  rotate_left
  ·refine B4 c3 ?_
   obtain⟨e1,hf⟩:=no_ _ _ hc (by unfold A7q;rw [c1,c2,c3];rfl)
   exact⟨(i+1,A',n'),⟨rfl,rfl,rfl,rfl,by simp only [e1];rfl,rfl,rfl,congrArg _ (C1 (by first | omega | (simp only;omega))),trivial⟩,⟨hlt,_,css,hf⟩,by show s.l.length-(i+1)<s.l.length-i;omega⟩
  refine B6 c3 ?_
  have e1:R9 (s.l.take (i+1)) pre after true=R9 (s.l.take i) pre after true++[x]:=by rw [hps,if_pos (by unfold A7q;rw [c1,c2,c3];rfl)]
  have e2:(R9 (s.l.take (i+1)) pre after true).length=(R9 (s.l.take i) pre after true).length+1:=by rw [e1,List.length_append];rfl
  refine vD (.Q [0,1,2,3,4] (.n 5 (.q 6 (.n 7 (.n 8 (.q 9 .fin) .stop) .stop)) .stop)) (fun z=>Blk z g14 90 [.string x.key,.slice A1 x.vs.length cap1]) (hc.blk 0 rfl) ?_
  refine⟨_,fun z hz=>hz.cell 0,?_⟩
  refine⟨_,fun z hz=>hz.cell 1,?_⟩
  have hc:=hc.drew
  refine⟨⟨(M9 A1 x.vs.length cap1 (x.vs.map F3) (F0 _) (List.length_map _) hvx S0 _ (hRe.below hc.below)).mono fun en w9 hq=>?_⟩,trivial⟩
  obtain⟨A2,c4,e3,h9,ho⟩:=hq
  have hc:=hc.fresh h9 ho
  obtain⟨S2,_,hc⟩:=hc.told
  refine⟨_,e3,hc.blk 0 rfl,?_⟩
  refine⟨hc.n fun gb wgb hgb hc=>?_,trivial⟩
  refine⟨hc.blk 1 rfl,?_⟩
  refine⟨D1 Tryz.underlying29 A0S rfl (by decide) hc (ys:=[.string x.key,.slice A2 x.vs.length c4]) (m:=1) rfl (hc.cells 0 rfl) rfl (by omega) (by decide) rfl rfl ?_,trivial⟩
  intro A3 c5 w11 hc
  refine⟨hc.blk 1 rfl,?_⟩
  have hf:=hc.drop.drop.now (X:=fun S w=>RepEs S w (R9 (s.l.take i) pre after true++[x]) (css++[[.string x.key,.slice A2 x.vs.length c4]])) (fun h=>RepEs.snoc h.1 ⟨A2,c4,rfl,h.2⟩) (RepEs.stab _ _)
  have ef:css.flatten++[Value.string x.key,Value.slice A2 x.vs.length c4]=(css++[[Value.string x.key,Value.slice A2 x.vs.length c4]]).flatten:=by rw [List.flatten_append];simp
  rw [<-e1,<-e2,ef] at hf
  exact⟨(i+1,A3,c5),⟨rfl,rfl,rfl,rfl,by simp only [e2];rfl,rfl,rfl,congrArg _ (C1 (by first | omega | (simp only;omega))),trivial⟩,⟨hlt,_,_,hf⟩,by show s.l.length-(i+1)<s.l.length-i;omega⟩
 ·refine df (by first | omega | (simp only;omega)) ?_
  have hi:i=s.l.length:=by omega
  subst hi
  simp only [List.take_length] at hc ⊢
  obtain⟨S2,_,hc⟩:=hc.told
  have ho:=hc.out
  unfold A7b
  generalize R9 s.l pre after true=pl at*
  have hnc:=ho.2.1
  have hkk:(if (N7 most:Int)<(pl.length:Int) then (N7 most:Int) else (pl.length:Int))=((pl.take (N7 most)).length:Int):=by
   rw [List.length_take]
   split<;>omega
  have hkl:(pl.take (N7 most)).length<=pl.length:=by rw [List.length_take];omega
  have hnc:pl.length<=n':=hnc
  refine⟨⟨Int.le_refl _,by rw [hkk];omega,by rw [hkk];omega,Int.le_refl _⟩,?_⟩
  generalize hkn:(pl.take (N7 most)).length=kk at*
  have htk:pl.take kk=pl.take (N7 most):=by
   rw [<-hkn,List.length_take,Nat.min_def]
   split
   ·rfl
   ·rw [List.take_length,List.take_of_length_le (by omega)]
  obtain⟨k1,k2⟩:=RepEs.takeRow ho.1 ho.2 kk hkl
  rw [htk] at k1
  refine⟨A',n',css.take kk,?_,hc.below,k1,by rw [hkn];exact k2⟩
  show Ending.returned (.tuple #[.slice (if (n':Int)=0 then A' else A'.map (·.add ((0:Int).toNat*2))) ((if (N7 most:Int)<(pl.length:Int) then (N7 most:Int) else (pl.length:Int))-0).toNat ((n':Int)-0).toNat,.bool (decide ((N7 most:Int)<(pl.length:Int)))])=_
  rw [N2,hkk]
  simp only [hkn]
  have e6:((kk:Int)-0).toNat=kk:=by omega
  have e7:((n':Int)-0).toNat=n':=by omega
  have e8:decide ((N7 most:Int)<(pl.length:Int))=decide (N7 most<pl.length):=by congr 1;exact propext Int.ofNat_lt
  rw [e6,e7,e8]
theorem B4E:(Tryz.prog.info? 9).map (fun i=>(i.zero,i.size,i.bytes))=some (some (.string ⟨#[]⟩),1,16):=by kernel_rfl
def B7A (e:Ent):Value:=.string e.key
def B9K (S:Nat->Prop) (q:List Ent × Bool) (w:World) (en:Ending) (w':World):Prop:=
 ∃ A c,en=.returned (.tuple #[.slice A q.1.length c,.bool q.2])/\Below w.heap.size w w'/\Row (ext S w w') w' A q.1.length c (q.1.map B7A)
theorem B14 (s:Stt) (pre after:ByteArray) (most:Int) (now:Bool):(A7b s pre after most now).1.length<=20:=by
 have:=(A3a most).2
 unfold A7b
 show (List.take _ _).length<=20
 rw [List.length_take];omega
theorem B5J (l:List Ent) (css:List (List Value)) (A:Option Addr) (c:Nat):Stab (fun S w=>RepEs S w l css/\Row S w A l.length c css.flatten):=fun _ _ _ _ h f=>⟨RepEs.fut h.1 f,h.2.fut f⟩
theorem A9j (s:Stt) (pre after:ByteArray) (most:Int) (hl:s.l.length<=1000000) (hv:∀ e∈s.l,e.vs.length<=1000000) (cs:List Value) (S0:Nat->Prop) (w:World)  (hs:RepS S0 w s cs):
  Calls Tryz.prog 189 #[.agg cs.toArray,.string pre,.string after,.int .i64 most] w (B9K no (A7b s pre after most true) w):=by
 obtain⟨A,cap,css0,B,cap',l0,l1,l2,l3,l4,rfl,el,hE,hR,hM⟩:=hs.shape
 have hp20:=B14 s pre after most true
 refine vE Tryz.func189 ?_
 have hc:=CtxF.start w no (fun _ h=>h.elim) (R:=fun S w=>True) trivial Stab.true
 refine hc.n fun g4 wg4 hg4 hc=>?_
 refine hc.a 0 rfl rfl ?_
 refine⟨(B13 s pre after most hl hv _ S0 _ (hs.below hc.below)).mono fun en w9 hq=>?_⟩
 obtain⟨A1,c1,css,e1,h1,hE1,hR1⟩:=hq
 generalize A7b s pre after most true=q at*
 obtain⟨l,more⟩:=q
 have hc:=(hc.call h1).1.know (X:=fun S w=>RepEs S w l css/\Row S w A1 l.length c1 css.flatten) ⟨hE1,hR1⟩ (B5J _ _ _ _)
 refine⟨_,e1,?_⟩
 have hc:=hc.nil 9 1
 refine⟨Nat × Option Addr × Nat,fun x=>[(10,.slice A1 l.length c1),(11,.bool more),(12,.slice x.2.1 x.1 x.2.2),(23,.slice A1 l.length c1),(24,.int .i64 l.length),(25,.int .i64 x.1)],
  fun x w'=>x.1<=l.length/\∃ S,CtxF no w S w' [(g4,33,stC s A cap B cap' l0 l1 l2 l3 l4)] [⟨9,1,x.2.1,x.1,x.2.2,(l.take x.1).map B7A⟩] (fun S w=>RepEs S w l css/\Row S w A1 l.length c1 css.flatten),
  fun x _=>l.length-x.1,(0,none,0),⟨rfl,rfl,rfl,rfl,rfl,rfl,trivial⟩,⟨Nat.zero_le _,_,hc.now (fun h=>h.2) (B5J _ _ _ _)⟩,?_⟩
 clear hc hE1 hR1
 rintro⟨i,A',n'⟩ w4 u ⟨hi,S,hc⟩
 simp only at hi hc hp20
 by_cases hlt:i<l.length
 ·refine dt (by first | omega | (simp only;omega)) ?_
  obtain⟨ad,A3,cap3,rfl,hcell,hRe⟩:=RowE.elem hc.row.2 hc.row.1 i hlt
  have e2:(l.take (i+1)).map B7A=(l.take i).map B7A++[B7A l[i]]:=by rw [List.take_add_one,List.getElem?_eq_getElem hlt,List.map_append];rfl
  generalize l[i]=x at*
  refine⟨⟨by first | omega | (simp only;omega),by first | omega | (simp only;omega)⟩,?_⟩
  refine⟨[.string x.key,.slice A3 x.vs.length cap3],rfl,hcell,?_⟩
  refine hc.n fun g14 wg14 hg14 hc=>?_
  refine hc.s 0 rfl fun wS hS hc=>?_
  refine hc.c 0 rfl rfl ?_
  refine hc.n fun gb wgb hgb hc=>?_
  refine D1 Tryz.underlying83 B4E rfl (by decide) hc (ys:=[B7A x]) (m:=1) rfl (hc.cells 0 rfl) rfl (by omega) (by decide) rfl rfl ?_
  intro A4 c4 w11 hc
  have hf:=hc.drop.drop
  rw [<-e2] at hf
  exact⟨(i+1,A4,c4),⟨rfl,rfl,rfl,rfl,rfl,congrArg _ (C1 (by first | omega | (simp only;omega))),trivial⟩,⟨hlt,_,hf⟩,by show l.length-(i+1)<l.length-i;omega⟩
 ·refine df (by first | omega | (simp only;omega)) ?_
  have hi:i=l.length:=by omega
  subst hi
  simp only [List.take_length] at hc
  obtain⟨S2,_,hc⟩:=hc.told
  exact⟨A',n',rfl,hc.below,hc.out.2⟩
def Sm (f N:Nat) (v:V):Prop:=v=V0\/(cnt f v<=6000/\(I8 v).length<=N)
theorem Sm.mem {f N:Nat} {v:V} (h:Sm (f+1) N v):(vL v).length<=6000/\∀ x∈vL v,Sm f N x:=by
 rcases h with rfl | ⟨hc,hp⟩
 ·exact⟨Nat.zero_le _,fun x hx=>by cases hx⟩
 obtain⟨k,n,s,l⟩:=v
 show l.length<=6000/\∀ x∈l,_
 rw [cnt] at hc
 by_cases h1:(k==1&&mt s&&((l.length:Int)==0))||(k==2&&n==0&&((l.length:Int)==0))
 ·have h0:l=[]:=by
   simp only [Bool.or_eq_true,Bool.and_eq_true,beq_iff_eq] at h1
   have:l.length=0:=by omega
   exact List.eq_nil_of_length_eq_zero this
  subst h0
  exact⟨Nat.zero_le _,fun x hx=>by cases hx⟩
 rw [if_neg h1] at hc
 by_cases h2:(k != 3||!(n==0)||!mt s)=true
 ·rw [if_pos h2] at hc;omega
 rw [if_neg h2] at hc
 obtain⟨h3,h4⟩:=A5F (cnt f) (fun v=>(H6 f v).1) l 1 hc
 have e3:k=3:=by
  simp only [Bool.or_eq_true,not_or,Bool.not_eq_true] at h2
  simpa using h2.1.1
 subst e3
 have ht:G6 (.mk 3 n s l)=L3 l:=by simp [G6]
 have h6:(L3 l).length<=N:=by rw [D8,ht] at hp;omega
 exact⟨by omega,fun x hx=>.inr ⟨by have:=h4 x hx;omega,Nat.le_trans (R7 hx) h6⟩⟩
theorem Sm.at {f N:Nat} {v:V} (h:Sm (f+1) N v) (i:Nat):Sm f N (atV v i):=by
 unfold atV
 rw [List.getD_eq_getElem?_getD]
 cases hg:(vL v)[i]? with
 | none=>exact .inl rfl
 | some x=>exact h.mem.2 x (List.mem_of_getElem? hg)
theorem Sm.str {f N:Nat} {v:V} (h:Sm f N v):(vS v).size<=N:=by
 rcases h with rfl | ⟨hc,hp⟩
 ·exact Nat.zero_le _
 ·exact Nat.le_trans (A4Q hc) hp
theorem A3b (t:List UInt8):Sm 6 t.length (M7 t).1:=by
 by_cases he:(M7 t).2=0
 ·have ha:M7 t=((M7 t).1,0):=by rw [<-he]
  obtain⟨k1,k2,k3⟩:=A5I ha
  exact .inr ⟨by simpa [A0t] using k2,by rw [k1];exact Nat.le_refl _⟩
 ·left
  unfold M7 at he ⊢
  simp only at he ⊢
  split at he
  ·rename_i h;rw [if_pos h]
  ·exact absurd rfl he
theorem B4F (t:List UInt8) (w:World) (ht:t.length<=1073741824) (hw:Env w):
  Calls Tryz.prog 52 #[.string ⟨t.toArray⟩] w (fun e w'=>∃ A cap,e=.returned (.tuple #[.agg (D2 (M7 t).1 A cap).toArray,.int .i64 (M7 t).2])/\Below w.heap.size w w'/\RepC (ext no w w') w' (M7 t).1 (D2 (M7 t).1 A cap)):=
 (B1H t w ht hw).mono fun e w' h=>by
  obtain⟨k,n,s,A,len,cap,e1,hb,hr⟩:=h
  obtain⟨A',cap',e2⟩:=hr.cells
  rw [e2] at hr
  exact⟨A',cap',by rw [e1,<-e2],hb,hr⟩
def B8t (q:Stt × Int) (w:World) (en:Ending) (w':World):Prop:=∃ cs,en=.returned (.tuple #[.agg cs.toArray,.int .i64 q.2])/\Below w.heap.size w w'/\RepS (ext no w w') w' q.1 cs
def B15:List Value:=[.int .i64 0,.slice none 0 0,.slice none 0 0,.int .i64 0,.int .i64 0,.int .i64 0,.int .i64 0,.int .i64 0]
theorem B0Z (S:Nat->Prop) (w:World):Row S w none 0 0 []:=⟨Nat.le_refl _,Nat.zero_le _,fun h=>absurd rfl h⟩
theorem B7c (S:Nat->Prop) (w:World):RepS S w Stt0 B15:=⟨none,0,[],none,0,rfl,rfl,rfl,B0Z S w,B0Z S w⟩
def B3U (u:V) (i j:Nat):Int:=if j<i then vN (atV u j) else 0
def A5R (u:V) (i:Nat):List Value:=[.int .i64 (B3U u i 0),.int .i64 (B3U u i 1),.int .i64 (B3U u i 2),.int .i64 (B3U u i 3),.int .i64 (B3U u i 4)]
theorem B4G (a b c:Value) (u:V) (i:Nat) (hi:i<5):D3 ([a,b,c]++A5R u i) (3+i) [.int .i64 (vN (atV u i))]=[a,b,c]++A5R u (i+1):=by
 match i,hi with
 | 0,_=>simp [D3,A5R,B3U]
 | 1,_=>simp [D3,A5R,B3U]
 | 2,_=>simp [D3,A5R,B3U]
 | 3,_=>simp [D3,A5R,B3U]
 | 4,_=>simp [D3,A5R,B3U]
theorem P8 (s:Stt) (cs:List Value):Stab (fun S w=>RepS S w s cs):=fun _ _ _ _ h f=>h.map (fun h=>h.fut f)
theorem A3c (t:List UInt8) (ht:t.length<=1073741824) (w:World) (hw:Env w):Calls Tryz.prog 87 #[.string ⟨t.toArray⟩] w (B8t (Q2 t) w):=by
 refine vE Tryz.func87 ?_
 have hc:=CtxF.start w no (fun _ h=>h.elim) (R:=fun S w=>True) trivial Stab.true
 refine hc.n fun g2 wg2 hg2 hc=>?_
 refine⟨(B4F t _ ht (hw.below hc.below)).mono fun en wq hq=>?_⟩
 obtain⟨A,cap,e1,hq,hrep⟩:=hq
 have hc:=(hc.call hq).1.know (hrep.sub fun b h=>h.elim (fun h=>h.elim) .inr) (E8 _ _)
 have hsm:=A3b t
 have eR:Q2 t=if (M7 t).2≠0 then (Stt0,1) else if E1 (A2j (M7 t).1)=[]\/E1 (A2j (M7 t).1)≠t then (Stt0,1) else (A2j (M7 t).1,0):=rfl
 rw [eR]
 clear eR hrep
 generalize M7 t=q at*
 obtain⟨v,er⟩:=q
 simp only at hsm hc ⊢
 refine⟨_,e1,?_⟩
 refine hc.n fun g4 wg4 hg4 hc=>?_
 refine hc.s 0 rfl fun wS hS hc=>?_
 by_cases he:er=0
 rotate_left
 ·refine B6 (by show (er != 0)=true;simpa using he) ?_
  refine hc.s 1 rfl fun wS hS hc=>?_
  refine hc.a 1 rfl rfl ?_
  rw [if_pos he]
  exact⟨B15,rfl,hc.below,B7c _ _⟩
 refine B4 (by show (er != 0)=false;simpa using he) ?_
 rw [if_neg (show ¬ er≠0 by omega)]
 refine hc.n fun g6 wg6 hg6 hc=>?_
 refine hc.s 0 rfl fun wS hS hc=>?_
 refine hc.a 1 rfl rfl ?_
 refine⟨(K7 v 0 A cap _ _ hc.row.2).mono fun en wq hq=>?_⟩
 obtain⟨A0,cap0,e1,hq,_⟩:=hq
 have hc:=(hc.quiet hq).1
 refine⟨_,e1,?_⟩
 refine hc.n fun g7 wg7 hg7 hc=>?_
 refine hc.s 0 rfl fun wS hS hc=>?_
 refine hc.a 2 rfl rfl ?_
 refine⟨(K7 v 1 A cap _ _ hc.row.2).mono fun en wq hq=>?_⟩
 obtain⟨A1,cap1,e1,hq,hr1⟩:=hq
 have hc:=(hc.quiet hq).1.know hr1 (E8 _ _)
 refine⟨_,e1,?_⟩
 have hs1:=hsm.at 1
 refine⟨(A7p (atV v 1) A1 cap1 _ _ hc.row.2 (Nat.le_trans hs1.mem.1 (by decide)) (fun x hx=>Nat.le_trans ((hs1.mem.2 x hx).at 1).mem.1 (by decide)) ⟨g6,0,none⟩ (hc.cell 1 rfl 0 rfl)).mono fun en wq hq=>?_⟩
 obtain⟨A2,c2,css,e1,hq,hE,hR⟩:=hq
 have hc:=(hc.call hq).1.know (X:=fun S w=>RepEs S w ((vL (atV v 1)).map Z9) css/\Row S w A2 ((vL (atV v 1)).map Z9).length c2 css.flatten) ⟨hE.map (fun h=>h.sub fun b h=>h.elim (fun h=>h.elim) .inr),hR.sub fun b h=>h.elim (fun h=>h.elim) .inr⟩ (fun _ _ _ _ h f=>⟨RepEs.map (fun h=>h.fut f) h.1,h.2.fut f⟩)
 refine⟨_,e1,?_⟩
 refine hc.s 0 rfl fun wS hS hc=>?_
 refine hc.a 2 rfl rfl ?_
 refine⟨(K7 v 2 A cap _ _ hc.row.1.1.2).mono fun en wq hq=>?_⟩
 obtain⟨A3,cap3,e1,hq,hr2⟩:=hq
 have hc:=(hc.quiet hq).1
 refine⟨_,e1,?_⟩
 refine⟨(A7o (atV v 2) A3 cap3 _ _ hr2 (Nat.le_trans (hsm.at 2).mem.1 (by decide))).mono fun en wq hq=>?_⟩
 obtain⟨A4,c4,e1,hq,hM⟩:=hq
 have hc:=(hc.call hq).1.know (hM.sub fun b h=>h.elim (fun h=>h.elim) .inr) (A2v _ _ _ _)
 refine⟨_,e1,?_⟩
 refine hc.s 0 rfl fun wS hS hc=>?_
 refine⟨Nat,fun i=>[(0,.string ⟨t.toArray⟩),(2,.pointer (some ⟨g2,0,none⟩)),(4,.pointer (some ⟨g4,0,none⟩)),(7,.pointer (some ⟨g7,0,none⟩)),(31,.int .i64 i)],
  fun i w'=>i<=5/\∃ S,CtxF no w S w' [(g7,33,[.int .i64 (vN (atV v 0)),.slice A2 ((vL (atV v 1)).map Z9).length c2,.slice A4 ((vL (atV v 2)).map A30).length c4]++A5R (atV v 3) i),(g6,168,[.func (.func 131) #[] #[]]),(g4,79,D2 v A cap),(g2,33,(lay.ty 33).zero)] []
   (fun S w=>RepC S w v (D2 v A cap)/\(RepEs S w ((vL (atV v 1)).map Z9) css/\Row S w A2 ((vL (atV v 1)).map Z9).length c2 css.flatten)/\Row S w A4 ((vL (atV v 2)).map A30).length c4 (((vL (atV v 2)).map A30).map F5).flatten),
  fun i _=>5-i,0,⟨rfl,rfl,rfl,rfl,rfl,trivial⟩,⟨Nat.zero_le _,_,hc.now (fun h=>⟨h.1.1.1.2,h.1.2,h.2⟩) ((E8 _ _).and (Stab.and (fun _ _ _ _ h f=>⟨RepEs.map (fun h=>h.fut f) h.1,h.2.fut f⟩) (A2v _ _ _ _)))⟩,?_⟩
 clear hc hE hR hM hr1 hr2
 rintro i w4 u ⟨hi,S,hc⟩
 by_cases hlt:i<5
 ·refine dt (by omega) ?_
  refine hc.a 2 rfl rfl ?_
  refine⟨(K7 v 3 A cap _ _ hc.row.1).mono fun en wq hq=>?_⟩
  obtain⟨A5,cap5,e1,hq,hr3⟩:=hq
  have hc:=(hc.quiet hq).1
  refine⟨_,e1,?_⟩
  refine⟨(K7 (atV v 3) i A5 cap5 _ _ hr3).mono fun en wq hq=>?_⟩
  obtain⟨A6,cap6,e1,hq,_⟩:=hq
  have hc:=(hc.quiet hq).1
  refine⟨_,e1,?_⟩
  refine⟨⟨Int.natCast_nonneg _,by omega⟩,?_⟩
  generalize hae:((⟨g7,0+3,none⟩:Addr).add ((i:Int).toNat*1))=ae
  have hae:(⟨g7,3+i,none⟩:Addr)=ae:=by rw [<-hae,Addr.add_lit,Nat.mul_one,Nat.zero_add,Int.toNat_natCast]
  subst hae
  refine⟨hc.may 0 rfl (3+i) [.int .i64 (vN (atV (atV v 3) i))] (by show 3+i+1<=8;omega) rfl,?_⟩
  intro w21 h21
  have h21:E2 _ ⟨g7,3+i,none⟩ [.int .i64 (vN (atV (atV v 3) i))] w21:=h21
  have hc:=(hc.set 0 rfl h21).1
  have ep:=B4G (.int .i64 (vN (atV v 0))) (.slice A2 ((vL (atV v 1)).map Z9).length c2) (.slice A4 ((vL (atV v 2)).map A30).length c4) (atV v 3) i hlt
  refine⟨i+1,⟨rfl,rfl,rfl,rfl,congrArg _ (C1 (by omega)),trivial⟩,⟨hlt,S,by rw [<-ep];exact hc⟩,by show 5-(i+1)<5-i;omega⟩
 ·refine df (by omega) ?_
  have hi:i=5:=by omega
  subst hi
  refine hc.a 0 rfl rfl ?_
  have hrS:Stab (fun S w=>RepC S w v (D2 v A cap)/\(RepEs S w ((vL (atV v 1)).map Z9) css/\Row S w A2 ((vL (atV v 1)).map Z9).length c2 css.flatten)/\Row S w A4 ((vL (atV v 2)).map A30).length c4 (((vL (atV v 2)).map A30).map F5).flatten):=hc.stab
  have mkS:∀ (S:Nat->Prop) (w:World),(RepC S w v (D2 v A cap)/\(RepEs S w ((vL (atV v 1)).map Z9) css/\Row S w A2 ((vL (atV v 1)).map Z9).length c2 css.flatten)/\Row S w A4 ((vL (atV v 2)).map A30).length c4 (((vL (atV v 2)).map A30).map F5).flatten)->
    RepS S w (A2j v) ([.int .i64 (vN (atV v 0)),.slice A2 ((vL (atV v 1)).map Z9).length c2,.slice A4 ((vL (atV v 2)).map A30).length c4]++A5R (atV v 3) 5):=fun S w h=>⟨A2,c2,css,A4,c4,rfl,rfl,h.2.1.1,h.2.1.2,h.2.2⟩
  have hkk:∀ e∈(A2j v).l,G7 e.key:=by
   intro e he
   obtain⟨x,hx,rfl⟩:=List.mem_map.1 he
   have:=(((hsm.at 1).mem.2 x hx).at 0).str
   show (vS (atV x 0)).size<=_
   omega
  refine hc.q (A2u (A2j v) hkk _ _ _ (mkS _ _ hc.row) (hw.tab.below hc.below)) fun wQ hQ hc=>?_
  have err:(E1 (A2j v)=[]\/E1 (A2j v)≠t)->(if E1 (A2j v)=[]\/E1 (A2j v)≠t then ((Stt0,1):Stt × Int) else (A2j v,0))=(Stt0,1):=fun h=>if_pos h
  by_cases h0:E1 (A2j v)=[]
  ·refine B6 (by rw [C5,h0]) ?_
   refine hc.s 3 rfl fun wS hS hc=>?_
   refine hc.a 3 rfl rfl ?_
   rw [err (.inl h0)]
   exact⟨B15,rfl,hc.below,B7c _ _⟩
  refine B4 (by
   cases h:C8 ⟨(E1 (A2j v)).toArray⟩ ⟨#[]⟩
   ·rfl
   ·rw [C5] at h
    exact absurd (by simpa using h) h0) ?_
  by_cases h1:E1 (A2j v)=t
  ·refine B4 (by show (!C8 ⟨(E1 (A2j v)).toArray⟩ ⟨t.toArray⟩)=false;rw [h1,C5.2 rfl];rfl) ?_
   refine hc.a 0 rfl rfl ?_
   refine hc.s 3 rfl fun wS hS hc=>?_
   refine hc.a 3 rfl rfl ?_
   rw [if_neg (by rintro (h | h);exact h0 h;exact h h1)]
   exact⟨_,rfl,hc.below,mkS _ _ hc.out⟩
  ·refine B6 (by
    show (!C8 ⟨(E1 (A2j v)).toArray⟩ ⟨t.toArray⟩)=true
    cases h:C8 ⟨(E1 (A2j v)).toArray⟩ ⟨t.toArray⟩
    ·rfl
    ·rw [C5] at h
     exact absurd (by simpa using h) h1) ?_
   refine hc.s 3 rfl fun wS hS hc=>?_
   refine hc.a 3 rfl rfl ?_
   rw [err (.inr h1)]
   exact⟨B15,rfl,hc.below,B7c _ _⟩
def cut (s:ByteArray) (n:Nat):ByteArray:=s.extract 0 (min s.size n)
theorem C4 (s:ByteArray) (n:Nat) (w:World) (hs:s.size<=9223372036854775807):Calls Tryz.prog 18 #[.string s,.int .i64 n] w (C7 (.string (cut s n)) w):=by
 have:=B5k s n w (Int.natCast_nonneg _) hs
 rw [Int.toNat_natCast] at this
 exact this
theorem A0k (s:ByteArray) (n:Nat):(cut s n).size<=n:=by
 unfold cut
 rw [ByteArray.size_extract]
 omega
def A6l (d:D):D:=⟨d.kind,cut d.key 42,cut d.body 302,d.ver,d.cond,cut d.tag 10,d.req,d.low⟩
theorem B6F {d:D} (h:d.Ok):(A6l d).Ok:=
 ⟨h.kind,Nat.le_trans (A0k _ _) (by decide),Nat.le_trans (A0k _ _) (by decide),h.ver,h.cond,Nat.le_trans (A0k _ _) (by decide),h.req,h.low⟩
theorem B16 (d:D) (h:d.Ok) (w:World):Calls Tryz.prog 28 #[.agg (dC d).toArray] w (C7 (.agg (dC (A6l d)).toArray) w):=by
 refine vE Tryz.func28 ?_
 have hc:=CtxF.start w no (fun _ h=>h.elim) (R:=fun _ _=>True) trivial Stab.true
 refine hc.n fun g1 wg1 hg1 hc=>?_
 refine hc.n fun g2 wg2 hg2 hc=>?_
 refine vD (.Q [0,3,6] (.n 1 (.n 2 (.n 4 (.n 5 (.n 7 (.q 9 (.n 8 (.n 10 (.q 11 (.n 12 (.q 13 (.z 14)) .stop)) .stop) .stop)) .stop) (.n 7 (.q 9 (.n 5 (.n 8 (.n 10 (.q 11 (.n 12 (.q 13 (.z 14)) .stop)) .stop) .stop) .stop)) .stop)) (.n 7 (.n 4 (.q 9 (.n 5 (.n 8 (.n 10 (.q 11 (.n 12 (.q 13 (.z 14)) .stop)) .stop) .stop) .stop)) .stop) .stop)) (.n 4 (.n 2 (.n 5 (.n 7 (.q 9 (.n 8 (.n 10 (.q 11 (.n 12 (.q 13 (.z 14)) .stop)) .stop) .stop)) .stop) (.n 7 (.q 9 (.n 5 (.n 8 (.n 10 (.q 11 (.n 12 (.q 13 (.z 14)) .stop)) .stop) .stop) .stop)) .stop)) (.n 7 (.n 2 (.q 9 (.n 5 (.n 8 (.n 10 (.q 11 (.n 12 (.q 13 (.z 14)) .stop)) .stop) .stop) .stop)) .stop) .stop)) (.n 7 (.n 2 (.n 4 (.q 9 (.n 5 (.n 8 (.n 10 (.q 11 (.n 12 (.q 13 (.z 14)) .stop)) .stop) .stop) .stop)) .stop) (.n 4 (.n 2 (.q 9 (.n 5 (.n 8 (.n 10 (.q 11 (.n 12 (.q 13 (.z 14)) .stop)) .stop) .stop) .stop)) .stop) .stop)) .stop))) (.n 4 (.n 1 (.n 2 (.n 5 (.n 7 (.q 9 (.n 8 (.n 10 (.q 11 (.n 12 (.q 13 (.z 14)) .stop)) .stop) .stop)) .stop) (.n 7 (.q 9 (.n 5 (.n 8 (.n 10 (.q 11 (.n 12 (.q 13 (.z 14)) .stop)) .stop) .stop) .stop)) .stop)) (.n 7 (.n 2 (.q 9 (.n 5 (.n 8 (.n 10 (.q 11 (.n 12 (.q 13 (.z 14)) .stop)) .stop) .stop) .stop)) .stop) .stop)) (.n 7 (.n 1 (.n 2 (.q 9 (.n 5 (.n 8 (.n 10 (.q 11 (.n 12 (.q 13 (.z 14)) .stop)) .stop) .stop) .stop)) .stop) .stop) .stop)) (.n 7 (.n 1 (.n 2 (.n 4 (.q 9 (.n 5 (.n 8 (.n 10 (.q 11 (.n 12 (.q 13 (.z 14)) .stop)) .stop) .stop) .stop)) .stop) (.n 4 (.n 2 (.q 9 (.n 5 (.n 8 (.n 10 (.q 11 (.n 12 (.q 13 (.z 14)) .stop)) .stop) .stop) .stop)) .stop) .stop)) (.n 4 (.n 1 (.n 2 (.q 9 (.n 5 (.n 8 (.n 10 (.q 11 (.n 12 (.q 13 (.z 14)) .stop)) .stop) .stop) .stop)) .stop) .stop) .stop)) .stop)))) (fun _=>True) trivial ?_
 have hc:=hc.drew
 refine⟨?_,?_⟩
 ·skip
  refine⟨_,hc.cell 1 rfl _ rfl,trivial,?_⟩
  refine⟨?_,?_⟩
  ·skip
   refine hc.q' (C4 d.key 42 _ h.key) fun wQ hQ hc=>?_
   refine⟨?_,?_⟩
   ·skip
    refine⟨_,hc.cell 1 rfl _ rfl,trivial,?_⟩
    refine⟨?_,?_⟩
    ·skip
     refine hc.q' (C4 d.body 302 _ h.body) fun wQ hQ hc=>?_
     refine⟨⟨_,hc.cell 1 rfl _ rfl,trivial,?_⟩,trivial⟩
     refine⟨hc.q' (C4 d.tag 10 _ h.tag) fun wQ hQ hc=>?_,trivial⟩
     refine⟨hc.s' 1 rfl fun wS hS hc=>?_,trivial⟩
     refine⟨hc.s' 1 rfl fun wS hS hc=>?_,trivial⟩
     refine hc.s 1 rfl fun wS hS hc=>?_
     refine hc.a 1 rfl rfl ?_
     refine hc.s 0 rfl fun wS hS hc=>?_
     refine hc.a 0 rfl rfl ?_
     exact⟨rfl,hc.below⟩
    refine⟨⟨_,hc.cell 1 rfl _ rfl,trivial,?_⟩,trivial⟩
    refine⟨hc.q' (C4 d.body 302 _ h.body) fun wQ hQ hc=>?_,trivial⟩
    refine⟨hc.q' (C4 d.tag 10 _ h.tag) fun wQ hQ hc=>?_,trivial⟩
    refine⟨hc.s' 1 rfl fun wS hS hc=>?_,trivial⟩
    refine⟨hc.s' 1 rfl fun wS hS hc=>?_,trivial⟩
    refine hc.s 1 rfl fun wS hS hc=>?_
    refine hc.a 1 rfl rfl ?_
    refine hc.s 0 rfl fun wS hS hc=>?_
    refine hc.a 0 rfl rfl ?_
    exact⟨rfl,hc.below⟩
   refine⟨⟨_,hc.cell 1 rfl _ rfl,trivial,?_⟩,trivial⟩
   refine⟨⟨_,hc.cell 1 rfl _ rfl,trivial,?_⟩,trivial⟩
   refine⟨hc.q' (C4 d.body 302 _ h.body) fun wQ hQ hc=>?_,trivial⟩
   refine⟨hc.q' (C4 d.tag 10 _ h.tag) fun wQ hQ hc=>?_,trivial⟩
   refine⟨hc.s' 1 rfl fun wS hS hc=>?_,trivial⟩
   refine⟨hc.s' 1 rfl fun wS hS hc=>?_,trivial⟩
   refine hc.s 1 rfl fun wS hS hc=>?_
   refine hc.a 1 rfl rfl ?_
   refine hc.s 0 rfl fun wS hS hc=>?_
   refine hc.a 0 rfl rfl ?_
   exact⟨rfl,hc.below⟩
  refine⟨?_,?_⟩
  ·skip
   refine⟨_,hc.cell 1 rfl _ rfl,trivial,?_⟩
   refine⟨?_,?_⟩
   ·skip
    refine hc.q' (C4 d.key 42 _ h.key) fun wQ hQ hc=>?_
    refine⟨?_,?_⟩
    ·skip
     refine hc.q' (C4 d.body 302 _ h.body) fun wQ hQ hc=>?_
     refine⟨⟨_,hc.cell 1 rfl _ rfl,trivial,?_⟩,trivial⟩
     refine⟨hc.q' (C4 d.tag 10 _ h.tag) fun wQ hQ hc=>?_,trivial⟩
     refine⟨hc.s' 1 rfl fun wS hS hc=>?_,trivial⟩
     refine⟨hc.s' 1 rfl fun wS hS hc=>?_,trivial⟩
     refine hc.s 1 rfl fun wS hS hc=>?_
     refine hc.a 1 rfl rfl ?_
     refine hc.s 0 rfl fun wS hS hc=>?_
     refine hc.a 0 rfl rfl ?_
     exact⟨rfl,hc.below⟩
    refine⟨⟨_,hc.cell 1 rfl _ rfl,trivial,?_⟩,trivial⟩
    refine⟨hc.q' (C4 d.body 302 _ h.body) fun wQ hQ hc=>?_,trivial⟩
    refine⟨hc.q' (C4 d.tag 10 _ h.tag) fun wQ hQ hc=>?_,trivial⟩
    refine⟨hc.s' 1 rfl fun wS hS hc=>?_,trivial⟩
    refine⟨hc.s' 1 rfl fun wS hS hc=>?_,trivial⟩
    refine hc.s 1 rfl fun wS hS hc=>?_
    refine hc.a 1 rfl rfl ?_
    refine hc.s 0 rfl fun wS hS hc=>?_
    refine hc.a 0 rfl rfl ?_
    exact⟨rfl,hc.below⟩
   refine⟨⟨_,hc.cell 1 rfl _ rfl,trivial,?_⟩,trivial⟩
   refine⟨hc.q' (C4 d.key 42 _ h.key) fun wQ hQ hc=>?_,trivial⟩
   refine⟨hc.q' (C4 d.body 302 _ h.body) fun wQ hQ hc=>?_,trivial⟩
   refine⟨hc.q' (C4 d.tag 10 _ h.tag) fun wQ hQ hc=>?_,trivial⟩
   refine⟨hc.s' 1 rfl fun wS hS hc=>?_,trivial⟩
   refine⟨hc.s' 1 rfl fun wS hS hc=>?_,trivial⟩
   refine hc.s 1 rfl fun wS hS hc=>?_
   refine hc.a 1 rfl rfl ?_
   refine hc.s 0 rfl fun wS hS hc=>?_
   refine hc.a 0 rfl rfl ?_
   exact⟨rfl,hc.below⟩
  refine⟨⟨_,hc.cell 1 rfl _ rfl,trivial,?_⟩,trivial⟩
  refine⟨?_,?_⟩
  ·skip
   refine hc.q' (C4 d.key 42 _ h.key) fun wQ hQ hc=>?_
   refine⟨⟨_,hc.cell 1 rfl _ rfl,trivial,?_⟩,trivial⟩
   refine⟨hc.q' (C4 d.body 302 _ h.body) fun wQ hQ hc=>?_,trivial⟩
   refine⟨hc.q' (C4 d.tag 10 _ h.tag) fun wQ hQ hc=>?_,trivial⟩
   refine⟨hc.s' 1 rfl fun wS hS hc=>?_,trivial⟩
   refine⟨hc.s' 1 rfl fun wS hS hc=>?_,trivial⟩
   refine hc.s 1 rfl fun wS hS hc=>?_
   refine hc.a 1 rfl rfl ?_
   refine hc.s 0 rfl fun wS hS hc=>?_
   refine hc.a 0 rfl rfl ?_
   exact⟨rfl,hc.below⟩
  refine⟨⟨_,hc.cell 1 rfl _ rfl,trivial,?_⟩,trivial⟩
  refine⟨hc.q' (C4 d.key 42 _ h.key) fun wQ hQ hc=>?_,trivial⟩
  refine⟨hc.q' (C4 d.body 302 _ h.body) fun wQ hQ hc=>?_,trivial⟩
  refine⟨hc.q' (C4 d.tag 10 _ h.tag) fun wQ hQ hc=>?_,trivial⟩
  refine⟨hc.s' 1 rfl fun wS hS hc=>?_,trivial⟩
  refine⟨hc.s' 1 rfl fun wS hS hc=>?_,trivial⟩
  refine hc.s 1 rfl fun wS hS hc=>?_
  refine hc.a 1 rfl rfl ?_
  refine hc.s 0 rfl fun wS hS hc=>?_
  refine hc.a 0 rfl rfl ?_
  exact⟨rfl,hc.below⟩
 refine⟨?_,?_⟩
 ·skip
  refine⟨_,hc.cell 1 rfl _ rfl,trivial,?_⟩
  refine⟨?_,?_⟩
  ·skip
   refine⟨_,hc.cell 1 rfl _ rfl,trivial,?_⟩
   refine⟨?_,?_⟩
   ·skip
    refine hc.q' (C4 d.key 42 _ h.key) fun wQ hQ hc=>?_
    refine⟨?_,?_⟩
    ·skip
     refine hc.q' (C4 d.body 302 _ h.body) fun wQ hQ hc=>?_
     refine⟨⟨_,hc.cell 1 rfl _ rfl,trivial,?_⟩,trivial⟩
     refine⟨hc.q' (C4 d.tag 10 _ h.tag) fun wQ hQ hc=>?_,trivial⟩
     refine⟨hc.s' 1 rfl fun wS hS hc=>?_,trivial⟩
     refine⟨hc.s' 1 rfl fun wS hS hc=>?_,trivial⟩
     refine hc.s 1 rfl fun wS hS hc=>?_
     refine hc.a 1 rfl rfl ?_
     refine hc.s 0 rfl fun wS hS hc=>?_
     refine hc.a 0 rfl rfl ?_
     exact⟨rfl,hc.below⟩
    refine⟨⟨_,hc.cell 1 rfl _ rfl,trivial,?_⟩,trivial⟩
    refine⟨hc.q' (C4 d.body 302 _ h.body) fun wQ hQ hc=>?_,trivial⟩
    refine⟨hc.q' (C4 d.tag 10 _ h.tag) fun wQ hQ hc=>?_,trivial⟩
    refine⟨hc.s' 1 rfl fun wS hS hc=>?_,trivial⟩
    refine⟨hc.s' 1 rfl fun wS hS hc=>?_,trivial⟩
    refine hc.s 1 rfl fun wS hS hc=>?_
    refine hc.a 1 rfl rfl ?_
    refine hc.s 0 rfl fun wS hS hc=>?_
    refine hc.a 0 rfl rfl ?_
    exact⟨rfl,hc.below⟩
   refine⟨⟨_,hc.cell 1 rfl _ rfl,trivial,?_⟩,trivial⟩
   refine⟨hc.q' (C4 d.key 42 _ h.key) fun wQ hQ hc=>?_,trivial⟩
   refine⟨hc.q' (C4 d.body 302 _ h.body) fun wQ hQ hc=>?_,trivial⟩
   refine⟨hc.q' (C4 d.tag 10 _ h.tag) fun wQ hQ hc=>?_,trivial⟩
   refine⟨hc.s' 1 rfl fun wS hS hc=>?_,trivial⟩
   refine⟨hc.s' 1 rfl fun wS hS hc=>?_,trivial⟩
   refine hc.s 1 rfl fun wS hS hc=>?_
   refine hc.a 1 rfl rfl ?_
   refine hc.s 0 rfl fun wS hS hc=>?_
   refine hc.a 0 rfl rfl ?_
   exact⟨rfl,hc.below⟩
  refine⟨⟨_,hc.cell 1 rfl _ rfl,trivial,?_⟩,trivial⟩
  refine⟨⟨_,hc.cell 1 rfl _ rfl,trivial,?_⟩,trivial⟩
  refine⟨hc.q' (C4 d.key 42 _ h.key) fun wQ hQ hc=>?_,trivial⟩
  refine⟨hc.q' (C4 d.body 302 _ h.body) fun wQ hQ hc=>?_,trivial⟩
  refine⟨hc.q' (C4 d.tag 10 _ h.tag) fun wQ hQ hc=>?_,trivial⟩
  refine⟨hc.s' 1 rfl fun wS hS hc=>?_,trivial⟩
  refine⟨hc.s' 1 rfl fun wS hS hc=>?_,trivial⟩
  refine hc.s 1 rfl fun wS hS hc=>?_
  refine hc.a 1 rfl rfl ?_
  refine hc.s 0 rfl fun wS hS hc=>?_
  refine hc.a 0 rfl rfl ?_
  exact⟨rfl,hc.below⟩
 refine⟨⟨_,hc.cell 1 rfl _ rfl,trivial,?_⟩,trivial⟩
 refine⟨?_,?_⟩
 ·skip
  refine⟨_,hc.cell 1 rfl _ rfl,trivial,?_⟩
  refine⟨?_,?_⟩
  ·skip
   refine hc.q' (C4 d.key 42 _ h.key) fun wQ hQ hc=>?_
   refine⟨⟨_,hc.cell 1 rfl _ rfl,trivial,?_⟩,trivial⟩
   refine⟨hc.q' (C4 d.body 302 _ h.body) fun wQ hQ hc=>?_,trivial⟩
   refine⟨hc.q' (C4 d.tag 10 _ h.tag) fun wQ hQ hc=>?_,trivial⟩
   refine⟨hc.s' 1 rfl fun wS hS hc=>?_,trivial⟩
   refine⟨hc.s' 1 rfl fun wS hS hc=>?_,trivial⟩
   refine hc.s 1 rfl fun wS hS hc=>?_
   refine hc.a 1 rfl rfl ?_
   refine hc.s 0 rfl fun wS hS hc=>?_
   refine hc.a 0 rfl rfl ?_
   exact⟨rfl,hc.below⟩
  refine⟨⟨_,hc.cell 1 rfl _ rfl,trivial,?_⟩,trivial⟩
  refine⟨hc.q' (C4 d.key 42 _ h.key) fun wQ hQ hc=>?_,trivial⟩
  refine⟨hc.q' (C4 d.body 302 _ h.body) fun wQ hQ hc=>?_,trivial⟩
  refine⟨hc.q' (C4 d.tag 10 _ h.tag) fun wQ hQ hc=>?_,trivial⟩
  refine⟨hc.s' 1 rfl fun wS hS hc=>?_,trivial⟩
  refine⟨hc.s' 1 rfl fun wS hS hc=>?_,trivial⟩
  refine hc.s 1 rfl fun wS hS hc=>?_
  refine hc.a 1 rfl rfl ?_
  refine hc.s 0 rfl fun wS hS hc=>?_
  refine hc.a 0 rfl rfl ?_
  exact⟨rfl,hc.below⟩
 refine⟨⟨_,hc.cell 1 rfl _ rfl,trivial,?_⟩,trivial⟩
 refine⟨⟨_,hc.cell 1 rfl _ rfl,trivial,?_⟩,trivial⟩
 refine⟨hc.q' (C4 d.key 42 _ h.key) fun wQ hQ hc=>?_,trivial⟩
 refine⟨hc.q' (C4 d.body 302 _ h.body) fun wQ hQ hc=>?_,trivial⟩
 refine⟨hc.q' (C4 d.tag 10 _ h.tag) fun wQ hQ hc=>?_,trivial⟩
 refine⟨hc.s' 1 rfl fun wS hS hc=>?_,trivial⟩
 refine⟨hc.s' 1 rfl fun wS hS hc=>?_,trivial⟩
 refine hc.s 1 rfl fun wS hS hc=>?_
 refine hc.a 1 rfl rfl ?_
 refine hc.s 0 rfl fun wS hS hc=>?_
 refine hc.a 0 rfl rfl ?_
 exact⟨rfl,hc.below⟩
def A6m (v:Ver):Ver:=⟨v.ver,v.gone,cut v.body 302⟩
def A1e (e:Ent):Ent:=⟨cut e.key 42,(e.vs.take 14).map A6m⟩
theorem B8u (n:Nat):(if (14:Int)<(n:Int) then (14:Int) else (n:Int))=((min n 14:Nat):Int):=by split<;>omega
theorem B7d (n:Nat):(if (103:Int)<(n:Int) then (103:Int) else (n:Int))=((min n 103:Nat):Int):=by split<;>omega
def B9L (e:Ent) (w:World) (en:Ending) (w':World):Prop:=∃ A c,en=.returned (.agg #[.string e.key,.slice A e.vs.length c])/\Below w.heap.size w w'/\w'.ownsRow w.heap.size 102 3 (.slice A e.vs.length c) e.vs.length (e.vs.map F3).flatten
theorem B4H (cur:List Value) (cap:Nat) (l:List Ver) (i:Nat) (hi:i<l.length) (hcl:cur.length=cap*3) (hn:l.length<=cap) (hct:cur.take (l.length*3)=(l.map F3).flatten) (b:ByteArray):
  (D3 cur (i*3+2) [.string b]).take (l.length*3)=((l.set i ⟨l[i].ver,l[i].gone,b⟩).map F3).flatten:=by
 have hfit:i*3+2+1<=cur.length:=by omega
 apply List.ext_getElem?
 intro j
 have hL:∀ m:List Ver,(m.map F3).flatten.length=m.length*3:=fun m=>by rw [(F0 _).len,List.length_map]
 have hpt:∀ (m:List Ver) (k:Nat) (hk:k<m.length) (r:Nat) (u:Value),(F3 m[k])[r]?=some u->(m.map F3).flatten[k*3+r]?=some u:=fun m k hk r u hu=>
  (F0 m).get k (by rw [List.length_map];exact hk) r u (by rw [List.getElem_map];exact hu)
 rcases Nat.lt_or_ge j (l.length*3) with hj | hj
 ·rw [List.getElem?_take,if_pos hj]
  have hq:j / 3<l.length:=by omega
  have hjd:j=j / 3*3+j % 3:=by omega
  have hr:j % 3<3:=Nat.mod_lt _ (by decide)
  have hold:cur[j]?=(l.map F3).flatten[j]?:=by rw [<-hct,List.getElem?_take,if_pos hj]
  show (cur.set (i*3+2) (.string b))[j]?=_
  generalize hk:j / 3=k at*
  generalize hrr:j % 3=r at*
  by_cases e:k=i
  ·subst e
   have hset:(l.set k ⟨l[k].ver,l[k].gone,b⟩)[k]'(by rw [List.length_set];exact hq)=⟨l[k].ver,l[k].gone,b⟩:=List.getElem_set_self ..
   match r,hr with
   | 0,_=>
    rw [List.getElem?_set_ne (by omega),hold,hjd,hpt l k hq 0 (.int .i64 l[k].ver) rfl,hpt _ k (by rw [List.length_set];exact hq) 0 (.int .i64 l[k].ver) (by rw [hset];rfl)]
   | 1,_=>
    rw [List.getElem?_set_ne (by omega),hold,hjd,hpt l k hq 1 (.bool l[k].gone) rfl,hpt _ k (by rw [List.length_set];exact hq) 1 (.bool l[k].gone) (by rw [hset];rfl)]
   | 2,_=>
    rw [hjd,List.getElem?_set_self (by omega),hpt _ k (by rw [List.length_set];exact hq) 2 (.string b) (by rw [hset];rfl)]
  ·have hset:(l.set i ⟨l[i].ver,l[i].gone,b⟩)[k]'(by rw [List.length_set];exact hq)=l[k]:=List.getElem_set_ne (fun h=>e h.symm) ..
   rw [List.getElem?_set_ne (by omega),hold,hjd]
   match r,hr with
   | 0,_=>rw [hpt l k hq 0 (.int .i64 l[k].ver) rfl,hpt _ k (by rw [List.length_set];exact hq) 0 (.int .i64 l[k].ver) (by rw [hset];rfl)]
   | 1,_=>rw [hpt l k hq 1 (.bool l[k].gone) rfl,hpt _ k (by rw [List.length_set];exact hq) 1 (.bool l[k].gone) (by rw [hset];rfl)]
   | 2,_=>rw [hpt l k hq 2 (.string l[k].body) rfl,hpt _ k (by rw [List.length_set];exact hq) 2 (.string l[k].body) (by rw [hset];rfl)]
 ·rw [List.getElem?_eq_none (by rw [List.length_take];omega),List.getElem?_eq_none (by rw [hL,List.length_set];exact hj)]
def A1f (l:List Ver) (i:Nat):List Ver:=(l.take i).map A6m++l.drop i
theorem A3d (l:List Ver) (i:Nat):(A1f l i).length=l.length:=by
 unfold A1f
 rw [List.length_append,List.length_map,List.length_take,List.length_drop];omega
theorem B17 (l:List Ver) (i:Nat) (hi:i<l.length):(A1f l i)[i]?=some l[i]:=by
 unfold A1f
 rw [List.getElem?_append_right (by rw [List.length_map,List.length_take];omega),List.length_map,List.length_take,List.getElem?_drop]
 rw [show i+(i-min i l.length)=i by omega,List.getElem?_eq_getElem hi]
theorem A9k (l:List Ver) (i:Nat) (hi:i<l.length):(A1f l i).set i (A6m l[i])=A1f l (i+1):=by
 unfold A1f
 rw [List.set_append_right _ _ (by rw [List.length_map,List.length_take];omega),List.length_map,List.length_take,show i-min i l.length=0 by omega,List.drop_eq_getElem_cons hi,List.set_cons_zero,List.take_add_one,List.getElem?_eq_getElem hi,List.map_append,List.append_assoc]
 rfl
theorem A9l (e:Ent) (he:e.Ok) (A:Option Addr) (cap:Nat) (S0:Nat->Prop) (w:World) (hR:Row S0 w A e.vs.length cap (e.vs.map F3).flatten):
  Calls Tryz.prog 58 #[.agg #[.string e.key,.slice A e.vs.length cap]] w (B9L (A1e e) w):=by
 refine vE Tryz.func58 ?_
 have hc:=CtxF.start w no (fun _ h=>h.elim) (R:=fun _ _=>True) trivial Stab.true
 refine hc.n fun g1 wg1 hg1 hc=>?_
 refine hc.n fun g2 wg2 hg2 hc=>?_
 refine hc.c 1 rfl rfl ?_
 refine hc.q (C4 e.key 42 _ he.key) fun wQ hQ hc=>?_
 refine hc.s 1 rfl fun wS hS hc=>?_
 refine hc.c 1 rfl rfl ?_
 refine hc.c 1 rfl rfl ?_
 have hnc:=hR.1
 have hMx:=C9 hR
 have hm:=B8u e.vs.length
 refine⟨⟨Int.le_refl _,by rw [hm];omega,by rw [hm];omega,Int.le_refl _⟩,?_⟩
 have hc:=hc.nil 102 3
 obtain⟨l,hl⟩:∃ l,l=e.vs.take 14:=⟨_,rfl⟩
 have hll:min e.vs.length 14=l.length:=by rw [hl,List.length_take];omega
 have hl14:l.length<=14:=by omega
 have hfr:Row S0 w A l.length cap ((l.map F3).flatten):=by
  have:=hR.front 3 (k:=l.length) (by omega)
  rwa [<-(F0 _).flat_take,<-List.map_take,show e.vs.take l.length=l by rw [hl,List.length_take,Nat.min_comm];exact (List.take_eq_take_iff.2 (by omega))] at this
 refine A1I Tryz.underlying88 A4S rfl (by decide) hc (hfr.below hc.below) (by rw [(F0 _).len,List.length_map]) (F0 _).ones (by omega) (by decide) rfl ?_ ?_
 ·show Value.slice (if (cap:Int)=0 then A else A.map (·.add ((0:Int).toNat*3))) ((if (14:Int)<(e.vs.length:Int) then (14:Int) else (e.vs.length:Int))-0).toNat ((cap:Int)-0).toNat=_
  rw [N2,hm,hll]
  congr 1<;>omega
 intro A1 cap1 w7 hc
 rw [Nat.zero_add l.length] at hc ⊢
 refine hc.s 1 rfl fun wS hS hc=>?_
 refine hc.c 1 rfl rfl ?_
 have eE:A1e e=⟨cut e.key 42,A1f l l.length⟩:=by
  unfold A1e A1f
  rw [List.take_length,List.drop_length,List.append_nil,<-hl]
 have hok:∀ v∈l,G7 v.body:=fun v hv=>(he.vs v (List.mem_of_mem_take (by rw [<-hl];exact hv))).body
 rw [eE]
 cases hA:A1 with
 | none=>
  have h0:l.length=0:=(hc.fst.none' hA).1
  refine⟨Unit,fun _=>[(1,.pointer (some ⟨g1,0,none⟩)),(2,.pointer (some ⟨g2,0,none⟩)),(19,.int .i64 l.length),(20,.int .i64 0)],fun _ w'=>w'=_,fun _ _=>0,(),⟨rfl,rfl,rfl,rfl,trivial⟩,rfl,?_⟩
  rintro _ _ u rfl
  refine df (show ¬ (0:Int)<(l.length:Int) by omega) ?_
  refine hc.a 1 rfl rfl ?_
  refine hc.s 0 rfl fun wS hS hc=>?_
  refine hc.a 0 rfl rfl ?_
  have hlen:=A3d l l.length
  have hnil:l=[]:=List.eq_nil_of_length_eq_zero h0
  refine⟨A1,cap1,?_,hc.below,?_⟩
  ·simp only [hlen,hA];rfl
  ·simp only [hlen]
   have:=hc.fst.row
   subst hnil
   exact this
 | some a=>
 obtain⟨g,cur,ea,hc,hcl,hct,hcn,hcm⟩:=hc.opened hA
 rw [hA] at ea
 cases ea
 subst hA
 refine⟨Nat × List Value,fun x=>[(1,.pointer (some ⟨g1,0,none⟩)),(2,.pointer (some ⟨g2,0,none⟩)),(19,.int .i64 l.length),(20,.int .i64 x.1)],
  fun x w'=>x.1<=l.length/\x.2.length=cap1*3/\x.2.take (l.length*3)=((A1f l x.1).map F3).flatten/\CtxF no w no w' [(g,102,x.2),(g2,90,(lay.ty 90).zero),(g1,90,[.string (cut e.key 42),.slice (some ⟨g,0,none⟩) l.length cap1])] [] (fun _ _=>True),
  fun x _=>l.length-x.1,(0,cur),⟨rfl,rfl,rfl,rfl,trivial⟩,⟨Nat.zero_le _,hcl,hct,hc⟩,?_⟩
 clear hc hcl hct
 rintro⟨i,cur⟩ w4 u ⟨hi,hcl,hct,hc⟩
 simp only at hi hc hcl hct
 by_cases hlt:i<l.length
 ·refine dt (by first | omega | (simp only;omega)) ?_
  have hln:=A3d l i
  have hgi:(A1f l i)[i]'(by omega)=l[i]:=by
   have:=B17 l i hlt
   exact (List.getElem?_eq_some_iff.1 this).2
  have hcell:cur[i*3+2]?=some (.string l[i].body):=by
   have h1:((A1f l i).map F3).flatten[i*3+2]?=some (.string l[i].body):=(F0 (A1f l i)).get i (by rw [List.length_map];omega) 2 _ (by rw [List.getElem_map,hgi];rfl)
   rw [<-hct,List.getElem?_take] at h1
   split at h1
   ·exact h1
   ·cases h1
  have hbody:=hok l[i] (List.getElem_mem hlt)
  have hrow:=B4H cur cap1 (A1f l i) i (by omega) hcl (by omega) (by rw [hln];exact hct) (cut l[i].body 302)
  rw [hgi,hln] at hrow
  have hcs:=A9k l i hlt
  have ecv:(⟨l[i].ver,l[i].gone,cut l[i].body 302⟩:Ver)=A6m l[i]:=rfl
  rw [ecv,hcs] at hrow
  generalize l[i]=v at*
  refine vD (.Q [0,2,3,5] (.n 1 (.n 4 (.Q [6,7] (.n 8 (.n 9 (.Q [10,11] (.n 12 .fin .stop)) .stop) .stop)) .stop) (.n 4 (.Q [6,7] (.n 1 (.n 8 (.n 9 (.Q [10,11] (.n 12 .fin .stop)) .stop) .stop) (.n 8 (.n 1 (.n 9 (.Q [10,11] (.n 12 .fin .stop)) .stop) (.n 9 (.n 1 (.Q [10,11] (.n 12 .fin .stop)) .stop) .stop)) .stop))) .stop))) (fun _=>True) trivial ?_
  have hc:=hc.drew
  refine⟨?_,?_⟩
  ·skip
   refine⟨_,hc.cell 2 rfl _ rfl,trivial,?_⟩
   refine⟨⟨_,hc.cell 2 rfl _ rfl,trivial,?_⟩,trivial⟩
   refine⟨⟨by first | omega | (simp only;omega),by first | omega | (simp only;omega)⟩,?_⟩
   generalize hae:((⟨g,0,none⟩:Addr).add ((i:Int).toNat*3))=ae
   have hae:(⟨g,i*3,none⟩:Addr)=ae:=by rw [<-hae,Addr.add_lit,Nat.zero_add,Int.toNat_natCast]
   subst hae
   refine⟨⟨.string v.body,(hc.blk 0 rfl).cell (i*3+2) |>.trans hcell,trivial,?_⟩,trivial⟩
   refine⟨hc.q' (C4 v.body 302 _ hbody) fun wQ hQ hc=>?_,trivial⟩
   refine⟨⟨by first | omega | (simp only;omega),by first | omega | (simp only;omega)⟩,?_⟩
   generalize hae:((⟨g,0,none⟩:Addr).add ((i:Int).toNat*3))=ae
   have hae:(⟨g,i*3,none⟩:Addr)=ae:=by rw [<-hae,Addr.add_lit,Nat.zero_add,Int.toNat_natCast]
   subst hae
   refine⟨⟨hc.may 0 rfl (i*3+2) [.string (cut v.body 302)] (by show i*3+2+1<=cur.length;omega) rfl,?_⟩,trivial⟩
   intro wS hS
   have hS:E2 _ ⟨g,i*3+2,none⟩ [.string (cut v.body 302)] wS:=hS
   have hc:=(hc.set 0 rfl hS).1
   refine⟨trivial,?_⟩
   exact⟨(i+1,D3 cur (i*3+2) [.string (cut v.body 302)]),⟨rfl,rfl,rfl,congrArg _ (C1 (by first | omega | (simp only;omega))),trivial⟩,⟨hlt,by simp only [D4];exact hcl,hrow,hc⟩,by show l.length-(i+1)<l.length-i;omega⟩
  refine⟨⟨_,hc.cell 2 rfl _ rfl,trivial,?_⟩,trivial⟩
  refine⟨⟨by first | omega | (simp only;omega),by first | omega | (simp only;omega)⟩,?_⟩
  generalize hae:((⟨g,0,none⟩:Addr).add ((i:Int).toNat*3))=ae
  have hae:(⟨g,i*3,none⟩:Addr)=ae:=by rw [<-hae,Addr.add_lit,Nat.zero_add,Int.toNat_natCast]
  subst hae
  refine⟨?_,?_⟩
  ·skip
   refine⟨_,hc.cell 2 rfl _ rfl,trivial,?_⟩
   refine⟨⟨.string v.body,(hc.blk 0 rfl).cell (i*3+2) |>.trans hcell,trivial,?_⟩,trivial⟩
   refine⟨hc.q' (C4 v.body 302 _ hbody) fun wQ hQ hc=>?_,trivial⟩
   refine⟨⟨by first | omega | (simp only;omega),by first | omega | (simp only;omega)⟩,?_⟩
   generalize hae:((⟨g,0,none⟩:Addr).add ((i:Int).toNat*3))=ae
   have hae:(⟨g,i*3,none⟩:Addr)=ae:=by rw [<-hae,Addr.add_lit,Nat.zero_add,Int.toNat_natCast]
   subst hae
   refine⟨⟨hc.may 0 rfl (i*3+2) [.string (cut v.body 302)] (by show i*3+2+1<=cur.length;omega) rfl,?_⟩,trivial⟩
   intro wS hS
   have hS:E2 _ ⟨g,i*3+2,none⟩ [.string (cut v.body 302)] wS:=hS
   have hc:=(hc.set 0 rfl hS).1
   refine⟨trivial,?_⟩
   exact⟨(i+1,D3 cur (i*3+2) [.string (cut v.body 302)]),⟨rfl,rfl,rfl,congrArg _ (C1 (by first | omega | (simp only;omega))),trivial⟩,⟨hlt,by simp only [D4];exact hcl,hrow,hc⟩,by show l.length-(i+1)<l.length-i;omega⟩
  refine⟨⟨.string v.body,(hc.blk 0 rfl).cell (i*3+2) |>.trans hcell,trivial,?_⟩,trivial⟩
  refine⟨?_,?_⟩
  ·skip
   refine⟨_,hc.cell 2 rfl _ rfl,trivial,?_⟩
   refine⟨hc.q' (C4 v.body 302 _ hbody) fun wQ hQ hc=>?_,trivial⟩
   refine⟨⟨by first | omega | (simp only;omega),by first | omega | (simp only;omega)⟩,?_⟩
   generalize hae:((⟨g,0,none⟩:Addr).add ((i:Int).toNat*3))=ae
   have hae:(⟨g,i*3,none⟩:Addr)=ae:=by rw [<-hae,Addr.add_lit,Nat.zero_add,Int.toNat_natCast]
   subst hae
   refine⟨⟨hc.may 0 rfl (i*3+2) [.string (cut v.body 302)] (by show i*3+2+1<=cur.length;omega) rfl,?_⟩,trivial⟩
   intro wS hS
   have hS:E2 _ ⟨g,i*3+2,none⟩ [.string (cut v.body 302)] wS:=hS
   have hc:=(hc.set 0 rfl hS).1
   refine⟨trivial,?_⟩
   exact⟨(i+1,D3 cur (i*3+2) [.string (cut v.body 302)]),⟨rfl,rfl,rfl,congrArg _ (C1 (by first | omega | (simp only;omega))),trivial⟩,⟨hlt,by simp only [D4];exact hcl,hrow,hc⟩,by show l.length-(i+1)<l.length-i;omega⟩
  refine⟨hc.q' (C4 v.body 302 _ hbody) fun wQ hQ hc=>?_,trivial⟩
  refine⟨⟨_,hc.cell 2 rfl _ rfl,trivial,?_⟩,trivial⟩
  refine⟨⟨by first | omega | (simp only;omega),by first | omega | (simp only;omega)⟩,?_⟩
  generalize hae:((⟨g,0,none⟩:Addr).add ((i:Int).toNat*3))=ae
  have hae:(⟨g,i*3,none⟩:Addr)=ae:=by rw [<-hae,Addr.add_lit,Nat.zero_add,Int.toNat_natCast]
  subst hae
  refine⟨⟨hc.may 0 rfl (i*3+2) [.string (cut v.body 302)] (by show i*3+2+1<=cur.length;omega) rfl,?_⟩,trivial⟩
  intro wS hS
  have hS:E2 _ ⟨g,i*3+2,none⟩ [.string (cut v.body 302)] wS:=hS
  have hc:=(hc.set 0 rfl hS).1
  refine⟨trivial,?_⟩
  exact⟨(i+1,D3 cur (i*3+2) [.string (cut v.body 302)]),⟨rfl,rfl,rfl,congrArg _ (C1 (by first | omega | (simp only;omega))),trivial⟩,⟨hlt,by simp only [D4];exact hcl,hrow,hc⟩,by show l.length-(i+1)<l.length-i;omega⟩
 ·refine df (by first | omega | (simp only;omega)) ?_
  have hi:i=l.length:=by omega
  subst hi
  refine hc.a 2 rfl rfl ?_
  refine hc.s 1 rfl fun wS hS hc=>?_
  refine hc.a 1 rfl rfl ?_
  have hc:=CtxF.closed hc 3 l.length cap1 hcn hcm hcl
  rw [hct] at hc
  have hlen:=A3d l l.length
  refine⟨some ⟨g,0,none⟩,cap1,?_,hc.below,?_⟩
  ·simp only [hlen];rfl
  ·simp only [hlen]
   exact hc.fst.row
def B18 (key body:ByteArray) (n:Int):D:=⟨1,key,body,0,0,⟨#[]⟩,4294967296+n,0⟩
theorem B4I (key body:ByteArray) (n:Int) (h0:0<=n) (h1:n<=1000000) (w:World):Calls Tryz.prog 185 #[.string key,.string body,.int .i64 n] w (C7 (.agg (dC (B18 key body n)).toArray) w):=by
 refine vE Tryz.func185 ?_
 have hc:=CtxF.start w no (fun _ h=>h.elim) (R:=fun _ _=>True) trivial Stab.true
 refine hc.n fun g6 wg6 hg6 hc=>?_
 have hw:IntKind.i64.wrap (4294967296+n)=4294967296+n:=by rw [IntWalk.i64_in _ ⟨by omega,by omega⟩]
 refine⟨hc.may 0 rfl _ _ (nle rfl) rfl,?_⟩
 intro wS hS
 rw [hw] at hS
 have hc:=(hc.set 0 rfl hS).1
 refine hc.a 0 rfl rfl ?_
 exact⟨rfl,hc.below⟩
def cutS (s:Stt):Stt:=⟨s.seq,(s.l.take 42).map A1e,s.ms.take 103,s.lows⟩
def B6G (s:Stt) (S:Nat->Prop) (w:World) (en:Ending) (w':World):Prop:=∃ cs,en=.returned (.agg cs.toArray)/\Below w.heap.size w w'/\RepS (ext S w w') w' s cs
theorem A2E (s:Stt) (hk:s.Ok) (cs:List Value) (S0:Nat->Prop) (w:World) (hs:RepS S0 w s cs):Calls Tryz.prog 29 #[.agg cs.toArray] w (B6G (cutS s) no w):=by
 obtain⟨A,cap,css0,B,cap',l0,l1,l2,l3,l4,rfl,el,hE,hR,hM⟩:=hs.shape
 refine vE Tryz.func29 ?_
 have hc:=CtxF.start w no (fun _ h=>h.elim) (R:=fun S w=>RepEs S w [] []) rfl (RepEs.stab _ _)
 refine hc.n fun g1 wg1 hg1 hc=>?_
 refine hc.n fun g2 wg2 hg2 hc=>?_
 have hc:=hc.nil 90 2
 refine⟨Nat × Option Addr × Nat,fun x=>[(1,.pointer (some ⟨g1,0,none⟩)),(2,.pointer (some ⟨g2,0,none⟩)),(3,.slice x.2.1 ((s.l.take x.1).map A1e).length x.2.2),(4,.int .i64 x.1)],
  fun x w'=>x.1<=s.l.length/\x.1<=42/\∃ S css,CtxF no w S w' [(g2,33,(lay.ty 33).zero),(g1,33,stC s A cap B cap' l0 l1 l2 l3 l4)] [⟨90,2,x.2.1,((s.l.take x.1).map A1e).length,x.2.2,css.flatten⟩] (fun S w=>RepEs S w ((s.l.take x.1).map A1e) css),
  fun x _=>43-x.1,(0,none,0),⟨rfl,rfl,rfl,rfl,trivial⟩,⟨Nat.zero_le _,Nat.zero_le _,no,[],hc⟩,?_⟩
 clear hc
 rintro⟨i,A',n'⟩ w4 u ⟨hi,h42,S,css,hc⟩
 simp only at hi hc h42
 refine hc.c 1 rfl rfl ?_
 have fin:∀ (A':Option Addr) (n':Nat) (w4:World) (S:Nat->Prop) (css:List (List Value)),s.l.take i=s.l.take 42->True:=fun _ _ _ _ _ _=>trivial
 by_cases hgo:i<s.l.length/\i<42
 ·obtain⟨hlt,hlt2⟩:=hgo
  refine dt (by first | omega | (simp only;omega)) ?_
  refine dt (show (i:Int)<42 by omega) ?_
  obtain⟨ad,A1,cap1,rfl,hcell0,hRe⟩:=RowE.elem hR hE i hlt
  have hok:=hk.l _ (List.getElem_mem hlt)
  have e1:(s.l.take (i+1)).map A1e=(s.l.take i).map A1e++[A1e s.l[i]]:=by rw [List.take_add_one,List.getElem?_eq_getElem hlt,List.map_append];rfl
  generalize s.l[i]=x at*
  refine hc.c 1 rfl rfl ?_
  refine⟨⟨by first | omega | (simp only;omega),by first | omega | (simp only;omega)⟩,?_⟩
  refine⟨[.string x.key,.slice A1 x.vs.length cap1],rfl,cellsAt_later hc.below _ _ hcell0,?_⟩
  refine⟨(A9l x hok A1 cap1 S0 _ (hRe.below hc.below)).mono fun en wq hq=>?_⟩
  obtain⟨A2,c2,e2,hq,ho⟩:=hq
  have hc:=hc.fresh hq ho
  obtain⟨S2,_,hc⟩:=hc.told
  refine⟨_,e2,?_⟩
  refine hc.n fun gb wgb hgb hc=>?_
  have hlk:((s.l.take i).map A1e).length<=42:=by rw [List.length_map,List.length_take];omega
  refine D1 Tryz.underlying29 A0S rfl (by decide) hc (ys:=[.string (A1e x).key,.slice A2 (A1e x).vs.length c2]) (m:=1) rfl (hc.cells 0 rfl) rfl (by omega) (by decide) rfl rfl ?_
  intro A3 c5 w11 hc
  have hf:=hc.drop.now (X:=fun S w=>RepEs S w ((s.l.take i).map A1e++[A1e x]) (css++[[.string (A1e x).key,.slice A2 (A1e x).vs.length c2]])) (fun h=>RepEs.snoc h.1 ⟨A2,c2,rfl,h.2⟩) (RepEs.stab _ _)
  have ef:css.flatten++[Value.string (A1e x).key,Value.slice A2 (A1e x).vs.length c2]=(css++[[Value.string (A1e x).key,Value.slice A2 (A1e x).vs.length c2]]).flatten:=by rw [List.flatten_append];simp
  have e3:((s.l.take (i+1)).map A1e).length=((s.l.take i).map A1e).length+1:=by rw [e1,List.length_append];rfl
  rw [<-e1,<-e3,ef] at hf
  exact⟨(i+1,A3,c5),⟨rfl,rfl,by simp only [e3];rfl,congrArg _ (C1 (by first | omega | (simp only;omega))),trivial⟩,⟨hlt,hlt2,_,_,hf⟩,by show 43-(i+1)<43-i;omega⟩
 have et:s.l.take i=s.l.take 42:=by
  rcases Nat.lt_or_ge i s.l.length with h | h
  ·rw [show i=42 by omega]
  ·rw [List.take_of_length_le h,List.take_of_length_le (by omega)]
 rw [et] at hc
 simp only [et]
 have hnc:=hM.1
 have hMx:=C9 hM
 have hm:=B7d s.ms.length
 obtain⟨l,hl⟩:∃ l,l=s.ms.take 103:=⟨_,rfl⟩
 have hll:min s.ms.length 103=l.length:=by rw [hl,List.length_take];omega
 have hl103:l.length<=103:=by omega
 have hfr:Row S0 w B l.length cap' ((l.map F5).flatten):=by
  have:=hM.front 3 (k:=l.length) (by omega)
  rwa [<-(H8 _).flat_take,<-List.map_take,show s.ms.take l.length=l by rw [hl,List.length_take,Nat.min_comm];exact (List.take_eq_take_iff.2 (by omega))] at this
 have eS:cutS s=⟨s.seq,(s.l.take 42).map A1e,l,s.lows⟩:=by unfold cutS;rw [hl]
 rw [eS]
 rcases Nat.lt_or_ge i s.l.length with h | h
 all_goals first
  | (
    refine dt (by first | omega | (simp only;omega)) ?_
    refine df (show ¬ (i:Int)<42 by omega) ?_)
  | refine df (by first | omega | (simp only;omega)) ?_
 all_goals (
  refine hc.s 1 rfl fun wS hS hc=>?_
  obtain⟨S2,_,hc⟩:=hc.told
  have hc:=hc.nil 104 3
  refine hc.c 1 rfl rfl ?_
  refine hc.c 1 rfl rfl ?_
  refine⟨⟨Int.le_refl _,by rw [hm];omega,by rw [hm];omega,Int.le_refl _⟩,?_⟩
  refine A1I Tryz.underlying30 A1b rfl (by decide) hc (hfr.below hc.below) (by rw [(H8 _).len,List.length_map]) (H8 _).ones (by omega) (by decide) rfl (by
   show Value.slice (if (cap':Int)=0 then B else B.map (·.add ((0:Int).toNat*3))) ((if (103:Int)<(s.ms.length:Int) then (103:Int) else (s.ms.length:Int))-0).toNat ((cap':Int)-0).toNat=_
   rw [N2,hm,hll]
   congr 1<;>omega) ?_
  intro A1 cap1 w7 hc
  rw [Nat.zero_add l.length] at hc ⊢
  refine hc.s 1 rfl fun wS hS hc=>?_
  refine hc.a 1 rfl rfl ?_
  refine hc.s 0 rfl fun wS hS hc=>?_
  obtain⟨S3,_,hc⟩:=hc.told
  refine hc.a 0 rfl rfl ?_
  have ho:=hc.out
  exact⟨_,rfl,hc.below,RepS.mk' el ho.1.1 ho.1.2 ho.2⟩)
theorem A5S {d:D} (h:J4 d=true):d.Ok:=by
 have hs:=A2B h
 have hh:=A1Z (A6j h)
 have hl:=B37 h
 have hk:=B1v h
 unfold J4 at h
 simp only [Bool.and_eq_true,Bool.not_eq_true',decide_eq_false_iff_not] at h
 obtain⟨⟨⟨_,h1⟩,_⟩,h2⟩:=h
 have hvc:B9 d.ver/\B9 d.cond:=by
  unfold B9
  rcases hk with hk | hk | hk
  ·simp [hk] at h2;omega
  ·simp [hk] at h2;omega
  ·simp [hk] at h2;omega
 refine⟨by unfold B9;omega,by unfold G7;omega,by unfold G7;omega,hvc.1,hvc.2,by unfold G7;omega,by unfold B9;omega,by unfold B9;omega⟩
theorem A2F {s:Stt} (h5:s.lows.length=5) (h:Q1 s=true):s.Ok:=by
 obtain⟨⟨a1,a2⟩,⟨a3,a4⟩,a5,a6,a7⟩:=E5.1 h
 have hm:J9=1099511627776:=rfl
 refine⟨by unfold B9;omega,fun e he=>?_,fun m hm'=>?_,fun x hx=>?_⟩
 ·have ho:=((L8 _ _ _).1 a5).1 e he
  have hp:=F4.1 ho.1
  have:=A2r hp.2.1
  refine⟨by unfold G7;omega,fun v hv=>?_⟩
  obtain⟨n1,n2⟩:=A0i (A0j ho v hv)
  exact⟨n1,by unfold G7;omega⟩
 ·obtain⟨n1,n2,n3⟩:=A5K a2 (((U3 _ _ _ _).1 a7).1 m hm')
  exact⟨n1,n2,n3⟩
 ·obtain⟨j,hj,hx⟩:=List.getElem_of_mem hx
  rcases (A0Q _ _).1 a6 j x (by rw [<-hx];exact List.getElem?_eq_getElem hj) with h0 | h0
  ·unfold B9;omega
  ·have:=A1Z (n:=x) (by omega)
   unfold B9;omega
theorem A5T (d:D) (hk:d.Ok) (h:J4 d=true):(I8 (H3 d)).length<=1073741824:=by
 have h1:=A0O d hk h
 have h3:=D8 (H3 d)
 have:=F2 (u:=(G6 (H3 d)).length) (by omega)
 omega
theorem B9D:Lib.decDigits 2=[50]:=by rw [Lib.decDigits,dif_pos (by decide)];rfl
theorem B9M:Lib.decDigits 5=[53]:=by rw [Lib.decDigits,dif_pos (by decide)];rfl
theorem B9N:Lib.decDigits 1=[49]:=by rw [Lib.decDigits,dif_pos (by decide)];rfl
theorem B7e:Lib.decDigits 10=[49,48]:=by rw [Lib.decDigits,dif_neg (by decide),show 10 / 10=1 from rfl,B9N];rfl
def A9m:V:=J3 [I4 (-5),vStr ⟨#[97,98]⟩]
def tBeg:List UInt8:=[49,48,58,50,58,45,53,35,50,58,97,98,44,93]
theorem B19:I8 (I4 (-5))=[50,58,45,53,35]:=by
 have e:G6 (I4 (-5))=[45,53]:=by show Lib.itoa (-5)=_;rw [Lib.itoa,if_pos (by decide),show (-5:Int).natAbs=5 from rfl,B9M]
 rw [U7,e,show ([45,53]:List UInt8).length=2 from rfl,B9D]
 rfl
theorem B2A:I8 (vStr ⟨#[97,98]⟩)=[50,58,97,98,44]:=by
 have e:G6 (vStr ⟨#[97,98]⟩)=[97,98]:=rfl
 rw [U7,e,show ([97,98]:List UInt8).length=2 from rfl,B9D]
 rfl
theorem A7r:G6 A9m=[50,58,45,53,35,50,58,97,98,44]:=by
 rw [A9m,A0R,L3,L3,L3,B19,B2A];rfl
theorem A5U:I8 A9m=tBeg:=by
 rw [U7,A7r,show ([50,58,45,53,35,50,58,97,98,44]:List UInt8).length=10 from rfl,B7e]
 rfl
theorem A5V:A0t A9m=true:=by kernel_rfl
theorem B2B:okV A9m:=K1 _ (by
 rw [okL,okL,okL]
 exact⟨L1 _ (by unfold B9;omega),A3R _,trivial⟩)
theorem B4J:A2W A9m=tBeg:=by
 rw [A2W,A5V,A7r,show ([50,58,45,53,35,50,58,97,98,44]:List UInt8).length=10 from rfl,B7e,A5U]
 rfl
theorem B4K:V3 (tBeg++[122])=(A9m,14,0):=by
 have h:=A5G 6 A9m (by
  have:=A5V
  unfold A0t at this
  simpa using this) B2B (by rw [A7r];decide) [122]
 rw [A5U] at h
 unfold V3
 simp only [h,A5V,Bool.true_eq_false,and_false,if_false]
 rfl
theorem B2C:V3 [49,48,58,50]=(V0,0,2):=by kernel_rfl
theorem B2D:V3 [120]=(V0,0,1):=by kernel_rfl
theorem B2E:V8 (7,255)=[48,48,48,55,48,48,102,102]:=by kernel_rfl
theorem B2F:R6 [48,48,48,55,48,48,102,102]=((7,255),true):=by kernel_rfl
theorem is2:Is 4611686018427387904 2:=by have:=I5 2 (by decide);rwa [show dbl 2=4611686018427387904 by kernel_rfl] at this
theorem is4:Is 4616189618054758400 4:=by have:=I5 4 (by decide);rwa [show dbl 4=4616189618054758400 by kernel_rfl] at this
theorem B4L (w:World):Calls Tryz.prog 128 #[.complex .f64 4611686018427387904 4613937818241073152,.complex .f64 4616189618054758400 4617315517961601024] w (C7 (.complex .f64 4679236989180968960 4626885667169763328) w):=by
 have h:=A8S is2 is3 is4 is5 (by decide) (by decide) (by decide) (by decide) w
 rwa [show dbl ((2*4-3*5) % 65521)=4679236989180968960 by kernel_rfl,show dbl ((2*5+3*4) % 65521)=4626885667169763328 by kernel_rfl] at h
theorem A6n (w:World):Calls Tryz.prog 50 #[.complex .f64 4619567317775286272 4643176031446892544] w (C7 (.string ⟨#[48,48,48,55,48,48,102,102]⟩) w):=by
 have h:=A1R (z:=(7,255)) ⟨by decide,by decide⟩ w
 rwa [B2E,show dbl (7,255).1=4619567317775286272 by kernel_rfl,show dbl ((7,255):Int × Int).2=4643176031446892544 by kernel_rfl] at h
theorem B2G (w:World):Calls Tryz.prog 64 #[.string ⟨#[48,48,48,55,48,48,102,102]⟩] w (C7 (.tuple #[.complex .f64 4619567317775286272 4643176031446892544,.bool true]) w):=by
 have h:=A3I ⟨#[48,48,48,55,48,48,102,102]⟩ w
 rw [show (⟨#[48,48,48,55,48,48,102,102]⟩:ByteArray).data.toList=[48,48,48,55,48,48,102,102] from rfl,B2F] at h
 rwa [show dbl ((7:Int),(255:Int)).1=4619567317775286272 by kernel_rfl,show dbl ((7:Int),(255:Int)).2=4643176031446892544 by kernel_rfl] at h
theorem A9n (w:World):Calls Tryz.prog 51 #[.slice none 0 0] w (C7 (.complex .f64 0 4607182418800017408) w):=by
 have h:=A0G (S:=no) (A:=none) (n:=0) (cap:=0) (l:=[]) rfl (by decide) w (B0Z _ _)
 rwa [show dbl (zOn (0,1) []).1=0 by kernel_rfl,show dbl (zOn (0,1) []).2=4607182418800017408 by kernel_rfl] at h
theorem A9o (S:Nat->Prop) (A:Option Addr) (w:World) (hR:Row S w A 1 1 (bv [0])):Calls Tryz.prog 51 #[.slice A 1 1] w (C7 (.complex .f64 4679237401497829376 4613937818241073152) w):=by
 have h:=A0G (S:=S) (A:=A) (n:=1) (cap:=1) (l:=[0]) rfl (by decide) w hR
 rwa [show dbl (zOn (0,1) [0]).1=4679237401497829376 by kernel_rfl,show dbl (zOn (0,1) [0]).2=4613937818241073152 by kernel_rfl] at h
theorem B4M (t:List UInt8) (w:World) (ht:t.length<=1073741824) (hw:Env w):Calls Tryz.prog 85 #[.string ⟨t.toArray⟩] w (fun en w'=>∃ A cap,en=.returned (.tuple #[.agg (D2 (V3 t).1 A cap).toArray,.int .i64 ((V3 t).2.1:Nat),.int .i64 (V3 t).2.2])/\Below w.heap.size w w'/\RepC (ext no w w') w' (V3 t).1 (D2 (V3 t).1 A cap)):=
 (B1G t w ht hw).mono fun e w' h=>by
  obtain⟨cs,e1,hb,hr⟩:=h
  obtain⟨A',cap',e2⟩:=hr.cells
  subst e2
  exact⟨A',cap',e1,hb,hr⟩
theorem B6H:((⟨tBeg.toArray⟩:ByteArray)++⟨#[122]⟩)=⟨(tBeg++[122]).toArray⟩:=by kernel_rfl
theorem B6I:((⟨tBeg.toArray⟩:ByteArray).extract 0 4)=⟨[49,48,58,50].toArray⟩:=by kernel_rfl
theorem A9p (w:World) (hw:Env w):Calls Tryz.prog 222 #[] w (C7 (.bool true) w):=by
 refine vE Tryz.func222 ?_
 have hc:=CtxF.start w no (fun _ h=>h.elim) (R:=fun _ _=>True) trivial Stab.true
 refine hc.q (B4L _) fun wQ hQ hc=>?_
 intro g18 w18 h18
 have hc:=hc.made h18 4 2 rfl (by decide)
 refine hc.n fun g2 wg2 hg2 hc=>?_
 refine hc.s 0 rfl fun wS hS hc=>?_
 obtain⟨S1,_,hc⟩:=hc.told
 have hrep:∀ (S:Nat->Prop) (w:World),(True/\Row S w (some ⟨g18,0,none⟩) 2 2 [.int .i64 1,.int .i64 (-5),.string ⟨#[]⟩,.slice none 0 0,.int .i64 2,.int .i64 0,.string ⟨#[97,98]⟩,.slice none 0 0])->RepC S w A9m [.int .i64 3,.int .i64 0,.string ⟨#[]⟩,.slice (some ⟨g18,0,none⟩) 2 2]:=fun S w h=>by
  rw [A9m,J3,RepC]
  exact⟨some ⟨g18,0,none⟩,2,_,rfl,.cons (.leaf _ _ 1 (-5) ⟨#[]⟩) (.cons (.leaf _ _ 2 0 ⟨#[97,98]⟩) (.nil _ _)),h.2⟩
 have hc:=hc.now (hrep _ _) (E8 _ _)
 refine hc.a 0 rfl rfl ?_
 have hput:=X8 A9m B2B (by rw [A5U];decide) 3 0 ⟨#[]⟩ (some ⟨g18,0,none⟩) 2 2 _ _ hc.row (hw.tab.below hc.below)
 rw [B4J] at hput
 refine hc.q (hput) fun wQ hQ hc=>?_
 refine⟨by decide,?_⟩
 have hg:=B4M (tBeg++[122]) _ (by decide) (hw.below hc.below)
 rw [<-B6H,B4K] at hg
 refine⟨hg.mono fun en wq hq=>?_⟩
 obtain⟨A1,c1,e1,hq,hr1⟩:=hq
 have hc:=(hc.call hq).1.know (hr1.sub fun b h=>h.elim (fun h=>h.elim) .inr) (E8 _ _)
 refine⟨_,e1,?_⟩
 refine hc.n fun g4 wg4 hg4 hc=>?_
 refine hc.s 0 rfl fun wS hS hc=>?_
 refine⟨⟨by decide,by decide,by decide⟩,?_⟩
 have hg:=B4M [49,48,58,50] _ (by decide) (hw.below hc.below)
 rw [<-B6I,B2C] at hg
 refine⟨hg.mono fun en wq hq=>?_⟩
 obtain⟨A2,c2,e1,hq,_⟩:=hq
 have hc:=(hc.quiet hq).1
 refine⟨_,e1,?_⟩
 refine hc.n fun g7 wg7 hg7 hc=>?_
 refine hc.s 0 rfl fun wS hS hc=>?_
 have hg:=B4M [120] _ (by decide) (hw.below hc.below)
 rw [B2D] at hg
 refine⟨hg.mono fun en wq hq=>?_⟩
 obtain⟨A3,c3,e1,hq,_⟩:=hq
 have hc:=(hc.quiet hq).1
 refine⟨_,e1,?_⟩
 refine hc.n fun g10 wg10 hg10 hc=>?_
 refine hc.s 0 rfl fun wS hS hc=>?_
 refine hc.q (A6n _) fun wQ hQ hc=>?_
 refine hc.q (B2G _) fun wQ hQ hc=>?_
 refine⟨.bool true,fun w=>by kernel_rfl,?_⟩
 refine hc.q (A9n _) fun wQ hQ hc=>?_
 refine⟨.bool true,fun w=>by kernel_rfl,?_⟩
 intro g56 w56 h56
 have hb1:=(h56.row 1 (by decide))
 have hc:=(hc.loc h56).1
 refine hc.q (A9o _ _ _ hb1) fun wQ hQ hc=>?_
 refine⟨.bool true,fun w=>by kernel_rfl,?_⟩
 refine hc.q (A6n _) fun wQ hQ hc=>?_
 refine⟨.bool true,fun w=>by kernel_rfl,?_⟩
 refine hc.a 3 rfl rfl ?_
 refine hc.a 4 rfl rfl ?_
 have hE:=B1A _ A9m (Nat.lt_succ_self _) A9m _ _ _ _ hc.row.2 hc.row.1
 rw [A5J] at hE
 refine hc.q (hE) fun wQ hQ hc=>?_
 exact⟨rfl,hc.below⟩
def d1B:D:=B18 ⟨#[107]⟩ ⟨#[118]⟩ 1
def d2B:D:=⟨2,⟨#[107]⟩,⟨#[]⟩,0,0,⟨#[]⟩,4294967298,0⟩
def sB:Stt:=⟨1,[⟨⟨#[107]⟩,[⟨1,false,⟨#[118]⟩⟩]⟩],[⟨4294967297,⟨0,1⟩⟩],[0,0,0,0,0]⟩
def uB:Stt:=⟨2,[⟨⟨#[107]⟩,[⟨1,false,⟨#[118]⟩⟩,⟨2,true,⟨#[]⟩⟩]⟩],[⟨4294967297,⟨0,1⟩⟩,⟨4294967298,⟨0,2⟩⟩],[0,0,0,0,0]⟩
def aB:Stt:=⟨3,uB.l,uB.ms,uB.lows⟩
theorem B8v:doS Stt0 d1B=(sB,⟨0,1⟩):=by kernel_rfl
theorem B8w:doS sB d2B=(uB,⟨0,2⟩):=by kernel_rfl
theorem B8x:doS uB d1B=(aB,⟨0,1⟩):=by kernel_rfl
theorem A8y:J4 d1B=true:=by kernel_rfl
theorem B7f:J4 d2B=true:=by kernel_rfl
theorem B7g:J4 D0=false:=by kernel_rfl
theorem B6J:Q1 sB=true:=by kernel_rfl
theorem A2G:Q1 uB=true:=by kernel_rfl
theorem B7h:B7W sB ⟨#[107]⟩ 0=(⟨1,false,⟨#[118]⟩⟩,0):=by kernel_rfl
theorem B7i:B7W uB ⟨#[107]⟩ 0=(A55,10):=by kernel_rfl
theorem B7j:A7b sB ⟨#[]⟩ ⟨#[]⟩ 5 true=(sB.l,false):=by kernel_rfl
theorem B6K:A7c []=(D0,1):=by kernel_rfl
theorem B7k:A54 ⟨#[97,47,98,46,99,45,49,95]⟩=true:=by kernel_rfl
theorem B7l:A54 ⟨#[65]⟩=false:=by kernel_rfl
theorem B7m:C0 12884901889=3:=by kernel_rfl
theorem B7n:B5j 2 5=8589934597:=by kernel_rfl
theorem B7o:A2q ⟨⟨#[107]⟩,[⟨1,false,⟨#[118]⟩⟩,⟨2,true,⟨#[]⟩⟩]⟩=true:=by kernel_rfl
theorem B4N {d:D} (h:J4 d=true):(B69 d).length<=1073741824:=by
 rw [A8c d (A5S h) h]
 exact A5T d (A5S h) h
theorem A4Z {s:Stt} (h5:s.lows.length=5) (h:Q1 s=true):(E1 s).length<=1073741824:=by
 rw [A2C s h5 h]
 have h1:=A1a s h5 h
 have h3:=D8 (A4O s)
 have:=F2 (u:=(G6 (A4O s)).length) (by omega)
 omega
theorem A4a (w:World) (hw:Env w):Calls Tryz.prog 190 #[] w (C7 (.bool true) w):=by
 refine vE Tryz.func190 ?_
 have hc:=CtxF.start w no (fun _ h=>h.elim) (R:=fun _ _=>True) trivial Stab.true
 refine hc.q (A9p _ hw) fun wQ hQ hc=>?_
 exact⟨rfl,hc.below⟩
theorem A7s (a b:Res) (ox oy:Operand) (w:World):(do eqGuard BinOp.eql 24 ox oy (.agg #[.int .i64 a.err,.int .i64 a.ver]) (.agg #[.int .i64 b.err,.int .i64 b.ver]);Go.binOp BinOp.eql 24 (.agg #[.int .i64 a.err,.int .i64 a.ver]) (.agg #[.int .i64 b.err,.int .i64 b.ver]):Sem Value).run Tryz.prog w=.ok (.bool (a.err==b.err&&a.ver==b.ver)) w:=A3S B1X (A2s 9998 · a b) ox oy w
theorem A9q (w:World) (hw:Env w):Calls Tryz.prog 149 #[] w (C7 (.bool true) w):=by
 refine vE Tryz.func149 ?_
 have hc:=CtxF.start w no (fun _ h=>h.elim) (R:=fun _ _=>True) trivial Stab.true
 have k1:=A5S A8y
 have k2:=A5S B7f
 refine hc.q (B4I ⟨#[107]⟩ ⟨#[118]⟩ 1 (by decide) (by decide) _) fun wQ hQ hc=>?_
 refine hc.n fun g1 wg1 hg1 hc=>?_
 refine hc.s 0 rfl fun wS hS hc=>?_
 refine hc.a 0 rfl rfl ?_
 refine hc.q (B3s d1B k1 _ (hw.tab.below hc.below)) fun wQ hQ hc=>?_
 have hg:=A8e (B69 d1B) (B4N A8y) _ (hw.below hc.below)
 rw [B3r d1B k1 A8y] at hg
 refine hc.q (hg) fun wQ hQ hc=>?_
 refine hc.n fun g3 wg3 hg3 hc=>?_
 refine hc.s 0 rfl fun wS hS hc=>?_
 have hg:=A8e [] (by decide) _ (hw.below hc.below)
 rw [B6K] at hg
 refine hc.q (hg) fun wQ hQ hc=>?_
 refine hc.n fun g5 wg5 hg5 hc=>?_
 refine hc.s 0 rfl fun wS hS hc=>?_
 refine hc.a 2 rfl rfl ?_
 have hd:=A5Q Stt0 d1B (fun e he=>by cases he) k1 B15 _ _ hc.ctx.lt (B7c _ _)
 rw [B8v] at hd
 refine⟨hd.mono fun en wq hq=>?_⟩
 obtain⟨cs,e1,hq,hrep⟩:=hq
 have hc:=(hc.call hq).1.know hrep (P8 _ _)
 obtain⟨A,cap,css,B,cap',l0,l1,l2,l3,l4,rfl,el,_⟩:=hrep.shape
 refine⟨_,e1,?_⟩
 refine hc.n fun g7 wg7 hg7 hc=>?_
 refine hc.n fun g8 wg8 hg8 hc=>?_
 refine hc.s 1 rfl fun wS hS hc=>?_
 refine hc.s 0 rfl fun wS hS hc=>?_
 refine hc.a 1 rfl rfl ?_
 have hd:=A5Q sB d2B (fun e he=>((A2F rfl B6J).l e he).key) k2 _ _ _ hc.ctx.lt hc.row.2
 rw [B8w] at hd
 refine⟨hd.mono fun en wq hq=>?_⟩
 obtain⟨cs,e1,hq,hrep⟩:=hq
 have hc:=(hc.call hq).1.know hrep (P8 _ _)
 obtain⟨A',cap2,css',B',cap3,m0,m1,m2,m3,m4,rfl,em,_⟩:=hrep.shape
 refine⟨_,e1,?_⟩
 refine hc.n fun g9 wg9 hg9 hc=>?_
 refine hc.n fun g10 wg10 hg10 hc=>?_
 refine hc.s 1 rfl fun wS hS hc=>?_
 refine hc.s 0 rfl fun wS hS hc=>?_
 refine hc.a 3 rfl rfl ?_
 have hg:=A8w sB ⟨#[107]⟩ 0 _ _ _ hc.row.1.2
 rw [B7h] at hg
 refine hc.q (hg) fun wQ hQ hc=>?_
 refine hc.n fun g11 wg11 hg11 hc=>?_
 refine hc.s 0 rfl fun wS hS hc=>?_
 refine hc.a 2 rfl rfl ?_
 have hg:=A8w uB ⟨#[107]⟩ 0 _ _ _ hc.row.2
 rw [B7i] at hg
 refine hc.q (hg) fun wQ hQ hc=>?_
 refine hc.n fun g13 wg13 hg13 hc=>?_
 refine hc.s 0 rfl fun wS hS hc=>?_
 refine hc.a 5 rfl rfl ?_
 have hn:=A9j sB ⟨#[]⟩ ⟨#[]⟩ 5 (by decide) (by intro e he;cases he with | head=>decide | tail _ h=>cases h) _ _ _ hc.row.1.2
 rw [B7j] at hn
 refine⟨hn.mono fun en wq hq=>?_⟩
 obtain⟨An,cn,e1,hq,_⟩:=hq
 have hc:=(hc.quiet hq).1
 refine⟨_,e1,?_⟩
 refine hc.a 3 rfl rfl ?_
 refine hc.a 8 rfl rfl ?_
 have hd:=A5Q uB d1B (fun e he=>((A2F rfl A2G).l e he).key) k1 _ _ _ hc.ctx.lt hc.row.2
 rw [B8x] at hd
 refine⟨hd.mono fun en wq hq=>?_⟩
 obtain⟨cs,e1,hq,hrep⟩:=hq
 have hc:=(hc.call hq).1
 obtain⟨A3,cap4,css3,B3,cap5,n0,n1,n2,n3,n4,rfl,en,_⟩:=hrep.shape
 refine⟨_,e1,?_⟩
 refine hc.n fun g17 wg17 hg17 hc=>?_
 refine hc.n fun g18 wg18 hg18 hc=>?_
 refine hc.s 1 rfl fun wS hS hc=>?_
 refine hc.s 0 rfl fun wS hS hc=>?_
 refine hc.a 5 rfl rfl ?_
 refine hc.q (A2u uB (fun e he=>((A2F rfl A2G).l e he).key) _ _ _ hc.row.2 (hw.tab.below hc.below)) fun wQ hQ hc=>?_
 have hr:=A3c (E1 uB) (A4Z rfl A2G) _ (hw.below hc.below)
 rw [Y1 uB rfl A2G] at hr
 refine⟨hr.mono fun en wq hq=>?_⟩
 obtain⟨cs,e1,hq,hrep⟩:=hq
 have hc:=(hc.call hq).1.know (hrep.map fun h=>h.sub fun b h=>h.elim (fun h=>h.elim) .inr) (P8 _ _)
 obtain⟨A5,cap6,css5,B5,cap7,p0,p1,p2,p3,p4,rfl,ep,_⟩:=hrep.shape
 refine⟨_,e1,?_⟩
 refine hc.n fun g19 wg19 hg19 hc=>?_
 refine hc.s 0 rfl fun wS hS hc=>?_
 refine hc.q (A4a _ (hw.below hc.below)) fun wQ hQ hc=>?_
 have hg:=A42 ⟨#[97,47,98,46,99,45,49,95]⟩ (by decide) wQ
 rw [B7k] at hg
 refine hc.q (hg) fun wQ hQ hc=>?_
 have hg:=A42 ⟨#[65]⟩ (by decide) wQ
 rw [B7l] at hg
 refine hc.q (hg) fun wQ hQ hc=>?_
 refine hc.a 11 rfl rfl ?_
 have hg:=A0J d1B k1 wQ
 rw [A8y] at hg
 refine hc.q (hg) fun wQ hQ hc=>?_
 have hg:=A0J D0 (by constructor<;>(first | (unfold B9;decide) | (unfold G7;decide))) wQ
 rw [B7g] at hg
 refine hc.q (hg) fun wQ hQ hc=>?_
 have hg:=U2 12884901889 wQ
 rw [B7m] at hg
 refine hc.q (hg) fun wQ hQ hc=>?_
 have hg:=B3d 2 5 wQ
 rw [B7n] at hg
 refine hc.q (hg) fun wQ hQ hc=>?_
 refine hc.a 10 rfl rfl ?_
 refine hc.a 11 rfl rfl ?_
 refine⟨.bool true,fun w=>by have:=A3S A7e (B1W 9998 · d1B d1B) (.tmp 102) (.tmp 103) w;rw [A5L.2 rfl] at this;exact this,?_⟩
 refine hc.a 7 rfl rfl ?_
 refine⟨.bool true,fun w=>A7s ⟨0,1⟩ ⟨0,1⟩ _ _ w,?_⟩
 refine hc.a 5 rfl rfl ?_
 refine⟨.bool true,fun w=>A7s ⟨0,2⟩ ⟨0,2⟩ _ _ w,?_⟩
 refine hc.c 4 rfl rfl ?_
 refine hc.c 2 rfl rfl ?_
 refine hc.a 1 rfl rfl ?_
 refine hc.a 7 rfl rfl ?_
 refine⟨.bool true,fun w=>A7s ⟨0,1⟩ ⟨0,1⟩ _ _ w,?_⟩
 refine hc.a 0 rfl rfl ?_
 refine hc.a 6 rfl rfl ?_
 have hE:=A8o uB uB _ _ _ _ hc.row.2 hc.row.1.2
 rw [A7Y.2 rfl] at hE
 refine hc.q (hE) fun wQ hQ hc=>?_
 obtain⟨Ax,capx,cssx,Bx,capy,x0,x1,x2,x3,x4,ecs,_,hEx,hRx,hMx⟩:=hc.row.1.2.shape
 cases ecs
 obtain⟨ad,A1,cap1,hA,hcell,hRe⟩:=RowE.elem hRx hEx 0 (by decide)
 refine hc.c 6 rfl rfl ?_
 subst hA
 refine⟨⟨by decide,by decide⟩,?_⟩
 refine⟨[.string ⟨#[107]⟩,.slice A1 2 cap1],rfl,hcell,?_⟩
 have hT:=A8n ⟨⟨#[107]⟩,[⟨1,false,⟨#[118]⟩⟩,⟨2,true,⟨#[]⟩⟩]⟩ (by unfold G7;decide) A1 cap1 _ _ hRe
 rw [B7o] at hT
 refine hc.q (hT) fun wQ hQ hc=>?_
 refine hc.c 6 rfl rfl ?_
 refine⟨⟨by decide,by decide⟩,?_⟩
 obtain⟨Ax,capx,cssx,Bx,capy,x0,x1,x2,x3,x4,ecs,_,hEx,hRx,hMx⟩:=hc.row.1.2.shape
 cases ecs
 obtain⟨ad2,A2,cap2,hA,hcell,hRe⟩:=RowE.elem hRx hEx 0 (by decide)
 cases hA
 generalize hae:ad.add (0*2)=ae at hcell
 have hae:ad.add ((0:Int).toNat*2)=ae:=hae
 rw [hae]
 obtain⟨ab,ao,asub⟩:=ae
 refine⟨_,hcell.2.1,?_⟩
 refine hc.a 6 rfl rfl ?_
 have hT:=A1c uB (fun e he=>((A2F rfl A2G).l e he).key) _ _ _ hc.row.1.2
 rw [A2G] at hT
 refine hc.q (hT) fun wQ hQ hc=>?_
 exact⟨rfl,hc.below⟩
end Go.Proofs.YtfekddndgakneaaGreatDoor
namespace Go.Proofs.YtfekddndgakneaaGreatDoor
open Go.Vc Go.RowKit Go.Fl Go.ChangeShapes Go.WideShapes Go.ChangeAt
abbrev A0V:List (String × DataW Unit):=[("math/bits.deBruijn32tab",Rows.laid_math_bits_deBruijn32tab),("math/bits.deBruijn64tab",Rows.laid_math_bits_deBruijn64tab),("internal/strconv.uint64pow10",Rows.laid_internal_strconv_uint64pow10),("strconv.ErrRange",Rows.laid_strconv_ErrRange),("strconv.ErrSyntax",Rows.laid_strconv_ErrSyntax)]
theorem B6L:ownKnob Tryz.prog.godebug=none:=by kernel_rfl
theorem B9O:∃ g,Tryz.prog.globalNamed "internal/strconv.uint64pow10"=some g/\(Tryz.prog.globals[g]?).map (·.type)=some 289:=⟨2,by kernel_rfl,by kernel_rfl⟩
theorem gES:∃ g,Tryz.prog.globalNamed "strconv.ErrSyntax"=some g/\(Tryz.prog.globals[g]?).map (·.type)=some 203:=⟨3,by kernel_rfl,by kernel_rfl⟩
theorem gER:∃ g,Tryz.prog.globalNamed "strconv.ErrRange"=some g/\(Tryz.prog.globals[g]?).map (·.type)=some 203:=⟨4,by kernel_rfl,by kernel_rfl⟩
theorem B9P:Tryz.prog.cellsOf 289=20:=by kernel_rfl
theorem B9Q:Tryz.prog.cellsOf 259=1:=by kernel_rfl
theorem cES:Tryz.prog.cellsOf 319=1:=by kernel_rfl
theorem B9E:Tryz.prog.cellsOf 9=1:=by kernel_rfl
theorem B7p : "*" ++ "errors.errorString" = "*errors.errorString":=by decide
theorem B7q (u:TypeId) (h:Tryz.prog.typeName? 3 u=some "*errors.errorString"):u=317:=
 typeName_ptr_named (nm := "errors.errorString") (by rw [B7p];kernel_rfl) (by kernel_rfl) (by decide) u (by rw [B7p];exact h)
theorem Y3 {W:World} (h:laidMetH Tryz.prog A0V W):Env W:=by
 rw [MakeChecks.laidMetH_plain _ _ _ (by kernel_rfl)] at h
 obtain⟨g1,a1,a2⟩:=B9O
 obtain⟨g2,b1,b2⟩:=gER
 obtain⟨g3,c1,c2⟩:=gES
 have ht:=Lib.tabIs_of_head (k:=.u64) (zs:=Lib.pow10Tab) a1 a2 Tryz.underlying289 Tryz.underlying259 B9Q B9P h.tail.tail
 obtain⟨x0,s0,hv0,-,-,-⟩:=laid_sentinel h.tail.tail.tail b1 b2 Tryz.underlying203 B7q Tryz.underlying317 Tryz.underlying319 rfl rfl Tryz.underlying9 cES B9E
 obtain⟨x1,s1,hv1,-,-,-⟩:=laid_sentinel h.tail.tail.tail.tail c1 c2 Tryz.underlying203 B7q Tryz.underlying317 Tryz.underlying319 rfl rfl Tryz.underlying9 cES B9E
 exact⟨ht,⟨_,_,hv1⟩,⟨_,_,hv0⟩⟩
theorem Y4 (os:Os) (args:Array Value):laidMetH Tryz.prog A0V ((World.laidAll Tryz.prog os A0V).forCall (fun _ _=>0) ⟨#[],args,[]⟩).memory:=by
 rw [MakeChecks.laidMetH_plain _ _ _ (by kernel_rfl)]
 exact laidMet_laidAll args (by kernel_rfl) (by kernel_rfl)
theorem B6M {a b:Bool} (h:a=true) (k:b=true):(a&&b)=true:=by rw [h,k];rfl
theorem B5K:laidOutB Tryz.prog=true:=by kernel_rfl
theorem B2H {H:Type} {enc:TypeId × Value->H} {P:Program} (hP:laidOutB P=true) {W W':World} {sp:Nat->Bool} (hb:Below W.heap.size W W') (ts:List TypeId):∀ {vs:List Value} {ds:List (DataW H)} {ps:List MemPlace},
  ts.all (fun t=>P.readableRec t&&decide (t<P.types.size))=true->DataW.TrodAll enc P W 0 (fun _=>true) true ts vs ds ps->(∀ x∈ps,x.block<W.heap.size)->(∀ x∈ps,sp x.block=true)->
  DataW.TrodAll enc P W' 0 sp true ts vs ds ps:=by
 induction ts with
 | nil=>
  intro _ _ _ _ h _ _
  obtain⟨rfl,rfl,rfl⟩:=trodAll_nil h
  exact trodAll_mk0
 | cons t ts ih=>
  intro _ _ _ hr h hl hs
  obtain⟨v,vs1,d,ds1,a,b,rfl,rfl,rfl,h1,h2⟩:=trodAll_cons h
  rw [List.all_cons,Bool.and_eq_true,Bool.and_eq_true,decide_eq_true_eq] at hr
  exact trodAll_cons_mk (WideElems.Trod_stays hP hr.1.1 hr.1.2 h1 (fun x hx=>hb.same (hl x (List.mem_append_left _ hx))) (fun x hx=>hs x (List.mem_append_left _ hx)))
   (ih hr.2 h2 (fun x hx=>hl x (List.mem_append_right _ hx)) (fun x hx=>hs x (List.mem_append_right _ hx)))
theorem S7 {H:Type} {enc:TypeId × Value->H} {f:Func} {s:ChangeSpec} {W W':World} {args:Array Value} {ds gs:List (DataW H)} {before:List MemPlace} (hv:s.vars=[]) (hr:f.resultTypes=#[4])
  (hrd:f.params.toList.all (fun t=>Tryz.prog.readableRec t&&decide (t<Tryz.prog.types.size))=true) (hfn:gs=[]->s.fn H (ds++gs)={ results:=[.lit (.bool true)],args:=ds })
  (hW:DataW.Whole enc Tryz.prog f.params.toList s.vars false W args.toList ds gs before) (hb:Below W.heap.size W W'):
  s.post enc Tryz.prog f false true false false W args (.bool true) W':=by
 have hlt:=fun x (hx:x∈before)=>hW.lt x hx
 have hW':=hW
 obtain⟨p,q,hA,hV,rfl,hfz,hnd⟩:=hW
 rw [hv] at hV
 obtain⟨rfl,rfl⟩:=trodVars_none hV
 have hfn:=hfn rfl
 refine⟨ds,[],p++[],[],p,[],hW',?_,?_,?_,hb.frame _,fun h=>by cases h⟩
 ·rw [hfn,hr]
  exact trodAll_mk1 (shut_bool Tryz.underlying4 true)
 ·rw [hfn]
  exact B2H B5K hb _ hrd hA (fun x hx=>hlt x (List.mem_append_left _ hx)) (fun x hx=>by simpa using hlt x (List.mem_append_left _ hx))
 ·rw [hfn,hv]
  rfl
end Go.Proofs.YtfekddndgakneaaGreatDoor
