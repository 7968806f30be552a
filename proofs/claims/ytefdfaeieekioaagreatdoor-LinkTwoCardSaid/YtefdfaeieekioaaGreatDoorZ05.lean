import Derived.Test.YtefdfaeieekioaaGreatDoorZ04
import Derived.Lib.Overlaps
import Derived.Lib.AppendZerosOnto
set_option maxRecDepth 100000
set_option maxHeartbeats 40000000
set_option linter.unusedVariables false
set_option linter.unusedSimpArgs false
namespace Go.Proofs.YtefdfaeieekioaaGreatDoor
open Go.Vc Go.RowKit Go.Fl
theorem C3Z (a b:Stt) (ca cb:List Value) (S:Nat->Prop) (w:World) (ha:RepS S w a ca) (hb:RepS S w b cb):Calls Tryz.prog 25 #[.agg ca.toArray,.agg cb.toArray] w (C8 (.bool (eqS a b)) w):=by
 obtain⟨A,cap,css,B,cap',l0,l1,l2,l3,l4,rfl,el,hE,hR,hM⟩:=ha.shape;obtain⟨A',cap2,css',B',cap3,k0,k1,k2,k3,k4,rfl,ek,hE',hR',hM'⟩:=hb.shape;have hMa:=D4 hR;have hMm:=D4 hM;refine vE Tryz.func25 ?_;intro g1 w1 h1;have hc:=((Ctx.start w no (fun _ h=>h.elim)).loc h1).1;refine hc.n fun g2 w2 h2 hc=>?_;refine hc.c 1 rfl rfl ?_;refine hc.c 0 rfl rfl ?_;have e0:eqS a b=(a.seq==b.seq&&a.lows==b.lows&&U8 B40 a.ms b.ms&&U8 eqE a.l b.l):=rfl;generalize eqS a b=r at e0 ⊢;rcases Bool.eq_false_or_eq_true (a.seq==b.seq) with hs | hs;rotate_left
 ·refine B0 (by show (!(a.seq==b.seq))=true;rw [hs];rfl) ?_;rw [hs] at e0;exact⟨B7 e0.symm,hc.below⟩
 refine C3X (by show (!(a.seq==b.seq))=false;rw [hs];rfl) ?_;refine⟨[.int .i64 l0,.int .i64 l1,.int .i64 l2,.int .i64 l3,.int .i64 l4],rfl,hc.cellsAt 1 rfl (0+3) _ rfl,?_⟩;refine⟨[.int .i64 k0,.int .i64 k1,.int .i64 k2,.int .i64 k3,.int .i64 k4],rfl,hc.cellsAt 0 rfl (0+3) _ rfl,?_⟩;refine⟨_,fun w=>A1x A99 (fun w=>A98 9998 w l0 l1 l2 l3 l4 k0 k1 k2 k3 k4) _ _ w,?_⟩;rw [el,ek] at e0;rcases Bool.eq_false_or_eq_true ([l0,l1,l2,l3,l4]==[k0,k1,k2,k3,k4]) with hl | hl;rotate_left
 ·refine B0 (by show (!([l0,l1,l2,l3,l4]==[k0,k1,k2,k3,k4]))=true;rw [hl];rfl) ?_;rw [hs,hl] at e0;exact⟨B7 e0.symm,hc.below⟩
 refine C3X (by show (!([l0,l1,l2,l3,l4]==[k0,k1,k2,k3,k4]))=false;rw [hl];rfl) ?_;rw [hs,hl,Bool.and_self,Bool.true_and] at e0;refine hc.c 1 rfl rfl ?_;refine hc.c 0 rfl rfl ?_;rcases Nat.decEq a.l.length b.l.length with hle | hle
 ·refine B0 (by show ((a.l.length:Int) != (b.l.length:Int))=true;rw [bne_iff_ne];omega) ?_;rw [A4x eqE _ _ hle,Bool.and_false] at e0;exact⟨B7 e0.symm,hc.below⟩
 refine C3X (by show ((a.l.length:Int) != (b.l.length:Int))=false;rw [hle];simp) ?_;refine hc.c 1 rfl rfl ?_;refine hc.c 0 rfl rfl ?_;rcases Nat.decEq a.ms.length b.ms.length with hlm | hlm
 ·refine B0 (by show ((a.ms.length:Int) != (b.ms.length:Int))=true;rw [bne_iff_ne];omega) ?_;rw [A4x B40 _ _ hlm,Bool.false_and] at e0;exact⟨B7 e0.symm,hc.below⟩
 refine C3X (by show ((a.ms.length:Int) != (b.ms.length:Int))=false;rw [hlm];simp) ?_;refine⟨Nat,fun i=>[(2,.pointer (some ⟨g1,0,none⟩)),(3,.pointer (some ⟨g2,0,none⟩)),(5,.int .i64 i)],
  fun i w'=>i<=a.l.length/\U8 eqE (a.l.drop i) (b.l.drop i)=U8 eqE a.l b.l/\Ctx no w no w' [(g2,41,[.int .i64 b.seq,.slice A' b.l.length cap2,.slice B' b.ms.length cap3,.int .i64 k0,.int .i64 k1,.int .i64 k2,.int .i64 k3,.int .i64 k4]),(g1,41,[.int .i64 a.seq,.slice A a.l.length cap,.slice B a.ms.length cap',.int .i64 l0,.int .i64 l1,.int .i64 l2,.int .i64 l3,.int .i64 l4])],fun i _=>a.l.length-i,0,
  ⟨rfl,rfl,rfl,trivial⟩,⟨zb _,rfl,hc⟩,?_⟩
 rintro i w' u ⟨hi,he,hc⟩;refine hc.c 1 rfl rfl ?_;rcases zl i a.l.length with hlt | hlt
 ·refine dt (by omega) ?_;obtain⟨ad,A1,cap1,e1,hcell,hr1⟩:=RowE.elem (hR.below hc.below) (hE.below hc.below) i hlt;obtain⟨bd,B1,capb,e2,hcell',hr2⟩:=RowE.elem (hR'.below hc.below) (hE'.below hc.below) i (by omega);subst e1;subst e2;rw [List.drop_eq_getElem_cons hlt,List.drop_eq_getElem_cons (show i<b.l.length by omega),U8] at he;generalize a.l[i]=x at*;generalize b.l[i]'(by omega)=y at*;refine vD (.Q [0,1,2,3,4,5,6,7,8,9] (.n 10 (.q 11 .fin) .stop)) (Keeps (fun b=>b<w'.heap.size) w') (Keeps.start _ _) ?_;refine⟨_,fun z hz=>hz.look (hc.cell 1 rfl _ rfl),?_⟩;refine⟨⟨by omega,by omega⟩,?_⟩;refine⟨[.string x.key,.slice A1 x.vs.length cap1],rfl,fun z hz=>hz.looks _ _ hcell,?_⟩;refine⟨_,fun z hz=>hz.look (hc.cell 0 rfl _ rfl),?_⟩;refine⟨⟨by omega,by omega⟩,?_⟩;refine⟨[.string y.key,.slice B1 y.vs.length capb],rfl,fun z hz=>hz.looks _ _ hcell',?_⟩;refine⟨B4 (C3j x y A1 B1 cap1 capb S _ (hr1.below (Below.refl _ _).drew) (hr2.below (Below.refl _ _).drew)) ?_,trivial⟩;intro w3 h3;have hcq:=(hc.drew.quiet h3).1;refine⟨(Keeps.start _ _).below (fun b hb=>hb) h3,?_⟩;rcases Bool.eq_false_or_eq_true (eqE x y) with hv | hv
  ·refine C3X (by rw [hv];rfl) ?_;rw [hv,Bool.true_and] at he;refine⟨i+1,⟨rfl,rfl,y5 _ (C3 (by omega)),trivial⟩,⟨hlt,he,hcq⟩,by show a.l.length-(i+1)<a.l.length-i;omega⟩
  ·refine B0 (by rw [hv];rfl) ?_;rw [hv,Bool.false_and] at he;rw [<-he,Bool.and_false] at e0;exact⟨B7 e0.symm,hcq.below⟩
 refine df (by omega) ?_;rw [zq (by omega),zq (by omega),U8] at he;rw [<-he,Bool.and_true] at e0;refine⟨Nat,fun i=>[(2,.pointer (some ⟨g1,0,none⟩)),(3,.pointer (some ⟨g2,0,none⟩)),(6,.int .i64 i)],
  fun i w'=>i<=a.ms.length/\U8 B40 (a.ms.drop i) (b.ms.drop i)=U8 B40 a.ms b.ms/\Ctx no w no w' [(g2,41,[.int .i64 b.seq,.slice A' b.l.length cap2,.slice B' b.ms.length cap3,.int .i64 k0,.int .i64 k1,.int .i64 k2,.int .i64 k3,.int .i64 k4]),(g1,41,[.int .i64 a.seq,.slice A a.l.length cap,.slice B a.ms.length cap',.int .i64 l0,.int .i64 l1,.int .i64 l2,.int .i64 l3,.int .i64 l4])],fun i _=>a.ms.length-i,0,
  ⟨rfl,rfl,rfl,trivial⟩,⟨zb _,rfl,hc⟩,?_⟩
 rintro i w' u ⟨hi,he,hc⟩;refine hc.c 1 rfl rfl ?_;rcases zl i a.ms.length with hlt | hlt
 ·refine dt (by omega) ?_;obtain⟨ad,e1,hcell⟩:=RowM.elem (hM.below hc.below) i hlt;obtain⟨bd,e2,hcell'⟩:=RowM.elem (hM'.below hc.below) i (by omega);subst e1;subst e2;rw [List.drop_eq_getElem_cons hlt,List.drop_eq_getElem_cons (show i<b.ms.length by omega),U8] at he;generalize a.ms[i]=x at*;generalize b.ms[i]'(by omega)=y at*;refine vD (.Q [0,1,2,3,4,5,6,7,8,9,10] .fin) (Keeps (fun b=>b<w'.heap.size) w') (Keeps.start _ _) ?_;refine⟨_,fun z hz=>hz.look (hc.cell 1 rfl _ rfl),?_⟩;refine⟨⟨by omega,by omega⟩,?_⟩;refine⟨F7 x,rfl,fun z hz=>hz.looks _ _ hcell,?_⟩;refine⟨_,fun z hz=>hz.look (hc.cell 0 rfl _ rfl),?_⟩;refine⟨⟨by omega,by omega⟩,?_⟩;refine⟨F7 y,rfl,fun z hz=>hz.looks _ _ hcell',?_⟩;refine⟨_,fun w=>A1x B4R (A7K 9997 · x y) _ _ w,?_⟩;have hc:=hc.drew;rcases Bool.eq_false_or_eq_true (B40 x y) with hv | hv
  ·refine C3X (by rw [hv];rfl) ?_;rw [hv,Bool.true_and] at he;refine⟨i+1,⟨rfl,rfl,y5 _ (C3 (by omega)),trivial⟩,⟨hlt,he,hc⟩,by show a.ms.length-(i+1)<a.ms.length-i;omega⟩
  ·refine B0 (by rw [hv];rfl) ?_;rw [hv,Bool.false_and] at he;rw [<-he] at e0;exact⟨B7 e0.symm,hc.below⟩
 ·refine df (by omega) ?_;rw [zq (by omega),zq (by omega),U8] at he;rw [<-he] at e0;exact⟨B7 e0.symm,hc.below⟩
theorem A0K {w:World} {g T:Nat} {a b c:Value} {l0 l1 l2 l3 l4:Int} (hB:Blk w g T [a,b,c,.int .i64 l0,.int .i64 l1,.int .i64 l2,.int .i64 l3,.int .i64 l4]) (h j:Int) (hr:1<=h/\h<=5) (hj:j=h-1):
  w.cell? ((⟨g,0+3,none⟩:Addr).add (j.toNat*1))=some (.int .i64 (I5 [l0,l1,l2,l3,l4] h)):=by
 subst hj;have hh:h=1\/h=2\/h=3\/h=4\/h=5:=by omega
 rcases hh with rfl | rfl | rfl | rfl | rfl
 ·exact hB.cell 3
 ·exact hB.cell 4
 ·exact hB.cell 5
 ·exact hB.cell 6
 ·exact hB.cell 7
theorem A8F (l0 l1 l2 l3 l4:Int) (i:Nat) (hi:i<5) (w:World):(Instr.index 39 (.agg #[.int .i64 l0,.int .i64 l1,.int .i64 l2,.int .i64 l3,.int .i64 l4]) (.int .i64 i)).run Tryz.prog w=.ok (.int .i64 ([l0,l1,l2,l3,l4].getD i 0)) w:=by
 obtain⟨ti,hsz,_,hs1,_⟩:=info_parts (show (Tryz.prog.info? 2).map (fun i=>(i.zero,i.size,i.bytes))=some (some (.int .i64 0),1,8) by kernel_rfl);unfold Instr.index;simp only [Sem.run_bind,asIntOf,Sem.run_pure,Result.andThen_ok,run_underlying Tryz.underlying39];rw [y6 ⟨by omega,by omega⟩]
 match i,hi with
 | 0,_=>simp [part,isAgg,sizeOf,typeInfo,run_underlying Tryz.underlying2,hsz,hs1]
 | 1,_=>simp [part,isAgg,sizeOf,typeInfo,run_underlying Tryz.underlying2,hsz,hs1]
 | 2,_=>simp [part,isAgg,sizeOf,typeInfo,run_underlying Tryz.underlying2,hsz,hs1]
 | 3,_=>simp [part,isAgg,sizeOf,typeInfo,run_underlying Tryz.underlying2,hsz,hs1]
 | 4,_=>simp [part,isAgg,sizeOf,typeInfo,run_underlying Tryz.underlying2,hsz,hs1]
def A3g (l:List Ent) (i:Nat):Option ByteArray:=if i=0 then none else (l[i-1]?).map (·.key)
def A2n (l:List Mem) (i:Nat):Option Int:=if i=0 then none else (l[i-1]?).map (·.req)
def leK (p:Option ByteArray) (k:ByteArray):Bool:=match p with | none=>true | some q=>C6 q k
def leM (p:Option Int) (n:Int):Bool:=match p with | none=>true | some q=>decide (q<n)
theorem B0A (seq:Int) (p:Option ByteArray) (e:Ent) (r:List Ent):A1M seq p (e::r)=(A50 e&&decide ((G5 e.vs).ver<=seq)&&leK p e.key&&A1M seq (some e.key) r):=by cases p<;>simp only [A1M,leK]
theorem B0B (lows:List Int) (seq:Int) (p:Option Int) (m:Mem) (r:List Mem):A1D lows seq p (m::r)=(!(S6 m.req==0)&&decide (I5 lows (S6 m.req)<=m.req)&&leM p m.req&&
  decide (0<=m.res.err)&&decide (m.res.err<=13)&&decide (0<=m.res.ver)&&decide (m.res.ver<=seq)&&A1D lows seq (some m.req) r):=by
 cases p<;>simp only [A1D,leM]
def stC (s:Stt) (A:Option Addr) (cap:Nat) (B:Option Addr) (cap':Nat) (l0 l1 l2 l3 l4:Int):List Value:=[.int .i64 s.seq,.slice A s.l.length cap,.slice B s.ms.length cap',.int .i64 l0,.int .i64 l1,.int .i64 l2,.int .i64 l3,.int .i64 l4]
theorem A3h (s:Stt) (hk:∀ e∈s.l,X6 e.key) (cs:List Value) (S:Nat->Prop) (w:World) (hs:RepS S w s cs):Calls Tryz.prog 93 #[.agg cs.toArray] w (C8 (.bool (T5 s)) w):=by
 obtain⟨A,cap,css,B,cap',l0,l1,l2,l3,l4,rfl,el,hE,hR,hM⟩:=hs.shape;have hMa:=D4 hR;have hMm:=D4 hM;refine vE Tryz.func93 ?_;intro g1 w1 h1;have hc:=((Ctx.start w no (fun _ h=>h.elim)).loc h1).1;have e0:T5 s=(decide (0<=s.seq)&&decide (s.seq<=E3)&&decide (s.l.length<=40)&&decide (s.ms.length<=100)&&A1M s.seq none s.l&&A0g 0 s.lows&&A1D s.lows s.seq none s.ms):=rfl;have hmax:E3=1099511627776:=rfl;rw [el] at e0;generalize T5 s=r at e0 ⊢;refine hc.c 0 rfl rfl ?_;rcases Int.lt_or_le s.seq 0 with c1 | c1
 ·refine dt c1 ?_;rw [zz (show ¬ 0<=s.seq by omega)] at e0;exact⟨B7 e0.symm,hc.below⟩
 refine df (show ¬ s.seq<0 by omega) ?_;refine hc.c 0 rfl rfl ?_;rcases Int.lt_or_le 1099511627776 s.seq with c2 | c2
 ·refine dt c2 ?_;rw [zy c1,zz (show ¬ s.seq<=E3 by omega)] at e0;exact⟨B7 e0.symm,hc.below⟩
 refine df (show ¬ 1099511627776<s.seq by omega) ?_;refine hc.c 0 rfl rfl ?_;rcases zl 40 s.l.length with c3 | c3
 ·refine dt (show (40:Int)<(s.l.length:Int) by omega) ?_;rw [zz (show ¬ s.l.length<=40 by omega),Bool.and_false] at e0;exact⟨B7 e0.symm,hc.below⟩
 refine df (show ¬ (40:Int)<(s.l.length:Int) by omega) ?_;refine hc.c 0 rfl rfl ?_;rcases zl 100 s.ms.length with c4 | c4
 ·refine dt (show (100:Int)<(s.ms.length:Int) by omega) ?_;rw [zz (show ¬ s.ms.length<=100 by omega),Bool.and_false] at e0;exact⟨B7 e0.symm,hc.below⟩
 refine df (show ¬ (100:Int)<(s.ms.length:Int) by omega) ?_;rw [zy c1,zy (show s.seq<=E3 by omega),zy c3,zy c4,Bool.and_self,Bool.and_self,Bool.and_self,Bool.true_and] at e0;refine hc.c 0 rfl rfl ?_;refine⟨Nat,fun i=>[(1,.pointer (some ⟨g1,0,none⟩)),(31,.slice A s.l.length cap),(32,.int .i64 s.l.length),(33,.int .i64 i)],
  fun i w'=>i<=s.l.length/\A1M s.seq (A3g s.l i) (s.l.drop i)=A1M s.seq none s.l/\Ctx no w no w' [(g1,41,stC s A cap B cap' l0 l1 l2 l3 l4)],fun i _=>s.l.length-i,0,
  ⟨rfl,rfl,rfl,rfl,trivial⟩,⟨zb _,rfl,hc⟩,?_⟩
 rintro i w' u ⟨hi,he,hc⟩;rcases zl i s.l.length with hlt | hlt
 ·refine dt (by omega) ?_;obtain⟨ad,A1,cap1,e1,hcell,hr1⟩:=RowE.elem (hR.below hc.below) (hE.below hc.below) i hlt;subst e1;have hnext:A3g s.l (i+1)=some s.l[i].key:=by rw [A3g,y7 (by omega),Nat.add_sub_cancel,List.getElem?_eq_getElem hlt];rfl
  have hkk:=hk _ (List.getElem_mem hlt);rw [List.drop_eq_getElem_cons hlt,B0A] at he;generalize s.l[i]=e at*;refine⟨⟨by omega,by omega⟩,?_⟩;refine⟨[.string e.key,.slice A1 e.vs.length cap1],rfl,hcell,?_⟩;refine hc.n fun g4 w4 h4 hc=>?_;refine⟨hc.may 0 rfl 0 _ (zc 2) rfl,?_⟩;intro w5 h5;have hc:=(hc.set 0 rfl h5).1;have cz:=((Ctx.start w' no (fun _ h=>h.elim)).loc h4).1;have cz:=(cz.set 0 rfl h5).1;have hr1:=hr1.below cz.below;have hMv:=D4 hr1;have out:∀ w6:World,Below w.heap.size w w6->(A50 e&&decide ((G5 e.vs).ver<=s.seq)&&leK (A3g s.l i) e.key)=false->C8 (.bool r) w (.returned (.bool false)) w6:=fun w6 hb h=>by rw [h,Bool.false_and] at he;rw [<-he,Bool.false_and,Bool.false_and] at e0;exact⟨B7 e0.symm,hb⟩
  refine vD (.q 0 (.n 1 (.Q [2,3,4,5,6,7,8,9,10,11,12,13,14,15,16,17,18,19,20,21,22,23,24,25,26,27,28,29,30,31,32] .fin) .stop)) (Keeps (fun b=>b<w5.heap.size) w5) (Keeps.start _ _) ?_;refine⟨_,?_,fun x hx=>hx.looks _ _ (hc.cells 0 rfl),?_⟩
  ·rfl
  refine⟨B4 (B2f e hkk A1 cap1 S _ (hr1.below (Below.refl _ _).drew)) ?_,trivial⟩;intro w6 h6;have hcq:=(hc.drew.quiet h6).1;refine⟨(Keeps.start _ _).below (fun b hb=>hb) h6,?_⟩;rcases Bool.eq_false_or_eq_true (A50 e) with hm | hm;rotate_left
  ·refine B0 (by rw [hm];rfl) ?_;exact out _ hcq.below (by rw [hm];rfl)
  refine C3X (by rw [hm];rfl) ?_;have hpos:=(E1.1 hm).2.2.1;have hlv:e.vs.length-1<e.vs.length:=by omega
  have hw:IntKind.i64.wrap ((e.vs.length:Int)-1)=((e.vs.length-1:Nat):Int):=by rw [IntWalk.i64_in _ ⟨by omega,by omega⟩];omega
  obtain⟨ed,e2,hcl⟩:=RowV.elem hr1 (e.vs.length-1) hlv;subst e2;rw [<-A46 hlv] at hcl;refine⟨_,fun x hx=>hx.look (hc.cell 0 rfl _ rfl),?_⟩;refine⟨_,fun x hx=>hx.look (hc.cell 0 rfl _ rfl),?_⟩;refine⟨⟨by rw [hw];omega,by rw [hw];omega⟩,?_⟩;have hl0:w5.cell? (ed.add ((IntKind.i64.wrap ((e.vs.length:Int)-1)).toNat*3))=some (.int .i64 (G5 e.vs).ver):=by have:=hcl.1;rw [add_add,Nat.add_zero] at this;rw [hw,zh];exact this
  generalize ed.add ((IntKind.i64.wrap ((e.vs.length:Int)-1)).toNat*3)=ae at hl0 ⊢;obtain⟨ab,ao,asub⟩:=ae;refine⟨_,fun x hx=>hx.look hl0,?_⟩;refine⟨_,fun x hx=>hx.look (hc.cell 1 rfl _ rfl),?_⟩;rcases Int.lt_or_le s.seq (G5 e.vs).ver with c5 | c5
  ·refine dt c5 ?_;exact out _ hcq.below (by rw [zz (show ¬ (G5 e.vs).ver<=s.seq by omega),Bool.and_false];rfl)
  refine df (show ¬ s.seq<(G5 e.vs).ver by omega) ?_;have next:leK (A3g s.l i) e.key=true->A1M s.seq (A3g s.l (i+1)) (s.l.drop (i+1))=A1M s.seq none s.l:=fun h=>by rw [hnext,<-he,hm,zy c5,h];rfl
  rcases Nat.eq_zero_or_pos i with c6 | c6
  ·refine df (show ¬ (0:Int)<(i:Int) by omega) ?_;exact⟨i+1,⟨rfl,rfl,rfl,y5 _ (C3 (by omega)),trivial⟩,⟨hlt,next (by rw [A3g,y6 c6];rfl),hcq.drop⟩,by show s.l.length-(i+1)<s.l.length-i;omega⟩
  refine dt (show (0:Int)<(i:Int) by omega) ?_;have hj:i-1<s.l.length:=by omega
  have hwi:IntKind.i64.wrap ((i:Int)-1)=((i-1:Nat):Int):=by rw [IntWalk.i64_in _ ⟨by omega,by omega⟩];omega
  obtain⟨ad',A2,cap2,e3,hcellp,_⟩:=RowE.elem (hR.below hc.below) (hE.below hc.below) (i-1) hj;cases e3;have hpk:A3g s.l i=some s.l[i-1].key:=by rw [A3g,y7 (by omega),List.getElem?_eq_getElem hj];rfl
  refine⟨_,fun x hx=>hx.look (hc.cell 1 rfl _ rfl),?_⟩;refine⟨⟨by rw [hwi];omega,by rw [hwi];omega⟩,?_⟩;have hp0:w5.cell? (ad.add ((IntKind.i64.wrap ((i:Int)-1)).toNat*2))=some (.string s.l[i-1].key):=by have:=hcellp.1;rw [add_add,Nat.add_zero] at this;rw [hwi,zh];exact this
  generalize ad.add ((IntKind.i64.wrap ((i:Int)-1)).toNat*2)=ap at hp0 ⊢;obtain⟨pb,po,psub⟩:=ap;refine⟨_,fun x hx=>hx.look hp0,?_⟩;refine⟨_,fun x hx=>hx.look (hc.cell 0 rfl _ rfl),?_⟩;rcases Bool.eq_false_or_eq_true (C6 s.l[i-1].key e.key) with c7 | c7
  ·refine C3X (by rw [c7];rfl) ?_;exact⟨i+1,⟨rfl,rfl,rfl,y5 _ (C3 (by omega)),trivial⟩,⟨hlt,next (by rw [hpk];exact c7),hcq.drop⟩,by show s.l.length-(i+1)<s.l.length-i;omega⟩
  ·refine B0 (by rw [c7];rfl) ?_;exact out _ hcq.below (by rw [hpk];show (_&&C6 s.l[i-1].key e.key)=false;rw [c7,Bool.and_false])
 refine df (by omega) ?_;rw [zq (by omega),A1M] at he;rw [<-he,Bool.true_and] at e0;refine⟨[.int .i64 l0,.int .i64 l1,.int .i64 l2,.int .i64 l3,.int .i64 l4],rfl,hc.cellsAt 0 rfl (0+3) _ rfl,?_⟩;refine⟨Nat,fun i=>[(1,.pointer (some ⟨g1,0,none⟩)),(73,.agg #[.int .i64 l0,.int .i64 l1,.int .i64 l2,.int .i64 l3,.int .i64 l4]),(74,.int .i64 i)],
  fun i w'=>i<=5/\A0g i ([l0,l1,l2,l3,l4].drop i)=A0g 0 [l0,l1,l2,l3,l4]/\Ctx no w no w' [(g1,41,stC s A cap B cap' l0 l1 l2 l3 l4)],fun i _=>5-i,0,
  ⟨rfl,rfl,rfl,trivial⟩,⟨zb _,rfl,hc⟩,?_⟩
 rintro i w' u ⟨hi,he,hc⟩;rcases zl i 5 with hlt | hlt
 ·refine dt (by omega) ?_;refine⟨_,fun w=>A8F l0 l1 l2 l3 l4 i hlt w,?_⟩;have hd:[l0,l1,l2,l3,l4].drop i=[l0,l1,l2,l3,l4].getD i 0::[l0,l1,l2,l3,l4].drop (i+1):=by
   match i,hlt with
   | 0,_=>rfl
   | 1,_=>rfl
   | 2,_=>rfl
   | 3,_=>rfl
   | 4,_=>rfl
  rw [hd,A0g] at he;generalize [l0,l1,l2,l3,l4].getD i 0=x at*;have hwi:IntKind.i64.wrap ((i:Int)+1)=(i:Int)+1:=E0 _ _ (by omega) (by omega);rcases Int.decEq x 0 with c1 | c1
  ·refine B0 (by show (x != 0)=true;rw [bne_iff_ne];exact c1) ?_;refine hc.q (K0 x _) fun w3 h3 hc=>?_;have hx0:(x==0)=false:=by rw [y4];exact c1
   rcases Int.decEq (S6 x) ((i:Int)+1) with c2 | c2
   ·refine B0 (by show (S6 x != IntKind.i64.wrap ((i:Int)+1))=true;rw [hwi,bne_iff_ne];exact c2) ?_;have:(S6 x==(i:Int)+1)=false:=by rw [y4];exact c2
    rw [hx0,this] at he;rw [<-he] at e0;exact⟨B7 e0.symm,hc.below⟩
   ·refine C3X (by show (S6 x != IntKind.i64.wrap ((i:Int)+1))=false;rw [hwi,c2];simp) ?_;have:(S6 x==(i:Int)+1)=true:=by rw [beq_iff_eq];exact c2
    rw [this,Bool.or_true,Bool.true_and] at he;exact⟨i+1,⟨rfl,rfl,y5 _ (C3 (by omega)),trivial⟩,⟨hlt,he,hc⟩,by show 5-(i+1)<5-i;omega⟩
  ·subst c1;exact⟨i+1,⟨rfl,rfl,y5 _ (C3 (by omega)),trivial⟩,⟨hlt,he,hc⟩,by show 5-(i+1)<5-i;omega⟩
 refine df (by omega) ?_;rw [zq (by show 5<=i;exact hlt),A0g] at he;rw [<-he,Bool.true_and] at e0;refine hc.c 0 rfl rfl ?_;refine⟨Nat,fun i=>[(1,.pointer (some ⟨g1,0,none⟩)),(89,.slice B s.ms.length cap'),(90,.int .i64 s.ms.length),(91,.int .i64 i)],
  fun i w'=>i<=s.ms.length/\A1D [l0,l1,l2,l3,l4] s.seq (A2n s.ms i) (s.ms.drop i)=A1D [l0,l1,l2,l3,l4] s.seq none s.ms/\Ctx no w no w' [(g1,41,stC s A cap B cap' l0 l1 l2 l3 l4)],fun i _=>s.ms.length-i,0,
  ⟨rfl,rfl,rfl,rfl,trivial⟩,⟨zb _,rfl,hc⟩,?_⟩
 rintro i w' u ⟨hi,he,hc⟩;rcases zl i s.ms.length with hlt | hlt
 ·refine dt (by omega) ?_;obtain⟨ad,e1,hcell⟩:=RowM.elem (hM.below hc.below) i hlt;subst e1;have hnext:A2n s.ms (i+1)=some s.ms[i].req:=by rw [A2n,y7 (by omega),Nat.add_sub_cancel,List.getElem?_eq_getElem hlt];rfl
  rw [List.drop_eq_getElem_cons hlt,B0B] at he;generalize s.ms[i]=m at*;refine⟨⟨by omega,by omega⟩,?_⟩;refine⟨F7 m,rfl,hcell,?_⟩;refine hc.n fun g8 w4 h4 hc=>?_;refine⟨hc.may 0 rfl 0 _ (zc 3) rfl,?_⟩;intro w5 h5;have hc:=(hc.set 0 rfl h5).1;refine hc.c 0 rfl rfl ?_;refine hc.q (K0 m.req _) fun w6 h6 hc=>?_;have hh:=R6 m.req;have out:∀ w6:World,Below w.heap.size w w6->(!(S6 m.req==0)&&decide (I5 [l0,l1,l2,l3,l4] (S6 m.req)<=m.req)&&leM (A2n s.ms i) m.req&&decide (0<=m.res.err)&&decide (m.res.err<=13)&&decide (0<=m.res.ver)&&decide (m.res.ver<=s.seq))=false->C8 (.bool r) w (.returned (.bool false)) w6:=fun w6 hb h=>by rw [h,Bool.false_and] at he;rw [<-he] at e0;exact⟨B7 e0.symm,hb⟩
  generalize S6 m.req=hm at*;refine vD (.Q [0,1,2,3,4,5,6,7,8,9,10,11,12,13,14,15,16,17,18,19,20,21,22,23,24,25,26,27] .fin) (Keeps (fun b=>b<w6.heap.size) w6) (Keeps.start _ _) ?_;have hcd:=hc.drew;rcases Int.decEq hm 0 with c1 | c1;rotate_left
  ·subst c1;exact out _ hcd.below rfl
  refine C3X (by show (hm==0)=false;rw [y4];exact c1) ?_;have hwm:IntKind.i64.wrap (hm-1)=hm-1:=IntWalk.i64_in _ ⟨by omega,by omega⟩;refine⟨_,fun x hx=>hx.look (hc.cell 0 rfl _ rfl),?_⟩;refine⟨⟨by rw [hwm];omega,by rw [hwm];omega⟩,?_⟩;have hl0:=A0K (hc.blk 1 rfl) hm (IntKind.i64.wrap (hm-1)) ⟨by omega,by omega⟩ hwm;have hm0:(hm==0)=false:=by rw [y4];exact c1
  generalize I5 [l0,l1,l2,l3,l4] hm=lo at*;generalize (⟨g1,0+3,none⟩:Addr).add ((IntKind.i64.wrap (hm-1)).toNat*1)=al at hl0 ⊢;obtain⟨lb,lof,lsub⟩:=al;refine⟨_,fun x hx=>hx.look hl0,?_⟩;rcases Int.lt_or_le m.req lo with c2 | c2
  ·refine dt c2 ?_;exact out _ hcd.below (by rw [zz (show ¬ lo<=m.req by omega),Bool.and_false];rfl)
  refine df (show ¬ m.req<lo by omega) ?_;have hfar:leM (A2n s.ms i) m.req=true->(!(hm==0)&&decide (lo<=m.req)&&leM (A2n s.ms i) m.req)=true:=fun h=>by rw [hm0,zy c2,h];rfl
  rcases Nat.eq_zero_or_pos i with c3 | c3
  all_goals first
   | (
     refine df (show ¬ (0:Int)<(i:Int) by omega) ?_;have hle:=hfar (by rw [A2n,y6 c3];rfl))
   | (
     refine dt (show (0:Int)<(i:Int) by omega) ?_;have hj:i-1<s.ms.length:=by omega
     have hwi:IntKind.i64.wrap ((i:Int)-1)=((i-1:Nat):Int):=by rw [IntWalk.i64_in _ ⟨by omega,by omega⟩];omega
     obtain⟨ad',e3,hcellp⟩:=RowM.elem (hM.below hc.below) (i-1) hj;cases e3;have hpk:A2n s.ms i=some s.ms[i-1].req:=by rw [A2n,y7 (by omega),List.getElem?_eq_getElem hj];rfl
     refine⟨_,fun x hx=>hx.look (hc.cell 1 rfl _ rfl),?_⟩;refine⟨⟨by rw [hwi];omega,by rw [hwi];omega⟩,?_⟩;have hp0:w6.cell? (ad.add ((IntKind.i64.wrap ((i:Int)-1)).toNat*3))=some (.int .i64 s.ms[i-1].req):=by have:=hcellp.1;rw [add_add,Nat.add_zero] at this;rw [hwi,zh];exact this
     generalize ad.add ((IntKind.i64.wrap ((i:Int)-1)).toNat*3)=ap at hp0 ⊢;obtain⟨pb,po,psub⟩:=ap;refine⟨_,fun x hx=>hx.look hp0,?_⟩;refine⟨_,fun x hx=>hx.look (hc.cell 0 rfl _ rfl),?_⟩;rcases Int.lt_or_le s.ms[i-1].req m.req with c7 | c7;rotate_left
     ·refine dt c7 ?_;exact out _ hcd.below (by
       have:leM (A2n s.ms i) m.req=false:=by rw [hpk];exact zz (by omega)
       rw [this,Bool.and_false];rfl)
     refine df (show ¬ m.req<=s.ms[i-1].req by omega) ?_;have hle:=hfar (by rw [hpk];exact zy c7))
  all_goals rw [hle,Bool.true_and] at out he
  all_goals refine⟨_,hcd.cell 0 rfl _ rfl,?_⟩
  all_goals rcases Int.lt_or_le m.res.err 0 with d1 | d1
  all_goals first
   | (
     refine dt d1 ?_;exact out _ hcd.below (by rw [zz (show ¬ 0<=m.res.err by omega)];rfl))
   | (refine df (show ¬ m.res.err<0 by omega) ?_)
  all_goals refine⟨_,hcd.cell 0 rfl _ rfl,?_⟩
  all_goals rcases Int.lt_or_le 13 m.res.err with d2 | d2
  all_goals first
   | (
     refine dt d2 ?_;exact out _ hcd.below (by rw [zz (show ¬ m.res.err<=13 by omega),Bool.and_false];rfl))
   | (refine df (show ¬ 13<m.res.err by omega) ?_)
  all_goals refine⟨_,hcd.cell 0 rfl _ rfl,?_⟩
  all_goals rcases Int.lt_or_le m.res.ver 0 with d3 | d3
  all_goals first
   | (
     refine dt d3 ?_;exact out _ hcd.below (by rw [zz (show ¬ 0<=m.res.ver by omega),Bool.and_false];rfl))
   | (refine df (show ¬ m.res.ver<0 by omega) ?_)
  all_goals refine⟨_,hcd.cell 0 rfl _ rfl,?_⟩
  all_goals refine⟨_,hcd.cell 1 rfl _ rfl,?_⟩
  all_goals rcases Int.lt_or_le s.seq m.res.ver with d4 | d4
  all_goals first
   | (
     refine dt d4 ?_;exact out _ hcd.below (by rw [zz (show ¬ m.res.ver<=s.seq by omega),Bool.and_false]))
   | (
     refine df (show ¬ s.seq<m.res.ver by omega) ?_;rw [zy d1,zy d2,zy d3,zy d4] at he;exact⟨i+1,⟨rfl,rfl,rfl,y5 _ (C3 (by omega)),trivial⟩,⟨hlt,by rw [hnext];exact he,hcd.drop⟩,by show s.ms.length-(i+1)<s.ms.length-i;omega⟩)
 ·refine df (by omega) ?_;rw [zq (by omega),A1D] at he;rw [<-he] at e0;exact⟨B7 e0.symm,hc.below⟩
structure Ver.Ok (v:Ver):Prop where
 ver:B3 v.ver
 body:X6 v.body
structure Ent.Ok (e:Ent):Prop where
 key:X6 e.key
 vs:∀ v∈e.vs,v.Ok
structure Mem.Ok (m:Mem):Prop where
 req:B3 m.req
 err:B3 m.res.err
 ver:B3 m.res.ver
structure Stt.Ok (s:Stt):Prop where
 seq:B3 s.seq
 l:∀ e∈s.l,e.Ok
 ms:∀ m∈s.ms,m.Ok
 lows:∀ x∈s.lows,B3 x
def B2A (a b:Int):Int:=if a<b then -1 else if b<a then 1 else 0
def B2h (a b:ByteArray):Int:=if C6 a b then -1 else if C6 b a then 1 else 0
theorem A24 (n:Int) (w:World):Calls Tryz.prog 287 #[.int .i64 n] w (C8 (.bool false) w):=by refine vE Tryz.func287 ?_;refine⟨B7 ?_,Below.refl _ _⟩;simp
theorem A25 (n:ByteArray) (w:World):Calls Tryz.prog 319 #[.string n] w (C8 (.bool false) w):=by refine vE Tryz.func319 ?_;refine⟨B7 ?_,Below.refl _ _⟩;simp [D3]
theorem B2i (a b:Int) (w:World):Calls Tryz.prog 267 #[.int .i64 a,.int .i64 b] w (C8 (.int .i64 (B2A a b)) w):=by
 refine vE Tryz.func267 ?_;refine B4 (A24 a _) ?_;intro w1 h1;refine B4 (A24 b _) ?_;intro w2 h2;have hb:=h1.trans (h2.mono h1.size);rcases Int.lt_or_le a b with c | c
 ·refine dt c ?_;exact⟨Y6 (by rw [B2A,y6 c]),hb⟩
 refine df (by omega) ?_;rcases Int.lt_or_le b a with d | d
 ·refine dt d ?_;exact⟨Y6 (by rw [B2A,y7 (by omega),y6 d]),hb⟩
 refine df (by omega) ?_;exact⟨Y6 (by rw [B2A,y7 (by omega),y7 (by omega)]),hb⟩
theorem B2j (a b:ByteArray) (w:World):Calls Tryz.prog 290 #[.string a,.string b] w (C8 (.int .i64 (B2h a b)) w):=by
 refine vE Tryz.func290 ?_;refine B4 (A25 a _) ?_;intro w1 h1;refine B4 (A25 b _) ?_;intro w2 h2;have hb:=h1.trans (h2.mono h1.size);have e0:B2h a b=if C6 a b then -1 else if C6 b a then 1 else 0:=rfl
 have ht:=A1r a b;have he:D3 a b=D3 b a:=by rw [Bool.eq_iff_iff,D2,D2];exact eq_comm
 generalize B2h a b=r at e0 ⊢;rcases Bool.eq_false_or_eq_true (C6 a b) with c | c
 ·refine B0 c ?_;exact⟨Y6 (by rw [e0,c];rfl),hb⟩
 refine C3X c ?_;rcases Bool.eq_false_or_eq_true (D3 a b) with d | d
 ·refine C3X (by rw [c,d];rfl) ?_;have:C6 b a=false:=by rw [D2] at d;rw [d];exact A0z _
  exact⟨Y6 (by rw [e0,c,this];rfl),hb⟩
 ·refine B0 (by rw [c,d];rfl) ?_;have:C6 b a=true:=by rw [c,<-he,d] at ht;simpa using ht.symm
  exact⟨Y6 (by rw [e0,c,this];rfl),hb⟩
theorem A7M (a b:Int):(B2A a b<0)=(a<b):=by
 unfold B2A;apply propext;by_cases h:a<b
 ·rw [y6 h];simp [h]
 ·rw [y7 h];by_cases k:b<a
  ·rw [y6 k];simp [h]
  ·rw [y7 k];simp [h]
theorem B0C (a b:Int) (h:¬ a<b):(B2A a b==0)=(a==b):=by
 unfold B2A;rw [y7 h];by_cases k:b<a
 ·rw [y6 k,Bool.eq_iff_iff];simp;omega
 ·rw [y7 k,Bool.eq_iff_iff];simp;omega
theorem A7N (a b:ByteArray):(B2h a b<0)=(C6 a b=true):=by
 unfold B2h;apply propext;cases h:C6 a b
 ·cases k:C6 b a<;>simp
 ·simp
theorem B0D (a b:ByteArray) (h:¬ C6 a b=true):(B2h a b==0)=D3 a b:=by
 have h:C6 a b=false:=by simpa using h
 have ht:=A1r a b;have he:D3 a b=D3 b a:=by rw [Bool.eq_iff_iff,D2,D2];exact eq_comm
 unfold B2h;rw [h] at ht ⊢;rw [<-he] at ht;cases k:C6 b a
 ·rw [k] at ht;rw [show D3 a b=true from by simpa using ht.symm];rfl
 ·rw [B2W k |> fun e=>he.trans e];rfl
theorem A48 (m:Mem) (n:Int) (w:World):Calls Tryz.prog 266 #[.agg (F7 m).toArray,.int .i64 n] w (C8 (.int .i64 (B2A m.req n)) w):=by refine vE Tryz.func266 ?_;intro g1 w1 h1;have hc:=((Ctx.start w no (fun _ h=>h.elim)).loc h1).1;refine hc.c 0 rfl rfl ?_;refine B4 (B2i m.req n _) ?_;intro w2 h2;exact⟨rfl,(hc.quiet h2).1.below⟩
theorem A49 (k n:ByteArray) (A:Option Addr) (len cap:Nat) (w:World):Calls Tryz.prog 289 #[.agg #[.string k,.slice A len cap],.string n] w (C8 (.int .i64 (B2h k n)) w):=by refine vE Tryz.func289 ?_;intro g1 w1 h1;have hc:=((Ctx.start w no (fun _ h=>h.elim)).loc h1).1;refine hc.c 0 rfl rfl ?_;refine B4 (B2j k n _) ?_;intro w2 h2;exact⟨rfl,(hc.quiet h2).1.below⟩
theorem B0E:∀ (l:List Mem) (n:Int) (i:Nat),i<=l.length->(∀ k (h:k<l.length),k<i->l[k].req<n)->(∀ h:i<l.length,¬ l[i].req<n)->N5 l n=i
 | [],n,i,hi,_,_=>by rw [N5];simp at hi;exact hi.symm
 | x::r,n,0,hi,h1,h2=>by
  have this:¬ x.req<n:=h2 (by simp);rw [N5,y7 this]
 | x::r,n,i+1,hi,h1,h2=>by have this:x.req<n:=h1 0 (by simp) (by omega);rw [N5,y6 this,B0E r n i (by simpa using hi) (fun k h hk=>h1 (k+1) (by simpa using h) (by omega)) (fun h=>h2 (by simpa using h))]
theorem B5E (l:List Mem) (n:Int) (hp:l.Pairwise (fun a b=>a.req<b.req)) (hfit:l.length<=1000000) (A:Option Addr) (cap:Nat) (S:Nat->Prop) (w:World) (hR:Row S w A l.length cap (l.map F7).flatten):
  Calls Tryz.prog 265 #[.slice A l.length cap,.int .i64 n,.func (.func 266) #[] #[]] w (C8 (.tuple #[.int .i64 (N5 l n:Nat),.bool (V1 l n).isSome]) w):=by
 refine vE Tryz.func265 ?_;have hM:=D4 hR;have lt_of:∀ (i j:Nat) (hi:i<l.length) (hj:j<l.length),i<j->l[i].req<l[j].req:=fun i j hi hj h=>List.pairwise_iff_getElem.1 hp i j hi hj h;refine⟨Nat × Nat,fun x=>[(0,.slice A l.length cap),(1,.int .i64 n),(2,.func (.func 266) #[] #[]),(8,.int .i64 l.length),(9,.int .i64 x.1),(10,.int .i64 x.2)],
  fun x w'=>x.1<=x.2/\x.2<=l.length/\(∀ k (h:k<l.length),k<x.1->l[k].req<n)/\(∀ k (h:k<l.length),x.2<=k->¬ l[k].req<n)/\Below w.heap.size w w',fun x _=>x.2-x.1,(0,l.length),
  ⟨rfl,rfl,rfl,rfl,rfl,rfl,trivial⟩,⟨zb _,zc _,fun k h h0=>absurd h0 (Nat.not_lt_zero _),fun k h h0=>by omega,Below.refl _ _⟩,?_⟩
 rintro⟨i,j⟩ w' u ⟨hij,hjn,hlo,hhi,hb⟩;simp only at hij hjn hlo hhi;rcases zl i j with c | c
 ·refine dt (by show (i:Int)<(j:Int);omega) ?_;refine⟨⟨by decide,by decide⟩,?_⟩;have hw:IntKind.i64.wrap (IntKind.u64.wrap (IntKind.i64.wrap ((i:Int)+(j:Int))) / 2 ^ ((1:Int).toNat))=(((i+j) / 2:Nat):Int):=by rw [IntWalk.i64_in ((i:Int)+j) ⟨by omega,by omega⟩,IntWalk.u64_in _ ⟨by omega,by omega⟩,show (2:Int) ^ ((1:Int).toNat)=2 from rfl,IntWalk.i64_in _ ⟨by omega,by omega⟩];omega
  have hh:(i+j) / 2<l.length:=by omega
  obtain⟨ad,e1,hcell⟩:=RowM.elem (hR.below hb) ((i+j) / 2) hh;subst e1;refine⟨⟨by rw [hw];omega,by rw [hw];omega⟩,?_⟩;refine⟨F7 l[(i+j) / 2],rfl,by rw [hw,zh];exact hcell,?_⟩;refine B4 (A48 l[(i+j) / 2] n _) ?_;intro w3 h3;have hb3:=hb.trans (h3.mono hb.size);by_cases d:l[(i+j) / 2].req<n
  ·refine dt (by rw [A7M];exact d) ?_;refine⟨((i+j) / 2+1,j),⟨rfl,rfl,rfl,rfl,?_,rfl,trivial⟩,⟨by show (i+j) / 2+1<=j;omega,hjn,fun k h hk=>?_,hhi,hb3⟩,by show j-((i+j) / 2+1)<j-i;omega⟩
   ·show Value.int .i64 (IntKind.i64.wrap (IntKind.i64.wrap (IntKind.u64.wrap (IntKind.i64.wrap ((i:Int)+(j:Int))) / 2 ^ ((1:Int).toNat))+1))=_;rw [hw,C3 (by omega)]
   ·rcases zl k ((i+j) / 2) with e | e
    ·exact Int.lt_trans (lt_of k _ h hh e) d
    ·have:k=(i+j) / 2:=by simp only at hk;omega
     subst this;exact d
  ·refine df (by rw [A7M];exact d) ?_;refine⟨(i,(i+j) / 2),⟨rfl,rfl,rfl,rfl,rfl,y5 _ hw,trivial⟩,⟨by show i<=(i+j) / 2;omega,by show (i+j) / 2<=l.length;omega,hlo,fun k h hk=>?_,hb3⟩,by show (i+j) / 2-i<j-i;omega⟩;intro hk2;rcases zl ((i+j) / 2) k with e | e
   ·exact d (Int.lt_trans (lt_of _ k hh h e) hk2)
   ·have:k=(i+j) / 2:=by simp only at hk;omega
    subst this;exact d hk2
 refine df (by show ¬ (i:Int)<(j:Int);omega) ?_;have hij:i=j:=by omega
 subst hij;have hpos:N5 l n=i:=B0E l n i hjn hlo (fun h=>hhi i h (zc _));have e0:V1 l n=match l[i]? with | some x=>if x.req==n then some x else none | none=>none:=by rw [V1,hpos];rfl
 rw [hpos];generalize V1 l n=r at e0 ⊢;rcases zl i l.length with c | c
 ·refine dt (by show (i:Int)<(l.length:Int);omega) ?_;obtain⟨ad,e1,hcell⟩:=RowM.elem (hR.below hb) i c;subst e1;refine⟨⟨by show (0:Int)<=(i:Int);omega,by show (i:Int)<(l.length:Int);omega⟩,?_⟩;refine⟨F7 l[i],rfl,hcell,?_⟩;refine B4 (A48 l[i] n _) ?_;intro w3 h3;have hb3:=hb.trans (h3.mono hb.size);rw [List.getElem?_eq_getElem c] at e0;have hz:=B0C l[i].req n (hhi i c (zc _));have e1:r.isSome=(B2A l[i].req n==0):=by
   rw [e0,hz];show (if l[i].req==n then some l[i] else none).isSome=_;split
   ·rename_i h;rw [h];rfl
   ·rename_i h;rw [show (l[i].req==n)=false from by simpa using h];rfl
  rw [e1];exact⟨rfl,hb3⟩
 ·refine df (by show ¬ (i:Int)<(l.length:Int);omega) ?_;rw [List.getElem?_eq_none c] at e0;rw [e0];exact⟨rfl,hb⟩
theorem B0F:∀ (l:List Ent) (n:ByteArray) (i:Nat),i<=l.length->(∀ k (h:k<l.length),k<i->C6 l[k].key n=true)->(∀ h:i<l.length,¬ C6 l[i].key n=true)->posK l n=i
 | [],n,i,hi,_,_=>by rw [posK];simp at hi;exact hi.symm
 | x::r,n,0,hi,h1,h2=>by
  have this:¬ C6 x.key n=true:=h2 (by simp);rw [posK,y7 this]
 | x::r,n,i+1,hi,h1,h2=>by have this:C6 x.key n=true:=h1 0 (by simp) (by omega);rw [posK,y6 this,B0F r n i (by simpa using hi) (fun k h hk=>h1 (k+1) (by simpa using h) (by omega)) (fun h=>h2 (by simpa using h))]
theorem B5F (l:List Ent) (n:ByteArray) (hp:l.Pairwise (fun a b=>C6 a.key b.key=true)) (hfit:l.length<=1000000) (A:Option Addr) (cap:Nat) (S:Nat->Prop) (w:World) (css:List (List Value)) (hE:RepEs S w l css) (hR:Row S w A l.length cap css.flatten):
  Calls Tryz.prog 288 #[.slice A l.length cap,.string n,.func (.func 289) #[] #[]] w (C8 (.tuple #[.int .i64 (posK l n:Nat),.bool (E8 l n).isSome]) w):=by
 refine vE Tryz.func288 ?_;have hM:=D4 hR;have lt_of:∀ (i j:Nat) (hi:i<l.length) (hj:j<l.length),i<j->C6 l[i].key l[j].key=true:=fun i j hi hj h=>List.pairwise_iff_getElem.1 hp i j hi hj h;refine⟨Nat × Nat,fun x=>[(0,.slice A l.length cap),(1,.string n),(2,.func (.func 289) #[] #[]),(8,.int .i64 l.length),(9,.int .i64 x.1),(10,.int .i64 x.2)],
  fun x w'=>x.1<=x.2/\x.2<=l.length/\(∀ k (h:k<l.length),k<x.1->C6 l[k].key n=true)/\(∀ k (h:k<l.length),x.2<=k->¬ C6 l[k].key n=true)/\Below w.heap.size w w',fun x _=>x.2-x.1,(0,l.length),
  ⟨rfl,rfl,rfl,rfl,rfl,rfl,trivial⟩,⟨zb _,zc _,fun k h h0=>absurd h0 (Nat.not_lt_zero _),fun k h h0=>by omega,Below.refl _ _⟩,?_⟩
 rintro⟨i,j⟩ w' u ⟨hij,hjn,hlo,hhi,hb⟩;simp only at hij hjn hlo hhi;rcases zl i j with c | c
 ·refine dt (by show (i:Int)<(j:Int);omega) ?_;refine⟨⟨by decide,by decide⟩,?_⟩;have hw:IntKind.i64.wrap (IntKind.u64.wrap (IntKind.i64.wrap ((i:Int)+(j:Int))) / 2 ^ ((1:Int).toNat))=(((i+j) / 2:Nat):Int):=by rw [IntWalk.i64_in ((i:Int)+j) ⟨by omega,by omega⟩,IntWalk.u64_in _ ⟨by omega,by omega⟩,show (2:Int) ^ ((1:Int).toNat)=2 from rfl,IntWalk.i64_in _ ⟨by omega,by omega⟩];omega
  have hh:(i+j) / 2<l.length:=by omega
  obtain⟨ad,A1,cap1,e1,hcell,_⟩:=RowE.elem (hR.below hb) (hE.below hb) ((i+j) / 2) hh;subst e1;refine⟨⟨by rw [hw];omega,by rw [hw];omega⟩,?_⟩;refine⟨[.string l[(i+j) / 2].key,.slice A1 l[(i+j) / 2].vs.length cap1],rfl,by rw [hw,zh];exact hcell,?_⟩;refine B4 (A49 l[(i+j) / 2].key n A1 l[(i+j) / 2].vs.length cap1 _) ?_;intro w3 h3;have hb3:=hb.trans (h3.mono hb.size);by_cases d:C6 l[(i+j) / 2].key n=true
  ·refine dt (by rw [A7N];exact d) ?_;refine⟨((i+j) / 2+1,j),⟨rfl,rfl,rfl,rfl,?_,rfl,trivial⟩,⟨by show (i+j) / 2+1<=j;omega,hjn,fun k h hk=>?_,hhi,hb3⟩,by show j-((i+j) / 2+1)<j-i;omega⟩
   ·show Value.int .i64 (IntKind.i64.wrap (IntKind.i64.wrap (IntKind.u64.wrap (IntKind.i64.wrap ((i:Int)+(j:Int))) / 2 ^ ((1:Int).toNat))+1))=_;rw [hw,C3 (by omega)]
   ·rcases zl k ((i+j) / 2) with e | e
    ·exact R4 (lt_of k _ h hh e) d
    ·have:k=(i+j) / 2:=by simp only at hk;omega
     subst this;exact d
  ·refine df (by rw [A7N];exact d) ?_;refine⟨(i,(i+j) / 2),⟨rfl,rfl,rfl,rfl,rfl,y5 _ hw,trivial⟩,⟨by show i<=(i+j) / 2;omega,by show (i+j) / 2<=l.length;omega,hlo,fun k h hk=>?_,hb3⟩,by show (i+j) / 2-i<j-i;omega⟩;intro hk2;rcases zl ((i+j) / 2) k with e | e
   ·exact d (R4 (lt_of _ k hh h e) hk2)
   ·have:k=(i+j) / 2:=by simp only at hk;omega
    subst this;exact d hk2
 refine df (by show ¬ (i:Int)<(j:Int);omega) ?_;have hij:i=j:=by omega
 subst hij;have hpos:posK l n=i:=B0F l n i hjn hlo (fun h=>hhi i h (zc _));have e0:E8 l n=match l[i]? with | some x=>if D3 x.key n then some x else none | none=>none:=by rw [E8,hpos];rfl
 rw [hpos];generalize E8 l n=r at e0 ⊢;rcases zl i l.length with c | c
 ·refine dt (by show (i:Int)<(l.length:Int);omega) ?_;obtain⟨ad,A1,cap1,e1,hcell,_⟩:=RowE.elem (hR.below hb) (hE.below hb) i c;subst e1;refine⟨⟨by show (0:Int)<=(i:Int);omega,by show (i:Int)<(l.length:Int);omega⟩,?_⟩;refine⟨[.string l[i].key,.slice A1 l[i].vs.length cap1],rfl,hcell,?_⟩;refine B4 (A49 l[i].key n A1 l[i].vs.length cap1 _) ?_;intro w3 h3;have hb3:=hb.trans (h3.mono hb.size);rw [List.getElem?_eq_getElem c] at e0;have hz:=B0D l[i].key n (hhi i c (zc _));have e1:r.isSome=(B2h l[i].key n==0):=by
   rw [e0,hz];show (if D3 l[i].key n then some l[i] else none).isSome=_;split
   ·rename_i h;rw [h];rfl
   ·rename_i h;rw [show (D3 l[i].key n)=false from by simpa using h];rfl
  rw [e1];exact⟨rfl,hb3⟩
 ·refine df (by show ¬ (i:Int)<(l.length:Int);omega) ?_;rw [List.getElem?_eq_none c] at e0;rw [e0];exact⟨rfl,hb⟩
theorem B2k (s:Stt) (n:Int) (hp:s.ms.Pairwise (fun a b=>a.req<b.req)) (hfit:s.ms.length<=1000000) (cs:List Value) (S:Nat->Prop) (w:World) (hs:RepS S w s cs):Calls Tryz.prog 234 #[.agg cs.toArray,.int .i64 n] w (C8 (.tuple #[.int .i64 (N5 s.ms n:Nat),.bool (V1 s.ms n).isSome]) w):=by obtain⟨A,cap,css,B,cap',l0,l1,l2,l3,l4,rfl,el,hE,hR,hM⟩:=hs.shape;refine vE Tryz.func234 ?_;intro g1 w1 h1;have hc:=((Ctx.start w no (fun _ h=>h.elim)).loc h1).1;refine hc.c 0 rfl rfl ?_;refine B4 (B5E s.ms n hp hfit B cap' S w1 (hM.below hc.below)) ?_;intro w2 h2;exact⟨rfl,(hc.quiet h2).1.below⟩
theorem A7O (s:Stt) (n:ByteArray) (hp:s.l.Pairwise (fun a b=>C6 a.key b.key=true)) (hfit:s.l.length<=1000000) (cs:List Value) (S:Nat->Prop) (w:World) (hs:RepS S w s cs):Calls Tryz.prog 268 #[.agg cs.toArray,.string n] w (C8 (.tuple #[.int .i64 (posK s.l n:Nat),.bool (E8 s.l n).isSome]) w):=by obtain⟨A,cap,css,B,cap',l0,l1,l2,l3,l4,rfl,el,hE,hR,hM⟩:=hs.shape;refine vE Tryz.func268 ?_;intro g1 w1 h1;have hc:=((Ctx.start w no (fun _ h=>h.elim)).loc h1).1;refine hc.c 0 rfl rfl ?_;refine B4 (B5F s.l n hp hfit A cap S w1 css (hE.below hc.below) (hR.below hc.below)) ?_;intro w2 h2;exact⟨rfl,(hc.quiet h2).1.below⟩
theorem Blk.shape {w:World} {g T:Nat} {cs:List Value} (h:Blk w g T cs):w.shape? g=some (T,cs.length):=by unfold Blk at h;unfold World.shape?;rw [h];simp
theorem B0G (w:World) (vb g T T' la ca lb cb:Nat) (b:Addr) (c cur:List Value) (hv:Blk w vb T c) (hg:Blk w g T' cur) (hb:b.block=g) (hne:vb≠g) (hcur:cur.length≠0) {y:Value} (ey:y=.slice (some b) lb cb):
  (callFunc 273 #[.slice (some ⟨vb,0,none⟩) la ca,y]).run Tryz.prog w=.ok (.value (.bool false)) w:=by
 subst ey;rw [run_callFunc_extern Tryz.func273 (by kernel_rfl) (by kernel_rfl) (by kernel_rfl) (show Extern.find _=some (Extern.SlicesOverlaps.overlaps #[38,38] #[4]) by kernel_rfl)];rw [Lib.run_overlaps_apart w 38 4 101 Tryz.underlying38 3 (fun w=>by kernel_rfl) ⟨vb,0,none⟩ b la ca lb cb (by rw [hb];exact hne) T T' c.length cur.length (Blk.shape hv) (by rw [hb];exact Blk.shape hg) hcur (hv.frozen 0) (hv.frozen c.length)];rfl
theorem A11 {S0 S:Nat->Prop} {w0 w:World} {l:List LB} (hc:Ctx S0 w0 S w l) (css:List (List Value)) (hF:Flat 3 css) (hn:css.length<=1000000) {A:Option Addr} {cap:Nat} (ho:Own S w0.heap.size w l 101 3 A css.length cap css.flatten)
  (i:Nat) (hi:i<=css.length) (kv vb:Nat) (c:List Value) (hkv:l[kv]?=some (vb,101,c)) (hcl:c.length=3) (hc1:D7 c=true):
  Calls Tryz.prog 236 #[.slice A css.length cap,.int .i64 i,.slice (some ⟨vb,0,none⟩) 1 1] w (fun en w'=>∃ A' cap',en=.returned (.slice A' (css.length+1) cap')/\Ctx S0 w0 S w' l/\Fut S w S w'/\Own S w0.heap.size w' l 101 3 A' (css.length+1) cap' ((css.take i).flatten++c++(css.drop i).flatten)):=by
 obtain⟨f1,f2⟩:=ho.fit;have hM:cap<=9223372036854775807:=zo f2 (by decide);have hlen:=hF.len;generalize hnn:css.length=n at*;refine vE Tryz.func236 ?_;refine⟨⟨by omega,by omega,by omega,by omega⟩,?_⟩;rcases zl i n with hlt | hge;rotate_left
 ·have hin:i=n:=by omega
  subst hin;refine B0 (by show ((i:Int)==(i:Int))=true;simp) ?_;refine R0 Tryz.underlying38 A1z rfl (by decide) hc ho (ys:=c) (by rw [hcl]) (hc.cells kv hkv) hc1 (by omega) (by decide) ?_;intro A' cap' w1 hc1 hf ho _;refine⟨A',cap',rfl,hc1,hf,?_⟩;rw [List.take_of_length_le (by omega),zq (by omega),List.flatten_nil,zw];exact ho
 refine C3X (by show ((i:Int)==(n:Int))=false;rw [y4];omega) ?_;cases hA:A with
 | none=>
  obtain⟨h0,_⟩:=ho.none' hA;omega
 | some a=>
 obtain⟨g,cur,e1,hc,hcur,hct,_,_⟩:=ho.opened hc hA;rw [hA] at e1;cases e1;have hkv1:((g,101,cur)::l)[kv+1]?=some (vb,101,c):=by simpa using hkv
 have hne:vb≠g:=(ho.out _ hA).2 _ (List.mem_of_getElem? hkv);have hw1:IntKind.i64.wrap ((n:Int)+((1:Nat):Int))=(n:Int)+1:=E0 _ _ (by omega) (by omega);have hwi:IntKind.i64.wrap ((i:Int)+((1:Nat):Int))=(i:Int)+1:=E0 _ _ (by omega) (by omega);have htl:(css.take i).flatten.length=i*3:=by rw [(hF.take _).len,zf];omega
 have hdl:(css.drop i).flatten.length=(n-i)*3:=by rw [(hF.drop _).len,zg];omega
 have htake:cur.take (i*3)=(css.take i).flatten:=by rw [hF.flat_take,<-hct,List.take_take];congr 1;omega
 have hdrop:(cur.drop (i*3)).take (css.drop i).flatten.length=(css.drop i).flatten:=by rw [hF.flat_drop,<-hct,List.drop_take,zf,zg,hcur];congr 1;omega
 refine⟨_,fun w=>A9s Tryz.underlying38 _ _ _ w,?_⟩;rcases zl cap (n+1) with hroom | hroom
 ·refine dt (by rw [hw1];omega) ?_;have hfe:(if (cap:Int)=0 then some (⟨g,0,none⟩:Addr) else (some (⟨g,0,none⟩:Addr)).map (·.add ((0:Int).toNat*3)))=some ⟨g,0,none⟩:=W2 _ _ _;refine⟨⟨by omega,by omega,by omega,by omega⟩,?_⟩;have hkk:IntKind.i64.wrap (IntKind.i64.wrap ((n:Int)+((1:Nat):Int))-(i:Int))=((n+1-i:Nat):Int):=by rw [hw1,IntWalk.i64_in _ ⟨by omega,by omega⟩];omega
  refine A4u Tryz.underlying38 Tryz.underlying3 A1z rfl (by decide) hc hcur (n:=i) (k:=n+1-i) (kq:=.i64) (by omega) (by omega) (by omega) (by omega) (by decide) ?_ (y5 _ hkk) ?_
  ·show Value.slice (if (cap:Int)=0 then some (⟨g,0,none⟩:Addr) else (some (⟨g,0,none⟩:Addr)).map (·.add ((0:Int).toNat*3))) ((i:Int)-0).toNat ((cap:Int)-0).toNat=_;rw [hfe];congr 1<;>omega
  intro g2 cap2 cur2 w2 hc hf2 hcl2 hcap2 hmx2 htk2;have hkv2:((g2,101,cur2)::(g,101,cur)::l)[kv+2]?=some (vb,101,c):=by simpa using hkv
  have hlen2:i+(n+1-i)=n+1:=by omega
  have hM2:cap2<=9223372036854775807:=zo hmx2 (by decide);refine⟨⟨by omega,by omega,by omega,by omega⟩,?_⟩;refine N9 Tryz.underlying38 A1z (da:=⟨g2,i*3,none⟩) (sa:=⟨vb,0,none⟩) (dn:=n+1-i) (dc:=cap2-i) (sn:=1) (sc:=1) (xs:=c) (by rw [hcl,show Nat.min 1 (n+1-i)=1 from Nat.min_eq_left (by omega)]) (hc.cells (kv+2) hkv2) (hc.may 0 rfl _ _ (by rw [hcl2,hcl];omega) hc1) ?_ rfl ?_
  ·show Value.slice (if (cap2:Int)=(i:Int) then some (⟨g2,0,none⟩:Addr) else (some (⟨g2,0,none⟩:Addr)).map (·.add ((i:Int).toNat*3))) (((i+(n+1-i):Nat):Int)-(i:Int)).toNat ((cap2:Int)-(i:Int)).toNat=_;rw [Y9 g2 cap2 3 (i:Int) i rfl (by omega)];congr 1<;>omega
  intro w3 h3;have hC3:=hc.set 0 rfl h3;have hc:=hC3.1;have hl3:(C0 cur2 (i*3) c).length=cap2*3:=by rw [putAt_len,hcl2]
  refine vD (.Q [0,1,2,3,4,5,6,7] (.n 8 .fin .stop)) (fun _=>True) trivial ?_;have hc:=hc.drew;refine⟨⟨by rw [hwi];omega,by rw [hwi];omega,by omega,by omega⟩,?_⟩;refine⟨⟨by omega,by omega,by omega,by omega⟩,?_⟩;refine⟨N9 Tryz.underlying38 A1z (da:=⟨g2,(i+1)*3,none⟩) (sa:=⟨g,i*3,none⟩) (dn:=n-i) (dc:=cap2-(i+1)) (sn:=n-i) (sc:=cap-i) (xs:=(css.drop i).flatten) (by rw [show Nat.min (n-i) (n-i)=n-i from Nat.min_self _,hdl]) (hc.cellsAt 1 rfl _ _ hdrop) (hc.may 0 rfl _ _ (by rw [hdl,hl3,<-Nat.add_mul];exact Nat.mul_le_mul_right _ (by omega)) (hF.drop _).ones) ?_ ?_ ?_,trivial⟩
  ·show Value.slice (if (cap2:Int)=(IntKind.i64.wrap ((i:Int)+((1:Nat):Int))) then some (⟨g2,0,none⟩:Addr) else (some (⟨g2,0,none⟩:Addr)).map (·.add ((IntKind.i64.wrap ((i:Int)+((1:Nat):Int))).toNat*3))) (((i+(n+1-i):Nat):Int)-(IntKind.i64.wrap ((i:Int)+((1:Nat):Int)))).toNat ((cap2:Int)-(IntKind.i64.wrap ((i:Int)+((1:Nat):Int)))).toNat=_;rw [Y9 g2 cap2 3 (IntKind.i64.wrap ((i:Int)+((1:Nat):Int))) (i+1) (by rw [hwi];rfl) (by omega),hwi];congr 1<;>omega
  ·show Value.slice (if (cap:Int)=(i:Int) then some (⟨g,0,none⟩:Addr) else (some (⟨g,0,none⟩:Addr)).map (·.add ((i:Int).toNat*3))) ((n:Int)-(i:Int)).toNat ((cap:Int)-(i:Int)).toNat=_;rw [Y9 g cap 3 (i:Int) i rfl (by omega)];congr 1<;>omega
  intro w4 h4;refine⟨trivial,?_⟩;have hC4:=hc.set 0 rfl h4;have hc:=hC4.1;have hput:=E5 c cur2 (i*3) (by rw [hcl2,hcl];omega);have hput2:=E5 (css.drop i).flatten (C0 cur2 (i*3) c) ((i+1)*3) (by rw [hdl,hl3,<-Nat.add_mul];exact Nat.mul_le_mul_right _ (by omega));have hfin:(C0 (C0 cur2 (i*3) c) ((i+1)*3) (css.drop i).flatten).take ((n+1)*3)=(css.take i).flatten++c++(css.drop i).flatten:=by
   have e1:(C0 cur2 (i*3) c).take ((i+1)*3)=(css.take i).flatten++c:=by rw [hput,htk2,htake,List.take_left' (by rw [z6,htl,hcl];omega)]
   rw [hput2,e1,List.take_left' (by rw [z6,z6,htl,hcl,hdl];omega)]
  obtain⟨hc,ho⟩:=Ctx.closed hc 3 (n+1) cap2 (by omega) hmx2 (by rw [putAt_len,hl3]);rw [hfin] at ho;refine⟨some ⟨g2,0,none⟩,cap2,?_,hc.drop,hf2.trans (hC3.2.trans hC4.2),ho.drop⟩;show Ending.returned (.slice (some ⟨g2,0,none⟩) (i+(n+1-i)) cap2)=_;rw [hlen2]
 ·refine df (by rw [hw1];omega) ?_;have hcapi:(((cap:Int)-0).toNat:Int)=cap:=by omega
  have hlen1:((IntKind.i64.wrap ((n:Int)+((1:Nat):Int))-0).toNat:Int)=n+1:=by rw [hw1];omega
  refine⟨⟨by omega,by rw [hw1];omega,by rw [hw1];omega,by omega⟩,?_⟩;have hfe:(if (cap:Int)=0 then some (⟨g,0,none⟩:Addr) else (some (⟨g,0,none⟩:Addr)).map (·.add ((0:Int).toNat*3)))=some ⟨g,0,none⟩:=W2 _ _ _;refine⟨⟨by rw [hwi];omega,by rw [hwi,hw1];omega,by rw [hw1];omega,by omega⟩,?_⟩;have hB1:=hc.blk 0 rfl;have hBv:=hc.blk (kv+1) hkv1;refine⟨_,_,B0G w vb g _ _ 1 1 (n-i) (cap-(i+1)) ⟨g,(i+1)*3,none⟩ c cur hBv hB1 rfl hne (by rw [hcur];omega) (ey:=?ey),?_⟩
  case ey=>
   show Value.slice (if (((cap:Int)-0).toNat:Int)=(IntKind.i64.wrap ((i:Int)+((1:Nat):Int))) then (if (cap:Int)=0 then some (⟨g,0,none⟩:Addr) else (some (⟨g,0,none⟩:Addr)).map (·.add ((0:Int).toNat*3))) else (if (cap:Int)=0 then some (⟨g,0,none⟩:Addr) else (some (⟨g,0,none⟩:Addr)).map (·.add ((0:Int).toNat*3))).map (·.add ((IntKind.i64.wrap ((i:Int)+((1:Nat):Int))).toNat*3))) (((IntKind.i64.wrap ((n:Int)+((1:Nat):Int))-0).toNat:Int)-(IntKind.i64.wrap ((i:Int)+((1:Nat):Int)))).toNat ((((cap:Int)-0).toNat:Int)-(IntKind.i64.wrap ((i:Int)+((1:Nat):Int)))).toNat=_;rw [hwi,hcapi,hlen1,hfe,y7 (by omega),Option.map_some,Addr.add_lit,zm,show ((i:Int)+1).toNat=i+1 by omega];congr 1<;>omega
  refine vD (.Q [0,1,2,3,4,5,6,7] (.n 8 .fin .stop)) (fun _=>True) trivial ?_;have hc:=hc.drew;refine⟨⟨by rw [hwi];omega,by rw [hwi,hw1];omega,by rw [hw1];omega,by omega⟩,?_⟩;refine⟨⟨by omega,by rw [hw1];omega,by rw [hw1];omega,by omega⟩,?_⟩;refine⟨?_,trivial⟩;have hmn:Nat.min (n+1-i) (n-i)=n-i:=Nat.min_eq_right (by omega);refine N9 Tryz.underlying38 A1z (da:=⟨g,(i+1)*3,none⟩) (sa:=⟨g,i*3,none⟩) (dn:=n-i) (dc:=cap-(i+1)) (sn:=n+1-i) (sc:=cap-i) (xs:=(css.drop i).flatten) (by rw [hmn,hdl]) (hc.cellsAt 0 rfl _ _ hdrop) (hc.may 0 rfl _ _ (by rw [hdl,hcur,<-Nat.add_mul];exact Nat.mul_le_mul_right _ (by omega)) (hF.drop _).ones) ?_ ?_ ?_
  ·show Value.slice (if (((cap:Int)-0).toNat:Int)=(IntKind.i64.wrap ((i:Int)+((1:Nat):Int))) then (if (cap:Int)=0 then some (⟨g,0,none⟩:Addr) else (some (⟨g,0,none⟩:Addr)).map (·.add ((0:Int).toNat*3))) else (if (cap:Int)=0 then some (⟨g,0,none⟩:Addr) else (some (⟨g,0,none⟩:Addr)).map (·.add ((0:Int).toNat*3))).map (·.add ((IntKind.i64.wrap ((i:Int)+((1:Nat):Int))).toNat*3))) (((IntKind.i64.wrap ((n:Int)+((1:Nat):Int))-0).toNat:Int)-(IntKind.i64.wrap ((i:Int)+((1:Nat):Int)))).toNat ((((cap:Int)-0).toNat:Int)-(IntKind.i64.wrap ((i:Int)+((1:Nat):Int)))).toNat=_;rw [hwi,hcapi,hlen1,hfe,y7 (by omega),Option.map_some,Addr.add_lit,zm,show ((i:Int)+1).toNat=i+1 by omega];congr 1<;>omega
  ·show Value.slice (if (((cap:Int)-0).toNat:Int)=(i:Int) then (if (cap:Int)=0 then some (⟨g,0,none⟩:Addr) else (some (⟨g,0,none⟩:Addr)).map (·.add ((0:Int).toNat*3))) else (if (cap:Int)=0 then some (⟨g,0,none⟩:Addr) else (some (⟨g,0,none⟩:Addr)).map (·.add ((0:Int).toNat*3))).map (·.add ((i:Int).toNat*3))) (((IntKind.i64.wrap ((n:Int)+((1:Nat):Int))-0).toNat:Int)-(i:Int)).toNat ((((cap:Int)-0).toNat:Int)-(i:Int)).toNat=_;rw [hcapi,hlen1,hfe,y7 (by omega),Option.map_some,Addr.add_lit,zm,zh];congr 1<;>omega
  intro w2 h2;refine⟨trivial,?_⟩;have hC:=hc.set 0 rfl h2;have hc:=hC.1;refine⟨⟨by omega,by rw [hw1];omega,by rw [hw1];omega,by omega⟩,?_⟩;have hkv2:(F4 ((g,101,cur)::l) 0 (C0 cur ((i+1)*3) (css.drop i).flatten))[kv+1]?=some (vb,101,c):=hkv1;have hl2:(C0 cur ((i+1)*3) (css.drop i).flatten).length=cap*3:=by rw [putAt_len,hcur]
  have hput:C0 cur ((i+1)*3) (css.drop i).flatten=cur.take ((i+1)*3)++(css.drop i).flatten++cur.drop ((i+1)*3+(css.drop i).flatten.length):=E5 _ _ _ (by rw [hdl,hcur,<-Nat.add_mul];exact Nat.mul_le_mul_right _ (by omega));refine N9 Tryz.underlying38 A1z (da:=⟨g,i*3,none⟩) (sa:=⟨vb,0,none⟩) (dn:=n+1-i) (dc:=cap-i) (sn:=1) (sc:=1) (xs:=c) (by rw [hcl,show Nat.min 1 (n+1-i)=1 from Nat.min_eq_left (by omega)]) (hc.cells (kv+1) hkv2) (hc.may 0 rfl _ _ (by rw [hl2,hcl];omega) hc1) ?_ rfl ?_
  ·show Value.slice (if (((cap:Int)-0).toNat:Int)=(i:Int) then (if (cap:Int)=0 then some (⟨g,0,none⟩:Addr) else (some (⟨g,0,none⟩:Addr)).map (·.add ((0:Int).toNat*3))) else (if (cap:Int)=0 then some (⟨g,0,none⟩:Addr) else (some (⟨g,0,none⟩:Addr)).map (·.add ((0:Int).toNat*3))).map (·.add ((i:Int).toNat*3))) (((IntKind.i64.wrap ((n:Int)+((1:Nat):Int))-0).toNat:Int)-(i:Int)).toNat ((((cap:Int)-0).toNat:Int)-(i:Int)).toNat=_;rw [hcapi,hlen1,hfe,y7 (by omega),Option.map_some,Addr.add_lit,zm,zh];congr 1<;>omega
  intro w3 h3;have hC3:=hc.set 0 rfl h3;have hc:=hC3.1;have hput2:=E5 c (C0 cur ((i+1)*3) (css.drop i).flatten) (i*3) (by rw [hl2,hcl];omega);have hfin:(C0 (C0 cur ((i+1)*3) (css.drop i).flatten) (i*3) c).take ((n+1)*3)=(css.take i).flatten++c++(css.drop i).flatten:=by
   have e1:(C0 cur ((i+1)*3) (css.drop i).flatten).take (i*3)=(css.take i).flatten:=by rw [hput,zv,List.take_append_of_le_length (by rw [zf,hcur];omega),List.take_take,Nat.min_eq_left (by omega),htake]
   have e2:(C0 cur ((i+1)*3) (css.drop i).flatten).drop (i*3+c.length)=(css.drop i).flatten++cur.drop ((i+1)*3+(css.drop i).flatten.length):=by rw [hput,zv,List.drop_left' (by rw [zf,hcur,hcl];omega)]
   rw [hput2,e1,e2,<-zv,List.take_left' (by rw [z6,z6,htl,hcl,hdl];omega)]
  obtain⟨hc,ho⟩:=Ctx.closed hc 3 (n+1) cap hroom f2 (by rw [putAt_len,hl2]);rw [hfin] at ho;refine⟨some ⟨g,0,none⟩,cap,?_,hc,((Fut.refl S w).trans ⟨fun _ h=>h,fun _ _=>rfl⟩).trans (hC.2.trans hC3.2),ho⟩;show Ending.returned (.slice (if (cap:Int)=0 then some (⟨g,0,none⟩:Addr) else (some (⟨g,0,none⟩:Addr)).map (·.add ((0:Int).toNat*3))) (IntKind.i64.wrap ((n:Int)+((1:Nat):Int))-0).toNat ((cap:Int)-0).toNat)=_;have e1:(IntKind.i64.wrap ((n:Int)+((1:Nat):Int))-0).toNat=n+1:=by rw [hw1];omega
  have e2:((cap:Int)-0).toNat=cap:=by omega
  rw [hfe,e1,e2]
theorem B0H (w:World) (vb g T T' la ca lb cb:Nat) (b:Addr) (c cur:List Value) (hv:Blk w vb T c) (hg:Blk w g T' cur) (hb:b.block=g) (hne:vb≠g) (hcur:cur.length≠0) {y:Value} (ey:y=.slice (some b) lb cb):
  (callFunc 295 #[.slice (some ⟨vb,0,none⟩) la ca,y]).run Tryz.prog w=.ok (.value (.bool false)) w:=by
 subst ey;rw [run_callFunc_extern Tryz.func295 (by kernel_rfl) (by kernel_rfl) (by kernel_rfl) (show Extern.find _=some (Extern.SlicesOverlaps.overlaps #[37,37] #[4]) by kernel_rfl)];rw [Lib.run_overlaps_apart w 37 4 99 Tryz.underlying37 2 (fun w=>by kernel_rfl) ⟨vb,0,none⟩ b la ca lb cb (by rw [hb];exact hne) T T' c.length cur.length (Blk.shape hv) (by rw [hb];exact Blk.shape hg) hcur (hv.frozen 0) (hv.frozen c.length)];rfl
theorem A12 {S0 S:Nat->Prop} {w0 w:World} {l:List LB} (hc:Ctx S0 w0 S w l) (css:List (List Value)) (hF:Flat 2 css) (hn:css.length<=1000000) {A:Option Addr} {cap:Nat} (ho:Own S w0.heap.size w l 99 2 A css.length cap css.flatten)
  (i:Nat) (hi:i<=css.length) (kv vb:Nat) (c:List Value) (hkv:l[kv]?=some (vb,99,c)) (hcl:c.length=2) (hc1:D7 c=true):
  Calls Tryz.prog 272 #[.slice A css.length cap,.int .i64 i,.slice (some ⟨vb,0,none⟩) 1 1] w (fun en w'=>∃ A' cap',en=.returned (.slice A' (css.length+1) cap')/\Ctx S0 w0 S w' l/\Fut S w S w'/\Own S w0.heap.size w' l 99 2 A' (css.length+1) cap' ((css.take i).flatten++c++(css.drop i).flatten)):=by
 obtain⟨f1,f2⟩:=ho.fit;have hM:cap<=9223372036854775807:=zo f2 (by decide);have hlen:=hF.len;generalize hnn:css.length=n at*;refine vE Tryz.func272 ?_;refine⟨⟨by omega,by omega,by omega,by omega⟩,?_⟩;rcases zl i n with hlt | hge;rotate_left
 ·have hin:i=n:=by omega
  subst hin;refine B0 (by show ((i:Int)==(i:Int))=true;simp) ?_;refine R0 Tryz.underlying37 A03 rfl (by decide) hc ho (ys:=c) (by rw [hcl]) (hc.cells kv hkv) hc1 (by omega) (by decide) ?_;intro A' cap' w1 hc1 hf ho _;refine⟨A',cap',rfl,hc1,hf,?_⟩;rw [List.take_of_length_le (by omega),zq (by omega),List.flatten_nil,zw];exact ho
 refine C3X (by show ((i:Int)==(n:Int))=false;rw [y4];omega) ?_;cases hA:A with
 | none=>
  obtain⟨h0,_⟩:=ho.none' hA;omega
 | some a=>
 obtain⟨g,cur,e1,hc,hcur,hct,_,_⟩:=ho.opened hc hA;rw [hA] at e1;cases e1;have hkv1:((g,99,cur)::l)[kv+1]?=some (vb,99,c):=by simpa using hkv
 have hne:vb≠g:=(ho.out _ hA).2 _ (List.mem_of_getElem? hkv);have hw1:IntKind.i64.wrap ((n:Int)+((1:Nat):Int))=(n:Int)+1:=E0 _ _ (by omega) (by omega);have hwi:IntKind.i64.wrap ((i:Int)+((1:Nat):Int))=(i:Int)+1:=E0 _ _ (by omega) (by omega);have htl:(css.take i).flatten.length=i*2:=by rw [(hF.take _).len,zf];omega
 have hdl:(css.drop i).flatten.length=(n-i)*2:=by rw [(hF.drop _).len,zg];omega
 have htake:cur.take (i*2)=(css.take i).flatten:=by rw [hF.flat_take,<-hct,List.take_take];congr 1;omega
 have hdrop:(cur.drop (i*2)).take (css.drop i).flatten.length=(css.drop i).flatten:=by rw [hF.flat_drop,<-hct,List.drop_take,zf,zg,hcur];congr 1;omega
 refine⟨_,fun w=>A9s Tryz.underlying37 _ _ _ w,?_⟩;rcases zl cap (n+1) with hroom | hroom
 ·refine dt (by rw [hw1];omega) ?_;have hfe:(if (cap:Int)=0 then some (⟨g,0,none⟩:Addr) else (some (⟨g,0,none⟩:Addr)).map (·.add ((0:Int).toNat*2)))=some ⟨g,0,none⟩:=W2 _ _ _;refine⟨⟨by omega,by omega,by omega,by omega⟩,?_⟩;have hkk:IntKind.i64.wrap (IntKind.i64.wrap ((n:Int)+((1:Nat):Int))-(i:Int))=((n+1-i:Nat):Int):=by rw [hw1,IntWalk.i64_in _ ⟨by omega,by omega⟩];omega
  refine A4u Tryz.underlying37 Tryz.underlying3 A03 rfl (by decide) hc hcur (n:=i) (k:=n+1-i) (kq:=.i64) (by omega) (by omega) (by omega) (by omega) (by decide) ?_ (y5 _ hkk) ?_
  ·show Value.slice (if (cap:Int)=0 then some (⟨g,0,none⟩:Addr) else (some (⟨g,0,none⟩:Addr)).map (·.add ((0:Int).toNat*2))) ((i:Int)-0).toNat ((cap:Int)-0).toNat=_;rw [hfe];congr 1<;>omega
  intro g2 cap2 cur2 w2 hc hf2 hcl2 hcap2 hmx2 htk2;have hkv2:((g2,99,cur2)::(g,99,cur)::l)[kv+2]?=some (vb,99,c):=by simpa using hkv
  have hlen2:i+(n+1-i)=n+1:=by omega
  have hM2:cap2<=9223372036854775807:=zo hmx2 (by decide);refine⟨⟨by omega,by omega,by omega,by omega⟩,?_⟩;refine N9 Tryz.underlying37 A03 (da:=⟨g2,i*2,none⟩) (sa:=⟨vb,0,none⟩) (dn:=n+1-i) (dc:=cap2-i) (sn:=1) (sc:=1) (xs:=c) (by rw [hcl,show Nat.min 1 (n+1-i)=1 from Nat.min_eq_left (by omega)]) (hc.cells (kv+2) hkv2) (hc.may 0 rfl _ _ (by rw [hcl2,hcl];omega) hc1) ?_ rfl ?_
  ·show Value.slice (if (cap2:Int)=(i:Int) then some (⟨g2,0,none⟩:Addr) else (some (⟨g2,0,none⟩:Addr)).map (·.add ((i:Int).toNat*2))) (((i+(n+1-i):Nat):Int)-(i:Int)).toNat ((cap2:Int)-(i:Int)).toNat=_;rw [Y9 g2 cap2 2 (i:Int) i rfl (by omega)];congr 1<;>omega
  intro w3 h3;have hC3:=hc.set 0 rfl h3;have hc:=hC3.1;have hl3:(C0 cur2 (i*2) c).length=cap2*2:=by rw [putAt_len,hcl2]
  refine vD (.Q [0,1,2,3,4,5,6,7] (.n 8 .fin .stop)) (fun _=>True) trivial ?_;have hc:=hc.drew;refine⟨⟨by rw [hwi];omega,by rw [hwi];omega,by omega,by omega⟩,?_⟩;refine⟨⟨by omega,by omega,by omega,by omega⟩,?_⟩;refine⟨N9 Tryz.underlying37 A03 (da:=⟨g2,(i+1)*2,none⟩) (sa:=⟨g,i*2,none⟩) (dn:=n-i) (dc:=cap2-(i+1)) (sn:=n-i) (sc:=cap-i) (xs:=(css.drop i).flatten) (by rw [show Nat.min (n-i) (n-i)=n-i from Nat.min_self _,hdl]) (hc.cellsAt 1 rfl _ _ hdrop) (hc.may 0 rfl _ _ (by rw [hdl,hl3,<-Nat.add_mul];exact Nat.mul_le_mul_right _ (by omega)) (hF.drop _).ones) ?_ ?_ ?_,trivial⟩
  ·show Value.slice (if (cap2:Int)=(IntKind.i64.wrap ((i:Int)+((1:Nat):Int))) then some (⟨g2,0,none⟩:Addr) else (some (⟨g2,0,none⟩:Addr)).map (·.add ((IntKind.i64.wrap ((i:Int)+((1:Nat):Int))).toNat*2))) (((i+(n+1-i):Nat):Int)-(IntKind.i64.wrap ((i:Int)+((1:Nat):Int)))).toNat ((cap2:Int)-(IntKind.i64.wrap ((i:Int)+((1:Nat):Int)))).toNat=_;rw [Y9 g2 cap2 2 (IntKind.i64.wrap ((i:Int)+((1:Nat):Int))) (i+1) (by rw [hwi];rfl) (by omega),hwi];congr 1<;>omega
  ·show Value.slice (if (cap:Int)=(i:Int) then some (⟨g,0,none⟩:Addr) else (some (⟨g,0,none⟩:Addr)).map (·.add ((i:Int).toNat*2))) ((n:Int)-(i:Int)).toNat ((cap:Int)-(i:Int)).toNat=_;rw [Y9 g cap 2 (i:Int) i rfl (by omega)];congr 1<;>omega
  intro w4 h4;refine⟨trivial,?_⟩;have hC4:=hc.set 0 rfl h4;have hc:=hC4.1;have hput:=E5 c cur2 (i*2) (by rw [hcl2,hcl];omega);have hput2:=E5 (css.drop i).flatten (C0 cur2 (i*2) c) ((i+1)*2) (by rw [hdl,hl3,<-Nat.add_mul];exact Nat.mul_le_mul_right _ (by omega));have hfin:(C0 (C0 cur2 (i*2) c) ((i+1)*2) (css.drop i).flatten).take ((n+1)*2)=(css.take i).flatten++c++(css.drop i).flatten:=by
   have e1:(C0 cur2 (i*2) c).take ((i+1)*2)=(css.take i).flatten++c:=by rw [hput,htk2,htake,List.take_left' (by rw [z6,htl,hcl];omega)]
   rw [hput2,e1,List.take_left' (by rw [z6,z6,htl,hcl,hdl];omega)]
  obtain⟨hc,ho⟩:=Ctx.closed hc 2 (n+1) cap2 (by omega) hmx2 (by rw [putAt_len,hl3]);rw [hfin] at ho;refine⟨some ⟨g2,0,none⟩,cap2,?_,hc.drop,hf2.trans (hC3.2.trans hC4.2),ho.drop⟩;show Ending.returned (.slice (some ⟨g2,0,none⟩) (i+(n+1-i)) cap2)=_;rw [hlen2]
 ·refine df (by rw [hw1];omega) ?_;have hcapi:(((cap:Int)-0).toNat:Int)=cap:=by omega
  have hlen1:((IntKind.i64.wrap ((n:Int)+((1:Nat):Int))-0).toNat:Int)=n+1:=by rw [hw1];omega
  refine⟨⟨by omega,by rw [hw1];omega,by rw [hw1];omega,by omega⟩,?_⟩;have hfe:(if (cap:Int)=0 then some (⟨g,0,none⟩:Addr) else (some (⟨g,0,none⟩:Addr)).map (·.add ((0:Int).toNat*2)))=some ⟨g,0,none⟩:=W2 _ _ _;refine⟨⟨by rw [hwi];omega,by rw [hwi,hw1];omega,by rw [hw1];omega,by omega⟩,?_⟩;have hB1:=hc.blk 0 rfl;have hBv:=hc.blk (kv+1) hkv1;refine⟨_,_,B0H w vb g _ _ 1 1 (n-i) (cap-(i+1)) ⟨g,(i+1)*2,none⟩ c cur hBv hB1 rfl hne (by rw [hcur];omega) (ey:=?ey),?_⟩
  case ey=>
   show Value.slice (if (((cap:Int)-0).toNat:Int)=(IntKind.i64.wrap ((i:Int)+((1:Nat):Int))) then (if (cap:Int)=0 then some (⟨g,0,none⟩:Addr) else (some (⟨g,0,none⟩:Addr)).map (·.add ((0:Int).toNat*2))) else (if (cap:Int)=0 then some (⟨g,0,none⟩:Addr) else (some (⟨g,0,none⟩:Addr)).map (·.add ((0:Int).toNat*2))).map (·.add ((IntKind.i64.wrap ((i:Int)+((1:Nat):Int))).toNat*2))) (((IntKind.i64.wrap ((n:Int)+((1:Nat):Int))-0).toNat:Int)-(IntKind.i64.wrap ((i:Int)+((1:Nat):Int)))).toNat ((((cap:Int)-0).toNat:Int)-(IntKind.i64.wrap ((i:Int)+((1:Nat):Int)))).toNat=_;rw [hwi,hcapi,hlen1,hfe,y7 (by omega),Option.map_some,Addr.add_lit,zm,show ((i:Int)+1).toNat=i+1 by omega];congr 1<;>omega
  refine vD (.Q [0,1,2,3,4,5,6,7] (.n 8 .fin .stop)) (fun _=>True) trivial ?_;have hc:=hc.drew;refine⟨⟨by rw [hwi];omega,by rw [hwi,hw1];omega,by rw [hw1];omega,by omega⟩,?_⟩;refine⟨⟨by omega,by rw [hw1];omega,by rw [hw1];omega,by omega⟩,?_⟩;refine⟨?_,trivial⟩;have hmn:Nat.min (n+1-i) (n-i)=n-i:=Nat.min_eq_right (by omega);refine N9 Tryz.underlying37 A03 (da:=⟨g,(i+1)*2,none⟩) (sa:=⟨g,i*2,none⟩) (dn:=n-i) (dc:=cap-(i+1)) (sn:=n+1-i) (sc:=cap-i) (xs:=(css.drop i).flatten) (by rw [hmn,hdl]) (hc.cellsAt 0 rfl _ _ hdrop) (hc.may 0 rfl _ _ (by rw [hdl,hcur,<-Nat.add_mul];exact Nat.mul_le_mul_right _ (by omega)) (hF.drop _).ones) ?_ ?_ ?_
  ·show Value.slice (if (((cap:Int)-0).toNat:Int)=(IntKind.i64.wrap ((i:Int)+((1:Nat):Int))) then (if (cap:Int)=0 then some (⟨g,0,none⟩:Addr) else (some (⟨g,0,none⟩:Addr)).map (·.add ((0:Int).toNat*2))) else (if (cap:Int)=0 then some (⟨g,0,none⟩:Addr) else (some (⟨g,0,none⟩:Addr)).map (·.add ((0:Int).toNat*2))).map (·.add ((IntKind.i64.wrap ((i:Int)+((1:Nat):Int))).toNat*2))) (((IntKind.i64.wrap ((n:Int)+((1:Nat):Int))-0).toNat:Int)-(IntKind.i64.wrap ((i:Int)+((1:Nat):Int)))).toNat ((((cap:Int)-0).toNat:Int)-(IntKind.i64.wrap ((i:Int)+((1:Nat):Int)))).toNat=_;rw [hwi,hcapi,hlen1,hfe,y7 (by omega),Option.map_some,Addr.add_lit,zm,show ((i:Int)+1).toNat=i+1 by omega];congr 1<;>omega
  ·show Value.slice (if (((cap:Int)-0).toNat:Int)=(i:Int) then (if (cap:Int)=0 then some (⟨g,0,none⟩:Addr) else (some (⟨g,0,none⟩:Addr)).map (·.add ((0:Int).toNat*2))) else (if (cap:Int)=0 then some (⟨g,0,none⟩:Addr) else (some (⟨g,0,none⟩:Addr)).map (·.add ((0:Int).toNat*2))).map (·.add ((i:Int).toNat*2))) (((IntKind.i64.wrap ((n:Int)+((1:Nat):Int))-0).toNat:Int)-(i:Int)).toNat ((((cap:Int)-0).toNat:Int)-(i:Int)).toNat=_;rw [hcapi,hlen1,hfe,y7 (by omega),Option.map_some,Addr.add_lit,zm,zh];congr 1<;>omega
  intro w2 h2;refine⟨trivial,?_⟩;have hC:=hc.set 0 rfl h2;have hc:=hC.1;refine⟨⟨by omega,by rw [hw1];omega,by rw [hw1];omega,by omega⟩,?_⟩;have hkv2:(F4 ((g,99,cur)::l) 0 (C0 cur ((i+1)*2) (css.drop i).flatten))[kv+1]?=some (vb,99,c):=hkv1;have hl2:(C0 cur ((i+1)*2) (css.drop i).flatten).length=cap*2:=by rw [putAt_len,hcur]
  have hput:C0 cur ((i+1)*2) (css.drop i).flatten=cur.take ((i+1)*2)++(css.drop i).flatten++cur.drop ((i+1)*2+(css.drop i).flatten.length):=E5 _ _ _ (by rw [hdl,hcur,<-Nat.add_mul];exact Nat.mul_le_mul_right _ (by omega));refine N9 Tryz.underlying37 A03 (da:=⟨g,i*2,none⟩) (sa:=⟨vb,0,none⟩) (dn:=n+1-i) (dc:=cap-i) (sn:=1) (sc:=1) (xs:=c) (by rw [hcl,show Nat.min 1 (n+1-i)=1 from Nat.min_eq_left (by omega)]) (hc.cells (kv+1) hkv2) (hc.may 0 rfl _ _ (by rw [hl2,hcl];omega) hc1) ?_ rfl ?_
  ·show Value.slice (if (((cap:Int)-0).toNat:Int)=(i:Int) then (if (cap:Int)=0 then some (⟨g,0,none⟩:Addr) else (some (⟨g,0,none⟩:Addr)).map (·.add ((0:Int).toNat*2))) else (if (cap:Int)=0 then some (⟨g,0,none⟩:Addr) else (some (⟨g,0,none⟩:Addr)).map (·.add ((0:Int).toNat*2))).map (·.add ((i:Int).toNat*2))) (((IntKind.i64.wrap ((n:Int)+((1:Nat):Int))-0).toNat:Int)-(i:Int)).toNat ((((cap:Int)-0).toNat:Int)-(i:Int)).toNat=_;rw [hcapi,hlen1,hfe,y7 (by omega),Option.map_some,Addr.add_lit,zm,zh];congr 1<;>omega
  intro w3 h3;have hC3:=hc.set 0 rfl h3;have hc:=hC3.1;have hput2:=E5 c (C0 cur ((i+1)*2) (css.drop i).flatten) (i*2) (by rw [hl2,hcl];omega);have hfin:(C0 (C0 cur ((i+1)*2) (css.drop i).flatten) (i*2) c).take ((n+1)*2)=(css.take i).flatten++c++(css.drop i).flatten:=by
   have e1:(C0 cur ((i+1)*2) (css.drop i).flatten).take (i*2)=(css.take i).flatten:=by rw [hput,zv,List.take_append_of_le_length (by rw [zf,hcur];omega),List.take_take,Nat.min_eq_left (by omega),htake]
   have e2:(C0 cur ((i+1)*2) (css.drop i).flatten).drop (i*2+c.length)=(css.drop i).flatten++cur.drop ((i+1)*2+(css.drop i).flatten.length):=by rw [hput,zv,List.drop_left' (by rw [zf,hcur,hcl];omega)]
   rw [hput2,e1,e2,<-zv,List.take_left' (by rw [z6,z6,htl,hcl,hdl];omega)]
  obtain⟨hc,ho⟩:=Ctx.closed hc 2 (n+1) cap hroom f2 (by rw [putAt_len,hl2]);rw [hfin] at ho;refine⟨some ⟨g,0,none⟩,cap,?_,hc,((Fut.refl S w).trans ⟨fun _ h=>h,fun _ _=>rfl⟩).trans (hC.2.trans hC3.2),ho⟩;show Ending.returned (.slice (if (cap:Int)=0 then some (⟨g,0,none⟩:Addr) else (some (⟨g,0,none⟩:Addr)).map (·.add ((0:Int).toNat*2))) (IntKind.i64.wrap ((n:Int)+((1:Nat):Int))-0).toNat ((cap:Int)-0).toNat)=_;have e1:(IntKind.i64.wrap ((n:Int)+((1:Nat):Int))-0).toNat=n+1:=by rw [hw1];omega
  have e2:((cap:Int)-0).toNat=cap:=by omega
  rw [hfe,e1,e2]
def A7P (p:Mem->Bool):List Mem->Option Nat
 | []=>none
 | m::r=>if p m then some 0 else (A7P p r).map (·+1)
theorem A5A (p:Mem->Bool):∀ l:List Mem,(∀ j (h:j<l.length),p l[j]=false)->A7P p l=none
 | [],_=>rfl
 | m::r,h=>by have h0:p m=false:=h 0 (by simp);rw [A7P,h0,A5A p r (fun j hj=>h (j+1) (by simpa using hj))];rfl
theorem A5B (p:Mem->Bool):∀ (l:List Mem) (i:Nat) (hi:i<l.length),p l[i]=true->(∀ j (h:j<l.length),j<i->p l[j]=false)->A7P p l=some i
 | m::r,0,hi,hp,_=>by
  have h0:p m=true:=hp;rw [A7P,h0];rfl
 | m::r,i+1,hi,hp,h=>by have h0:p m=false:=h 0 (by simp) (by omega);rw [A7P,h0,A5B p r i (by simpa using hi) (by simpa using hp) (fun j hj hlt=>h (j+1) (by simpa using hj) (by omega))];rfl
theorem B0I (p:Mem->Bool):∀ (l:List Mem) (i:Nat),A7P p l=some i->i<l.length/\(l.take i).filter (fun m=>!p m)=l.take i/\(∃ h:i<l.length,p l[i]=true)
 | [],i,h=>by cases h
 | m::r,i,h=>by
  unfold A7P at h;split at h
  ·cases h;exact⟨by simp,rfl,by simp,by assumption⟩
  ·rename_i hp;cases e:A7P p r with
   | none=>rw [e] at h;cases h
   | some k=>
    rw [e] at h;cases h;obtain⟨h1,h2,h3,h4⟩:=B0I p r k e;refine⟨by simpa using h1,?_,by simpa using h1,by simpa using h4⟩;have hp':p m=false:=by simpa using hp
    show List.filter (fun m=>!p m) (m::r.take k)=m::r.take k;rw [List.filter_cons,hp',h2];rfl
theorem A26 {p:Mem->Bool}:∀ l:List Mem,A7P p l=none->l.filter (fun m=>!p m)=l
 | [],_=>rfl
 | m::r,h=>by
  unfold A7P at h;split at h
  ·cases h
  ·rename_i hp;have hp':p m=false:=by simpa using hp
   rw [List.filter_cons,hp',A26 r (by cases e:A7P p r with | none=>rfl | some k=>rw [e] at h;cases h)];rfl
theorem B9q (p:Mem->Bool) (a:Addr) (l:List Mem) (A:Option Addr) (cap:Nat) (S:Nat->Prop) (w:World) (hR:Row S w A l.length cap (l.map F7).flatten)
  (hp:∀ m w',Below w.heap.size w w'->Calls Tryz.prog 210 #[.agg (F7 m).toArray,.pointer (some a)] w' (C8 (.bool (p m)) w')):
  Calls Tryz.prog 209 #[.slice A l.length cap,.func (.func 210) #[] #[.pointer (some a)]] w (C8 (.int .i64 (B5A (A7P p l))) w):=by
 refine vE Tryz.func209 ?_;have hM:=D4 hR;refine⟨Nat,fun i=>[(0,.slice A l.length cap),(1,.func (.func 210) #[] #[.pointer (some a)]),(7,.int .i64 l.length),(8,.int .i64 i)],
  fun i w'=>i<=l.length/\(∀ j (hj:j<l.length),j<i->p l[j]=false)/\Below w.heap.size w w',fun i _=>l.length-i,0,
  ⟨rfl,rfl,rfl,rfl,trivial⟩,⟨zb _,fun j hj h=>absurd h (Nat.not_lt_zero _),Below.refl _ _⟩,?_⟩
 rintro i w' u ⟨hi,he,hb⟩;by_cases hlt:i<l.length
 ·refine dt (by omega) ?_;obtain⟨ad,rfl,hcell⟩:=RowM.elem (hR.below hb) i hlt;refine⟨⟨by omega,by omega⟩,?_⟩;refine⟨F7 l[i],rfl,hcell,?_⟩;refine B4 (hp l[i] w' hb) ?_;intro w2 h2;have hb2:=hb.trans (h2.mono hb.size);rcases Bool.eq_false_or_eq_true (p l[i]) with hv | hv
  ·refine B0 hv ?_;refine⟨?_,hb2⟩;rw [A5B p l i hlt hv he];rfl
  ·refine C3X hv ?_;refine⟨i+1,⟨rfl,rfl,rfl,y5 _ (C3 (by omega)),trivial⟩,⟨hlt,fun j hj h=>?_,hb2⟩,by show l.length-(i+1)<l.length-i;omega⟩;rcases Nat.lt_succ_iff_lt_or_eq.1 h with h | h
   ·exact he j hj h
   ·subst h;exact hv
 ·refine df (by omega) ?_;refine⟨?_,hb⟩;rw [A5A p l (fun j hj=>he j hj (by omega))];rfl
theorem A13 (p:Mem->Bool) (a b:Addr) (l:List Mem) (A:Option Addr) (cap:Nat) (S:Nat->Prop) (w:World) (hR:Row S w A l.length cap (l.map F7).flatten)
  (hp:∀ m w',Below w.heap.size w w'->Calls Tryz.prog 238 #[.agg (F7 m).toArray,.pointer (some a),.pointer (some b)] w' (C8 (.bool (p m)) w')):
  Calls Tryz.prog 209 #[.slice A l.length cap,.func (.func 238) #[] #[.pointer (some a),.pointer (some b)]] w (C8 (.int .i64 (B5A (A7P p l))) w):=by
 refine vE Tryz.func209 ?_;have hM:=D4 hR;refine⟨Nat,fun i=>[(0,.slice A l.length cap),(1,.func (.func 238) #[] #[.pointer (some a),.pointer (some b)]),(7,.int .i64 l.length),(8,.int .i64 i)],
  fun i w'=>i<=l.length/\(∀ j (hj:j<l.length),j<i->p l[j]=false)/\Below w.heap.size w w',fun i _=>l.length-i,0,
  ⟨rfl,rfl,rfl,rfl,trivial⟩,⟨zb _,fun j hj h=>absurd h (Nat.not_lt_zero _),Below.refl _ _⟩,?_⟩
 rintro i w' u ⟨hi,he,hb⟩;by_cases hlt:i<l.length
 ·refine dt (by omega) ?_;obtain⟨ad,rfl,hcell⟩:=RowM.elem (hR.below hb) i hlt;refine⟨⟨by omega,by omega⟩,?_⟩;refine⟨F7 l[i],rfl,hcell,?_⟩;refine B4 (hp l[i] w' hb) ?_;intro w2 h2;have hb2:=hb.trans (h2.mono hb.size);rcases Bool.eq_false_or_eq_true (p l[i]) with hv | hv
  ·refine B0 hv ?_;refine⟨?_,hb2⟩;rw [A5B p l i hlt hv he];rfl
  ·refine C3X hv ?_;refine⟨i+1,⟨rfl,rfl,rfl,y5 _ (C3 (by omega)),trivial⟩,⟨hlt,fun j hj h=>?_,hb2⟩,by show l.length-(i+1)<l.length-i;omega⟩;rcases Nat.lt_succ_iff_lt_or_eq.1 h with h | h
   ·exact he j hj h
   ·subst h;exact hv
 ·refine df (by omega) ?_;refine⟨?_,hb⟩;rw [A5A p l (fun j hj=>he j hj (by omega))];rfl
theorem C0n (m:Mem) (a:Addr) (n:Int) (w:World) (ha:w.cell? a=some (.int .i64 n)):Calls Tryz.prog 210 #[.agg (F7 m).toArray,.pointer (some a)] w (C8 (.bool (m.req==n)) w):=by obtain⟨ab,ao,asub⟩:=a;refine vE Tryz.func210 ?_;intro g w1 h1;have hc:=((Ctx.start w no (fun _ h=>h.elim)).loc h1).1;refine hc.c 0 rfl rfl ?_;refine⟨_,cell_later hc.below ha,?_⟩;exact⟨rfl,hc.below⟩
theorem B0J (m:Mem) (a b:Addr) (low home:Int) (h0:0<=home) (h9:home<100) (w:World) (ha:w.cell? a=some (.int .i64 low)) (hb:w.cell? b=some (.int .i64 home)):
  Calls Tryz.prog 238 #[.agg (F7 m).toArray,.pointer (some a),.pointer (some b)] w (C8 (.bool (decide (m.req<low)&&S6 m.req==home+1)) w):=by
 obtain⟨ab,ao,asub⟩:=a;obtain⟨bb,bo,bsub⟩:=b;refine vE Tryz.func238 ?_;intro g w1 h1;have hc:=((Ctx.start w no (fun _ h=>h.elim)).loc h1).1;have ha:=cell_later hc.below ha;have hb:=cell_later hc.below hb;have hw:IntKind.i64.wrap (home+1)=home+1:=E0 _ _ (by omega) (by omega);refine vD (.Q [0,1,2,3,4,5,6,8,9] (.n 7 (.Q [10,11,12] .fin) .stop)) (Keeps (fun b=>b<w1.heap.size) w1) (Keeps.start _ _) ?_;refine⟨_,fun x hx=>hx.look (hc.cell 0 rfl _ rfl),?_⟩;refine⟨_,fun x hx=>hx.look ha,?_⟩;by_cases hl:m.req<low
 ·refine dt hl ?_;refine⟨_,fun x hx=>hx.look (hc.cell 0 rfl _ rfl),?_⟩;refine⟨_,fun x hx=>hx.look hb,?_⟩;refine⟨?_,trivial⟩;have hc:=hc.drew;refine hc.q (K0 m.req _) fun w2 h2 hc=>?_;refine⟨(Keeps.start _ _).below (fun _ h=>h) h2,?_⟩;refine⟨?_,hc.below⟩;rw [zy hl,hw];rfl
 ·refine df hl ?_;have hc:=hc.drew;refine⟨?_,trivial⟩;refine⟨?_,hc.below⟩;rw [zz hl];rfl
theorem Own.seen {S:Nat->Prop} {w:World} {l:List LB} {e sz:Nat} {A:Option Addr} {n cap:Nat} {xs:List Value} {n0:Nat} (h:Own S n0 w l e sz A n cap xs):Row (fun b=>∃ a,A=some a/\a.block=b) w A n cap xs:=by
 obtain⟨f1,f2⟩:=h.fit;refine⟨f1,f2,fun hx=>?_⟩;obtain⟨e0,h3⟩:=h.row;rcases h3 with ⟨h3,rfl⟩ | ⟨g,cp,cur,e1,_,_,_,_,_,_⟩
 ·rw [Nat.zero_mul] at e0;exact absurd (zn e0) hx
 ·cases e1;exact⟨_,rfl,⟨_,rfl,rfl⟩,h.row.cells rfl⟩
theorem A3i:∀ n:Nat,D7 (Builtin.zeroCells (Value.agg #[.int .i64 0,.int .i64 0,.int .i64 0]).cells n).toList=true:=fun n=>A1g fun v hv=>by
 have hv:v∈(Builtin.zeroCells (Value.agg #[.int .i64 0,.int .i64 0,.int .i64 0]).cells n):=by simpa using hv
 unfold Builtin.zeroCells at hv;rw [Array.mem_map] at hv;obtain⟨i,_,rfl⟩:=hv;have hlt:i % 3<3:=Nat.mod_lt _ (by decide);show (#[Value.int .i64 0,.int .i64 0,.int .i64 0][i % 3]!).oneCell'=true;generalize i % 3=k at hlt
 match k,hlt with
 | 0,_=>rfl
 | 1,_=>rfl
 | 2,_=>rfl
theorem B0K (l:List Mem) (i:Nat):((l.map F7).flatten).take (i*3)=((l.take i).map F7).flatten:=by rw [<-(F9 l).flat_take,List.map_take]
theorem B0L (l:List Mem) (i:Nat):((l.map F7).flatten).drop (i*3)=((l.drop i).map F7).flatten:=by rw [<-(F9 l).flat_drop,List.map_drop]
theorem putAt_drop (xs cs:List Value) (o d:Nat) (h:o+xs.length<=cs.length) (hd:o+xs.length<=d):(C0 cs o xs).drop d=cs.drop d:=by rw [E5 xs cs o h,List.drop_append,zq (by rw [z6,zf];omega),List.nil_append,List.drop_drop];congr 1;rw [z6,zf];omega
theorem A8H (xs cs:List Value) (o:Nat) (h:o+xs.length<=cs.length):(C0 cs o xs).take (o+xs.length)=cs.take o++xs:=by rw [E5 xs cs o h,List.take_left' (by rw [z6,zf];omega)]
theorem A8I (low h:Int) (l:List Mem) (j:Nat) (hj:j<l.length):N7 low h (l.take (j+1))=N7 low h (l.take j)++(if (decide (l[j].req<low)&&S6 l[j].req==h)=true then [] else [l[j]]):=by rw [List.take_add_one,List.getElem?_eq_getElem hj];unfold N7;show List.filter _ (l.take j++[l[j]])=_;rw [List.filter_append,List.filter_cons];cases (decide (l[j].req<low)&&S6 l[j].req==h)<;>rfl
theorem V3 {S0 S:Nat->Prop} {w0 w:World} {l:List LB} (hc:Ctx S0 w0 S w l) (ms:List Mem) (hn:ms.length<=1000000) {A:Option Addr} {cap:Nat} (ho:Own S w0.heap.size w l 101 3 A ms.length cap (ms.map F7).flatten)
  (low home:Int) (h0:0<=home) (h9:home<100) (ka kb ga gb Ta Tb:Nat) (hka:l[ka]?=some (ga,Ta,[.int .i64 low])) (hkb:l[kb]?=some (gb,Tb,[.int .i64 home])):
  Calls Tryz.prog 237 #[.slice A ms.length cap,.func (.func 238) #[] #[.pointer (some ⟨ga,0,none⟩),.pointer (some ⟨gb,0,none⟩)]] w (fun en w'=>∃ A',en=.returned (.slice A' (N7 low (home+1) ms).length cap)/\Ctx S0 w0 S w' l/\Fut S w S w'/\Own S w0.heap.size w' l 101 3 A' (N7 low (home+1) ms).length cap ((N7 low (home+1) ms).map F7).flatten):=by
 refine vE Tryz.func237 ?_;refine B4 (A13 (fun m=>decide (m.req<low)&&S6 m.req==home+1) ⟨ga,0,none⟩ ⟨gb,0,none⟩ ms A cap _ w (Own.seen ho) (fun m w2 h2=>B0J m _ _ low home h0 h9 w2 (cell_later h2 (hc.cell ka hka 0 rfl)) (cell_later h2 (hc.cell kb hkb 0 rfl)))) ?_;intro w1 h1;have hC1:=hc.quiet h1;have hc:=hC1.1;have hf:=hC1.2;have ho:=ho.quiet h1;cases hi:A7P (fun m=>decide (m.req<low)&&S6 m.req==home+1) ms with
 | none=>
  have hk:N7 low (home+1) ms=ms:=A26 ms hi;rw [hk];exact⟨A,rfl,hc,hf,ho⟩
 | some i=>
 obtain⟨hlt,htk,hpi⟩:=B0I _ ms i hi;cases hA:A with
 | none=>
  obtain⟨hz,_⟩:=ho.none' hA;omega
 | some a=>
 obtain⟨g,cur,e1,hc,hcur,hct,hnc,hcm⟩:=ho.opened hc hA;rw [hA] at e1;cases e1;have hM:cap<=9223372036854775807:=zo hcm (by decide);obtain⟨_,hpi⟩:=hpi;have hk0:N7 low (home+1) (ms.take (i+1))=ms.take i:=by have hg:(decide (ms[i].req<low)&&S6 ms[i].req==home+1)=true:=hpi;rw [List.take_add_one,List.getElem?_eq_getElem hlt];show List.filter _ (ms.take i++[ms[i]])=_;rw [List.filter_append,htk,List.filter_cons,hg];simp
 refine⟨Nat × Nat × List Value,fun x=>[(0,.slice (some ⟨g,0,none⟩) ms.length cap),(1,.func (.func 238) #[] #[.pointer (some ⟨ga,0,none⟩),.pointer (some ⟨gb,0,none⟩)]),(5,.int .i64 x.2.1),(6,.int .i64 x.1)],
  fun x w'=>x.2.1<x.1/\x.1<=ms.length/\(N7 low (home+1) (ms.take x.1)).length=x.2.1/\x.2.2.length=cap*3/\x.2.2.take (x.2.1*3)=((N7 low (home+1) (ms.take x.1)).map F7).flatten/\(x.2.2.take (ms.length*3)).drop (x.1*3)=((ms.drop x.1).map F7).flatten/\Ctx S0 w0 S w' ((g,101,x.2.2)::l)/\Fut S w S w',fun x _=>ms.length-x.1,(i+1,i,cur),
  ⟨rfl,rfl,rfl,y5 _ (C3 (by omega)),trivial⟩,⟨Nat.lt_succ_self _,hlt,?_,hcur,?_,?_,hc,hf⟩,?_⟩
 ·show (N7 low (home+1) (ms.take (i+1))).length=i;rw [hk0,zf];omega
 ·rw [hk0,<-B0K,<-hct,List.take_take];show cur.take (i*3)=_;congr 1;omega
 ·show (cur.take (ms.length*3)).drop ((i+1)*3)=_;rw [hct,B0L]
 clear hct hcur hc hf;rintro⟨j,k,cur⟩ w2 u ⟨hkj,hjn,hkl,hcl,hct,hcd,hc,hf⟩;simp only at hkj hjn hkl hcl hct hcd hc;rcases zl j ms.length with hj | hj
 ·refine dt (by omega) ?_;have hld:(cur.drop (j*3)).take 3=F7 ms[j]:=by
   have e0:((cur.take (ms.length*3)).drop (j*3)).take 3=(((ms.drop j).map F7).flatten).take 3:=by rw [hcd]
   rw [List.drop_eq_getElem_cons hj] at e0;rw [List.drop_take,List.take_take,show min 3 (ms.length*3-j*3)=3 by omega] at e0;rw [e0];rfl
  have hadj:((⟨g,0,none⟩:Addr).add ((j:Int).toNat*3))=⟨g,j*3,none⟩:=by rw [Addr.add_lit,zm,zh]
  have hadk:((⟨g,0,none⟩:Addr).add ((k:Int).toNat*3))=⟨g,k*3,none⟩:=by rw [Addr.add_lit,zm,zh]
  refine⟨⟨(by first | omega | (simp only;omega)),(by first | omega | (simp only;omega))⟩,?_⟩;refine⟨F7 ms[j],rfl,by rw [hadj];exact hc.cellsAt 0 rfl _ _ hld,?_⟩;generalize hm:ms[j]=m at*;intro g7 w7 h7;have hcf:=hc.loc h7;have hf:=hf.trans hcf.2;have hc:=hcf.1;refine⟨hc.may 0 rfl 0 _ (zc 3) rfl,?_⟩;intro w8 h8;have hcf:=hc.set 0 rfl h8;have hf:=hf.trans hcf.2;have hc:=hcf.1;refine⟨F7 m,rfl,hc.cells 0 rfl,?_⟩;refine B4 (B0J m ⟨ga,0,none⟩ ⟨gb,0,none⟩ low home h0 h9 w8 (hc.cell (ka+2) (show l[ka]?=_ from hka) 0 rfl) (hc.cell (kb+2) (show l[kb]?=_ from hkb) 0 rfl)) ?_;intro w9 h9;have hcf:=hc.quiet h9;have hf:=hf.trans hcf.2;have hc:=hcf.1;have hks:=A8I low (home+1) ms j hj;rw [hm] at hks;have hcd1:(cur.take (ms.length*3)).drop ((j+1)*3)=((ms.drop (j+1)).map F7).flatten:=by rw [show (j+1)*3=j*3+3 by omega,<-List.drop_drop,hcd,List.drop_eq_getElem_cons hj];rfl
  rcases Bool.eq_false_or_eq_true (decide (m.req<low)&&S6 m.req==home+1) with hq | hq
  ·refine C3X (by show (!(decide (m.req<low)&&S6 m.req==home+1))=false;rw [hq];rfl) ?_;rw [hq,y6 rfl,zw] at hks;refine⟨(j+1,k,cur),⟨rfl,rfl,rfl,y5 _ (C3 (by first | omega | (simp only;omega))),trivial⟩,⟨Nat.lt_succ_of_lt hkj,hj,by rw [hks];exact hkl,hcl,by rw [hks];exact hct,hcd1,hc.drop,hf⟩,by show ms.length-(j+1)<ms.length-j;omega⟩
  ·refine B0 (by show (!(decide (m.req<low)&&S6 m.req==home+1))=true;rw [hq];rfl) ?_;rw [hq,y7 (by decide)] at hks;refine⟨F7 m,rfl,hc.cells 0 rfl,?_⟩;refine⟨⟨(by first | omega | (simp only;omega)),(by first | omega | (simp only;omega))⟩,?_⟩;generalize hae:((⟨g,0,none⟩:Addr).add ((k:Int).toNat*3))=ae;rw [hadk] at hae;subst hae;refine⟨hc.may 1 rfl (k*3) (F7 m) (by show k*3+3<=cur.length;omega) rfl,?_⟩;intro w10 h10;have hcf:=hc.set 1 rfl h10;have hf:=hf.trans hcf.2;have hc:=hcf.1;have hfit:k*3+(F7 m).length<=cur.length:=by show k*3+3<=cur.length;omega
   refine⟨(j+1,k+1,C0 cur (k*3) (F7 m)),⟨rfl,rfl,y5 _ (C3 (by first | omega | (simp only;omega))),y5 _ (C3 (by first | omega | (simp only;omega))),trivial⟩,⟨Nat.succ_lt_succ hkj,hj,by rw [hks,z6,hkl];rfl,by rw [putAt_len];exact hcl,?_,?_,hc.drop,hf⟩,by show ms.length-(j+1)<ms.length-j;omega⟩
   ·show (C0 cur (k*3) (F7 m)).take ((k+1)*3)=_;rw [show (k+1)*3=k*3+(F7 m).length by show _=k*3+3;omega,A8H _ _ _ hfit,hct,hks,List.map_append,zr];simp
   ·show ((C0 cur (k*3) (F7 m)).take (ms.length*3)).drop ((j+1)*3)=_;rw [List.drop_take,putAt_drop _ _ _ _ hfit (by show k*3+3<=_;omega),<-List.drop_take,hcd1]
 ·refine df (by omega) ?_;have hjn:j=ms.length:=by omega
  subst hjn;rw [List.take_length] at hkl hct;refine⟨⟨(by first | omega | (simp only;omega)),(by first | omega | (simp only;omega)),(by first | omega | (simp only;omega)),(by first | omega | (simp only;omega))⟩,?_⟩;have hzl:(Builtin.zeroCells (Value.agg #[.int .i64 0,.int .i64 0,.int .i64 0]).cells (ms.length-k)).toList.length=(ms.length-k)*3:=by rw [Array.length_toList,size_zeroCells];rfl
  refine A1n Tryz.underlying38 (z:=.agg #[.int .i64 0,.int .i64 0,.int .i64 0]) (fun w=>by kernel_rfl) (a:=⟨g,k*3,none⟩) (n:=ms.length-k) (c:=cap-k) (by omega) ?_ rfl (hc.may 0 rfl (k*3) _ (by rw [hzl];show _<=cur.length;omega) (A3i _)) ?_
  ·show Value.slice (if (cap:Int)=(k:Int) then some (⟨g,0,none⟩:Addr) else (some (⟨g,0,none⟩:Addr)).map (·.add ((k:Int).toNat*3))) ((ms.length:Int)-(k:Int)).toNat ((cap:Int)-(k:Int)).toNat=_;rw [Y9 g cap 3 (k:Int) k rfl (by omega)];congr 1<;>omega
  intro w3 h3;have hC:=hc.set 0 rfl h3;have hc:=hC.1;refine⟨⟨(by first | omega | (simp only;omega)),(by first | omega | (simp only;omega)),(by first | omega | (simp only;omega)),(by first | omega | (simp only;omega))⟩,?_⟩;obtain⟨hc,ho⟩:=Ctx.closed hc 3 k cap (by omega) hcm (by rw [putAt_len,hcl]);rw [E5 _ _ _ (by rw [hzl];omega),zv,List.take_left' (by rw [zf];omega),hct] at ho;refine⟨some ⟨g,0,none⟩,?_,hc,hf.trans hC.2,?_⟩
  ·rw [hkl];show Ending.returned (Value.slice (if (cap:Int)=0 then some (⟨g,0,none⟩:Addr) else (some (⟨g,0,none⟩:Addr)).map (·.add ((0:Int).toNat*3))) ((k:Int)-0).toNat ((cap:Int)-0).toNat)=_;rw [W2];congr 2<;>omega
  ·rw [hkl];exact ho
end Go.Proofs.YtefdfaeieekioaaGreatDoor
section
namespace Go.Vc
open Go Go.RowKit
structure CtxR (S0:Nat->Prop) (w0:World) (S:Nat->Prop) (w:World) (l:List LB) (R:World->Prop):Prop where
 ctx:Ctx S0 w0 S w l
 row:R w
 stab:∀ w1 w2,R w1->Fut S w1 S w2->R w2
section
variable {S0 S:Nat->Prop} {w0 w w':World} {l l':List LB} {R:World->Prop}
theorem CtxR.re (hc:CtxR S0 w0 S w l R) (h:Ctx S0 w0 S w l'):CtxR S0 w0 S w l' R:=⟨h,hc.row,hc.stab⟩
theorem CtxR.via (hc:CtxR S0 w0 S w l R) (h:Ctx S0 w0 S w' l') (f:Fut S w S w'):CtxR S0 w0 S w' l' R:=⟨h,hc.stab _ _ hc.row f,hc.stab⟩
theorem CtxR.below (hc:CtxR S0 w0 S w l R):Below w0.heap.size w0 w:=hc.ctx.below
theorem CtxR.loc (hc:CtxR S0 w0 S w l R) {cs:List Value} {T g:Nat} (hN:New w cs T g w'):CtxR S0 w0 S w' ((g,T,cs)::l) R/\Fut S w S w':=
 ⟨hc.via (hc.ctx.loc hN).1 (hc.ctx.loc hN).2,(hc.ctx.loc hN).2⟩
theorem CtxR.quiet (hc:CtxR S0 w0 S w l R) (hb:Below w.heap.size w w'):CtxR S0 w0 S w' l R/\Fut S w S w':=
 ⟨hc.via (hc.ctx.quiet hb).1 (hc.ctx.quiet hb).2,(hc.ctx.quiet hb).2⟩
theorem CtxR.cell (hc:CtxR S0 w0 S w l R) (k:Nat) {g T:Nat} {cs:List Value} (h:l[k]?=some (g,T,cs)) (i:Nat) {v:Value} (hv:cs[i]?=some v):w.cell? ⟨g,i,none⟩=some v:=hc.ctx.cell k h i hv
theorem CtxR.cells (hc:CtxR S0 w0 S w l R) (k:Nat) {g T:Nat} {cs:List Value} (h:l[k]?=some (g,T,cs)):Go.Vc.cellsAt w ⟨g,0,none⟩ cs 0:=hc.ctx.cells k h
theorem CtxR.may (hc:CtxR S0 w0 S w l R) (k:Nat) {g T:Nat} {cs:List Value} (h:l[k]?=some (g,T,cs)) (o:Nat) (xs:List Value) (hl:o+xs.length<=cs.length) (h1:D7 xs=true):C7 w ⟨g,o,none⟩ xs 0:=hc.ctx.may k h o xs hl h1
theorem CtxR.set (hc:CtxR S0 w0 S w l R) (k:Nat) {g T:Nat} {cs:List Value} (h:l[k]?=some (g,T,cs)) {o:Nat} {xs:List Value} (hS:D0 w ⟨g,o,none⟩ xs w'):
  CtxR S0 w0 S w' (F4 l k (C0 cs o xs)) R/\Fut S w S w':=⟨hc.via (hc.ctx.set k h hS).1 (hc.ctx.set k h hS).2,(hc.ctx.set k h hS).2⟩
section
variable {S0 S:Nat->Prop} {w0 w:World} {l:List LB} {R:World->Prop} {g T:Nat} {cs xs:List Value} {o:Nat} {K:World->Prop}
theorem CtxR.c (hc:CtxR S0 w0 S w l R) (k:Nat) (h:l[k]?=some (g,T,cs)) {i:Nat} {v:Value} {K:Value->Prop} (hv:cs[i]?=some v) (hk:K v):∃ v,w.cell? ⟨g,i,none⟩=some v/\K v:=⟨v,hc.cell k h i hv,hk⟩
theorem CtxR.s (hc:CtxR S0 w0 S w l R) (k:Nat) (h:l[k]?=some (g,T,cs)) (hk:∀ w',D0 w ⟨g,o,none⟩ xs w'->CtxR S0 w0 S w' (F4 l k (C0 cs o xs)) R->K w') (hl:Nat.ble (o+xs.length) cs.length=true:=by rfl) (h1:D7 xs=true:=by rfl):C7 w ⟨g,o,none⟩ xs 0/\∀ w',D0 w ⟨g,o,none⟩ xs w'->K w':=
 ⟨hc.may k h o xs (ze hl) h1,fun w' hS=>hk w' hS (hc.set k h hS).1⟩
theorem CtxR.s' (hc:CtxR S0 w0 S w l R) (k:Nat) (h:l[k]?=some (g,T,cs)) (hk:∀ w',D0 w ⟨g,o,none⟩ xs w'->CtxR S0 w0 S w' (F4 l k (C0 cs o xs)) R->K w') (hl:Nat.ble (o+xs.length) cs.length=true:=by rfl) (h1:D7 xs=true:=by rfl):C7 w ⟨g,o,none⟩ xs 0/\∀ w',D0 w ⟨g,o,none⟩ xs w'->True/\K w':=
 ⟨hc.may k h o xs (ze hl) h1,fun w' hS=>⟨trivial,hk w' hS (hc.set k h hS).1⟩⟩
theorem CtxR.a (hc:CtxR S0 w0 S w l R) (k:Nat) (h:l[k]?=some (g,T,cs)) {n:Nat} {K:List Value->Prop} (hn:cs.length=n) (hk:K cs):∃ ds:List Value,ds.length=n/\Go.Vc.cellsAt w ⟨g,0,none⟩ ds 0/\K ds:=⟨cs,hn,hc.cells k h,hk⟩
theorem CtxR.a' (hc:CtxR S0 w0 S w l R) (k:Nat) (h:l[k]?=some (g,T,cs)) {n:Nat} {K:List Value->Prop} (hn:cs.length=n) (hk:K cs):∃ ds:List Value,ds.length=n/\Go.Vc.cellsAt w ⟨g,0,none⟩ ds 0/\True/\K ds:=⟨cs,hn,hc.cells k h,trivial,hk⟩
theorem CtxR.n (hc:CtxR S0 w0 S w l R) {K:Nat->World->Prop} (hk:∀ g w',New w cs T g w'->CtxR S0 w0 S w' ((g,T,cs)::l) R->K g w'):∀ g w',New w cs T g w'->K g w':=fun g w' h=>hk g w' h (hc.loc h).1
theorem CtxR.n' (hc:CtxR S0 w0 S w l R) {K:Nat->World->Prop} (hk:∀ g w',New w cs T g w'->CtxR S0 w0 S w' ((g,T,cs)::l) R->K g w'):∀ g w',New w cs T g w'->True/\K g w':=fun g w' h=>⟨trivial,hk g w' h (hc.loc h).1⟩
theorem CtxR.q (hc:CtxR S0 w0 S w l R) {P:Program} {n:Nat} {args:List Value} {v:Value} {K:Value->World->Prop} (h:Calls P n args.toArray w (C8 v w)) (hk:∀ w',Below w.heap.size w w'->CtxR S0 w0 S w' l R->K v w'):CallVc P n args w K:=B4 h fun w' hb=>hk w' hb (hc.quiet hb).1
theorem CtxR.q' (hc:CtxR S0 w0 S w l R) {P:Program} {n:Nat} {args:List Value} {v:Value} {K:Value->World->Prop} (h:Calls P n args.toArray w (C8 v w)) (hk:∀ w',Below w.heap.size w w'->CtxR S0 w0 S w' l R->K v w'):CallVc P n args w (fun v w'=>True/\K v w'):=B4 h fun w' hb=>⟨trivial,hk w' hb (hc.quiet hb).1⟩
end
theorem CtxR.fresh (hc:CtxR S0 w0 S w l R) {e sz n cap:Nat} {A:Option Addr} {xs:List Value} (hb:Below w.heap.size w w') (ho:w'.ownsRow w.heap.size e sz (.slice A n cap) n xs):
  CtxR S0 w0 S w' l R/\Fut S w S w'/\Own S w0.heap.size w' l e sz A n cap xs:=by
 obtain⟨h1,h2,h3⟩:=hc.ctx.fresh hb ho;exact⟨hc.via h1 h2,h2,h3⟩
theorem A6N {n0 e sz n cap:Nat} {A:Option Addr} {xs:List Value} (ho:w'.ownsRow n0 e sz (.slice A n cap) n xs):n<=cap/\cap<=maxLen:=by
 obtain⟨e0,h3⟩:=ho;rcases h3 with ⟨h3,rfl⟩ | ⟨g,cp,cur,e1,_,_,h4,h5,_,_⟩
 ·cases h3;exact⟨zc _,zb _⟩
 ·cases e1;exact⟨h4,h5⟩
theorem B2l {n0 e sz n cap:Nat} {A:Option Addr} {xs:List Value} (ho:w'.ownsRow n0 e sz (.slice A n cap) n xs) (hS:∀ b,n0<=b->b<w'.heap.size->S b):Row S w' A n cap xs:=by
 obtain⟨f1,f2⟩:=A6N ho;refine⟨f1,f2,fun hx=>?_⟩;have ho':=ho;obtain⟨e0,h3⟩:=ho';rcases h3 with ⟨h3,rfl⟩ | ⟨g,cp,cur,e1,_⟩
 ·rw [Nat.zero_mul] at e0;exact absurd (zn e0) hx
 ·cases e1;have h:=ho.lt g rfl;exact⟨_,rfl,hS _ h.1 h.2,ho.cells rfl⟩
theorem Row.wide {S':Nat->Prop} {A:Option Addr} {n cap:Nat} {xs:List Value} (h:Row S w A n cap xs) (f:∀ b,S b->S' b):Row S' w A n cap xs:=h.fut ⟨f,fun _ _=>rfl⟩
theorem Row.ret {Sg:Nat->Prop} {A:Option Addr} {n cap:Nat} {xs:List Value} (h:Row S w A n cap xs) (hc:Ctx S0 w0 S w l) (h0:∀ b,¬ S0 b):Row (ext Sg w0 w) w A n cap xs:=
 h.wide fun b hb=>by
  rcases hc.new b hb with h | h
  ·exact (h0 b h).elim
  ·exact .inr ⟨h,hc.lt b hb⟩
theorem Row.old {Sg:Nat->Prop} {A:Option Addr} {n cap:Nat} {xs:List Value} (h:Row Sg w0 A n cap xs) (hb:Below w0.heap.size w0 w):Row (ext Sg w0 w) w A n cap xs:=
 (h.below hb).wide fun _ hb=>.inl hb
theorem CtxR.told (hc:CtxR S0 w0 S w l R) {e sz n cap:Nat} {A:Option Addr} {xs:List Value} (ho:Own S w0.heap.size w l e sz A n cap xs):
  ∃ S':Nat->Prop,(∀ b,S b->S' b)/\CtxR S0 w0 S' w l (fun x=>R x/\Row S' x A n cap xs):=by
 obtain⟨h1,h2,h3⟩:=ho.told hc.ctx;refine⟨_,fun b hb=>.inl hb,h1,⟨hc.row,h3 ho.fit.1 ho.fit.2⟩,fun x1 x2 hx f=>⟨hc.stab x1 x2 hx.1 ⟨fun _ h=>h,fun b hb=>f.2 b (.inl hb)⟩,hx.2.fut f⟩⟩
end
end Go.Vc
namespace Go.Proofs.YtefdfaeieekioaaGreatDoor
open Go.Vc Go.RowKit Go.Fl
theorem RepEs.old {S:Nat->Prop} {w w':World} {l:List Ent} {css:List (List Value)} (h:RepEs S w l css) (hb:Below w.heap.size w w'):RepEs (ext S w w') w' l css:=h.map (fun h=>h.old hb)
theorem A3j {n cap:Nat} {cur c:List Value} {css:List (List Value)} (hF:Flat 2 css) (hcl:c.length=2) (hcur:cur.length=cap*2) (hn:css.length=n) (hnc:n<=cap) (hct:cur.take (n*2)=css.flatten) (i:Nat) (hi:i<n):
  (C0 cur (i*2) c).take (n*2)=(css.take i++[c]++css.drop (i+1)).flatten:=by
 rw [E5 _ _ _ (by rw [hcl];omega),zr,zr,hF.flat_take,hF.flat_drop,<-hct,List.take_take,List.drop_take,hcl];rw [List.take_append,z6,zf,hcl,show min (i*2) cur.length+2=i*2+2 by omega,List.take_of_length_le (l:=cur.take (i*2)++c) (by rw [z6,zf,hcl];omega)];rw [show (i+1)*2=i*2+2 by omega,show min (i*2) (n*2)=i*2 by omega];simp
def RetK (s:Stt) (B:Option Addr) (cap':Nat) (l0 l1 l2 l3 l4:Int) (S:Nat->Prop) (q:List Ent × Res) (w:World) (en:Ending) (w':World):Prop:=
 ∃ A c css,en=.returned (.tuple #[.agg #[.int .i64 s.seq,.slice A q.1.length c,.slice B s.ms.length cap',.int .i64 l0,.int .i64 l1,.int .i64 l2,.int .i64 l3,.int .i64 l4],.agg #[.int .i64 q.2.err,.int .i64 q.2.ver]])/\
  Below w.heap.size w w'/\RepEs (ext S w w') w' q.1 css/\Row (ext S w w') w' A q.1.length c css.flatten
def M0 (l:List Ent) (i:Nat) (e:Ent) (n:Int):List Ent × Res:=
 match A1q e.vs n with
 | none=>(l,⟨6,0⟩)
 | some j=>(l.take i++(if (e.vs.take j++e.vs.drop (j+1)).length=0 then [] else [⟨e.key,e.vs.take j++e.vs.drop (j+1)⟩])++l.drop (i+1),⟨0,n⟩)
theorem A0k (s:Stt) (A B:Option Addr) (cap cap':Nat) (l0 l1 l2 l3 l4:Int) (css:List (List Value)) (S:Nat->Prop) (w:World) (hE:RepEs S w s.l css) (hR:Row S w A s.l.length cap css.flatten) (hn:s.l.length<=1000000)
  (i:Nat) (e:Ent) (A1:Option Addr) (cap1:Nat) (hRe:Row S w A1 e.vs.length cap1 (e.vs.map K2).flatten) (hb:e.vs.length<=1000000) (n:Int) (hi:(A1q e.vs n).isSome=true->i<s.l.length):
  Calls Tryz.prog 269 #[.agg (stC s A cap B cap' l0 l1 l2 l3 l4).toArray,.int .i64 i,.agg #[.string e.key,.slice A1 e.vs.length cap1],.int .i64 n] w (RetK s B cap' l0 l1 l2 l3 l4 S (M0 s.l i e n) w):=by
 refine vE Tryz.func269 ?_;intro g4 w1 h1;have hc:=((Ctx.start w no (fun _ h=>h.elim)).loc h1).1;refine hc.n fun g6 w2 h2 hc=>?_;refine hc.n fun g8 w3 h3 hc=>?_;refine hc.n fun g9 w4 h4 hc=>?_;refine hc.a 2 rfl rfl ?_;refine⟨(A97 e n A1 cap1 hb S w4 (hRe.below hc.below)).mono fun en w5 hq=>?_⟩;unfold B8A A9u at hq;cases hj:A1q e.vs n with
 | none=>
  rw [hj] at hq;have ek:M0 s.l i e n=(s.l,⟨6,0⟩):=by unfold M0;rw [hj]
  rw [ek];obtain⟨e1,h5⟩:=hq;have hc:=(hc.quiet h5).1;refine⟨_,e1,?_⟩;refine hc.s 2 rfl fun wS hS hc=>?_;refine hc.a 3 rfl rfl ?_;refine hc.s 1 rfl fun wS hS hc=>?_;refine hc.s 0 rfl fun wS hS hc=>?_;refine hc.a 1 rfl rfl ?_;refine hc.a 0 rfl rfl ?_;exact⟨A,cap,css,rfl,hc.below,hE.old hc.below,hR.old hc.below⟩
 | some j=>
  rw [hj] at hq hi;have hi:=hi rfl;obtain⟨A2,cap2,e1,h5,ho⟩:=hq;simp only at e1 ho;have ek:M0 s.l i e n=(s.l.take i++(if (e.vs.take j++e.vs.drop (j+1)).length=0 then [] else [⟨e.key,e.vs.take j++e.vs.drop (j+1)⟩])++s.l.drop (i+1),⟨0,n⟩):=by unfold M0;rw [hj]
  rw [ek];clear ek;generalize e.vs.take j++e.vs.drop (j+1)=vs at*;have hcc:=(hc.call h5).1;have hr2:Row (ext no w4 w5) w5 A2 vs.length cap2 (vs.map K2).flatten:=B2l ho fun b h1 h2=>.inr ⟨h1,h2⟩;have hc:CtxR no w (ext no w4 w5) w5 _ (fun x=>Row (ext no w4 w5) x A2 vs.length cap2 (vs.map K2).flatten):=⟨hcc,hr2,fun _ _ h f=>h.fut f⟩;clear hr2 ho hcc;generalize ext no w4 w5=S1 at hc;refine⟨_,e1,?_⟩;refine⟨hc.may 2 rfl _ _ (zc 2) rfl,?_⟩;intro w6 h6;have hc:=(hc.set 2 rfl h6).1;refine hc.c 3 rfl rfl ?_;refine⟨(C4J A s.l.length cap css hE.flat hE.len hn S w6 (hR.below hc.below)).mono fun en w7 hq=>?_⟩;obtain⟨A3,cap3,e3,h7,ho⟩:=hq;obtain⟨hc,_,ho⟩:=hc.fresh h7 ho;refine⟨_,e3,?_⟩;refine⟨hc.may 3 rfl _ _ (nle rfl) rfl,?_⟩;intro w8 h8;have ho:=ho.set hc.ctx 3 rfl h8;have hc:=(hc.set 3 rfl h8).1;refine hc.c 2 rfl rfl ?_;by_cases h0:vs.length=0
  ·refine B0 (by show ((vs.length:Int)==0)=true;rw [h0];rfl) ?_;refine hc.c 3 rfl rfl ?_;have hel:=hE.len;have hM:=D4 hR;have hd:=A6M hc.ctx css hE.flat (A:=A3) (cap:=cap3) (by rw [hel];exact ho) i (by omega) (IntKind.i64.wrap ((i:Int)+1)) (by rw [E0 _ _ (by omega) (by omega)]);rw [hel] at hd;refine⟨hd.mono fun en w9 hq=>?_⟩;obtain⟨A4,e4,hcx,hfx,ho⟩:=hq;have hc:=hc.via hcx hfx;refine⟨_,e4,?_⟩;refine⟨hc.may 3 rfl _ _ (nle rfl) rfl,?_⟩;intro w10 h10;have ho:=ho.set hc.ctx 3 rfl h10;have hc:=(hc.set 3 rfl h10).1;obtain⟨S2,hs2,hc⟩:=hc.told ho;refine hc.a 3 rfl rfl ?_;refine hc.s 1 rfl fun wS hS hc=>?_;refine hc.s 0 rfl fun wS hS hc=>?_;refine hc.a 1 rfl rfl ?_;refine hc.a 0 rfl rfl ?_;have hlen:(s.l.take i++[]++s.l.drop (i+1)).length=s.l.length-1:=by rw [zw,z6,zf,zg];omega
   refine⟨A4,cap3,css.take i++css.drop (i+1),?_,hc.below,?_,?_⟩
   ·rw [y6 h0];rw [hlen];rfl
   ·rw [y6 h0];rw [zw];exact ((hE.take i).append (hE.drop (i+1))).old hc.below
   ·rw [y6 h0];rw [hlen];exact hc.row.2.ret hc.ctx (fun _ h=>h)
  ·refine C3X (by show ((vs.length:Int)==0)=false;rw [y4];omega) ?_;refine hc.c 3 rfl rfl ?_;refine hc.a 2 rfl rfl ?_;cases hA3:A3 with
   | none=>
    obtain⟨hz,_⟩:=ho.none' hA3;omega
   | some a=>
   obtain⟨g,cur,ea,hcx,hcl,hct,hnc,hcm⟩:=ho.opened hc.ctx hA3;rw [hA3] at ea;cases ea;have hc:=hc.re hcx;refine⟨⟨by omega,by omega⟩,?_⟩;generalize hae:((⟨g,0,none⟩:Addr).add ((i:Int).toNat*2))=ae;rw [Addr.add_lit,zm,zh] at hae;subst hae;refine⟨hc.may 0 rfl (i*2) [.string e.key,.slice A2 vs.length cap2] (by show i*2+2<=cur.length;omega) rfl,?_⟩;intro w10 h10;have h10:D0 w8 ⟨g,i*2,none⟩ [.string e.key,.slice A2 vs.length cap2] w10:=h10;have hc:=(hc.set 0 rfl h10).1;obtain⟨hcx,ho⟩:=Ctx.closed hc.ctx 2 s.l.length cap3 hnc hcm (by rw [putAt_len,hcl]);rw [A3j (c:=[.string e.key,.slice A2 vs.length cap2]) hE.flat rfl hcl hE.len hnc hct i hi] at ho;have hc:=hc.re hcx;obtain⟨S2,hs2,hc⟩:=hc.told ho;refine hc.a 3 rfl rfl ?_;refine hc.s 1 rfl fun wS hS hc=>?_;refine hc.s 0 rfl fun wS hS hc=>?_;refine hc.a 1 rfl rfl ?_;refine hc.a 0 rfl rfl ?_;have hlen:(s.l.take i++([⟨e.key,vs⟩]:List Ent)++s.l.drop (i+1)).length=s.l.length:=by rw [z6,z6,zf,zg];simp;omega
   refine⟨A3,cap3,css.take i++[[.string e.key,.slice A2 vs.length cap2]]++css.drop (i+1),?_,hc.below,?_,?_⟩
   ·rw [y7 h0];rw [hlen];rfl
   ·rw [y7 h0];refine (((hE.take i).old hc.below).append ?_).append ((hE.drop (i+1)).old hc.below);exact⟨_,_,rfl,⟨A2,cap2,rfl,(hc.row.1.wide hs2).ret hc.ctx (fun _ h=>h)⟩,rfl⟩
   ·rw [y7 h0];have hfin:=hc.row.2.ret (Sg:=S) hc.ctx (fun _ h=>h);rw [<-hA3] at hfin;rw [hlen];exact hfin
end Go.Proofs.YtefdfaeieekioaaGreatDoor
end
