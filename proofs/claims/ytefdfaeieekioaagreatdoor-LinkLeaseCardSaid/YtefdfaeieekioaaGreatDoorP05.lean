import Derived.Test.YtefdfaeieekioaaGreatDoorP04
import Derived.Lib.Overlaps
import Derived.Lib.AppendZerosOnto
set_option maxRecDepth 100000
set_option maxHeartbeats 40000000
set_option linter.unusedVariables false
set_option linter.unusedSimpArgs false
namespace Go.Proofs.YtefdfaeieekioaaGreatDoor
open Go.Vc Go.RowKit Go.Fl
theorem C3Z (a b:Stt) (ca cb:List Value) (S:Nat->Prop) (w:World) (ha:RepS S w a ca) (hb:RepS S w b cb):Calls Tryz.prog 25 #[.agg ca.toArray,.agg cb.toArray] w (C8 (.bool (eqS a b)) w):=by
 obtain⟨A,cap,css,B,cap',l0,l1,l2,l3,l4,rfl,el,hE,hR,hM⟩:=ha.shape
 obtain⟨A',cap2,css',B',cap3,k0,k1,k2,k3,k4,rfl,ek,hE',hR',hM'⟩:=hb.shape
 have hMa:=D4 hR
 have hMm:=D4 hM
 refine vE Tryz.func25 ?_
 intro g1 w1 h1
 have hc:=((Ctx.start w no (fun _ h=>h.elim)).loc h1).1
 refine hc.n fun g2 w2 h2 hc=>?_
 refine hc.c 1 rfl rfl ?_
 refine hc.c 0 rfl rfl ?_
 have e0:eqS a b=(a.seq==b.seq&&a.lows==b.lows&&U8 B40 a.ms b.ms&&U8 eqE a.l b.l):=rfl
 generalize eqS a b=r at e0 ⊢
 rcases Bool.eq_false_or_eq_true (a.seq==b.seq) with hs | hs
 rotate_left
 ·refine B0 (by show (!(a.seq==b.seq))=true;rw [hs];rfl) ?_
  rw [hs] at e0
  exact⟨B7 e0.symm,hc.below⟩
 refine C3X (by show (!(a.seq==b.seq))=false;rw [hs];rfl) ?_
 refine⟨[.int .i64 l0,.int .i64 l1,.int .i64 l2,.int .i64 l3,.int .i64 l4],rfl,hc.cellsAt 1 rfl (0+3) _ rfl,?_⟩
 refine⟨[.int .i64 k0,.int .i64 k1,.int .i64 k2,.int .i64 k3,.int .i64 k4],rfl,hc.cellsAt 0 rfl (0+3) _ rfl,?_⟩
 refine⟨_,fun w=>A1x A99 (fun w=>A98 9998 w l0 l1 l2 l3 l4 k0 k1 k2 k3 k4) _ _ w,?_⟩
 rw [el,ek] at e0
 rcases Bool.eq_false_or_eq_true ([l0,l1,l2,l3,l4]==[k0,k1,k2,k3,k4]) with hl | hl
 rotate_left
 ·refine B0 (by show (!([l0,l1,l2,l3,l4]==[k0,k1,k2,k3,k4]))=true;rw [hl];rfl) ?_
  rw [hs,hl] at e0
  exact⟨B7 e0.symm,hc.below⟩
 refine C3X (by show (!([l0,l1,l2,l3,l4]==[k0,k1,k2,k3,k4]))=false;rw [hl];rfl) ?_
 rw [hs,hl,Bool.and_self,Bool.true_and] at e0
 refine hc.c 1 rfl rfl ?_
 refine hc.c 0 rfl rfl ?_
 rcases Nat.decEq a.l.length b.l.length with hle | hle
 ·refine B0 (by show ((a.l.length:Int) != (b.l.length:Int))=true;rw [bne_iff_ne];omega) ?_
  rw [A4x eqE _ _ hle,Bool.and_false] at e0
  exact⟨B7 e0.symm,hc.below⟩
 refine C3X (by show ((a.l.length:Int) != (b.l.length:Int))=false;rw [hle];simp) ?_
 refine hc.c 1 rfl rfl ?_
 refine hc.c 0 rfl rfl ?_
 rcases Nat.decEq a.ms.length b.ms.length with hlm | hlm
 ·refine B0 (by show ((a.ms.length:Int) != (b.ms.length:Int))=true;rw [bne_iff_ne];omega) ?_
  rw [A4x B40 _ _ hlm,Bool.false_and] at e0
  exact⟨B7 e0.symm,hc.below⟩
 refine C3X (by show ((a.ms.length:Int) != (b.ms.length:Int))=false;rw [hlm];simp) ?_
 refine⟨Nat,fun i=>[(2,.pointer (some ⟨g1,0,none⟩)),(3,.pointer (some ⟨g2,0,none⟩)),(5,.int .i64 i)],
  fun i w'=>i<=a.l.length/\U8 eqE (a.l.drop i) (b.l.drop i)=U8 eqE a.l b.l/\Ctx no w no w' [(g2,41,[.int .i64 b.seq,.slice A' b.l.length cap2,.slice B' b.ms.length cap3,.int .i64 k0,.int .i64 k1,.int .i64 k2,.int .i64 k3,.int .i64 k4]),(g1,41,[.int .i64 a.seq,.slice A a.l.length cap,.slice B a.ms.length cap',.int .i64 l0,.int .i64 l1,.int .i64 l2,.int .i64 l3,.int .i64 l4])],fun i _=>a.l.length-i,0,
  ⟨rfl,rfl,rfl,trivial⟩,⟨Nat.zero_le _,rfl,hc⟩,?_⟩
 rintro i w' u ⟨hi,he,hc⟩
 refine hc.c 1 rfl rfl ?_
 rcases Nat.lt_or_ge i a.l.length with hlt | hlt
 ·refine dt (by omega) ?_
  obtain⟨ad,A1,cap1,e1,hcell,hr1⟩:=RowE.elem (hR.below hc.below) (hE.below hc.below) i hlt
  obtain⟨bd,B1,capb,e2,hcell',hr2⟩:=RowE.elem (hR'.below hc.below) (hE'.below hc.below) i (by omega)
  subst e1
  subst e2
  rw [List.drop_eq_getElem_cons hlt,List.drop_eq_getElem_cons (show i<b.l.length by omega),U8] at he
  generalize a.l[i]=x at*
  generalize b.l[i]'(by omega)=y at*
  refine vD (.Q [0,1,2,3,4,5,6,7,8,9] (.n 10 (.q 11 .fin) .stop)) (Keeps (fun b=>b<w'.heap.size) w') (Keeps.start _ _) ?_
  refine⟨_,fun z hz=>hz.look (hc.cell 1 rfl _ rfl),?_⟩
  refine⟨⟨by omega,by omega⟩,?_⟩
  refine⟨[.string x.key,.slice A1 x.vs.length cap1],rfl,fun z hz=>hz.looks _ _ hcell,?_⟩
  refine⟨_,fun z hz=>hz.look (hc.cell 0 rfl _ rfl),?_⟩
  refine⟨⟨by omega,by omega⟩,?_⟩
  refine⟨[.string y.key,.slice B1 y.vs.length capb],rfl,fun z hz=>hz.looks _ _ hcell',?_⟩
  refine⟨B4 (C3j x y A1 B1 cap1 capb S _ (hr1.below (Below.refl _ _).drew) (hr2.below (Below.refl _ _).drew)) ?_,trivial⟩
  intro w3 h3
  have hcq:=(hc.drew.quiet h3).1
  refine⟨(Keeps.start _ _).below (fun b hb=>hb) h3,?_⟩
  rcases Bool.eq_false_or_eq_true (eqE x y) with hv | hv
  ·refine C3X (by rw [hv];rfl) ?_
   rw [hv,Bool.true_and] at he
   refine⟨i+1,⟨rfl,rfl,congrArg _ (C3 (by omega)),trivial⟩,⟨hlt,he,hcq⟩,by show a.l.length-(i+1)<a.l.length-i;omega⟩
  ·refine B0 (by rw [hv];rfl) ?_
   rw [hv,Bool.false_and] at he
   rw [<-he,Bool.and_false] at e0
   exact⟨B7 e0.symm,hcq.below⟩
 refine df (by omega) ?_
 rw [List.drop_of_length_le (by omega),List.drop_of_length_le (by omega),U8] at he
 rw [<-he,Bool.and_true] at e0
 refine⟨Nat,fun i=>[(2,.pointer (some ⟨g1,0,none⟩)),(3,.pointer (some ⟨g2,0,none⟩)),(6,.int .i64 i)],
  fun i w'=>i<=a.ms.length/\U8 B40 (a.ms.drop i) (b.ms.drop i)=U8 B40 a.ms b.ms/\Ctx no w no w' [(g2,41,[.int .i64 b.seq,.slice A' b.l.length cap2,.slice B' b.ms.length cap3,.int .i64 k0,.int .i64 k1,.int .i64 k2,.int .i64 k3,.int .i64 k4]),(g1,41,[.int .i64 a.seq,.slice A a.l.length cap,.slice B a.ms.length cap',.int .i64 l0,.int .i64 l1,.int .i64 l2,.int .i64 l3,.int .i64 l4])],fun i _=>a.ms.length-i,0,
  ⟨rfl,rfl,rfl,trivial⟩,⟨Nat.zero_le _,rfl,hc⟩,?_⟩
 rintro i w' u ⟨hi,he,hc⟩
 refine hc.c 1 rfl rfl ?_
 rcases Nat.lt_or_ge i a.ms.length with hlt | hlt
 ·refine dt (by omega) ?_
  obtain⟨ad,e1,hcell⟩:=RowM.elem (hM.below hc.below) i hlt
  obtain⟨bd,e2,hcell'⟩:=RowM.elem (hM'.below hc.below) i (by omega)
  subst e1
  subst e2
  rw [List.drop_eq_getElem_cons hlt,List.drop_eq_getElem_cons (show i<b.ms.length by omega),U8] at he
  generalize a.ms[i]=x at*
  generalize b.ms[i]'(by omega)=y at*
  refine vD (.Q [0,1,2,3,4,5,6,7,8,9,10] .fin) (Keeps (fun b=>b<w'.heap.size) w') (Keeps.start _ _) ?_
  refine⟨_,fun z hz=>hz.look (hc.cell 1 rfl _ rfl),?_⟩
  refine⟨⟨by omega,by omega⟩,?_⟩
  refine⟨F7 x,rfl,fun z hz=>hz.looks _ _ hcell,?_⟩
  refine⟨_,fun z hz=>hz.look (hc.cell 0 rfl _ rfl),?_⟩
  refine⟨⟨by omega,by omega⟩,?_⟩
  refine⟨F7 y,rfl,fun z hz=>hz.looks _ _ hcell',?_⟩
  refine⟨_,fun w=>A1x B4R (A7K 9997 · x y) _ _ w,?_⟩
  have hc:=hc.drew
  rcases Bool.eq_false_or_eq_true (B40 x y) with hv | hv
  ·refine C3X (by rw [hv];rfl) ?_
   rw [hv,Bool.true_and] at he
   refine⟨i+1,⟨rfl,rfl,congrArg _ (C3 (by omega)),trivial⟩,⟨hlt,he,hc⟩,by show a.ms.length-(i+1)<a.ms.length-i;omega⟩
  ·refine B0 (by rw [hv];rfl) ?_
   rw [hv,Bool.false_and] at he
   rw [<-he] at e0
   exact⟨B7 e0.symm,hc.below⟩
 ·refine df (by omega) ?_
  rw [List.drop_of_length_le (by omega),List.drop_of_length_le (by omega),U8] at he
  rw [<-he] at e0
  exact⟨B7 e0.symm,hc.below⟩
theorem A0K {w:World} {g T:Nat} {a b c:Value} {l0 l1 l2 l3 l4:Int} (hB:Blk w g T [a,b,c,.int .i64 l0,.int .i64 l1,.int .i64 l2,.int .i64 l3,.int .i64 l4]) (h j:Int) (hr:1<=h/\h<=5) (hj:j=h-1):
  w.cell? ((⟨g,0+3,none⟩:Addr).add (j.toNat*1))=some (.int .i64 (I5 [l0,l1,l2,l3,l4] h)):=by
 subst hj
 have hh:h=1\/h=2\/h=3\/h=4\/h=5:=by omega
 rcases hh with rfl | rfl | rfl | rfl | rfl
 ·exact hB.cell 3
 ·exact hB.cell 4
 ·exact hB.cell 5
 ·exact hB.cell 6
 ·exact hB.cell 7
theorem A8F (l0 l1 l2 l3 l4:Int) (i:Nat) (hi:i<5) (w:World):(Instr.index 39 (.agg #[.int .i64 l0,.int .i64 l1,.int .i64 l2,.int .i64 l3,.int .i64 l4]) (.int .i64 i)).run Tryz.prog w=.ok (.int .i64 ([l0,l1,l2,l3,l4].getD i 0)) w:=by
 obtain⟨ti,hsz,_,hs1,_⟩:=info_parts (show (Tryz.prog.info? 2).map (fun i=>(i.zero,i.size,i.bytes))=some (some (.int .i64 0),1,8) by kernel_rfl)
 unfold Instr.index
 simp only [Sem.run_bind,asIntOf,Sem.run_pure,Result.andThen_ok,run_underlying Tryz.underlying39]
 rw [if_pos ⟨by omega,by omega⟩]
 match i,hi with
 | 0,_=>simp [part,isAgg,sizeOf,typeInfo,run_underlying Tryz.underlying2,hsz,hs1]
 | 1,_=>simp [part,isAgg,sizeOf,typeInfo,run_underlying Tryz.underlying2,hsz,hs1]
 | 2,_=>simp [part,isAgg,sizeOf,typeInfo,run_underlying Tryz.underlying2,hsz,hs1]
 | 3,_=>simp [part,isAgg,sizeOf,typeInfo,run_underlying Tryz.underlying2,hsz,hs1]
 | 4,_=>simp [part,isAgg,sizeOf,typeInfo,run_underlying Tryz.underlying2,hsz,hs1]
def A3g (l:List Ent) (i:Nat):Option ByteArray:=if i=0 then none else (l[i-1]?).map (·.key)
def A2n (l:List Mem) (i:Nat):Option Int:=if i=0 then none else (l[i-1]?).map (·.req)
def leK (p:Option ByteArray) (k:ByteArray):Bool:=match p with | none=>true | some q=>C6 q k
def leM (p:Option Int) (n:Int):Bool:=match p with | none=>true | some q=>decide (q<n)
theorem B0A (seq:Int) (p:Option ByteArray) (e:Ent) (r:List Ent):A1M seq p (e::r)=(A50 e&&decide ((G5 e.vs).ver<=seq)&&leK p e.key&&A1M seq (some e.key) r):=by
 cases p<;>simp only [A1M,leK]
theorem B0B (lows:List Int) (seq:Int) (p:Option Int) (m:Mem) (r:List Mem):A1D lows seq p (m::r)=(!(B2 m.req==0)&&decide (I5 lows (B2 m.req)<=m.req)&&leM p m.req&&
  decide (0<=m.res.err)&&decide (m.res.err<=13)&&decide (0<=m.res.ver)&&decide (m.res.ver<=seq)&&A1D lows seq (some m.req) r):=by
 cases p<;>simp only [A1D,leM]
def stC (s:Stt) (A:Option Addr) (cap:Nat) (B:Option Addr) (cap':Nat) (l0 l1 l2 l3 l4:Int):List Value:=[.int .i64 s.seq,.slice A s.l.length cap,.slice B s.ms.length cap',.int .i64 l0,.int .i64 l1,.int .i64 l2,.int .i64 l3,.int .i64 l4]
theorem A3h (s:Stt) (hk:∀ e∈s.l,X6 e.key) (cs:List Value) (S:Nat->Prop) (w:World) (hs:RepS S w s cs):Calls Tryz.prog 93 #[.agg cs.toArray] w (C8 (.bool (T5 s)) w):=by
 obtain⟨A,cap,css,B,cap',l0,l1,l2,l3,l4,rfl,el,hE,hR,hM⟩:=hs.shape
 have hMa:=D4 hR
 have hMm:=D4 hM
 refine vE Tryz.func93 ?_
 intro g1 w1 h1
 have hc:=((Ctx.start w no (fun _ h=>h.elim)).loc h1).1
 have e0:T5 s=(decide (0<=s.seq)&&decide (s.seq<=E3)&&decide (s.l.length<=40)&&decide (s.ms.length<=100)&&A1M s.seq none s.l&&A0g 0 s.lows&&A1D s.lows s.seq none s.ms):=rfl
 have hmax:E3=1099511627776:=rfl
 rw [el] at e0
 generalize T5 s=r at e0 ⊢
 refine hc.c 0 rfl rfl ?_
 rcases Int.lt_or_le s.seq 0 with c1 | c1
 ·refine dt c1 ?_
  rw [decide_eq_false (show ¬ 0<=s.seq by omega)] at e0
  exact⟨B7 e0.symm,hc.below⟩
 refine df (show ¬ s.seq<0 by omega) ?_
 refine hc.c 0 rfl rfl ?_
 rcases Int.lt_or_le 1099511627776 s.seq with c2 | c2
 ·refine dt c2 ?_
  rw [decide_eq_true c1,decide_eq_false (show ¬ s.seq<=E3 by omega)] at e0
  exact⟨B7 e0.symm,hc.below⟩
 refine df (show ¬ 1099511627776<s.seq by omega) ?_
 refine hc.c 0 rfl rfl ?_
 rcases Nat.lt_or_ge 40 s.l.length with c3 | c3
 ·refine dt (show (40:Int)<(s.l.length:Int) by omega) ?_
  rw [decide_eq_false (show ¬ s.l.length<=40 by omega),Bool.and_false] at e0
  exact⟨B7 e0.symm,hc.below⟩
 refine df (show ¬ (40:Int)<(s.l.length:Int) by omega) ?_
 refine hc.c 0 rfl rfl ?_
 rcases Nat.lt_or_ge 100 s.ms.length with c4 | c4
 ·refine dt (show (100:Int)<(s.ms.length:Int) by omega) ?_
  rw [decide_eq_false (show ¬ s.ms.length<=100 by omega),Bool.and_false] at e0
  exact⟨B7 e0.symm,hc.below⟩
 refine df (show ¬ (100:Int)<(s.ms.length:Int) by omega) ?_
 rw [decide_eq_true c1,decide_eq_true (show s.seq<=E3 by omega),decide_eq_true c3,decide_eq_true c4,Bool.and_self,Bool.and_self,Bool.and_self,Bool.true_and] at e0
 refine hc.c 0 rfl rfl ?_
 refine⟨Nat,fun i=>[(1,.pointer (some ⟨g1,0,none⟩)),(31,.slice A s.l.length cap),(32,.int .i64 s.l.length),(33,.int .i64 i)],
  fun i w'=>i<=s.l.length/\A1M s.seq (A3g s.l i) (s.l.drop i)=A1M s.seq none s.l/\Ctx no w no w' [(g1,41,stC s A cap B cap' l0 l1 l2 l3 l4)],fun i _=>s.l.length-i,0,
  ⟨rfl,rfl,rfl,rfl,trivial⟩,⟨Nat.zero_le _,rfl,hc⟩,?_⟩
 rintro i w' u ⟨hi,he,hc⟩
 rcases Nat.lt_or_ge i s.l.length with hlt | hlt
 ·refine dt (by omega) ?_
  obtain⟨ad,A1,cap1,e1,hcell,hr1⟩:=RowE.elem (hR.below hc.below) (hE.below hc.below) i hlt
  subst e1
  have hnext:A3g s.l (i+1)=some s.l[i].key:=by rw [A3g,if_neg (by omega),Nat.add_sub_cancel,List.getElem?_eq_getElem hlt];rfl
  have hkk:=hk _ (List.getElem_mem hlt)
  rw [List.drop_eq_getElem_cons hlt,B0A] at he
  generalize s.l[i]=e at*
  refine⟨⟨by omega,by omega⟩,?_⟩
  refine⟨[.string e.key,.slice A1 e.vs.length cap1],rfl,hcell,?_⟩
  refine hc.n fun g4 w4 h4 hc=>?_
  refine⟨hc.may 0 rfl 0 _ (Nat.le_refl 2) rfl,?_⟩
  intro w5 h5
  have hc:=(hc.set 0 rfl h5).1
  have cz:=((Ctx.start w' no (fun _ h=>h.elim)).loc h4).1
  have cz:=(cz.set 0 rfl h5).1
  have hr1:=hr1.below cz.below
  have hMv:=D4 hr1
  have out:∀ w6:World,Below w.heap.size w w6->(A50 e&&decide ((G5 e.vs).ver<=s.seq)&&leK (A3g s.l i) e.key)=false->C8 (.bool r) w (.returned (.bool false)) w6:=fun w6 hb h=>by
   rw [h,Bool.false_and] at he
   rw [<-he,Bool.false_and,Bool.false_and] at e0
   exact⟨B7 e0.symm,hb⟩
  refine vD (.q 0 (.n 1 (.Q [2,3,4,5,6,7,8,9,10,11,12,13,14,15,16,17,18,19,20,21,22,23,24,25,26,27,28,29,30,31,32] .fin) .stop)) (Keeps (fun b=>b<w5.heap.size) w5) (Keeps.start _ _) ?_
  refine⟨_,?_,fun x hx=>hx.looks _ _ (hc.cells 0 rfl),?_⟩
  ·rfl
  refine⟨B4 (B2f e hkk A1 cap1 S _ (hr1.below (Below.refl _ _).drew)) ?_,trivial⟩
  intro w6 h6
  have hcq:=(hc.drew.quiet h6).1
  refine⟨(Keeps.start _ _).below (fun b hb=>hb) h6,?_⟩
  rcases Bool.eq_false_or_eq_true (A50 e) with hm | hm
  rotate_left
  ·refine B0 (by rw [hm];rfl) ?_
   exact out _ hcq.below (by rw [hm];rfl)
  refine C3X (by rw [hm];rfl) ?_
  have hpos:=(E1.1 hm).2.2.1
  have hlv:e.vs.length-1<e.vs.length:=by omega
  have hw:IntKind.i64.wrap ((e.vs.length:Int)-1)=((e.vs.length-1:Nat):Int):=by rw [IntWalk.i64_in _ ⟨by omega,by omega⟩];omega
  obtain⟨ed,e2,hcl⟩:=RowV.elem hr1 (e.vs.length-1) hlv
  subst e2
  rw [<-A46 hlv] at hcl
  refine⟨_,fun x hx=>hx.look (hc.cell 0 rfl _ rfl),?_⟩
  refine⟨_,fun x hx=>hx.look (hc.cell 0 rfl _ rfl),?_⟩
  refine⟨⟨by rw [hw];omega,by rw [hw];omega⟩,?_⟩
  have hl0:w5.cell? (ed.add ((IntKind.i64.wrap ((e.vs.length:Int)-1)).toNat*3))=some (.int .i64 (G5 e.vs).ver):=by
   have:=hcl.1
   rw [add_add,Nat.add_zero] at this
   rw [hw,Int.toNat_natCast]
   exact this
  generalize ed.add ((IntKind.i64.wrap ((e.vs.length:Int)-1)).toNat*3)=ae at hl0 ⊢
  obtain⟨ab,ao,asub⟩:=ae
  refine⟨_,fun x hx=>hx.look hl0,?_⟩
  refine⟨_,fun x hx=>hx.look (hc.cell 1 rfl _ rfl),?_⟩
  rcases Int.lt_or_le s.seq (G5 e.vs).ver with c5 | c5
  ·refine dt c5 ?_
   exact out _ hcq.below (by rw [decide_eq_false (show ¬ (G5 e.vs).ver<=s.seq by omega),Bool.and_false];rfl)
  refine df (show ¬ s.seq<(G5 e.vs).ver by omega) ?_
  have next:leK (A3g s.l i) e.key=true->A1M s.seq (A3g s.l (i+1)) (s.l.drop (i+1))=A1M s.seq none s.l:=fun h=>by
   rw [hnext,<-he,hm,decide_eq_true c5,h];rfl
  rcases Nat.eq_zero_or_pos i with c6 | c6
  ·refine df (show ¬ (0:Int)<(i:Int) by omega) ?_
   exact⟨i+1,⟨rfl,rfl,rfl,congrArg _ (C3 (by omega)),trivial⟩,⟨hlt,next (by rw [A3g,if_pos c6];rfl),hcq.drop⟩,by show s.l.length-(i+1)<s.l.length-i;omega⟩
  refine dt (show (0:Int)<(i:Int) by omega) ?_
  have hj:i-1<s.l.length:=by omega
  have hwi:IntKind.i64.wrap ((i:Int)-1)=((i-1:Nat):Int):=by rw [IntWalk.i64_in _ ⟨by omega,by omega⟩];omega
  obtain⟨ad',A2,cap2,e3,hcellp,_⟩:=RowE.elem (hR.below hc.below) (hE.below hc.below) (i-1) hj
  cases e3
  have hpk:A3g s.l i=some s.l[i-1].key:=by rw [A3g,if_neg (by omega),List.getElem?_eq_getElem hj];rfl
  refine⟨_,fun x hx=>hx.look (hc.cell 1 rfl _ rfl),?_⟩
  refine⟨⟨by rw [hwi];omega,by rw [hwi];omega⟩,?_⟩
  have hp0:w5.cell? (ad.add ((IntKind.i64.wrap ((i:Int)-1)).toNat*2))=some (.string s.l[i-1].key):=by
   have:=hcellp.1
   rw [add_add,Nat.add_zero] at this
   rw [hwi,Int.toNat_natCast]
   exact this
  generalize ad.add ((IntKind.i64.wrap ((i:Int)-1)).toNat*2)=ap at hp0 ⊢
  obtain⟨pb,po,psub⟩:=ap
  refine⟨_,fun x hx=>hx.look hp0,?_⟩
  refine⟨_,fun x hx=>hx.look (hc.cell 0 rfl _ rfl),?_⟩
  rcases Bool.eq_false_or_eq_true (C6 s.l[i-1].key e.key) with c7 | c7
  ·refine C3X (by rw [c7];rfl) ?_
   exact⟨i+1,⟨rfl,rfl,rfl,congrArg _ (C3 (by omega)),trivial⟩,⟨hlt,next (by rw [hpk];exact c7),hcq.drop⟩,by show s.l.length-(i+1)<s.l.length-i;omega⟩
  ·refine B0 (by rw [c7];rfl) ?_
   exact out _ hcq.below (by rw [hpk];show (_&&C6 s.l[i-1].key e.key)=false;rw [c7,Bool.and_false])
 refine df (by omega) ?_
 rw [List.drop_of_length_le (by omega),A1M] at he
 rw [<-he,Bool.true_and] at e0
 refine⟨[.int .i64 l0,.int .i64 l1,.int .i64 l2,.int .i64 l3,.int .i64 l4],rfl,hc.cellsAt 0 rfl (0+3) _ rfl,?_⟩
 refine⟨Nat,fun i=>[(1,.pointer (some ⟨g1,0,none⟩)),(73,.agg #[.int .i64 l0,.int .i64 l1,.int .i64 l2,.int .i64 l3,.int .i64 l4]),(74,.int .i64 i)],
  fun i w'=>i<=5/\A0g i ([l0,l1,l2,l3,l4].drop i)=A0g 0 [l0,l1,l2,l3,l4]/\Ctx no w no w' [(g1,41,stC s A cap B cap' l0 l1 l2 l3 l4)],fun i _=>5-i,0,
  ⟨rfl,rfl,rfl,trivial⟩,⟨Nat.zero_le _,rfl,hc⟩,?_⟩
 rintro i w' u ⟨hi,he,hc⟩
 rcases Nat.lt_or_ge i 5 with hlt | hlt
 ·refine dt (by omega) ?_
  refine⟨_,fun w=>A8F l0 l1 l2 l3 l4 i hlt w,?_⟩
  have hd:[l0,l1,l2,l3,l4].drop i=[l0,l1,l2,l3,l4].getD i 0::[l0,l1,l2,l3,l4].drop (i+1):=by
   match i,hlt with
   | 0,_=>rfl
   | 1,_=>rfl
   | 2,_=>rfl
   | 3,_=>rfl
   | 4,_=>rfl
  rw [hd,A0g] at he
  generalize [l0,l1,l2,l3,l4].getD i 0=x at*
  have hwi:IntKind.i64.wrap ((i:Int)+1)=(i:Int)+1:=E0 _ _ (by omega) (by omega)
  rcases Int.decEq x 0 with c1 | c1
  ·refine B0 (by show (x != 0)=true;rw [bne_iff_ne];exact c1) ?_
   refine hc.q (K0 x _) fun w3 h3 hc=>?_
   have hx0:(x==0)=false:=by rw [beq_eq_false_iff_ne];exact c1
   rcases Int.decEq (B2 x) ((i:Int)+1) with c2 | c2
   ·refine B0 (by show (B2 x != IntKind.i64.wrap ((i:Int)+1))=true;rw [hwi,bne_iff_ne];exact c2) ?_
    have:(B2 x==(i:Int)+1)=false:=by rw [beq_eq_false_iff_ne];exact c2
    rw [hx0,this] at he
    rw [<-he] at e0
    exact⟨B7 e0.symm,hc.below⟩
   ·refine C3X (by show (B2 x != IntKind.i64.wrap ((i:Int)+1))=false;rw [hwi,c2];simp) ?_
    have:(B2 x==(i:Int)+1)=true:=by rw [beq_iff_eq];exact c2
    rw [this,Bool.or_true,Bool.true_and] at he
    exact⟨i+1,⟨rfl,rfl,congrArg _ (C3 (by omega)),trivial⟩,⟨hlt,he,hc⟩,by show 5-(i+1)<5-i;omega⟩
  ·subst c1
   exact⟨i+1,⟨rfl,rfl,congrArg _ (C3 (by omega)),trivial⟩,⟨hlt,he,hc⟩,by show 5-(i+1)<5-i;omega⟩
 refine df (by omega) ?_
 rw [List.drop_of_length_le (by show 5<=i;exact hlt),A0g] at he
 rw [<-he,Bool.true_and] at e0
 refine hc.c 0 rfl rfl ?_
 refine⟨Nat,fun i=>[(1,.pointer (some ⟨g1,0,none⟩)),(89,.slice B s.ms.length cap'),(90,.int .i64 s.ms.length),(91,.int .i64 i)],
  fun i w'=>i<=s.ms.length/\A1D [l0,l1,l2,l3,l4] s.seq (A2n s.ms i) (s.ms.drop i)=A1D [l0,l1,l2,l3,l4] s.seq none s.ms/\Ctx no w no w' [(g1,41,stC s A cap B cap' l0 l1 l2 l3 l4)],fun i _=>s.ms.length-i,0,
  ⟨rfl,rfl,rfl,rfl,trivial⟩,⟨Nat.zero_le _,rfl,hc⟩,?_⟩
 rintro i w' u ⟨hi,he,hc⟩
 rcases Nat.lt_or_ge i s.ms.length with hlt | hlt
 ·refine dt (by omega) ?_
  obtain⟨ad,e1,hcell⟩:=RowM.elem (hM.below hc.below) i hlt
  subst e1
  have hnext:A2n s.ms (i+1)=some s.ms[i].req:=by rw [A2n,if_neg (by omega),Nat.add_sub_cancel,List.getElem?_eq_getElem hlt];rfl
  rw [List.drop_eq_getElem_cons hlt,B0B] at he
  generalize s.ms[i]=m at*
  refine⟨⟨by omega,by omega⟩,?_⟩
  refine⟨F7 m,rfl,hcell,?_⟩
  refine hc.n fun g8 w4 h4 hc=>?_
  refine⟨hc.may 0 rfl 0 _ (Nat.le_refl 3) rfl,?_⟩
  intro w5 h5
  have hc:=(hc.set 0 rfl h5).1
  refine hc.c 0 rfl rfl ?_
  refine hc.q (K0 m.req _) fun w6 h6 hc=>?_
  have hh:=R6 m.req
  have out:∀ w6:World,Below w.heap.size w w6->(!(B2 m.req==0)&&decide (I5 [l0,l1,l2,l3,l4] (B2 m.req)<=m.req)&&leM (A2n s.ms i) m.req&&decide (0<=m.res.err)&&decide (m.res.err<=13)&&decide (0<=m.res.ver)&&decide (m.res.ver<=s.seq))=false->C8 (.bool r) w (.returned (.bool false)) w6:=fun w6 hb h=>by
   rw [h,Bool.false_and] at he
   rw [<-he] at e0
   exact⟨B7 e0.symm,hb⟩
  generalize B2 m.req=hm at*
  refine vD (.Q [0,1,2,3,4,5,6,7,8,9,10,11,12,13,14,15,16,17,18,19,20,21,22,23,24,25,26,27] .fin) (Keeps (fun b=>b<w6.heap.size) w6) (Keeps.start _ _) ?_
  have hcd:=hc.drew
  rcases Int.decEq hm 0 with c1 | c1
  rotate_left
  ·subst c1
   exact out _ hcd.below rfl
  refine C3X (by show (hm==0)=false;rw [beq_eq_false_iff_ne];exact c1) ?_
  have hwm:IntKind.i64.wrap (hm-1)=hm-1:=IntWalk.i64_in _ ⟨by omega,by omega⟩
  refine⟨_,fun x hx=>hx.look (hc.cell 0 rfl _ rfl),?_⟩
  refine⟨⟨by rw [hwm];omega,by rw [hwm];omega⟩,?_⟩
  have hl0:=A0K (hc.blk 1 rfl) hm (IntKind.i64.wrap (hm-1)) ⟨by omega,by omega⟩ hwm
  have hm0:(hm==0)=false:=by rw [beq_eq_false_iff_ne];exact c1
  generalize I5 [l0,l1,l2,l3,l4] hm=lo at*
  generalize (⟨g1,0+3,none⟩:Addr).add ((IntKind.i64.wrap (hm-1)).toNat*1)=al at hl0 ⊢
  obtain⟨lb,lof,lsub⟩:=al
  refine⟨_,fun x hx=>hx.look hl0,?_⟩
  rcases Int.lt_or_le m.req lo with c2 | c2
  ·refine dt c2 ?_
   exact out _ hcd.below (by rw [decide_eq_false (show ¬ lo<=m.req by omega),Bool.and_false];rfl)
  refine df (show ¬ m.req<lo by omega) ?_
  have hfar:leM (A2n s.ms i) m.req=true->(!(hm==0)&&decide (lo<=m.req)&&leM (A2n s.ms i) m.req)=true:=fun h=>by rw [hm0,decide_eq_true c2,h];rfl
  rcases Nat.eq_zero_or_pos i with c3 | c3
  all_goals first
   | (
     refine df (show ¬ (0:Int)<(i:Int) by omega) ?_
     have hle:=hfar (by rw [A2n,if_pos c3];rfl))
   | (
     refine dt (show (0:Int)<(i:Int) by omega) ?_
     have hj:i-1<s.ms.length:=by omega
     have hwi:IntKind.i64.wrap ((i:Int)-1)=((i-1:Nat):Int):=by rw [IntWalk.i64_in _ ⟨by omega,by omega⟩];omega
     obtain⟨ad',e3,hcellp⟩:=RowM.elem (hM.below hc.below) (i-1) hj
     cases e3
     have hpk:A2n s.ms i=some s.ms[i-1].req:=by rw [A2n,if_neg (by omega),List.getElem?_eq_getElem hj];rfl
     refine⟨_,fun x hx=>hx.look (hc.cell 1 rfl _ rfl),?_⟩
     refine⟨⟨by rw [hwi];omega,by rw [hwi];omega⟩,?_⟩
     have hp0:w6.cell? (ad.add ((IntKind.i64.wrap ((i:Int)-1)).toNat*3))=some (.int .i64 s.ms[i-1].req):=by
      have:=hcellp.1
      rw [add_add,Nat.add_zero] at this
      rw [hwi,Int.toNat_natCast]
      exact this
     generalize ad.add ((IntKind.i64.wrap ((i:Int)-1)).toNat*3)=ap at hp0 ⊢
     obtain⟨pb,po,psub⟩:=ap
     refine⟨_,fun x hx=>hx.look hp0,?_⟩
     refine⟨_,fun x hx=>hx.look (hc.cell 0 rfl _ rfl),?_⟩
     rcases Int.lt_or_le s.ms[i-1].req m.req with c7 | c7
     rotate_left
     ·refine dt c7 ?_
      exact out _ hcd.below (by
       have:leM (A2n s.ms i) m.req=false:=by rw [hpk];exact decide_eq_false (by omega)
       rw [this,Bool.and_false];rfl)
     refine df (show ¬ m.req<=s.ms[i-1].req by omega) ?_
     have hle:=hfar (by rw [hpk];exact decide_eq_true c7))
  all_goals rw [hle,Bool.true_and] at out he
  all_goals refine⟨_,hcd.cell 0 rfl _ rfl,?_⟩
  all_goals rcases Int.lt_or_le m.res.err 0 with d1 | d1
  all_goals first
   | (
     refine dt d1 ?_
     exact out _ hcd.below (by rw [decide_eq_false (show ¬ 0<=m.res.err by omega)];rfl))
   | (refine df (show ¬ m.res.err<0 by omega) ?_)
  all_goals refine⟨_,hcd.cell 0 rfl _ rfl,?_⟩
  all_goals rcases Int.lt_or_le 13 m.res.err with d2 | d2
  all_goals first
   | (
     refine dt d2 ?_
     exact out _ hcd.below (by rw [decide_eq_false (show ¬ m.res.err<=13 by omega),Bool.and_false];rfl))
   | (refine df (show ¬ 13<m.res.err by omega) ?_)
  all_goals refine⟨_,hcd.cell 0 rfl _ rfl,?_⟩
  all_goals rcases Int.lt_or_le m.res.ver 0 with d3 | d3
  all_goals first
   | (
     refine dt d3 ?_
     exact out _ hcd.below (by rw [decide_eq_false (show ¬ 0<=m.res.ver by omega),Bool.and_false];rfl))
   | (refine df (show ¬ m.res.ver<0 by omega) ?_)
  all_goals refine⟨_,hcd.cell 0 rfl _ rfl,?_⟩
  all_goals refine⟨_,hcd.cell 1 rfl _ rfl,?_⟩
  all_goals rcases Int.lt_or_le s.seq m.res.ver with d4 | d4
  all_goals first
   | (
     refine dt d4 ?_
     exact out _ hcd.below (by rw [decide_eq_false (show ¬ m.res.ver<=s.seq by omega),Bool.and_false]))
   | (
     refine df (show ¬ s.seq<m.res.ver by omega) ?_
     rw [decide_eq_true d1,decide_eq_true d2,decide_eq_true d3,decide_eq_true d4] at he
     exact⟨i+1,⟨rfl,rfl,rfl,congrArg _ (C3 (by omega)),trivial⟩,⟨hlt,by rw [hnext];exact he,hcd.drop⟩,by show s.ms.length-(i+1)<s.ms.length-i;omega⟩)
 ·refine df (by omega) ?_
  rw [List.drop_of_length_le (by omega),A1D] at he
  rw [<-he] at e0
  exact⟨B7 e0.symm,hc.below⟩
structure Ver.Ok (v:Ver):Prop where
 ver:B3 v.ver
 body:X6 v.body
structure Ent.Ok (e:Ent):Prop where
 key:X6 e.key
 vs:∀ v∈e.vs,v.Ok
structure Mem.Ok (m:Mem):Prop where
 req:B3 m.req
 err:B3 m.res.err
 ver:B3 m.res.ver
structure Stt.Ok (s:Stt):Prop where
 seq:B3 s.seq
 l:∀ e∈s.l,e.Ok
 ms:∀ m∈s.ms,m.Ok
 lows:∀ x∈s.lows,B3 x
theorem C1z {w:World} {g T:Nat} {a b c:Value} {l0 l1 l2 l3 l4:Int} (hB:Blk w g T [a,b,c,.int .i64 l0,.int .i64 l1,.int .i64 l2,.int .i64 l3,.int .i64 l4]) (i:Nat) (hi:i<5):
  w.cell? ((⟨g,0+3,none⟩:Addr).add ((i:Int).toNat*1))=some (.int .i64 ([l0,l1,l2,l3,l4].getD i 0)):=by
 match i,hi with
 | 0,_=>exact hB.cell 3
 | 1,_=>exact hB.cell 4
 | 2,_=>exact hB.cell 5
 | 3,_=>exact hB.cell 6
 | 4,_=>exact hB.cell 7
theorem C2B (q k:ByteArray):(C6 k q||D3 k q)=!C6 q k:=(A1r q k).symm
theorem C2C (s:Stt) (hk:s.Ok) (cs:List Value) (S:Nat->Prop) (w:World) (hs:RepS S w s cs):Calls Tryz.prog 77 #[.agg cs.toArray] w (C8 (.bool (T5 s)) w):=by
 obtain⟨A,cap,css,B,cap',l0,l1,l2,l3,l4,rfl,el,hE,hR,hM⟩:=hs.shape
 have hMa:=D4 hR
 have hMm:=D4 hM
 refine vE Tryz.func77 ?_
 intro g1 w1 h1
 have hc:=((Ctx.start w no (fun _ h=>h.elim)).loc h1).1
 have e0:T5 s=(decide (0<=s.seq)&&decide (s.seq<=E3)&&decide (s.l.length<=40)&&decide (s.ms.length<=100)&&A1M s.seq none s.l&&A0g 0 s.lows&&A1D s.lows s.seq none s.ms):=rfl
 have hmax:E3=1099511627776:=rfl
 have hlows:=hk.lows
 rw [el] at e0 hlows
 generalize T5 s=r at e0 ⊢
 refine hc.c 0 rfl rfl ?_
 rcases Int.lt_or_le s.seq 0 with c1 | c1
 ·refine dt c1 ?_
  rw [decide_eq_false (show ¬ 0<=s.seq by omega)] at e0
  exact⟨B7 e0.symm,hc.below⟩
 refine df (show ¬ s.seq<0 by omega) ?_
 refine hc.c 0 rfl rfl ?_
 rcases Int.lt_or_le 1099511627776 s.seq with c2 | c2
 ·refine dt c2 ?_
  rw [decide_eq_true c1,decide_eq_false (show ¬ s.seq<=E3 by omega)] at e0
  exact⟨B7 e0.symm,hc.below⟩
 refine df (show ¬ 1099511627776<s.seq by omega) ?_
 refine hc.c 0 rfl rfl ?_
 rcases Nat.lt_or_ge 40 s.l.length with c3 | c3
 ·refine dt (show (40:Int)<(s.l.length:Int) by omega) ?_
  rw [decide_eq_false (show ¬ s.l.length<=40 by omega),Bool.and_false] at e0
  exact⟨B7 e0.symm,hc.below⟩
 refine df (show ¬ (40:Int)<(s.l.length:Int) by omega) ?_
 refine hc.c 0 rfl rfl ?_
 rcases Nat.lt_or_ge 100 s.ms.length with c4 | c4
 ·refine dt (show (100:Int)<(s.ms.length:Int) by omega) ?_
  rw [decide_eq_false (show ¬ s.ms.length<=100 by omega),Bool.and_false] at e0
  exact⟨B7 e0.symm,hc.below⟩
 refine df (show ¬ (100:Int)<(s.ms.length:Int) by omega) ?_
 rw [decide_eq_true c1,decide_eq_true (show s.seq<=E3 by omega),decide_eq_true c3,decide_eq_true c4,Bool.and_self,Bool.and_self,Bool.and_self,Bool.true_and] at e0
 refine⟨Nat,fun i=>[(1,.pointer (some ⟨g1,0,none⟩)),(3,.int .i64 i)],
  fun i w'=>i<=s.l.length/\A1M s.seq (A3g s.l i) (s.l.drop i)=A1M s.seq none s.l/\Ctx no w no w' [(g1,41,stC s A cap B cap' l0 l1 l2 l3 l4)],fun i _=>s.l.length-i,0,
  ⟨rfl,rfl,trivial⟩,⟨Nat.zero_le _,rfl,hc⟩,?_⟩
 rintro i w5 u ⟨hi,he,hc⟩
 refine hc.c 0 rfl rfl ?_
 rcases Nat.lt_or_ge i s.l.length with hlt | hlt
 ·refine dt (by omega) ?_
  obtain⟨ad,A1,cap1,e1,hcell,hr1⟩:=RowE.elem (hR.below hc.below) (hE.below hc.below) i hlt
  subst e1
  have hnext:A3g s.l (i+1)=some s.l[i].key:=by rw [A3g,if_neg (by omega),Nat.add_sub_cancel,List.getElem?_eq_getElem hlt];rfl
  have hkk:=(hk.l _ (List.getElem_mem hlt)).key
  rw [List.drop_eq_getElem_cons hlt,B0A] at he
  generalize s.l[i]=e at*
  have hMv:=D4 hr1
  have out:∀ w6:World,Below w.heap.size w w6->(A50 e&&decide ((G5 e.vs).ver<=s.seq)&&leK (A3g s.l i) e.key)=false->C8 (.bool r) w (.returned (.bool false)) w6:=fun w6 hb h=>by
   rw [h,Bool.false_and] at he
   rw [<-he,Bool.false_and,Bool.false_and] at e0
   exact⟨B7 e0.symm,hb⟩
  have hkey:w5.cell? (ad.add ((i:Int).toNat*2))=some (.string e.key):=by
   have:=hcell.1
   rw [add_add,Nat.add_zero] at this
   exact this
  have hsl:w5.cell? ((ad.add ((i:Int).toNat*2)).add 1)=some (.slice A1 e.vs.length cap1):=hcell.2.1
  refine vD (.Q [0,1,2,3,4] (.n 5 (.Q [6,7,8,9,10,11,12,13,14,15,16,17,18,19,20,21,22,23,24,25,26,27,28,29,30,31,32,33,34,35,36,37,38,39,40,41,42,43,44,45,46,47,48] .fin) .stop)) (Keeps (fun b=>b<w5.heap.size) w5) (Keeps.start _ _) ?_
  refine⟨_,fun x hx=>hx.look (hc.cell 0 rfl _ rfl),?_⟩
  refine⟨⟨by omega,by omega⟩,?_⟩
  refine⟨[.string e.key,.slice A1 e.vs.length cap1],rfl,fun x hx=>hx.looks _ _ hcell,?_⟩
  refine⟨B4 (C2A e hkk A1 cap1 S _ (hr1.below (Below.refl _ _).drew)) ?_,trivial⟩
  intro w6 h6
  have hcq:=(hc.drew.quiet h6).1
  refine⟨(Keeps.start _ _).below (fun b hb=>hb) h6,?_⟩
  rcases Bool.eq_false_or_eq_true (A50 e) with hm | hm
  rotate_left
  ·refine B0 (by rw [hm];rfl) ?_
   exact out _ hcq.below (by rw [hm];rfl)
  refine C3X (by rw [hm];rfl) ?_
  have hpos:=(E1.1 hm).2.2.1
  have hlv:e.vs.length-1<e.vs.length:=by omega
  have hw:IntKind.i64.wrap ((e.vs.length:Int)-1)=((e.vs.length-1:Nat):Int):=by rw [IntWalk.i64_in _ ⟨by omega,by omega⟩];omega
  obtain⟨ed,e2,hcl⟩:=RowV.elem hr1 (e.vs.length-1) hlv
  subst e2
  rw [<-A46 hlv] at hcl
  have hl0:w5.cell? (ed.add ((IntKind.i64.wrap ((e.vs.length:Int)-1)).toNat*3))=some (.int .i64 (G5 e.vs).ver):=by
   have:=hcl.1
   rw [add_add,Nat.add_zero] at this
   rw [hw,Int.toNat_natCast]
   exact this
  rcases Nat.eq_zero_or_pos i with c6 | c6
  all_goals first
   | (
     refine df (show ¬ (0:Int)<(i:Int) by omega) ?_
     have hle:leK (A3g s.l i) e.key=true:=by rw [A3g,if_pos c6];rfl)
   | (
     refine dt (show (0:Int)<(i:Int) by omega) ?_
     have hj:i-1<s.l.length:=by omega
     have hwi:IntKind.i64.wrap ((i:Int)-1)=((i-1:Nat):Int):=by rw [IntWalk.i64_in _ ⟨by omega,by omega⟩];omega
     obtain⟨ad',A2,cap2,e3,hcellp,_⟩:=RowE.elem (hR.below hc.below) (hE.below hc.below) (i-1) hj
     cases e3
     have hpk:A3g s.l i=some s.l[i-1].key:=by rw [A3g,if_neg (by omega),List.getElem?_eq_getElem hj];rfl
     have hp0:w5.cell? (ad.add ((IntKind.i64.wrap ((i:Int)-1)).toNat*2))=some (.string s.l[i-1].key):=by
      have:=hcellp.1
      rw [add_add,Nat.add_zero] at this
      rw [hwi,Int.toNat_natCast]
      exact this
     refine⟨_,fun x hx=>hx.look (hc.cell 0 rfl _ rfl),?_⟩
     refine⟨⟨by omega,by omega⟩,?_⟩
     generalize ad.add ((i:Int).toNat*2)=ae at hkey ⊢
     obtain⟨ab,ao,asub⟩:=ae
     refine⟨_,fun x hx=>hx.look hkey,?_⟩
     refine⟨_,fun x hx=>hx.look (hc.cell 0 rfl _ rfl),?_⟩
     refine⟨⟨by rw [hwi];omega,by rw [hwi];omega⟩,?_⟩
     generalize ad.add ((IntKind.i64.wrap ((i:Int)-1)).toNat*2)=ap at hp0 ⊢
     obtain⟨pb,po,psub⟩:=ap
     refine⟨_,fun x hx=>hx.look hp0,?_⟩
     rcases Bool.eq_false_or_eq_true (C6 s.l[i-1].key e.key) with c7 | c7
     rotate_left
     ·refine B0 (by rw [C2B,c7];rfl) ?_
      exact out _ hcq.below (by rw [hpk];show (_&&C6 s.l[i-1].key e.key)=false;rw [c7,Bool.and_false])
     refine C3X (by rw [C2B,c7];rfl) ?_
     have hle:leK (A3g s.l i) e.key=true:=by rw [hpk];exact c7)
  all_goals refine⟨_,fun x hx=>hx.look (hc.cell 0 rfl _ rfl),?_⟩
  all_goals refine⟨⟨by omega,by omega⟩,?_⟩
  all_goals have hsl2:=hsl
  all_goals generalize ad.add ((i:Int).toNat*2)=af at hsl ⊢
  all_goals obtain⟨fb,fo,fsub⟩:=af
  all_goals refine⟨_,fun x hx=>hx.look (show w5.cell? ⟨fb,fo+1,none⟩=_ from hsl),?_⟩
  all_goals refine⟨_,fun x hx=>hx.look (hc.cell 0 rfl _ rfl),?_⟩
  all_goals refine⟨⟨by omega,by omega⟩,?_⟩
  all_goals generalize ad.add ((i:Int).toNat*2)=ag at hsl2 ⊢
  all_goals obtain⟨gb,go,gsub⟩:=ag
  all_goals refine⟨_,fun x hx=>hx.look (show w5.cell? ⟨gb,go+1,none⟩=_ from hsl2),?_⟩
  all_goals refine⟨⟨by rw [hw];omega,by rw [hw];omega⟩,?_⟩
  all_goals generalize ed.add ((IntKind.i64.wrap ((e.vs.length:Int)-1)).toNat*3)=al at hl0 ⊢
  all_goals obtain⟨lb,lo,lsub⟩:=al
  all_goals refine⟨_,fun x hx=>hx.look hl0,?_⟩
  all_goals refine⟨_,fun x hx=>hx.look (hc.cell 0 rfl _ rfl),?_⟩
  all_goals rcases Int.lt_or_le s.seq (G5 e.vs).ver with c5 | c5
  all_goals first
   | (
     refine dt c5 ?_
     exact out _ hcq.below (by rw [decide_eq_false (show ¬ (G5 e.vs).ver<=s.seq by omega),Bool.and_false];rfl))
   | (
     refine df (show ¬ s.seq<(G5 e.vs).ver by omega) ?_
     exact⟨i+1,⟨rfl,congrArg _ (C3 (by omega)),trivial⟩,⟨hlt,by rw [hnext,<-he,hm,decide_eq_true c5,hle];rfl,hcq⟩,by show s.l.length-(i+1)<s.l.length-i;omega⟩)
 refine df (by omega) ?_
 rw [List.drop_of_length_le (by omega),A1M] at he
 rw [<-he,Bool.true_and] at e0
 refine⟨Nat,fun i=>[(1,.pointer (some ⟨g1,0,none⟩)),(4,.int .i64 i)],
  fun i w'=>i<=5/\A0g i ([l0,l1,l2,l3,l4].drop i)=A0g 0 [l0,l1,l2,l3,l4]/\Ctx no w no w' [(g1,41,stC s A cap B cap' l0 l1 l2 l3 l4)],fun i _=>5-i,0,
  ⟨rfl,rfl,trivial⟩,⟨Nat.zero_le _,rfl,hc⟩,?_⟩
 rintro i w' u ⟨hi,he,hc⟩
 rcases Nat.lt_or_ge i 5 with hlt | hlt
 ·refine dt (by omega) ?_
  have hd:[l0,l1,l2,l3,l4].drop i=[l0,l1,l2,l3,l4].getD i 0::[l0,l1,l2,l3,l4].drop (i+1):=by
   match i,hlt with
   | 0,_=>rfl
   | 1,_=>rfl
   | 2,_=>rfl
   | 3,_=>rfl
   | 4,_=>rfl
  have hx64:B3 ([l0,l1,l2,l3,l4].getD i 0):=by
   match i,hlt with
   | 0,_=>exact hlows _ (by simp)
   | 1,_=>exact hlows _ (by simp)
   | 2,_=>exact hlows _ (by simp)
   | 3,_=>exact hlows _ (by simp)
   | 4,_=>exact hlows _ (by simp)
  have hcellx:=C1z (hc.blk 0 rfl) i hlt
  rw [hd,A0g] at he
  generalize [l0,l1,l2,l3,l4].getD i 0=x at*
  have hcelly:=hcellx
  have hwi:IntKind.i64.wrap ((i:Int)+1)=(i:Int)+1:=E0 _ _ (by omega) (by omega)
  refine⟨⟨by omega,by omega⟩,?_⟩
  generalize (⟨g1,0+3,none⟩:Addr).add ((i:Int).toNat*1)=al at hcellx ⊢
  obtain⟨lb,lo,lsub⟩:=al
  refine⟨_,hcellx,?_⟩
  rcases Int.decEq x 0 with c1 | c1
  ·refine B0 (by show (x != 0)=true;rw [bne_iff_ne];exact c1) ?_
   refine⟨⟨by omega,by omega⟩,?_⟩
   generalize (⟨g1,0+3,none⟩:Addr).add ((i:Int).toNat*1)=am at hcelly ⊢
   obtain⟨mb,mo,msub⟩:=am
   refine⟨_,hcelly,?_⟩
   refine hc.q (C0k x _ hx64.1 hx64.2) fun w3 h3 hc=>?_
   have hx0:(x==0)=false:=by rw [beq_eq_false_iff_ne];exact c1
   rcases Int.decEq (B2 x) ((i:Int)+1) with c2 | c2
   ·refine B0 (by show (B2 x != IntKind.i64.wrap ((i:Int)+1))=true;rw [hwi,bne_iff_ne];exact c2) ?_
    have:(B2 x==(i:Int)+1)=false:=by rw [beq_eq_false_iff_ne];exact c2
    rw [hx0,this] at he
    rw [<-he] at e0
    exact⟨B7 e0.symm,hc.below⟩
   ·refine C3X (by show (B2 x != IntKind.i64.wrap ((i:Int)+1))=false;rw [hwi,c2];simp) ?_
    have:(B2 x==(i:Int)+1)=true:=by rw [beq_iff_eq];exact c2
    rw [this,Bool.or_true,Bool.true_and] at he
    exact⟨i+1,⟨rfl,congrArg _ (C3 (by omega)),trivial⟩,⟨hlt,he,hc⟩,by show 5-(i+1)<5-i;omega⟩
  ·refine C3X (by show (x != 0)=false;rw [c1];rfl) ?_
   rw [c1] at he
   exact⟨i+1,⟨rfl,congrArg _ (C3 (by omega)),trivial⟩,⟨hlt,he,hc⟩,by show 5-(i+1)<5-i;omega⟩
 refine df (by omega) ?_
 rw [List.drop_of_length_le (by show 5<=i;exact hlt),A0g] at he
 rw [<-he,Bool.true_and] at e0
 refine⟨Nat,fun i=>[(1,.pointer (some ⟨g1,0,none⟩)),(5,.int .i64 i)],
  fun i w'=>i<=s.ms.length/\A1D [l0,l1,l2,l3,l4] s.seq (A2n s.ms i) (s.ms.drop i)=A1D [l0,l1,l2,l3,l4] s.seq none s.ms/\Ctx no w no w' [(g1,41,stC s A cap B cap' l0 l1 l2 l3 l4)],fun i _=>s.ms.length-i,0,
  ⟨rfl,rfl,trivial⟩,⟨Nat.zero_le _,rfl,hc⟩,?_⟩
 rintro i w' u ⟨hi,he,hc⟩
 refine hc.c 0 rfl rfl ?_
 rcases Nat.lt_or_ge i s.ms.length with hlt | hlt
 ·refine dt (by omega) ?_
  obtain⟨ad,e1,hcell⟩:=RowM.elem (hM.below hc.below) i hlt
  subst e1
  have hnext:A2n s.ms (i+1)=some s.ms[i].req:=by rw [A2n,if_neg (by omega),Nat.add_sub_cancel,List.getElem?_eq_getElem hlt];rfl
  have hmok:=hk.ms _ (List.getElem_mem hlt)
  rw [List.drop_eq_getElem_cons hlt,B0B] at he
  generalize s.ms[i]=m at*
  refine hc.c 0 rfl rfl ?_
  refine⟨⟨by omega,by omega⟩,?_⟩
  refine⟨F7 m,rfl,hcell,?_⟩
  refine hc.n fun g8 w4 h4 hc=>?_
  refine⟨hc.may 0 rfl 0 _ (Nat.le_refl 3) rfl,?_⟩
  intro w5 h5
  have hc:=(hc.set 0 rfl h5).1
  refine hc.c 0 rfl rfl ?_
  refine hc.q (C0k m.req _ hmok.req.1 hmok.req.2) fun w6 h6 hc=>?_
  have hh:=R6 m.req
  have out:∀ w6:World,Below w.heap.size w w6->(!(B2 m.req==0)&&decide (I5 [l0,l1,l2,l3,l4] (B2 m.req)<=m.req)&&leM (A2n s.ms i) m.req&&decide (0<=m.res.err)&&decide (m.res.err<=13)&&decide (0<=m.res.ver)&&decide (m.res.ver<=s.seq))=false->C8 (.bool r) w (.returned (.bool false)) w6:=fun w6 hb h=>by
   rw [h,Bool.false_and] at he
   rw [<-he] at e0
   exact⟨B7 e0.symm,hb⟩
  generalize B2 m.req=hm at*
  refine vD (.Q [0,1,2,3,4,5,6,7,8,9,10,11,12,13,14,15,16,17,18,19,20,21,22,23,24,25,26,27,28,29,30,31,32,33,34,35,36,37,38,39,40,41,42,43,44,45,46,47,48,49,50,51,52,53] .fin) (Keeps (fun b=>b<w6.heap.size) w6) (Keeps.start _ _) ?_
  have hcd:=hc.drew
  rcases Int.decEq hm 0 with c1 | c1
  rotate_left
  ·subst c1
   exact out _ hcd.below rfl
  refine C3X (by show (hm==0)=false;rw [beq_eq_false_iff_ne];exact c1) ?_
  have hwm:IntKind.i64.wrap (hm-1)=hm-1:=IntWalk.i64_in _ ⟨by omega,by omega⟩
  have hl0:=A0K (hc.blk 1 rfl) hm (IntKind.i64.wrap (hm-1)) ⟨by omega,by omega⟩ hwm
  have hm0:(hm==0)=false:=by rw [beq_eq_false_iff_ne];exact c1
  generalize I5 [l0,l1,l2,l3,l4] hm=lo at*
  rcases Nat.eq_zero_or_pos i with c3 | c3
  all_goals first
   | (
     refine df (show ¬ (0:Int)<(i:Int) by omega) ?_
     have hle:leM (A2n s.ms i) m.req=true:=by rw [A2n,if_pos c3];rfl)
   | (
     refine dt (show (0:Int)<(i:Int) by omega) ?_
     have hj:i-1<s.ms.length:=by omega
     have hwi:IntKind.i64.wrap ((i:Int)-1)=((i-1:Nat):Int):=by rw [IntWalk.i64_in _ ⟨by omega,by omega⟩];omega
     obtain⟨ad',e3,hcellp⟩:=RowM.elem (hM.below hc.below) (i-1) hj
     cases e3
     have hpk:A2n s.ms i=some s.ms[i-1].req:=by rw [A2n,if_neg (by omega),List.getElem?_eq_getElem hj];rfl
     refine⟨_,fun x hx=>hx.look (hc.cell 0 rfl _ rfl),?_⟩
     refine⟨_,fun x hx=>hx.look (hc.cell 1 rfl _ rfl),?_⟩
     refine⟨⟨by rw [hwi];omega,by rw [hwi];omega⟩,?_⟩
     have hp0:w6.cell? (ad.add ((IntKind.i64.wrap ((i:Int)-1)).toNat*3))=some (.int .i64 s.ms[i-1].req):=by
      have:=hcellp.1
      rw [add_add,Nat.add_zero] at this
      rw [hwi,Int.toNat_natCast]
      exact this
     generalize ad.add ((IntKind.i64.wrap ((i:Int)-1)).toNat*3)=ap at hp0 ⊢
     obtain⟨pb,po,psub⟩:=ap
     refine⟨_,fun x hx=>hx.look hp0,?_⟩
     rcases Int.lt_or_le s.ms[i-1].req m.req with c7 | c7
     rotate_left
     ·refine dt c7 ?_
      exact out _ hcd.below (by
       have:leM (A2n s.ms i) m.req=false:=by rw [hpk];exact decide_eq_false (by omega)
       rw [this,Bool.and_false];rfl)
     refine df (show ¬ m.req<=s.ms[i-1].req by omega) ?_
     have hle:leM (A2n s.ms i) m.req=true:=by rw [hpk];exact decide_eq_true c7)
  all_goals refine⟨_,fun x hx=>hx.look (hc.cell 0 rfl _ rfl),?_⟩
  all_goals refine⟨⟨by rw [hwm];omega,by rw [hwm];omega⟩,?_⟩
  all_goals generalize (⟨g1,0+3,none⟩:Addr).add ((IntKind.i64.wrap (hm-1)).toNat*1)=al at hl0 ⊢
  all_goals obtain⟨lb,lof,lsub⟩:=al
  all_goals refine⟨_,fun x hx=>hx.look hl0,?_⟩
  all_goals rcases Int.lt_or_le m.req lo with c2 | c2
  all_goals first
   | (
     refine dt c2 ?_
     exact out _ hcd.below (by rw [decide_eq_false (show ¬ lo<=m.req by omega),Bool.and_false];rfl))
   | (refine df (show ¬ m.req<lo by omega) ?_)
  all_goals rw [hm0,decide_eq_true c2,hle] at out he
  all_goals simp only [Bool.not_false,Bool.true_and] at out he
  all_goals refine⟨_,fun x hx=>hx.look (hc.cell 0 rfl _ rfl),?_⟩
  all_goals rcases Int.lt_or_le m.res.err 0 with d1 | d1
  all_goals first
   | (
     refine dt d1 ?_
     exact out _ hcd.below (by rw [decide_eq_false (show ¬ 0<=m.res.err by omega)];rfl))
   | (refine df (show ¬ m.res.err<0 by omega) ?_)
  all_goals refine⟨_,fun x hx=>hx.look (hc.cell 0 rfl _ rfl),?_⟩
  all_goals rcases Int.lt_or_le 13 m.res.err with d2 | d2
  all_goals first
   | (
     refine dt d2 ?_
     exact out _ hcd.below (by rw [decide_eq_false (show ¬ m.res.err<=13 by omega),Bool.and_false];rfl))
   | (refine df (show ¬ 13<m.res.err by omega) ?_)
  all_goals refine⟨_,fun x hx=>hx.look (hc.cell 0 rfl _ rfl),?_⟩
  all_goals rcases Int.lt_or_le m.res.ver 0 with d3 | d3
  all_goals first
   | (
     refine dt d3 ?_
     exact out _ hcd.below (by rw [decide_eq_false (show ¬ 0<=m.res.ver by omega),Bool.and_false];rfl))
   | (refine df (show ¬ m.res.ver<0 by omega) ?_)
  all_goals refine⟨_,fun x hx=>hx.look (hc.cell 0 rfl _ rfl),?_⟩
  all_goals refine⟨_,fun x hx=>hx.look (hc.cell 1 rfl _ rfl),?_⟩
  all_goals rcases Int.lt_or_le s.seq m.res.ver with d4 | d4
  all_goals first
   | (
     refine dt d4 ?_
     exact out _ hcd.below (by rw [decide_eq_false (show ¬ m.res.ver<=s.seq by omega),Bool.and_false]))
   | (
     refine df (show ¬ s.seq<m.res.ver by omega) ?_
     rw [decide_eq_true d1,decide_eq_true d2,decide_eq_true d3,decide_eq_true d4] at he
     exact⟨i+1,⟨rfl,congrArg _ (C3 (by omega)),trivial⟩,⟨hlt,by rw [hnext];exact he,hcd.drop⟩,by show s.ms.length-(i+1)<s.ms.length-i;omega⟩)
 ·refine df (by omega) ?_
  rw [List.drop_of_length_le (by omega),A1D] at he
  rw [<-he] at e0
  exact⟨B7 e0.symm,hc.below⟩
def A7P (p:Mem->Bool):List Mem->Option Nat
 | []=>none
 | m::r=>if p m then some 0 else (A7P p r).map (·+1)
theorem A5A (p:Mem->Bool):∀ l:List Mem,(∀ j (h:j<l.length),p l[j]=false)->A7P p l=none
 | [],_=>rfl
 | m::r,h=>by
  have h0:p m=false:=h 0 (by simp)
  rw [A7P,h0,A5A p r (fun j hj=>h (j+1) (by simpa using hj))]
  rfl
theorem A5B (p:Mem->Bool):∀ (l:List Mem) (i:Nat) (hi:i<l.length),p l[i]=true->(∀ j (h:j<l.length),j<i->p l[j]=false)->A7P p l=some i
 | m::r,0,hi,hp,_=>by
  have h0:p m=true:=hp
  rw [A7P,h0]
  rfl
 | m::r,i+1,hi,hp,h=>by
  have h0:p m=false:=h 0 (by simp) (by omega)
  rw [A7P,h0,A5B p r i (by simpa using hi) (by simpa using hp) (fun j hj hlt=>h (j+1) (by simpa using hj) (by omega))]
  rfl
theorem B9q (p:Mem->Bool) (a:Addr) (l:List Mem) (A:Option Addr) (cap:Nat) (S:Nat->Prop) (w:World) (hR:Row S w A l.length cap (l.map F7).flatten)
  (hp:∀ m w',Below w.heap.size w w'->Calls Tryz.prog 210 #[.agg (F7 m).toArray,.pointer (some a)] w' (C8 (.bool (p m)) w')):
  Calls Tryz.prog 209 #[.slice A l.length cap,.func (.func 210) #[] #[.pointer (some a)]] w (C8 (.int .i64 (B5A (A7P p l))) w):=by
 refine vE Tryz.func209 ?_
 have hM:=D4 hR
 refine⟨Nat,fun i=>[(0,.slice A l.length cap),(1,.func (.func 210) #[] #[.pointer (some a)]),(7,.int .i64 l.length),(8,.int .i64 i)],
  fun i w'=>i<=l.length/\(∀ j (hj:j<l.length),j<i->p l[j]=false)/\Below w.heap.size w w',fun i _=>l.length-i,0,
  ⟨rfl,rfl,rfl,rfl,trivial⟩,⟨Nat.zero_le _,fun j hj h=>absurd h (Nat.not_lt_zero _),Below.refl _ _⟩,?_⟩
 rintro i w' u ⟨hi,he,hb⟩
 by_cases hlt:i<l.length
 ·refine dt (by omega) ?_
  obtain⟨ad,rfl,hcell⟩:=RowM.elem (hR.below hb) i hlt
  refine⟨⟨by omega,by omega⟩,?_⟩
  refine⟨F7 l[i],rfl,hcell,?_⟩
  refine B4 (hp l[i] w' hb) ?_
  intro w2 h2
  have hb2:=hb.trans (h2.mono hb.size)
  rcases Bool.eq_false_or_eq_true (p l[i]) with hv | hv
  ·refine B0 hv ?_
   refine⟨?_,hb2⟩
   rw [A5B p l i hlt hv he]
   rfl
  ·refine C3X hv ?_
   refine⟨i+1,⟨rfl,rfl,rfl,congrArg _ (C3 (by omega)),trivial⟩,⟨hlt,fun j hj h=>?_,hb2⟩,by show l.length-(i+1)<l.length-i;omega⟩
   rcases Nat.lt_succ_iff_lt_or_eq.1 h with h | h
   ·exact he j hj h
   ·subst h;exact hv
 ·refine df (by omega) ?_
  refine⟨?_,hb⟩
  rw [A5A p l (fun j hj=>he j hj (by omega))]
  rfl
theorem C0n (m:Mem) (a:Addr) (n:Int) (w:World) (ha:w.cell? a=some (.int .i64 n)):Calls Tryz.prog 210 #[.agg (F7 m).toArray,.pointer (some a)] w (C8 (.bool (m.req==n)) w):=by
 obtain⟨ab,ao,asub⟩:=a
 refine vE Tryz.func210 ?_
 intro g w1 h1
 have hc:=((Ctx.start w no (fun _ h=>h.elim)).loc h1).1
 refine hc.c 0 rfl rfl ?_
 refine⟨_,cell_later hc.below ha,?_⟩
 exact⟨rfl,hc.below⟩
end Go.Proofs.YtefdfaeieekioaaGreatDoor
section
namespace Go.Vc
open Go Go.RowKit
structure CtxR (S0:Nat->Prop) (w0:World) (S:Nat->Prop) (w:World) (l:List LB) (R:World->Prop):Prop where
 ctx:Ctx S0 w0 S w l
 row:R w
 stab:∀ w1 w2,R w1->Fut S w1 S w2->R w2
section
variable {S0 S:Nat->Prop} {w0 w w':World} {l l':List LB} {R:World->Prop}
theorem CtxR.via (hc:CtxR S0 w0 S w l R) (h:Ctx S0 w0 S w' l') (f:Fut S w S w'):CtxR S0 w0 S w' l' R:=⟨h,hc.stab _ _ hc.row f,hc.stab⟩
theorem CtxR.loc (hc:CtxR S0 w0 S w l R) {cs:List Value} {T g:Nat} (hN:New w cs T g w'):CtxR S0 w0 S w' ((g,T,cs)::l) R/\Fut S w S w':=
 ⟨hc.via (hc.ctx.loc hN).1 (hc.ctx.loc hN).2,(hc.ctx.loc hN).2⟩
theorem CtxR.quiet (hc:CtxR S0 w0 S w l R) (hb:Below w.heap.size w w'):CtxR S0 w0 S w' l R/\Fut S w S w':=
 ⟨hc.via (hc.ctx.quiet hb).1 (hc.ctx.quiet hb).2,(hc.ctx.quiet hb).2⟩
theorem CtxR.cells (hc:CtxR S0 w0 S w l R) (k:Nat) {g T:Nat} {cs:List Value} (h:l[k]?=some (g,T,cs)):Go.Vc.cellsAt w ⟨g,0,none⟩ cs 0:=hc.ctx.cells k h
theorem CtxR.may (hc:CtxR S0 w0 S w l R) (k:Nat) {g T:Nat} {cs:List Value} (h:l[k]?=some (g,T,cs)) (o:Nat) (xs:List Value) (hl:o+xs.length<=cs.length) (h1:D7 xs=true):C7 w ⟨g,o,none⟩ xs 0:=hc.ctx.may k h o xs hl h1
theorem CtxR.set (hc:CtxR S0 w0 S w l R) (k:Nat) {g T:Nat} {cs:List Value} (h:l[k]?=some (g,T,cs)) {o:Nat} {xs:List Value} (hS:D0 w ⟨g,o,none⟩ xs w'):
  CtxR S0 w0 S w' (F4 l k (C0 cs o xs)) R/\Fut S w S w':=⟨hc.via (hc.ctx.set k h hS).1 (hc.ctx.set k h hS).2,(hc.ctx.set k h hS).2⟩
section
variable {S0 S:Nat->Prop} {w0 w:World} {l:List LB} {R:World->Prop} {g T:Nat} {cs xs:List Value} {o:Nat} {K:World->Prop}
theorem CtxR.s (hc:CtxR S0 w0 S w l R) (k:Nat) (h:l[k]?=some (g,T,cs)) (hk:∀ w',D0 w ⟨g,o,none⟩ xs w'->CtxR S0 w0 S w' (F4 l k (C0 cs o xs)) R->K w') (hl:Nat.ble (o+xs.length) cs.length=true:=by rfl) (h1:D7 xs=true:=by rfl):C7 w ⟨g,o,none⟩ xs 0/\∀ w',D0 w ⟨g,o,none⟩ xs w'->K w':=
 ⟨hc.may k h o xs (Nat.le_of_ble_eq_true hl) h1,fun w' hS=>hk w' hS (hc.set k h hS).1⟩
theorem CtxR.s' (hc:CtxR S0 w0 S w l R) (k:Nat) (h:l[k]?=some (g,T,cs)) (hk:∀ w',D0 w ⟨g,o,none⟩ xs w'->CtxR S0 w0 S w' (F4 l k (C0 cs o xs)) R->K w') (hl:Nat.ble (o+xs.length) cs.length=true:=by rfl) (h1:D7 xs=true:=by rfl):C7 w ⟨g,o,none⟩ xs 0/\∀ w',D0 w ⟨g,o,none⟩ xs w'->True/\K w':=
 ⟨hc.may k h o xs (Nat.le_of_ble_eq_true hl) h1,fun w' hS=>⟨trivial,hk w' hS (hc.set k h hS).1⟩⟩
theorem CtxR.a (hc:CtxR S0 w0 S w l R) (k:Nat) (h:l[k]?=some (g,T,cs)) {n:Nat} {K:List Value->Prop} (hn:cs.length=n) (hk:K cs):∃ ds:List Value,ds.length=n/\Go.Vc.cellsAt w ⟨g,0,none⟩ ds 0/\K ds:=⟨cs,hn,hc.cells k h,hk⟩
theorem CtxR.a' (hc:CtxR S0 w0 S w l R) (k:Nat) (h:l[k]?=some (g,T,cs)) {n:Nat} {K:List Value->Prop} (hn:cs.length=n) (hk:K cs):∃ ds:List Value,ds.length=n/\Go.Vc.cellsAt w ⟨g,0,none⟩ ds 0/\True/\K ds:=⟨cs,hn,hc.cells k h,trivial,hk⟩
theorem CtxR.n (hc:CtxR S0 w0 S w l R) {K:Nat->World->Prop} (hk:∀ g w',New w cs T g w'->CtxR S0 w0 S w' ((g,T,cs)::l) R->K g w'):∀ g w',New w cs T g w'->K g w':=fun g w' h=>hk g w' h (hc.loc h).1
theorem CtxR.n' (hc:CtxR S0 w0 S w l R) {K:Nat->World->Prop} (hk:∀ g w',New w cs T g w'->CtxR S0 w0 S w' ((g,T,cs)::l) R->K g w'):∀ g w',New w cs T g w'->True/\K g w':=fun g w' h=>⟨trivial,hk g w' h (hc.loc h).1⟩
theorem CtxR.q (hc:CtxR S0 w0 S w l R) {P:Program} {n:Nat} {args:List Value} {v:Value} {K:Value->World->Prop} (h:Calls P n args.toArray w (C8 v w)) (hk:∀ w',Below w.heap.size w w'->CtxR S0 w0 S w' l R->K v w'):CallVc P n args w K:=B4 h fun w' hb=>hk w' hb (hc.quiet hb).1
theorem CtxR.q' (hc:CtxR S0 w0 S w l R) {P:Program} {n:Nat} {args:List Value} {v:Value} {K:Value->World->Prop} (h:Calls P n args.toArray w (C8 v w)) (hk:∀ w',Below w.heap.size w w'->CtxR S0 w0 S w' l R->K v w'):CallVc P n args w (fun v w'=>True/\K v w'):=B4 h fun w' hb=>⟨trivial,hk w' hb (hc.quiet hb).1⟩
end
theorem A6N {n0 e sz n cap:Nat} {A:Option Addr} {xs:List Value} (ho:w'.ownsRow n0 e sz (.slice A n cap) n xs):n<=cap/\cap<=maxLen:=by
 obtain⟨e0,h3⟩:=ho
 rcases h3 with ⟨h3,rfl⟩ | ⟨g,cp,cur,e1,_,_,h4,h5,_,_⟩
 ·cases h3;exact⟨Nat.le_refl _,Nat.zero_le _⟩
 ·cases e1;exact⟨h4,h5⟩
theorem B2l {n0 e sz n cap:Nat} {A:Option Addr} {xs:List Value} (ho:w'.ownsRow n0 e sz (.slice A n cap) n xs) (hS:∀ b,n0<=b->b<w'.heap.size->S b):Row S w' A n cap xs:=by
 obtain⟨f1,f2⟩:=A6N ho
 refine⟨f1,f2,fun hx=>?_⟩
 have ho':=ho
 obtain⟨e0,h3⟩:=ho'
 rcases h3 with ⟨h3,rfl⟩ | ⟨g,cp,cur,e1,_⟩
 ·rw [Nat.zero_mul] at e0
  exact absurd (List.eq_nil_of_length_eq_zero e0) hx
 ·cases e1
  have h:=ho.lt g rfl
  exact⟨_,rfl,hS _ h.1 h.2,ho.cells rfl⟩
end
end Go.Vc
namespace Go.Proofs.YtefdfaeieekioaaGreatDoor
open Go.Vc Go.RowKit Go.Fl
end Go.Proofs.YtefdfaeieekioaaGreatDoor
end
section
namespace Go.Vc
open Go Go.RowKit
theorem cellsAt_later {w w':World} (hb:Below w.heap.size w w') {a:Addr}:∀ (cs:List Value) (i:Nat),cellsAt w a cs i->cellsAt w' a cs i
 | [],_,_=>trivial
 | v::r,i,h=>⟨cell_later hb h.1,cellsAt_later hb r (i+1) h.2⟩
structure OR where
 e:Nat
 sz:Nat
 A:Option Addr
 n:Nat
 cap:Nat
 xs:List Value
def Owns (S:Nat->Prop) (n0:Nat) (w:World) (l:List LB):List OR->Prop
 | []=>True
 | o::r=>Own S n0 w l o.e o.sz o.A o.n o.cap o.xs/\(∀ p∈r,∀ a b,o.A=some a->p.A=some b->a.block≠b.block)/\Owns S n0 w l r
abbrev Kn:=(Nat->Prop)->World->Prop
def Stab (R:Kn):Prop:=∀ S w S' w',R S w->Fut S w S' w'->R S' w'
theorem Stab.and {R X:Kn} (h:Stab R) (k:Stab X):Stab (fun S w=>R S w/\X S w):=fun _ _ _ _ hx f=>⟨h _ _ _ _ hx.1 f,k _ _ _ _ hx.2 f⟩
theorem Stab.true:Stab (fun _ _=>True):=fun _ _ _ _ _ _=>trivial
structure CtxF (S0:Nat->Prop) (w0:World) (S:Nat->Prop) (w:World) (l:List LB) (os:List OR) (R:Kn):Prop where
 ctx:Ctx S0 w0 S w l
 own:Owns S w0.heap.size w l os
 row:R S w
 stab:Stab R
section
variable {S0 S S':Nat->Prop} {w0 w w':World} {l l':List LB} {os:List OR} {R:Kn} {n0:Nat}
theorem Owns.step:∀ {os:List OR},Owns S n0 w l os->(∀ o∈os,∀ a,o.A=some a->w'.heap[a.block]?=w.heap[a.block]?/\¬ S' a.block/\∀ x∈l',x.1≠a.block)->Owns S' n0 w' l' os
 | [],_,_=>trivial
 | o::r,⟨h1,h2,h3⟩,hh=>
  ⟨⟨h1.kept fun a ha=>(hh o (List.mem_cons_self ..) a ha).1,fun a ha=>(hh o (List.mem_cons_self ..) a ha).2⟩,h2,h3.step fun p hp=>hh p (List.mem_cons_of_mem _ hp)⟩
theorem Owns.mem:∀ {os:List OR},Owns S n0 w l os->∀ o∈os,Own S n0 w l o.e o.sz o.A o.n o.cap o.xs
 | o::r,⟨h1,h2,h3⟩,p,hp=>by
  cases hp with
  | head=>exact h1
  | tail _ h=>exact h3.mem p h
theorem CtxF.below (hc:CtxF S0 w0 S w l os R):Below w0.heap.size w0 w:=hc.ctx.below
theorem CtxF.start (w0:World) (S0:Nat->Prop) (h:∀ b,S0 b->b<w0.heap.size) {R:Kn} (hr:R S0 w0) (hs:Stab R):CtxF S0 w0 S0 w0 [] [] R:=⟨Ctx.start w0 S0 h,trivial,hr,hs⟩
theorem CtxF.loc (hc:CtxF S0 w0 S w l os R) {cs:List Value} {T g:Nat} (hN:New w cs T g w'):CtxF S0 w0 S w' ((g,T,cs)::l) os R/\Fut S w S w':=by
 obtain⟨h1,h2⟩:=hc.ctx.loc hN
 refine⟨⟨h1,hc.own.step fun o ho a ha=>?_,hc.stab _ _ _ _ hc.row h2,hc.stab⟩,h2⟩
 have hO:=hc.own.mem o ho
 refine⟨hN.below.block _ (hO.lt ha).2,(hO.out a ha).1,fun x hx=>?_⟩
 cases hx with
 | head=>have:=(hO.lt ha).2;have:=hN.1;show g≠a.block;omega
 | tail _ hx=>exact (hO.out a ha).2 x hx
theorem CtxF.quiet (hc:CtxF S0 w0 S w l os R) (hb:Below w.heap.size w w'):CtxF S0 w0 S w' l os R/\Fut S w S w':=by
 obtain⟨h1,h2⟩:=hc.ctx.quiet hb
 exact⟨⟨h1,hc.own.step fun o ho a ha=>⟨hb.block _ ((hc.own.mem o ho).lt ha).2,(hc.own.mem o ho).out a ha⟩,hc.stab _ _ _ _ hc.row h2,hc.stab⟩,h2⟩
theorem CtxF.call (hc:CtxF S0 w0 S w l os R) (hb:Below w.heap.size w w'):CtxF S0 w0 (ext S w w') w' l os R/\Fut S w (ext S w w') w':=by
 obtain⟨h1,h2⟩:=hc.ctx.call hb
 refine⟨⟨h1,hc.own.step fun o ho a ha=>⟨hb.block _ ((hc.own.mem o ho).lt ha).2,fun hs=>?_,((hc.own.mem o ho).out a ha).2⟩,hc.stab _ _ _ _ hc.row h2,hc.stab⟩,h2⟩
 rcases hs with hs | hs
 ·exact ((hc.own.mem o ho).out a ha).1 hs
 ·have:=((hc.own.mem o ho).lt ha).2;omega
theorem CtxF.know (hc:CtxF S0 w0 S w l os R) {X:Kn} (h:X S w) (hs:Stab X):CtxF S0 w0 S w l os (fun S w=>R S w/\X S w):=⟨hc.ctx,hc.own,⟨hc.row,h⟩,hc.stab.and hs⟩
theorem CtxF.now (hc:CtxF S0 w0 S w l os R) {X:Kn} (h:R S w->X S w) (hs:Stab X):CtxF S0 w0 S w l os X:=⟨hc.ctx,hc.own,h hc.row,hs⟩
theorem CtxF.blk (hc:CtxF S0 w0 S w l os R) (k:Nat) {g T:Nat} {cs:List Value} (h:l[k]?=some (g,T,cs)):Blk w g T cs:=hc.ctx.blk k h
theorem CtxF.cell (hc:CtxF S0 w0 S w l os R) (k:Nat) {g T:Nat} {cs:List Value} (h:l[k]?=some (g,T,cs)) (i:Nat) {v:Value} (hv:cs[i]?=some v):w.cell? ⟨g,i,none⟩=some v:=hc.ctx.cell k h i hv
theorem CtxF.cells (hc:CtxF S0 w0 S w l os R) (k:Nat) {g T:Nat} {cs:List Value} (h:l[k]?=some (g,T,cs)):Go.Vc.cellsAt w ⟨g,0,none⟩ cs 0:=hc.ctx.cells k h
theorem CtxF.cellsAt (hc:CtxF S0 w0 S w l os R) (k:Nat) {g T:Nat} {cs:List Value} (h:l[k]?=some (g,T,cs)) (o:Nat) (xs:List Value) (hx:(cs.drop o).take xs.length=xs):Go.Vc.cellsAt w ⟨g,o,none⟩ xs 0:=hc.ctx.cellsAt k h o xs hx
theorem CtxF.may (hc:CtxF S0 w0 S w l os R) (k:Nat) {g T:Nat} {cs:List Value} (h:l[k]?=some (g,T,cs)) (o:Nat) (xs:List Value) (hl:o+xs.length<=cs.length) (h1:D7 xs=true):C7 w ⟨g,o,none⟩ xs 0:=hc.ctx.may k h o xs hl h1
theorem CtxF.set (hc:CtxF S0 w0 S w l os R) (k:Nat) {g T:Nat} {cs:List Value} (h:l[k]?=some (g,T,cs)) {o:Nat} {xs:List Value} (hS:D0 w ⟨g,o,none⟩ xs w'):
  CtxF S0 w0 S w' (F4 l k (C0 cs o xs)) os R/\Fut S w S w':=by
 obtain⟨h1,h2⟩:=hc.ctx.set k h hS
 refine⟨⟨h1,hc.own.step fun p hp a ha=>?_,hc.stab _ _ _ _ hc.row h2,hc.stab⟩,h2⟩
 have hO:=(hc.own.mem p hp).set hc.ctx k h hS
 obtain⟨_,k2,_⟩:=H8 o xs w 0 cs (hc.blk k h)
 rw [<-(show w'=_ from hS)] at k2
 exact⟨k2 _ fun e=>((hc.own.mem p hp).out a ha).2 _ (List.mem_of_getElem? h) e.symm,hO.out a ha⟩
theorem CtxF.drop {x:LB} (h:CtxF S0 w0 S w (x::l) os R):CtxF S0 w0 S w l os R:=
 ⟨h.ctx.drop,h.own.step fun o ho a ha=>⟨rfl,((h.own.mem o ho).out a ha).1,fun y hy=>((h.own.mem o ho).out a ha).2 y (List.mem_cons_of_mem _ hy)⟩,h.row,h.stab⟩
theorem CtxF.drew (hc:CtxF S0 w0 S w l os R):CtxF S0 w0 S w.drew l os R:=
 ⟨hc.ctx.drew,hc.own.step fun o ho a ha=>⟨rfl,(hc.own.mem o ho).out a ha⟩,hc.stab _ _ _ _ hc.row ⟨fun _ h=>h,fun _ _=>rfl⟩,hc.stab⟩
theorem CtxF.hold (hc:CtxF S0 w0 S w l os R) {e sz n cap:Nat} {A:Option Addr} {xs:List Value} (ho:Own S w0.heap.size w l e sz A n cap xs) (hd:∀ p∈os,∀ a b,A=some a->p.A=some b->a.block≠b.block):CtxF S0 w0 S w l (⟨e,sz,A,n,cap,xs⟩::os) R:=
 ⟨hc.ctx,⟨ho,hd,hc.own⟩,hc.row,hc.stab⟩
theorem CtxF.nil (hc:CtxF S0 w0 S w l os R) (e sz:Nat):CtxF S0 w0 S w l (⟨e,sz,none,0,0,[]⟩::os) R:=hc.hold Own.nil (fun p hp a b h=>by cases h)
theorem CtxF.fst {o:OR} (hc:CtxF S0 w0 S w l (o::os) R):Own S w0.heap.size w l o.e o.sz o.A o.n o.cap o.xs:=hc.own.1
theorem CtxF.rest {o:OR} (hc:CtxF S0 w0 S w l (o::os) R):CtxF S0 w0 S w l os R:=⟨hc.ctx,hc.own.2.2,hc.row,hc.stab⟩
theorem CtxF.swap {o p:OR} (hc:CtxF S0 w0 S w l (o::p::os) R):CtxF S0 w0 S w l (p::o::os) R:=by
 obtain⟨h1,h2,h3,h4,h5⟩:=hc.own
 refine⟨hc.ctx,⟨h3,fun q hq a b ha hb=>?_,h1,fun q hq=>h2 q (List.mem_cons_of_mem _ hq),h5⟩,hc.row,hc.stab⟩
 cases hq with
 | head=>exact fun e=>h2 p (List.mem_cons_self ..) b a hb ha e.symm
 | tail _ hq=>exact h4 q hq a b ha hb
theorem CtxF.fresh (hc:CtxF S0 w0 S w l os R) {e sz n cap:Nat} {A:Option Addr} {xs:List Value} (hb:Below w.heap.size w w') (ho:w'.ownsRow w.heap.size e sz (.slice A n cap) n xs):
  CtxF S0 w0 S w' l (⟨e,sz,A,n,cap,xs⟩::os) R:=by
 obtain⟨h1,h2,h3⟩:=hc.ctx.fresh hb ho
 refine (hc.quiet hb).1.hold h3 fun p hp a b ha hb' e1=>?_
 subst ha
 have:=(ho.lt a.block rfl).1
 have:=((hc.own.mem p hp).lt hb').2
 omega
theorem CtxF.told {o:OR} (hc:CtxF S0 w0 S w l (o::os) R):∃ S':Nat->Prop,(∀ b,S b->S' b)/\CtxF S0 w0 S' w l os (fun S w=>R S w/\Row S w o.A o.n o.cap o.xs):=by
 obtain⟨h1,h2,h3⟩:=hc.fst.told hc.ctx
 refine⟨_,fun b hb=>.inl hb,h1,hc.own.2.2.step fun p hp a ha=>⟨rfl,?_,((hc.own.2.2.mem p hp).out a ha).2⟩,⟨hc.stab _ _ _ _ hc.row h2,h3 hc.fst.fit.1 hc.fst.fit.2⟩,hc.stab.and fun _ _ _ _ h f=>h.fut f⟩
 rintro (hs | ⟨b,hb,e⟩)
 ·exact ((hc.own.2.2.mem p hp).out a ha).1 hs
 ·exact hc.own.2.1 p hp b a hb ha e
theorem CtxF.opened {e sz n cap:Nat} {A:Option Addr} {xs:List Value} (hc:CtxF S0 w0 S w l (⟨e,sz,A,n,cap,xs⟩::os) R) {a:Addr} (hA:A=some a):
  ∃ g cur,A=some ⟨g,0,none⟩/\CtxF S0 w0 S w ((g,e,cur)::l) os R/\cur.length=cap*sz/\cur.take (n*sz)=xs/\n<=cap/\cap<=maxLen:=by
 obtain⟨g,cur,e1,h1,h2⟩:=hc.fst.opened hc.ctx hA
 have e1:A=some ⟨g,0,none⟩:=e1
 refine⟨g,cur,e1,⟨h1,hc.own.2.2.step fun p hp b hb=>⟨rfl,((hc.own.2.2.mem p hp).out b hb).1,fun x hx=>?_⟩,hc.row,hc.stab⟩,h2⟩
 cases hx with
 | head=>exact hc.own.2.1 p hp _ b e1 hb
 | tail _ hx=>exact ((hc.own.2.2.mem p hp).out b hb).2 x hx
theorem CtxF.closed {e g:Nat} {cur:List Value} (hc:CtxF S0 w0 S w ((g,e,cur)::l) os R) (sz n cap:Nat) (h1:n<=cap) (h2:cap<=maxLen) (h3:cur.length=cap*sz):
  CtxF S0 w0 S w l (⟨e,sz,some ⟨g,0,none⟩,n,cap,cur.take (n*sz)⟩::os) R:=by
 obtain⟨k1,k2⟩:=Ctx.closed hc.ctx sz n cap h1 h2 h3
 refine hc.drop.hold k2 fun p hp a b ha hb e1=>?_
 cases ha
 exact ((hc.own.mem p hp).out b hb).2 _ (List.mem_cons_self ..) e1
theorem CtxF.made (hc:CtxF S0 w0 S w l os R) {cs:List Value} {e g:Nat} (hN:New w cs e g w') (sz n:Nat) (h:cs.length=n*sz) (hn:n<=maxLen):CtxF S0 w0 S w' l (⟨e,sz,some ⟨g,0,none⟩,n,n,cs⟩::os) R:=by
 have h4:=(hc.loc hN).1.closed sz n n (Nat.le_refl _) hn h
 rw [List.take_of_length_le (Nat.le_of_eq h)] at h4
 exact h4
theorem CtxF.out (hc:CtxF S0 w0 S w l os R):R (ext S0 w0 w) w:=hc.stab _ _ _ _ hc.row hc.ctx.out
def Oth (S:Nat->Prop) (os:List OR):Nat->Prop:=fun b=>S b\/∃ p∈os,∃ a,p.A=some a/\a.block=b
theorem CtxF.others {o:OR} (hc:CtxF S0 w0 S w l (o::os) R):Ctx S0 w0 (Oth S os) w l/\Own (Oth S os) w0.heap.size w l o.e o.sz o.A o.n o.cap o.xs:=by
 obtain⟨h1,h2,h3⟩:=hc.own
 refine⟨⟨hc.below,fun b hb=>.inl (hc.ctx.sub b hb),fun b hb=>?_,fun b hb=>?_,hc.ctx.locs.mono (fun _ _=>rfl) (fun x hx hs=>?_)⟩,h1.row,fun a ha=>⟨fun hs=>?_,(h1.out a ha).2⟩⟩
 ·rcases hb with hb | ⟨p,hp,a,ha,rfl⟩
  ·exact hc.ctx.new b hb
  ·exact .inr ((h3.mem p hp).lt ha).1
 ·rcases hb with hb | ⟨p,hp,a,ha,rfl⟩
  ·exact hc.ctx.lt b hb
  ·exact ((h3.mem p hp).lt ha).2
 ·rcases hs with hs | ⟨p,hp,a,ha,e1⟩
  ·exact hs
  ·exact absurd e1.symm (((h3.mem p hp).out a ha).2 x hx)
 ·rcases hs with hs | ⟨p,hp,b,hb,e1⟩
  ·exact (h1.out a ha).1 hs
  ·exact h2 p hp a b ha hb e1.symm
theorem CtxF.back {o o':OR} (hc:CtxF S0 w0 S w l (o::os) R) (h1:Ctx S0 w0 (Oth S os) w' l') (h2:Fut (Oth S os) w (Oth S os) w') (h3:Own (Oth S os) w0.heap.size w' l' o'.e o'.sz o'.A o'.n o'.cap o'.xs) (hl:∀ x∈l',∃ y∈l,y.1=x.1):
  CtxF S0 w0 S w' l' (o'::os) R:=by
 have hlo:∀ x∈l',∀ a:Addr,(∀ y∈l,y.1≠a.block)->x.1≠a.block:=fun x hx a h=>by
  obtain⟨y,hy,e⟩:=hl x hx
  rw [<-e];exact h y hy
 refine⟨⟨h1.below,hc.ctx.sub,hc.ctx.new,fun b hb=>h1.lt b (.inl hb),h1.locs.mono (fun _ _=>rfl) (fun _ _ h=>.inl h)⟩,⟨⟨h3.row,fun a ha=>⟨fun hs=>(h3.out a ha).1 (.inl hs),(h3.out a ha).2⟩⟩,fun p hp a b ha hb e1=>(h3.out a ha).1 (.inr ⟨p,hp,b,hb,e1.symm⟩),?_⟩,?_,hc.stab⟩
 ·exact hc.own.2.2.step fun p hp b hb=>⟨h2.2 _ (.inr ⟨p,hp,b,hb,rfl⟩),((hc.own.2.2.mem p hp).out b hb).1,fun x hx=>hlo x hx b ((hc.own.2.2.mem p hp).out b hb).2⟩
 ·exact hc.stab _ _ _ _ hc.row ⟨fun _ h=>h,fun b hb=>h2.2 b (.inl hb)⟩
end
section
variable {P:Program} {S0 S:Nat->Prop} {w0 w:World} {l:List LB} {os:List OR} {R:Kn} {n:Nat} {args:List Value} {K:Value->World->Prop}
section
variable {e sz bytes:Nat} {A B:Option Addr} {m cap c:Nat} {xs ys:List Value} {z:Value}
theorem K4 {t T:Nat} {cs:Array Bool} (ht:P.underlying t=some (.slice e)) (hi:(P.info? e).map (fun i=>(i.zero,i.size,i.bytes))=some (some z,sz,bytes)) (hzs:z.cells.size=sz) (hsz:0<sz)
  (hc:CtxF S0 w0 S w l (⟨e,sz,A,n,cap,xs⟩::os) R) {ad:Addr} (hl:ys.length=m*sz) (hy:Go.Vc.cellsAt w ad ys 0) (h1:D7 ys=true) (h63:n+m<=34359738368) (hby:bytes<=4096)
  {x y:Value} (ex:x=.slice A n cap) (ey:y=.slice (some ad) m c)
  (k:∀ A' cap' w',CtxF S0 w0 S w' l (⟨e,sz,A',n+m,cap',xs++ys⟩::os) R->K (.slice A' (n+m) cap') w'):
  ∃ v w',(builtin .append #[t,t] T cs #[x,y]).run P w=.ok (.value v) w'/\K v w':=by
 subst ex
 subst ey
 obtain⟨hc',ho'⟩:=hc.others
 refine R0 ht hi hzs hsz hc' ho' hl hy h1 h63 hby fun A' cap' w' h2 h3 h4 _=>k A' cap' w' ?_
 exact hc.back h2 h3 (o':=⟨e,sz,A',n+m,cap',xs++ys⟩) h4 fun x hx=>⟨x,hx,rfl⟩
theorem A1O {t T:Nat} {cs:Array Bool} {S1:Nat->Prop} (ht:P.underlying t=some (.slice e)) (hi:(P.info? e).map (fun i=>(i.zero,i.size,i.bytes))=some (some z,sz,bytes)) (hzs:z.cells.size=sz) (hsz:0<sz)
  (hc:CtxF S0 w0 S w l (⟨e,sz,A,n,cap,xs⟩::os) R) (hR:Row S1 w B m c ys) (hl:ys.length=m*sz) (h1:D7 ys=true) (h63:n+m<=34359738368) (hby:bytes<=4096)
  {x y:Value} (ex:x=.slice A n cap) (ey:y=.slice B m c)
  (k:∀ A' cap' w',CtxF S0 w0 S w' l (⟨e,sz,A',n+m,cap',xs++ys⟩::os) R->K (.slice A' (n+m) cap') w'):
  ∃ v w',(builtin .append #[t,t] T cs #[x,y]).run P w=.ok (.value v) w'/\K v w':=by
 obtain⟨hc',ho'⟩:=hc.others
 refine B2S ht hi hzs hsz hc' ho' hR hl h1 h63 hby ex ey fun A' cap' w' h2 h3 h4 _=>k A' cap' w' ?_
 exact hc.back h2 h3 (o':=⟨e,sz,A',n+m,cap',xs++ys⟩) h4 fun x hx=>⟨x,hx,rfl⟩
end
end
section
variable {S0 S:Nat->Prop} {w0 w:World} {l:List LB} {os:List OR} {R:Kn} {g T:Nat} {cs xs:List Value} {o:Nat} {K:World->Prop}
theorem CtxF.s (hc:CtxF S0 w0 S w l os R) (k:Nat) (h:l[k]?=some (g,T,cs)) (hk:∀ w',D0 w ⟨g,o,none⟩ xs w'->CtxF S0 w0 S w' (F4 l k (C0 cs o xs)) os R->K w') (hl:Nat.ble (o+xs.length) cs.length=true:=by rfl) (h1:D7 xs=true:=by rfl):C7 w ⟨g,o,none⟩ xs 0/\∀ w',D0 w ⟨g,o,none⟩ xs w'->K w':=
 ⟨hc.may k h o xs (Nat.le_of_ble_eq_true hl) h1,fun w' hS=>hk w' hS (hc.set k h hS).1⟩
theorem CtxF.s' (hc:CtxF S0 w0 S w l os R) (k:Nat) (h:l[k]?=some (g,T,cs)) (hk:∀ w',D0 w ⟨g,o,none⟩ xs w'->CtxF S0 w0 S w' (F4 l k (C0 cs o xs)) os R->K w') (hl:Nat.ble (o+xs.length) cs.length=true:=by rfl) (h1:D7 xs=true:=by rfl):C7 w ⟨g,o,none⟩ xs 0/\∀ w',D0 w ⟨g,o,none⟩ xs w'->True/\K w':=
 ⟨hc.may k h o xs (Nat.le_of_ble_eq_true hl) h1,fun w' hS=>⟨trivial,hk w' hS (hc.set k h hS).1⟩⟩
theorem CtxF.c (hc:CtxF S0 w0 S w l os R) (k:Nat) (h:l[k]?=some (g,T,cs)) {i:Nat} {v:Value} {K:Value->Prop} (hv:cs[i]?=some v) (hk:K v):∃ v,w.cell? ⟨g,i,none⟩=some v/\K v:=⟨v,hc.cell k h i hv,hk⟩
theorem CtxF.a (hc:CtxF S0 w0 S w l os R) (k:Nat) (h:l[k]?=some (g,T,cs)) {n:Nat} {K:List Value->Prop} (hn:cs.length=n) (hk:K cs):∃ ds:List Value,ds.length=n/\Go.Vc.cellsAt w ⟨g,0,none⟩ ds 0/\K ds:=⟨cs,hn,hc.cells k h,hk⟩
theorem CtxF.a' (hc:CtxF S0 w0 S w l os R) (k:Nat) (h:l[k]?=some (g,T,cs)) {n:Nat} {K:List Value->Prop} (hn:cs.length=n) (hk:K cs):∃ ds:List Value,ds.length=n/\Go.Vc.cellsAt w ⟨g,0,none⟩ ds 0/\True/\K ds:=⟨cs,hn,hc.cells k h,trivial,hk⟩
theorem CtxF.n (hc:CtxF S0 w0 S w l os R) {K:Nat->World->Prop} (hk:∀ g w',New w cs T g w'->CtxF S0 w0 S w' ((g,T,cs)::l) os R->K g w'):∀ g w',New w cs T g w'->K g w':=fun g w' h=>hk g w' h (hc.loc h).1
theorem CtxF.n' (hc:CtxF S0 w0 S w l os R) {K:Nat->World->Prop} (hk:∀ g w',New w cs T g w'->CtxF S0 w0 S w' ((g,T,cs)::l) os R->K g w'):∀ g w',New w cs T g w'->True/\K g w':=fun g w' h=>⟨trivial,hk g w' h (hc.loc h).1⟩
theorem CtxF.q (hc:CtxF S0 w0 S w l os R) {P:Program} {n:Nat} {args:List Value} {v:Value} {K:Value->World->Prop} (h:Calls P n args.toArray w (C8 v w)) (hk:∀ w',Below w.heap.size w w'->CtxF S0 w0 S w' l os R->K v w'):CallVc P n args w K:=B4 h fun w' hb=>hk w' hb (hc.quiet hb).1
theorem CtxF.q' (hc:CtxF S0 w0 S w l os R) {P:Program} {n:Nat} {args:List Value} {v:Value} {K:Value->World->Prop} (h:Calls P n args.toArray w (C8 v w)) (hk:∀ w',Below w.heap.size w w'->CtxF S0 w0 S w' l os R->K v w'):CallVc P n args w (fun v w'=>True/\K v w'):=B4 h fun w' hb=>⟨trivial,hk w' hb (hc.quiet hb).1⟩
end
end Go.Vc
end
namespace Go.Proofs.YtefdfaeieekioaaGreatDoor
open Go.Vc Go.RowKit Go.Fl
theorem RepEs.fut {S S':Nat->Prop} {w w':World} {l:List Ent} {css:List (List Value)} (h:RepEs S w l css) (f:Fut S w S' w'):RepEs S' w' l css:=h.map (fun h=>h.fut f)
theorem RepEs.stab (l:List Ent) (css:List (List Value)):Stab (fun S w=>RepEs S w l css):=fun _ _ _ _ h f=>RepEs.fut h f
theorem B0Q {l:List Mem} (n:Nat) (m x:Mem):x∈l.take n++m::l.drop n↔x=m\/x∈l:=by
 rw [List.mem_append,List.mem_cons]
 have:x∈l↔x∈l.take n\/x∈l.drop n:=by
  rw [<-List.mem_append,List.take_append_drop]
 rw [this]
 constructor
 ·rintro (h | h | h)
  ·exact .inr (.inl h)
  ·exact .inl h
  ·exact .inr (.inr h)
 ·rintro (h | h | h)
  ·exact .inr (.inl h)
  ·exact .inl h
  ·exact .inr (.inr h)
inductive Done (s:Stt) (d:D):Prop where
 | form (h:T5 s=false\/L3 d=false) (e:doS s d=(s,⟨1,0⟩))
 | top (h:E3<=s.seq) (e:doS s d=(s,⟨5,0⟩))
 | old (hs:T5 s=true) (hd:L3 d=true) (hq:s.seq<E3) (h:d.req<I5 s.lows (B2 d.req)) (e:doS s d=(⟨s.seq+1,s.l,s.ms,s.lows⟩,⟨12,0⟩))
 | told (hs:T5 s=true) (hd:L3 d=true) (hq:s.seq<E3) (h:I5 s.lows (B2 d.req)<=d.req) (m:Mem) (hm:V1 s.ms d.req=some m) (e:doS s d=(⟨s.seq+1,s.l,s.ms,s.lows⟩,m.res))
 | full (hs:T5 s=true) (hd:L3 d=true) (hq:s.seq<E3) (h:I5 s.lows (B2 d.req)<=d.req) (hm:V1 s.ms d.req=none) (hf:100<=s.ms.length) (e:doS s d=(⟨s.seq+1,s.l,s.ms,s.lows⟩,⟨5,0⟩))
 | new (hs:T5 s=true) (hd:L3 d=true) (hq:s.seq<E3) (h:I5 s.lows (B2 d.req)<=d.req) (hm:V1 s.ms d.req=none) (hf:s.ms.length<100) (ms:List Mem) (lows:List Int)
   (hx:∀ m,m∈ms↔(m=⟨d.req,(doK s.l (s.seq+1) d).2⟩\/m∈s.ms)/\¬ (m.req<d.low/\B2 m.req=B2 d.req/\I5 s.lows (B2 d.req)<d.low/\B2 d.low=B2 d.req))
   (hl:lows=if I5 s.lows (B2 d.req)<d.low/\B2 d.low=B2 d.req then s.lows.set (B2 d.req-1).toNat d.low else s.lows)
   (e:doS s d=(⟨s.seq+1,(doK s.l (s.seq+1) d).1,ms,lows⟩,(doK s.l (s.seq+1) d).2))
theorem A7Q (s:Stt) (d:D):Done s d:=by
 cases hs:T5 s with
 | false=>exact .form (.inl hs) (by simp [doS,hs])
 | true=>
 cases hd:L3 d with
 | false=>exact .form (.inr hd) (by simp [doS,hd])
 | true=>
 by_cases hq:E3<=s.seq
 ·exact .top hq (by simp [doS,hs,hd,hq])
 have hq':s.seq<E3:=by omega
 by_cases h:d.req<I5 s.lows (B2 d.req)
 ·exact .old hs hd hq' h (by simp [doS,hs,hd,hq,h])
 have h':I5 s.lows (B2 d.req)<=d.req:=by omega
 cases hm:V1 s.ms d.req with
 | some m=>exact .told hs hd hq' h' m hm (by simp [doS,hs,hd,hq,h,hm])
 | none=>
 by_cases hf:100<=s.ms.length
 ·exact .full hs hd hq' h' hm hf (by simp [doS,hs,hd,hq,h,hm,hf])
 by_cases hc:I5 s.lows (B2 d.req)<d.low/\B2 d.low=B2 d.req
 ·refine .new hs hd hq' h' hm (by omega) (N7 d.low (B2 d.req) (s.ms.take (N5 s.ms d.req)++⟨d.req,(doK s.l (s.seq+1) d).2⟩::s.ms.drop (N5 s.ms d.req))) _ (fun m=>?_) rfl ?_
  ·unfold N7
   rw [List.mem_filter,B0Q]
   refine and_congr Iff.rfl ?_
   simp only [Bool.not_eq_true',Bool.and_eq_false_iff,decide_eq_false_iff_not,beq_eq_false_iff_ne,ne_eq,hc,and_true,not_and]
   by_cases c:m.req<d.low<;>simp [c]
  ·rw [if_pos hc]
   simp only [doS,hs,hd,hq,h,hm,hf,hc,Bool.not_true,Bool.or_false,Bool.false_eq_true,if_false,and_self,if_true]
 ·refine .new hs hd hq' h' hm (by omega) (s.ms.take (N5 s.ms d.req)++⟨d.req,(doK s.l (s.seq+1) d).2⟩::s.ms.drop (N5 s.ms d.req)) _ (fun m=>?_) rfl ?_
  ·rw [B0Q]
   constructor
   ·intro h;exact⟨h,fun h=>hc h.2.2⟩
   ·intro h;exact h.1
  ·rw [if_neg hc]
   simp only [doS,hs,hd,hq,h,hm,hf,hc,Bool.not_true,Bool.or_false,Bool.false_eq_true,if_false]
theorem A5C {s:Stt} (d:D) (h:s.lows.length=5):(doS s d).1.lows.length=5:=by
 cases A7Q s d with
 | form h0 e=>rw [e];exact h
 | top h0 e=>rw [e];exact h
 | old hs hd hq h0 e=>rw [e];exact h
 | told hs hd hq h0 m hm e=>rw [e];exact h
 | full hs hd hq h0 hm hf e=>rw [e];exact h
 | new hs hd hq h0 hm hf ms lows hx hl e=>
  rw [e]
  show lows.length=5
  rw [hl]
  split
  ·rw [List.length_set];exact h
  ·exact h
theorem RepS.mk' {S:Nat->Prop} {w:World} {seq:Int} {l:List Ent} {ms:List Mem} {lows:List Int} {A B:Option Addr} {cap cap':Nat} {l0 l1 l2 l3 l4:Int} {css:List (List Value)} (el:lows=[l0,l1,l2,l3,l4]) (hE:RepEs S w l css) (hR:Row S w A l.length cap css.flatten) (hM:Row S w B ms.length cap' (ms.map F7).flatten):
  RepS S w ⟨seq,l,ms,lows⟩ [.int .i64 seq,.slice A l.length cap,.slice B ms.length cap',.int .i64 l0,.int .i64 l1,.int .i64 l2,.int .i64 l3,.int .i64 l4]:=
 ⟨A,cap,css,B,cap',by subst el;rfl,by subst el;rfl,hE,hR,hM⟩
theorem RowM.elemR {S:Nat->Prop} {w:World} {A:Option Addr} {n cap:Nat} {l:List Mem} (hR:Row S w A n cap (l.map F7).flatten) (i:Nat) (hi:i<l.length):
  ∃ ad ab ao asub,A=some ad/\ad.add (i*3)=⟨ab,ao,asub⟩/\S ab/\Go.Vc.cellsAt w ⟨ab,ao,asub⟩ (F7 l[i]) 0/\Go.Vc.cellsAt w ⟨ab,ao+1,none⟩ [.int .i64 l[i].res.err,.int .i64 l[i].res.ver] 0:=by
 obtain⟨ad,e,h⟩:=RowM.elem hR i hi
 obtain⟨ad',e',hS,_⟩:=hR.2.2 (fun h=>by
  have:=(F9 l).len
  rw [h,List.length_map,List.length_nil] at this
  omega)
 rw [e] at e'
 cases e'
 have hb:=K8 ad (i*3)
 generalize hae:ad.add (i*3)=ae at h hb
 obtain⟨ab,ao,asub⟩:=ae
 simp only at hb
 subst hb
 refine⟨ad,ad.block,ao,asub,e,hae,hS,h,?_⟩
 obtain⟨_,h1,h2,_⟩:=h
 refine⟨?_,?_,trivial⟩
 ·have:(⟨ad.block,ao+1,none⟩:Addr).add 0=(⟨ad.block,ao,asub⟩:Addr).add (0+1):=rfl
  rw [this];exact h1
 ·have:(⟨ad.block,ao+1,none⟩:Addr).add (0+1)=(⟨ad.block,ao,asub⟩:Addr).add (0+1+1):=rfl
  rw [this];exact h2
theorem C0S:∀ {l:List Mem} {k:Int} {i:Nat},B8r l k=some i->∃ h:i<l.length,l[i].req=k
 | [],k,i,h=>by cases h
 | m::r,k,i,h=>by
  rw [B8r] at h
  split at h
  ·rename_i hk
   cases h
   exact⟨by simp,by simpa using hk⟩
  ·cases e:B8r r k with
   | none=>rw [e] at h;cases h
   | some j=>
    rw [e] at h
    cases h
    obtain⟨h1,h2⟩:=C0S e
    exact⟨by simpa using h1,by simpa using h2⟩
theorem C1G (n:Int):∀ l:List Mem,A7P (fun m=>m.req==n) l=B8r l n
 | []=>rfl
 | m::r=>by rw [A7P,B8r,C1G n r]
theorem C0o (s:Stt) (n:Int) (cs:List Value) (S:Nat->Prop) (w:World) (hs:RepS S w s cs):Calls Tryz.prog 162 #[.agg cs.toArray,.int .i64 n] w (C8 (.tuple #[.agg #[.int .i64 (B6t s n).1.err,.int .i64 (B6t s n).1.ver],.bool (B6t s n).2]) w):=by
 obtain⟨A,cap,css,B,cap',l0,l1,l2,l3,l4,rfl,el,hE,hR,hM⟩:=hs.shape
 refine vE Tryz.func162 ?_
 have hc:=CtxF.start w no (fun _ h=>h.elim) (R:=fun _ _=>True) trivial Stab.true
 refine hc.n fun g2 wg2 hg2 hc=>?_
 refine hc.n fun g3 wg3 hg3 hc=>?_
 refine hc.n fun g4 wg4 hg4 hc=>?_
 refine hc.c 2 rfl rfl ?_
 have hf:=B9q (fun m=>m.req==n) ⟨g3,0,none⟩ s.ms B cap' S _ (hM.below hc.below) (fun m w' h=>C0n m ⟨g3,0,none⟩ n w' (cell_later h (hc.cell 1 rfl 0 rfl)))
 rw [C1G] at hf
 unfold B6t
 cases hi:B8r s.ms n with
 | none=>
  rw [hi,show B5A none = -1 from rfl] at hf
  refine hc.q (hf) fun wQ hQ hc=>?_
  refine hc.s 0 rfl fun wS hS hc=>?_
  refine hc.a 0 rfl rfl ?_
  exact⟨rfl,hc.below⟩
 | some i=>
  rw [hi,show B5A (some i)=(i:Int) from rfl] at hf
  refine hc.q (hf) fun wQ hQ hc=>?_
  obtain⟨hlt,_⟩:=C0S hi
  have hg:((some i).bind fun i=>s.ms[i]?)=some s.ms[i]:=List.getElem?_eq_getElem hlt
  rw [hg]
  obtain⟨ad,ab,ao,asub,rfl,hae,hSb,_,hcell⟩:=RowM.elemR hM i hlt
  refine hc.c 2 rfl rfl ?_
  refine⟨⟨Int.natCast_nonneg _,Int.ofNat_lt.2 hlt⟩,?_⟩
  rw [<-Int.toNat_natCast i] at hae
  generalize ad.add ((i:Int).toNat*3)=ae at hae ⊢
  subst hae
  refine⟨_,?_,cellsAt_later hc.below _ _ hcell,?_⟩
  ·rfl
  refine hc.s 0 rfl fun wS hS hc=>?_
  refine hc.a 0 rfl rfl ?_
  exact⟨rfl,hc.below⟩
theorem T6 (v:V) (cs:List Value):Stab (fun S w=>RepC S w v cs):=fun _ _ _ _ h f=>h.fut f
def Y3 (v:V) (A:Option Addr) (cap:Nat):List Value:=[.int .i64 (vK v),.int .i64 (vN v),.string (vS v),.slice A (vL v).length cap]
theorem RepC.cells {S:Nat->Prop} {w:World} {v:V} {cs:List Value} (h:RepC S w v cs):∃ A cap,cs=Y3 v A cap:=by
 obtain⟨k,n,s,l⟩:=v
 rw [RepC] at h
 obtain⟨A,cap,xs,e,_,_⟩:=h
 exact⟨A,cap,e⟩
theorem RepEs.snoc {S:Nat->Prop} {w:World} {l:List Ent} {css:List (List Value)} {e:Ent} {c:List Value} (h:RepEs S w l css) (hc:RepE S w e c):RepEs S w (l++[e]) (css++[c]):=h.append ⟨c,[],rfl,hc,rfl⟩
def Sm (f N:Nat) (v:V):Prop:=v=V0\/(cnt f v<=6000/\(J1 v).length<=N)
def B8D:List Value:=[.int .i64 0,.slice none 0 0,.slice none 0 0,.int .i64 0,.int .i64 0,.int .i64 0,.int .i64 0,.int .i64 0]
theorem A28 (S:Nat->Prop) (w:World):Row S w none 0 0 []:=⟨Nat.le_refl _,Nat.zero_le _,fun h=>absurd rfl h⟩
theorem rep0 (S:Nat->Prop) (w:World):RepS S w A4z B8D:=⟨none,0,[],none,0,rfl,rfl,rfl,A28 S w,A28 S w⟩
theorem A7S (s:Stt) (cs:List Value):Stab (fun S w=>RepS S w s cs):=fun _ _ _ _ h f=>h.map (fun h=>h.fut f)
def cut (s:ByteArray) (n:Nat):ByteArray:=s.extract 0 (min s.size n)
theorem B9X (s:ByteArray) (n:Nat) (w:World) (hs:s.size<=9223372036854775807):Calls Tryz.prog 49 #[.string s,.int .i64 n] w (C8 (.string (cut s n)) w):=by
 have:=C1K s n w (Int.natCast_nonneg _) hs
 rw [Int.toNat_natCast] at this
 exact this
theorem B91 (s:ByteArray) (n:Nat):(cut s n).size<=n:=by
 unfold cut
 rw [ByteArray.size_extract]
 omega
def B92 (d:D):D:=⟨d.kind,cut d.key 42,cut d.body 302,d.ver,d.cond,cut d.tag 10,d.req,d.low⟩
theorem C0H {d:D} (h:d.Ok):(B92 d).Ok:=
 ⟨h.kind,Nat.le_trans (B91 _ _) (by decide),Nat.le_trans (B91 _ _) (by decide),h.ver,h.cond,Nat.le_trans (B91 _ _) (by decide),h.req,h.low⟩
theorem B97 (d:D) (h:d.Ok) (w:World):Calls Tryz.prog 18 #[.agg (dC d).toArray] w (C8 (.agg (dC (B92 d)).toArray) w):=by
 refine vE Tryz.func18 ?_
 have hc:=CtxF.start w no (fun _ h=>h.elim) (R:=fun _ _=>True) trivial Stab.true
 refine hc.n fun g1 wg1 hg1 hc=>?_
 refine hc.n fun g2 wg2 hg2 hc=>?_
 refine vD (.Q [0,3,6] (.n 1 (.n 2 (.n 4 (.n 5 (.n 7 (.q 9 (.n 8 (.n 10 (.q 11 (.n 12 (.q 13 (.z 14)) .stop)) .stop) .stop)) .stop) (.n 7 (.q 9 (.n 5 (.n 8 (.n 10 (.q 11 (.n 12 (.q 13 (.z 14)) .stop)) .stop) .stop) .stop)) .stop)) (.n 7 (.n 4 (.q 9 (.n 5 (.n 8 (.n 10 (.q 11 (.n 12 (.q 13 (.z 14)) .stop)) .stop) .stop) .stop)) .stop) .stop)) (.n 4 (.n 2 (.n 5 (.n 7 (.q 9 (.n 8 (.n 10 (.q 11 (.n 12 (.q 13 (.z 14)) .stop)) .stop) .stop)) .stop) (.n 7 (.q 9 (.n 5 (.n 8 (.n 10 (.q 11 (.n 12 (.q 13 (.z 14)) .stop)) .stop) .stop) .stop)) .stop)) (.n 7 (.n 2 (.q 9 (.n 5 (.n 8 (.n 10 (.q 11 (.n 12 (.q 13 (.z 14)) .stop)) .stop) .stop) .stop)) .stop) .stop)) (.n 7 (.n 2 (.n 4 (.q 9 (.n 5 (.n 8 (.n 10 (.q 11 (.n 12 (.q 13 (.z 14)) .stop)) .stop) .stop) .stop)) .stop) (.n 4 (.n 2 (.q 9 (.n 5 (.n 8 (.n 10 (.q 11 (.n 12 (.q 13 (.z 14)) .stop)) .stop) .stop) .stop)) .stop) .stop)) .stop))) (.n 4 (.n 1 (.n 2 (.n 5 (.n 7 (.q 9 (.n 8 (.n 10 (.q 11 (.n 12 (.q 13 (.z 14)) .stop)) .stop) .stop)) .stop) (.n 7 (.q 9 (.n 5 (.n 8 (.n 10 (.q 11 (.n 12 (.q 13 (.z 14)) .stop)) .stop) .stop) .stop)) .stop)) (.n 7 (.n 2 (.q 9 (.n 5 (.n 8 (.n 10 (.q 11 (.n 12 (.q 13 (.z 14)) .stop)) .stop) .stop) .stop)) .stop) .stop)) (.n 7 (.n 1 (.n 2 (.q 9 (.n 5 (.n 8 (.n 10 (.q 11 (.n 12 (.q 13 (.z 14)) .stop)) .stop) .stop) .stop)) .stop) .stop) .stop)) (.n 7 (.n 1 (.n 2 (.n 4 (.q 9 (.n 5 (.n 8 (.n 10 (.q 11 (.n 12 (.q 13 (.z 14)) .stop)) .stop) .stop) .stop)) .stop) (.n 4 (.n 2 (.q 9 (.n 5 (.n 8 (.n 10 (.q 11 (.n 12 (.q 13 (.z 14)) .stop)) .stop) .stop) .stop)) .stop) .stop)) (.n 4 (.n 1 (.n 2 (.q 9 (.n 5 (.n 8 (.n 10 (.q 11 (.n 12 (.q 13 (.z 14)) .stop)) .stop) .stop) .stop)) .stop) .stop) .stop)) .stop)))) (fun _=>True) trivial ?_
 have hc:=hc.drew
 refine⟨?_,?_⟩
 ·skip
  refine⟨_,hc.cell 1 rfl _ rfl,trivial,?_⟩
  refine⟨?_,?_⟩
  ·skip
   refine hc.q' (B9X d.key 42 _ h.key) fun wQ hQ hc=>?_
   refine⟨?_,?_⟩
   ·skip
    refine⟨_,hc.cell 1 rfl _ rfl,trivial,?_⟩
    refine⟨?_,?_⟩
    ·skip
     refine hc.q' (B9X d.body 302 _ h.body) fun wQ hQ hc=>?_
     refine⟨⟨_,hc.cell 1 rfl _ rfl,trivial,?_⟩,trivial⟩
     refine⟨hc.q' (B9X d.tag 10 _ h.tag) fun wQ hQ hc=>?_,trivial⟩
     refine⟨hc.s' 1 rfl fun wS hS hc=>?_,trivial⟩
     refine⟨hc.s' 1 rfl fun wS hS hc=>?_,trivial⟩
     refine hc.s 1 rfl fun wS hS hc=>?_
     refine hc.a 1 rfl rfl ?_
     refine hc.s 0 rfl fun wS hS hc=>?_
     refine hc.a 0 rfl rfl ?_
     exact⟨rfl,hc.below⟩
    refine⟨⟨_,hc.cell 1 rfl _ rfl,trivial,?_⟩,trivial⟩
    refine⟨hc.q' (B9X d.body 302 _ h.body) fun wQ hQ hc=>?_,trivial⟩
    refine⟨hc.q' (B9X d.tag 10 _ h.tag) fun wQ hQ hc=>?_,trivial⟩
    refine⟨hc.s' 1 rfl fun wS hS hc=>?_,trivial⟩
    refine⟨hc.s' 1 rfl fun wS hS hc=>?_,trivial⟩
    refine hc.s 1 rfl fun wS hS hc=>?_
    refine hc.a 1 rfl rfl ?_
    refine hc.s 0 rfl fun wS hS hc=>?_
    refine hc.a 0 rfl rfl ?_
    exact⟨rfl,hc.below⟩
   refine⟨⟨_,hc.cell 1 rfl _ rfl,trivial,?_⟩,trivial⟩
   refine⟨⟨_,hc.cell 1 rfl _ rfl,trivial,?_⟩,trivial⟩
   refine⟨hc.q' (B9X d.body 302 _ h.body) fun wQ hQ hc=>?_,trivial⟩
   refine⟨hc.q' (B9X d.tag 10 _ h.tag) fun wQ hQ hc=>?_,trivial⟩
   refine⟨hc.s' 1 rfl fun wS hS hc=>?_,trivial⟩
   refine⟨hc.s' 1 rfl fun wS hS hc=>?_,trivial⟩
   refine hc.s 1 rfl fun wS hS hc=>?_
   refine hc.a 1 rfl rfl ?_
   refine hc.s 0 rfl fun wS hS hc=>?_
   refine hc.a 0 rfl rfl ?_
   exact⟨rfl,hc.below⟩
  refine⟨?_,?_⟩
  ·skip
   refine⟨_,hc.cell 1 rfl _ rfl,trivial,?_⟩
   refine⟨?_,?_⟩
   ·skip
    refine hc.q' (B9X d.key 42 _ h.key) fun wQ hQ hc=>?_
    refine⟨?_,?_⟩
    ·skip
     refine hc.q' (B9X d.body 302 _ h.body) fun wQ hQ hc=>?_
     refine⟨⟨_,hc.cell 1 rfl _ rfl,trivial,?_⟩,trivial⟩
     refine⟨hc.q' (B9X d.tag 10 _ h.tag) fun wQ hQ hc=>?_,trivial⟩
     refine⟨hc.s' 1 rfl fun wS hS hc=>?_,trivial⟩
     refine⟨hc.s' 1 rfl fun wS hS hc=>?_,trivial⟩
     refine hc.s 1 rfl fun wS hS hc=>?_
     refine hc.a 1 rfl rfl ?_
     refine hc.s 0 rfl fun wS hS hc=>?_
     refine hc.a 0 rfl rfl ?_
     exact⟨rfl,hc.below⟩
    refine⟨⟨_,hc.cell 1 rfl _ rfl,trivial,?_⟩,trivial⟩
    refine⟨hc.q' (B9X d.body 302 _ h.body) fun wQ hQ hc=>?_,trivial⟩
    refine⟨hc.q' (B9X d.tag 10 _ h.tag) fun wQ hQ hc=>?_,trivial⟩
    refine⟨hc.s' 1 rfl fun wS hS hc=>?_,trivial⟩
    refine⟨hc.s' 1 rfl fun wS hS hc=>?_,trivial⟩
    refine hc.s 1 rfl fun wS hS hc=>?_
    refine hc.a 1 rfl rfl ?_
    refine hc.s 0 rfl fun wS hS hc=>?_
    refine hc.a 0 rfl rfl ?_
    exact⟨rfl,hc.below⟩
   refine⟨⟨_,hc.cell 1 rfl _ rfl,trivial,?_⟩,trivial⟩
   refine⟨hc.q' (B9X d.key 42 _ h.key) fun wQ hQ hc=>?_,trivial⟩
   refine⟨hc.q' (B9X d.body 302 _ h.body) fun wQ hQ hc=>?_,trivial⟩
   refine⟨hc.q' (B9X d.tag 10 _ h.tag) fun wQ hQ hc=>?_,trivial⟩
   refine⟨hc.s' 1 rfl fun wS hS hc=>?_,trivial⟩
   refine⟨hc.s' 1 rfl fun wS hS hc=>?_,trivial⟩
   refine hc.s 1 rfl fun wS hS hc=>?_
   refine hc.a 1 rfl rfl ?_
   refine hc.s 0 rfl fun wS hS hc=>?_
   refine hc.a 0 rfl rfl ?_
   exact⟨rfl,hc.below⟩
  refine⟨⟨_,hc.cell 1 rfl _ rfl,trivial,?_⟩,trivial⟩
  refine⟨?_,?_⟩
  ·skip
   refine hc.q' (B9X d.key 42 _ h.key) fun wQ hQ hc=>?_
   refine⟨⟨_,hc.cell 1 rfl _ rfl,trivial,?_⟩,trivial⟩
   refine⟨hc.q' (B9X d.body 302 _ h.body) fun wQ hQ hc=>?_,trivial⟩
   refine⟨hc.q' (B9X d.tag 10 _ h.tag) fun wQ hQ hc=>?_,trivial⟩
   refine⟨hc.s' 1 rfl fun wS hS hc=>?_,trivial⟩
   refine⟨hc.s' 1 rfl fun wS hS hc=>?_,trivial⟩
   refine hc.s 1 rfl fun wS hS hc=>?_
   refine hc.a 1 rfl rfl ?_
   refine hc.s 0 rfl fun wS hS hc=>?_
   refine hc.a 0 rfl rfl ?_
   exact⟨rfl,hc.below⟩
  refine⟨⟨_,hc.cell 1 rfl _ rfl,trivial,?_⟩,trivial⟩
  refine⟨hc.q' (B9X d.key 42 _ h.key) fun wQ hQ hc=>?_,trivial⟩
  refine⟨hc.q' (B9X d.body 302 _ h.body) fun wQ hQ hc=>?_,trivial⟩
  refine⟨hc.q' (B9X d.tag 10 _ h.tag) fun wQ hQ hc=>?_,trivial⟩
  refine⟨hc.s' 1 rfl fun wS hS hc=>?_,trivial⟩
  refine⟨hc.s' 1 rfl fun wS hS hc=>?_,trivial⟩
  refine hc.s 1 rfl fun wS hS hc=>?_
  refine hc.a 1 rfl rfl ?_
  refine hc.s 0 rfl fun wS hS hc=>?_
  refine hc.a 0 rfl rfl ?_
  exact⟨rfl,hc.below⟩
 refine⟨?_,?_⟩
 ·skip
  refine⟨_,hc.cell 1 rfl _ rfl,trivial,?_⟩
  refine⟨?_,?_⟩
  ·skip
   refine⟨_,hc.cell 1 rfl _ rfl,trivial,?_⟩
   refine⟨?_,?_⟩
   ·skip
    refine hc.q' (B9X d.key 42 _ h.key) fun wQ hQ hc=>?_
    refine⟨?_,?_⟩
    ·skip
     refine hc.q' (B9X d.body 302 _ h.body) fun wQ hQ hc=>?_
     refine⟨⟨_,hc.cell 1 rfl _ rfl,trivial,?_⟩,trivial⟩
     refine⟨hc.q' (B9X d.tag 10 _ h.tag) fun wQ hQ hc=>?_,trivial⟩
     refine⟨hc.s' 1 rfl fun wS hS hc=>?_,trivial⟩
     refine⟨hc.s' 1 rfl fun wS hS hc=>?_,trivial⟩
     refine hc.s 1 rfl fun wS hS hc=>?_
     refine hc.a 1 rfl rfl ?_
     refine hc.s 0 rfl fun wS hS hc=>?_
     refine hc.a 0 rfl rfl ?_
     exact⟨rfl,hc.below⟩
    refine⟨⟨_,hc.cell 1 rfl _ rfl,trivial,?_⟩,trivial⟩
    refine⟨hc.q' (B9X d.body 302 _ h.body) fun wQ hQ hc=>?_,trivial⟩
    refine⟨hc.q' (B9X d.tag 10 _ h.tag) fun wQ hQ hc=>?_,trivial⟩
    refine⟨hc.s' 1 rfl fun wS hS hc=>?_,trivial⟩
    refine⟨hc.s' 1 rfl fun wS hS hc=>?_,trivial⟩
    refine hc.s 1 rfl fun wS hS hc=>?_
    refine hc.a 1 rfl rfl ?_
    refine hc.s 0 rfl fun wS hS hc=>?_
    refine hc.a 0 rfl rfl ?_
    exact⟨rfl,hc.below⟩
   refine⟨⟨_,hc.cell 1 rfl _ rfl,trivial,?_⟩,trivial⟩
   refine⟨hc.q' (B9X d.key 42 _ h.key) fun wQ hQ hc=>?_,trivial⟩
   refine⟨hc.q' (B9X d.body 302 _ h.body) fun wQ hQ hc=>?_,trivial⟩
   refine⟨hc.q' (B9X d.tag 10 _ h.tag) fun wQ hQ hc=>?_,trivial⟩
   refine⟨hc.s' 1 rfl fun wS hS hc=>?_,trivial⟩
   refine⟨hc.s' 1 rfl fun wS hS hc=>?_,trivial⟩
   refine hc.s 1 rfl fun wS hS hc=>?_
   refine hc.a 1 rfl rfl ?_
   refine hc.s 0 rfl fun wS hS hc=>?_
   refine hc.a 0 rfl rfl ?_
   exact⟨rfl,hc.below⟩
  refine⟨⟨_,hc.cell 1 rfl _ rfl,trivial,?_⟩,trivial⟩
  refine⟨⟨_,hc.cell 1 rfl _ rfl,trivial,?_⟩,trivial⟩
  refine⟨hc.q' (B9X d.key 42 _ h.key) fun wQ hQ hc=>?_,trivial⟩
  refine⟨hc.q' (B9X d.body 302 _ h.body) fun wQ hQ hc=>?_,trivial⟩
  refine⟨hc.q' (B9X d.tag 10 _ h.tag) fun wQ hQ hc=>?_,trivial⟩
  refine⟨hc.s' 1 rfl fun wS hS hc=>?_,trivial⟩
  refine⟨hc.s' 1 rfl fun wS hS hc=>?_,trivial⟩
  refine hc.s 1 rfl fun wS hS hc=>?_
  refine hc.a 1 rfl rfl ?_
  refine hc.s 0 rfl fun wS hS hc=>?_
  refine hc.a 0 rfl rfl ?_
  exact⟨rfl,hc.below⟩
 refine⟨⟨_,hc.cell 1 rfl _ rfl,trivial,?_⟩,trivial⟩
 refine⟨?_,?_⟩
 ·skip
  refine⟨_,hc.cell 1 rfl _ rfl,trivial,?_⟩
  refine⟨?_,?_⟩
  ·skip
   refine hc.q' (B9X d.key 42 _ h.key) fun wQ hQ hc=>?_
   refine⟨⟨_,hc.cell 1 rfl _ rfl,trivial,?_⟩,trivial⟩
   refine⟨hc.q' (B9X d.body 302 _ h.body) fun wQ hQ hc=>?_,trivial⟩
   refine⟨hc.q' (B9X d.tag 10 _ h.tag) fun wQ hQ hc=>?_,trivial⟩
   refine⟨hc.s' 1 rfl fun wS hS hc=>?_,trivial⟩
   refine⟨hc.s' 1 rfl fun wS hS hc=>?_,trivial⟩
   refine hc.s 1 rfl fun wS hS hc=>?_
   refine hc.a 1 rfl rfl ?_
   refine hc.s 0 rfl fun wS hS hc=>?_
   refine hc.a 0 rfl rfl ?_
   exact⟨rfl,hc.below⟩
  refine⟨⟨_,hc.cell 1 rfl _ rfl,trivial,?_⟩,trivial⟩
  refine⟨hc.q' (B9X d.key 42 _ h.key) fun wQ hQ hc=>?_,trivial⟩
  refine⟨hc.q' (B9X d.body 302 _ h.body) fun wQ hQ hc=>?_,trivial⟩
  refine⟨hc.q' (B9X d.tag 10 _ h.tag) fun wQ hQ hc=>?_,trivial⟩
  refine⟨hc.s' 1 rfl fun wS hS hc=>?_,trivial⟩
  refine⟨hc.s' 1 rfl fun wS hS hc=>?_,trivial⟩
  refine hc.s 1 rfl fun wS hS hc=>?_
  refine hc.a 1 rfl rfl ?_
  refine hc.s 0 rfl fun wS hS hc=>?_
  refine hc.a 0 rfl rfl ?_
  exact⟨rfl,hc.below⟩
 refine⟨⟨_,hc.cell 1 rfl _ rfl,trivial,?_⟩,trivial⟩
 refine⟨⟨_,hc.cell 1 rfl _ rfl,trivial,?_⟩,trivial⟩
 refine⟨hc.q' (B9X d.key 42 _ h.key) fun wQ hQ hc=>?_,trivial⟩
 refine⟨hc.q' (B9X d.body 302 _ h.body) fun wQ hQ hc=>?_,trivial⟩
 refine⟨hc.q' (B9X d.tag 10 _ h.tag) fun wQ hQ hc=>?_,trivial⟩
 refine⟨hc.s' 1 rfl fun wS hS hc=>?_,trivial⟩
 refine⟨hc.s' 1 rfl fun wS hS hc=>?_,trivial⟩
 refine hc.s 1 rfl fun wS hS hc=>?_
 refine hc.a 1 rfl rfl ?_
 refine hc.s 0 rfl fun wS hS hc=>?_
 refine hc.a 0 rfl rfl ?_
 exact⟨rfl,hc.below⟩
def B89 (v:Ver):Ver:=⟨v.ver,v.gone,cut v.body 302⟩
def B9A (e:Ent):Ent:=⟨cut e.key 42,(e.vs.take 14).map B89⟩
theorem C3Q (n:Nat):(if (14:Int)<(n:Int) then (14:Int) else (n:Int))=((min n 14:Nat):Int):=by split<;>omega
theorem C22 (n:Nat):(if (103:Int)<(n:Int) then (103:Int) else (n:Int))=((min n 103:Nat):Int):=by split<;>omega
def C3S (e:Ent) (w:World) (en:Ending) (w':World):Prop:=∃ A c,en=.returned (.agg #[.string e.key,.slice A e.vs.length c])/\Below w.heap.size w w'/\w'.ownsRow w.heap.size 147 3 (.slice A e.vs.length c) e.vs.length (e.vs.map K2).flatten
theorem C2Y (cur:List Value) (cap:Nat) (l:List Ver) (i:Nat) (hi:i<l.length) (hcl:cur.length=cap*3) (hn:l.length<=cap) (hct:cur.take (l.length*3)=(l.map K2).flatten) (b:ByteArray):
  (C0 cur (i*3+2) [.string b]).take (l.length*3)=((l.set i ⟨l[i].ver,l[i].gone,b⟩).map K2).flatten:=by
 have hfit:i*3+2+1<=cur.length:=by omega
 apply List.ext_getElem?
 intro j
 have hL:∀ m:List Ver,(m.map K2).flatten.length=m.length*3:=fun m=>by rw [(I7 _).len,List.length_map]
 have hpt:∀ (m:List Ver) (k:Nat) (hk:k<m.length) (r:Nat) (u:Value),(K2 m[k])[r]?=some u->(m.map K2).flatten[k*3+r]?=some u:=fun m k hk r u hu=>
  (I7 m).get k (by rw [List.length_map];exact hk) r u (by rw [List.getElem_map];exact hu)
 rcases Nat.lt_or_ge j (l.length*3) with hj | hj
 ·rw [List.getElem?_take,if_pos hj]
  have hq:j / 3<l.length:=by omega
  have hjd:j=j / 3*3+j % 3:=by omega
  have hr:j % 3<3:=Nat.mod_lt _ (by decide)
  have hold:cur[j]?=(l.map K2).flatten[j]?:=by rw [<-hct,List.getElem?_take,if_pos hj]
  show (cur.set (i*3+2) (.string b))[j]?=_
  generalize hk:j / 3=k at*
  generalize hrr:j % 3=r at*
  by_cases e:k=i
  ·subst e
   have hset:(l.set k ⟨l[k].ver,l[k].gone,b⟩)[k]'(by rw [List.length_set];exact hq)=⟨l[k].ver,l[k].gone,b⟩:=List.getElem_set_self ..
   match r,hr with
   | 0,_=>
    rw [List.getElem?_set_ne (by omega),hold,hjd,hpt l k hq 0 (.int .i64 l[k].ver) rfl,hpt _ k (by rw [List.length_set];exact hq) 0 (.int .i64 l[k].ver) (by rw [hset];rfl)]
   | 1,_=>
    rw [List.getElem?_set_ne (by omega),hold,hjd,hpt l k hq 1 (.bool l[k].gone) rfl,hpt _ k (by rw [List.length_set];exact hq) 1 (.bool l[k].gone) (by rw [hset];rfl)]
   | 2,_=>
    rw [hjd,List.getElem?_set_self (by omega),hpt _ k (by rw [List.length_set];exact hq) 2 (.string b) (by rw [hset];rfl)]
  ·have hset:(l.set i ⟨l[i].ver,l[i].gone,b⟩)[k]'(by rw [List.length_set];exact hq)=l[k]:=List.getElem_set_ne (fun h=>e h.symm) ..
   rw [List.getElem?_set_ne (by omega),hold,hjd]
   match r,hr with
   | 0,_=>rw [hpt l k hq 0 (.int .i64 l[k].ver) rfl,hpt _ k (by rw [List.length_set];exact hq) 0 (.int .i64 l[k].ver) (by rw [hset];rfl)]
   | 1,_=>rw [hpt l k hq 1 (.bool l[k].gone) rfl,hpt _ k (by rw [List.length_set];exact hq) 1 (.bool l[k].gone) (by rw [hset];rfl)]
   | 2,_=>rw [hpt l k hq 2 (.string l[k].body) rfl,hpt _ k (by rw [List.length_set];exact hq) 2 (.string l[k].body) (by rw [hset];rfl)]
 ·rw [List.getElem?_eq_none (by rw [List.length_take];omega),List.getElem?_eq_none (by rw [hL,List.length_set];exact hj)]
def C1Z (l:List Ver) (i:Nat):List Ver:=(l.take i).map B89++l.drop i
theorem C1f (l:List Ver) (i:Nat):(C1Z l i).length=l.length:=by
 unfold C1Z
 rw [List.length_append,List.length_map,List.length_take,List.length_drop];omega
theorem C2G (l:List Ver) (i:Nat) (hi:i<l.length):(C1Z l i)[i]?=some l[i]:=by
 unfold C1Z
 rw [List.getElem?_append_right (by rw [List.length_map,List.length_take];omega),List.length_map,List.length_take,List.getElem?_drop]
 rw [show i+(i-min i l.length)=i by omega,List.getElem?_eq_getElem hi]
theorem C10 (l:List Ver) (i:Nat) (hi:i<l.length):(C1Z l i).set i (B89 l[i])=C1Z l (i+1):=by
 unfold C1Z
 rw [List.set_append_right _ _ (by rw [List.length_map,List.length_take];omega),List.length_map,List.length_take,show i-min i l.length=0 by omega,List.drop_eq_getElem_cons hi,List.set_cons_zero,List.take_add_one,List.getElem?_eq_getElem hi,List.map_append,List.append_assoc]
 rfl
theorem C11 (e:Ent) (he:e.Ok) (A:Option Addr) (cap:Nat) (S0:Nat->Prop) (w:World) (hR:Row S0 w A e.vs.length cap (e.vs.map K2).flatten):
  Calls Tryz.prog 134 #[.agg #[.string e.key,.slice A e.vs.length cap]] w (C3S (B9A e) w):=by
 refine vE Tryz.func134 ?_
 have hc:=CtxF.start w no (fun _ h=>h.elim) (R:=fun _ _=>True) trivial Stab.true
 refine hc.n fun g1 wg1 hg1 hc=>?_
 refine hc.n fun g2 wg2 hg2 hc=>?_
 refine hc.c 1 rfl rfl ?_
 refine hc.q (B9X e.key 42 _ he.key) fun wQ hQ hc=>?_
 refine hc.s 1 rfl fun wS hS hc=>?_
 refine hc.c 1 rfl rfl ?_
 refine hc.c 1 rfl rfl ?_
 have hnc:=hR.1
 have hMx:=D4 hR
 have hm:=C3Q e.vs.length
 refine⟨⟨Int.le_refl _,by rw [hm];omega,by rw [hm];omega,Int.le_refl _⟩,?_⟩
 have hc:=hc.nil 147 3
 obtain⟨l,hl⟩:∃ l,l=e.vs.take 14:=⟨_,rfl⟩
 have hll:min e.vs.length 14=l.length:=by rw [hl,List.length_take];omega
 have hl14:l.length<=14:=by omega
 have hfr:Row S0 w A l.length cap ((l.map K2).flatten):=by
  have:=hR.front 3 (k:=l.length) (by omega)
  rwa [<-(I7 _).flat_take,<-List.map_take,show e.vs.take l.length=l by rw [hl,List.length_take,Nat.min_comm];exact (List.take_eq_take_iff.2 (by omega))] at this
 refine A1O Tryz.underlying97 A7L rfl (by decide) hc (hfr.below hc.below) (by rw [(I7 _).len,List.length_map]) (I7 _).ones (by omega) (by decide) rfl ?_ ?_
 ·show Value.slice (if (cap:Int)=0 then A else A.map (·.add ((0:Int).toNat*3))) ((if (14:Int)<(e.vs.length:Int) then (14:Int) else (e.vs.length:Int))-0).toNat ((cap:Int)-0).toNat=_
  rw [W2,hm,hll]
  congr 1<;>omega
 intro A1 cap1 w7 hc
 rw [Nat.zero_add l.length] at hc ⊢
 refine hc.s 1 rfl fun wS hS hc=>?_
 refine hc.c 1 rfl rfl ?_
 have eE:B9A e=⟨cut e.key 42,C1Z l l.length⟩:=by
  unfold B9A C1Z
  rw [List.take_length,List.drop_length,List.append_nil,<-hl]
 have hok:∀ v∈l,X6 v.body:=fun v hv=>(he.vs v (List.mem_of_mem_take (by rw [<-hl];exact hv))).body
 rw [eE]
 cases hA:A1 with
 | none=>
  have h0:l.length=0:=(hc.fst.none' hA).1
  refine⟨Unit,fun _=>[(1,.pointer (some ⟨g1,0,none⟩)),(2,.pointer (some ⟨g2,0,none⟩)),(19,.int .i64 l.length),(20,.int .i64 0)],fun _ w'=>w'=_,fun _ _=>0,(),⟨rfl,rfl,rfl,rfl,trivial⟩,rfl,?_⟩
  rintro _ _ u rfl
  refine df (show ¬ (0:Int)<(l.length:Int) by omega) ?_
  refine hc.a 1 rfl rfl ?_
  refine hc.s 0 rfl fun wS hS hc=>?_
  refine hc.a 0 rfl rfl ?_
  have hlen:=C1f l l.length
  have hnil:l=[]:=List.eq_nil_of_length_eq_zero h0
  refine⟨A1,cap1,?_,hc.below,?_⟩
  ·simp only [hlen,hA];rfl
  ·simp only [hlen]
   have:=hc.fst.row
   subst hnil
   exact this
 | some a=>
 obtain⟨g,cur,ea,hc,hcl,hct,hcn,hcm⟩:=hc.opened hA
 rw [hA] at ea
 cases ea
 subst hA
 refine⟨Nat × List Value,fun x=>[(1,.pointer (some ⟨g1,0,none⟩)),(2,.pointer (some ⟨g2,0,none⟩)),(19,.int .i64 l.length),(20,.int .i64 x.1)],
  fun x w'=>x.1<=l.length/\x.2.length=cap1*3/\x.2.take (l.length*3)=((C1Z l x.1).map K2).flatten/\CtxF no w no w' [(g,147,x.2),(g2,99,(lay.ty 99).zero),(g1,99,[.string (cut e.key 42),.slice (some ⟨g,0,none⟩) l.length cap1])] [] (fun _ _=>True),
  fun x _=>l.length-x.1,(0,cur),⟨rfl,rfl,rfl,rfl,trivial⟩,⟨Nat.zero_le _,hcl,hct,hc⟩,?_⟩
 clear hc hcl hct
 rintro⟨i,cur⟩ w4 u ⟨hi,hcl,hct,hc⟩
 simp only at hi hc hcl hct
 by_cases hlt:i<l.length
 ·refine dt (by first | omega | (simp only;omega)) ?_
  have hln:=C1f l i
  have hgi:(C1Z l i)[i]'(by omega)=l[i]:=by
   have:=C2G l i hlt
   exact (List.getElem?_eq_some_iff.1 this).2
  have hcell:cur[i*3+2]?=some (.string l[i].body):=by
   have h1:((C1Z l i).map K2).flatten[i*3+2]?=some (.string l[i].body):=(I7 (C1Z l i)).get i (by rw [List.length_map];omega) 2 _ (by rw [List.getElem_map,hgi];rfl)
   rw [<-hct,List.getElem?_take] at h1
   split at h1
   ·exact h1
   ·cases h1
  have hbody:=hok l[i] (List.getElem_mem hlt)
  have hrow:=C2Y cur cap1 (C1Z l i) i (by omega) hcl (by omega) (by rw [hln];exact hct) (cut l[i].body 302)
  rw [hgi,hln] at hrow
  have hcs:=C10 l i hlt
  have ecv:(⟨l[i].ver,l[i].gone,cut l[i].body 302⟩:Ver)=B89 l[i]:=rfl
  rw [ecv,hcs] at hrow
  generalize l[i]=v at*
  refine vD (.Q [0,2,3,5] (.n 1 (.n 4 (.Q [6,7] (.n 8 (.n 9 (.Q [10,11] (.n 12 .fin .stop)) .stop) .stop)) .stop) (.n 4 (.Q [6,7] (.n 1 (.n 8 (.n 9 (.Q [10,11] (.n 12 .fin .stop)) .stop) .stop) (.n 8 (.n 1 (.n 9 (.Q [10,11] (.n 12 .fin .stop)) .stop) (.n 9 (.n 1 (.Q [10,11] (.n 12 .fin .stop)) .stop) .stop)) .stop))) .stop))) (fun _=>True) trivial ?_
  have hc:=hc.drew
  refine⟨?_,?_⟩
  ·skip
   refine⟨_,hc.cell 2 rfl _ rfl,trivial,?_⟩
   refine⟨⟨_,hc.cell 2 rfl _ rfl,trivial,?_⟩,trivial⟩
   refine⟨⟨by first | omega | (simp only;omega),by first | omega | (simp only;omega)⟩,?_⟩
   generalize hae:((⟨g,0,none⟩:Addr).add ((i:Int).toNat*3))=ae
   have hae:(⟨g,i*3,none⟩:Addr)=ae:=by rw [<-hae,Addr.add_lit,Nat.zero_add,Int.toNat_natCast]
   subst hae
   refine⟨⟨.string v.body,(hc.blk 0 rfl).cell (i*3+2) |>.trans hcell,trivial,?_⟩,trivial⟩
   refine⟨hc.q' (B9X v.body 302 _ hbody) fun wQ hQ hc=>?_,trivial⟩
   refine⟨⟨by first | omega | (simp only;omega),by first | omega | (simp only;omega)⟩,?_⟩
   generalize hae:((⟨g,0,none⟩:Addr).add ((i:Int).toNat*3))=ae
   have hae:(⟨g,i*3,none⟩:Addr)=ae:=by rw [<-hae,Addr.add_lit,Nat.zero_add,Int.toNat_natCast]
   subst hae
   refine⟨⟨hc.may 0 rfl (i*3+2) [.string (cut v.body 302)] (by show i*3+2+1<=cur.length;omega) rfl,?_⟩,trivial⟩
   intro wS hS
   have hS:D0 _ ⟨g,i*3+2,none⟩ [.string (cut v.body 302)] wS:=hS
   have hc:=(hc.set 0 rfl hS).1
   refine⟨trivial,?_⟩
   exact⟨(i+1,C0 cur (i*3+2) [.string (cut v.body 302)]),⟨rfl,rfl,rfl,congrArg _ (C3 (by first | omega | (simp only;omega))),trivial⟩,⟨hlt,by simp only [putAt_len];exact hcl,hrow,hc⟩,by show l.length-(i+1)<l.length-i;omega⟩
  refine⟨⟨_,hc.cell 2 rfl _ rfl,trivial,?_⟩,trivial⟩
  refine⟨⟨by first | omega | (simp only;omega),by first | omega | (simp only;omega)⟩,?_⟩
  generalize hae:((⟨g,0,none⟩:Addr).add ((i:Int).toNat*3))=ae
  have hae:(⟨g,i*3,none⟩:Addr)=ae:=by rw [<-hae,Addr.add_lit,Nat.zero_add,Int.toNat_natCast]
  subst hae
  refine⟨?_,?_⟩
  ·skip
   refine⟨_,hc.cell 2 rfl _ rfl,trivial,?_⟩
   refine⟨⟨.string v.body,(hc.blk 0 rfl).cell (i*3+2) |>.trans hcell,trivial,?_⟩,trivial⟩
   refine⟨hc.q' (B9X v.body 302 _ hbody) fun wQ hQ hc=>?_,trivial⟩
   refine⟨⟨by first | omega | (simp only;omega),by first | omega | (simp only;omega)⟩,?_⟩
   generalize hae:((⟨g,0,none⟩:Addr).add ((i:Int).toNat*3))=ae
   have hae:(⟨g,i*3,none⟩:Addr)=ae:=by rw [<-hae,Addr.add_lit,Nat.zero_add,Int.toNat_natCast]
   subst hae
   refine⟨⟨hc.may 0 rfl (i*3+2) [.string (cut v.body 302)] (by show i*3+2+1<=cur.length;omega) rfl,?_⟩,trivial⟩
   intro wS hS
   have hS:D0 _ ⟨g,i*3+2,none⟩ [.string (cut v.body 302)] wS:=hS
   have hc:=(hc.set 0 rfl hS).1
   refine⟨trivial,?_⟩
   exact⟨(i+1,C0 cur (i*3+2) [.string (cut v.body 302)]),⟨rfl,rfl,rfl,congrArg _ (C3 (by first | omega | (simp only;omega))),trivial⟩,⟨hlt,by simp only [putAt_len];exact hcl,hrow,hc⟩,by show l.length-(i+1)<l.length-i;omega⟩
  refine⟨⟨.string v.body,(hc.blk 0 rfl).cell (i*3+2) |>.trans hcell,trivial,?_⟩,trivial⟩
  refine⟨?_,?_⟩
  ·skip
   refine⟨_,hc.cell 2 rfl _ rfl,trivial,?_⟩
   refine⟨hc.q' (B9X v.body 302 _ hbody) fun wQ hQ hc=>?_,trivial⟩
   refine⟨⟨by first | omega | (simp only;omega),by first | omega | (simp only;omega)⟩,?_⟩
   generalize hae:((⟨g,0,none⟩:Addr).add ((i:Int).toNat*3))=ae
   have hae:(⟨g,i*3,none⟩:Addr)=ae:=by rw [<-hae,Addr.add_lit,Nat.zero_add,Int.toNat_natCast]
   subst hae
   refine⟨⟨hc.may 0 rfl (i*3+2) [.string (cut v.body 302)] (by show i*3+2+1<=cur.length;omega) rfl,?_⟩,trivial⟩
   intro wS hS
   have hS:D0 _ ⟨g,i*3+2,none⟩ [.string (cut v.body 302)] wS:=hS
   have hc:=(hc.set 0 rfl hS).1
   refine⟨trivial,?_⟩
   exact⟨(i+1,C0 cur (i*3+2) [.string (cut v.body 302)]),⟨rfl,rfl,rfl,congrArg _ (C3 (by first | omega | (simp only;omega))),trivial⟩,⟨hlt,by simp only [putAt_len];exact hcl,hrow,hc⟩,by show l.length-(i+1)<l.length-i;omega⟩
  refine⟨hc.q' (B9X v.body 302 _ hbody) fun wQ hQ hc=>?_,trivial⟩
  refine⟨⟨_,hc.cell 2 rfl _ rfl,trivial,?_⟩,trivial⟩
  refine⟨⟨by first | omega | (simp only;omega),by first | omega | (simp only;omega)⟩,?_⟩
  generalize hae:((⟨g,0,none⟩:Addr).add ((i:Int).toNat*3))=ae
  have hae:(⟨g,i*3,none⟩:Addr)=ae:=by rw [<-hae,Addr.add_lit,Nat.zero_add,Int.toNat_natCast]
  subst hae
  refine⟨⟨hc.may 0 rfl (i*3+2) [.string (cut v.body 302)] (by show i*3+2+1<=cur.length;omega) rfl,?_⟩,trivial⟩
  intro wS hS
  have hS:D0 _ ⟨g,i*3+2,none⟩ [.string (cut v.body 302)] wS:=hS
  have hc:=(hc.set 0 rfl hS).1
  refine⟨trivial,?_⟩
  exact⟨(i+1,C0 cur (i*3+2) [.string (cut v.body 302)]),⟨rfl,rfl,rfl,congrArg _ (C3 (by first | omega | (simp only;omega))),trivial⟩,⟨hlt,by simp only [putAt_len];exact hcl,hrow,hc⟩,by show l.length-(i+1)<l.length-i;omega⟩
 ·refine df (by first | omega | (simp only;omega)) ?_
  have hi:i=l.length:=by omega
  subst hi
  refine hc.a 2 rfl rfl ?_
  refine hc.s 1 rfl fun wS hS hc=>?_
  refine hc.a 1 rfl rfl ?_
  have hc:=CtxF.closed hc 3 l.length cap1 hcn hcm hcl
  rw [hct] at hc
  have hlen:=C1f l l.length
  refine⟨some ⟨g,0,none⟩,cap1,?_,hc.below,?_⟩
  ·simp only [hlen];rfl
  ·simp only [hlen]
   exact hc.fst.row
def A7 (s:Stt):Stt:=⟨s.seq,(s.l.take 42).map B9A,s.ms.take 103,s.lows⟩
def B6w (s:Stt) (S:Nat->Prop) (w:World) (en:Ending) (w':World):Prop:=∃ cs,en=.returned (.agg cs.toArray)/\Below w.heap.size w w'/\RepS (ext S w w') w' s cs
theorem C1b (s:Stt) (hk:s.Ok) (cs:List Value) (S0:Nat->Prop) (w:World) (hs:RepS S0 w s cs):Calls Tryz.prog 74 #[.agg cs.toArray] w (B6w (A7 s) no w):=by
 obtain⟨A,cap,css0,B,cap',l0,l1,l2,l3,l4,rfl,el,hE,hR,hM⟩:=hs.shape
 refine vE Tryz.func74 ?_
 have hc:=CtxF.start w no (fun _ h=>h.elim) (R:=fun S w=>RepEs S w [] []) rfl (RepEs.stab _ _)
 refine hc.n fun g1 wg1 hg1 hc=>?_
 refine hc.n fun g2 wg2 hg2 hc=>?_
 have hc:=hc.nil 99 2
 refine⟨Nat × Option Addr × Nat,fun x=>[(1,.pointer (some ⟨g1,0,none⟩)),(2,.pointer (some ⟨g2,0,none⟩)),(3,.slice x.2.1 ((s.l.take x.1).map B9A).length x.2.2),(4,.int .i64 x.1)],
  fun x w'=>x.1<=s.l.length/\x.1<=42/\∃ S css,CtxF no w S w' [(g2,41,(lay.ty 41).zero),(g1,41,stC s A cap B cap' l0 l1 l2 l3 l4)] [⟨99,2,x.2.1,((s.l.take x.1).map B9A).length,x.2.2,css.flatten⟩] (fun S w=>RepEs S w ((s.l.take x.1).map B9A) css),
  fun x _=>43-x.1,(0,none,0),⟨rfl,rfl,rfl,rfl,trivial⟩,⟨Nat.zero_le _,Nat.zero_le _,no,[],hc⟩,?_⟩
 clear hc
 rintro⟨i,A',n'⟩ w4 u ⟨hi,h42,S,css,hc⟩
 simp only at hi hc h42
 refine hc.c 1 rfl rfl ?_
 have fin:∀ (A':Option Addr) (n':Nat) (w4:World) (S:Nat->Prop) (css:List (List Value)),s.l.take i=s.l.take 42->True:=fun _ _ _ _ _ _=>trivial
 by_cases hgo:i<s.l.length/\i<42
 ·obtain⟨hlt,hlt2⟩:=hgo
  refine dt (by first | omega | (simp only;omega)) ?_
  refine dt (show (i:Int)<42 by omega) ?_
  obtain⟨ad,A1,cap1,rfl,hcell0,hRe⟩:=RowE.elem hR hE i hlt
  have hok:=hk.l _ (List.getElem_mem hlt)
  have e1:(s.l.take (i+1)).map B9A=(s.l.take i).map B9A++[B9A s.l[i]]:=by rw [List.take_add_one,List.getElem?_eq_getElem hlt,List.map_append];rfl
  generalize s.l[i]=x at*
  refine hc.c 1 rfl rfl ?_
  refine⟨⟨by first | omega | (simp only;omega),by first | omega | (simp only;omega)⟩,?_⟩
  refine⟨[.string x.key,.slice A1 x.vs.length cap1],rfl,cellsAt_later hc.below _ _ hcell0,?_⟩
  refine⟨(C11 x hok A1 cap1 S0 _ (hRe.below hc.below)).mono fun en wq hq=>?_⟩
  obtain⟨A2,c2,e2,hq,ho⟩:=hq
  have hc:=hc.fresh hq ho
  obtain⟨S2,_,hc⟩:=hc.told
  refine⟨_,e2,?_⟩
  refine hc.n fun gb wgb hgb hc=>?_
  have hlk:((s.l.take i).map B9A).length<=42:=by rw [List.length_map,List.length_take];omega
  refine K4 Tryz.underlying37 A03 rfl (by decide) hc (ys:=[.string (B9A x).key,.slice A2 (B9A x).vs.length c2]) (m:=1) rfl (hc.cells 0 rfl) rfl (by omega) (by decide) rfl rfl ?_
  intro A3 c5 w11 hc
  have hf:=hc.drop.now (X:=fun S w=>RepEs S w ((s.l.take i).map B9A++[B9A x]) (css++[[.string (B9A x).key,.slice A2 (B9A x).vs.length c2]])) (fun h=>RepEs.snoc h.1 ⟨A2,c2,rfl,h.2⟩) (RepEs.stab _ _)
  have ef:css.flatten++[Value.string (B9A x).key,Value.slice A2 (B9A x).vs.length c2]=(css++[[Value.string (B9A x).key,Value.slice A2 (B9A x).vs.length c2]]).flatten:=by rw [List.flatten_append];simp
  have e3:((s.l.take (i+1)).map B9A).length=((s.l.take i).map B9A).length+1:=by rw [e1,List.length_append];rfl
  rw [<-e1,<-e3,ef] at hf
  exact⟨(i+1,A3,c5),⟨rfl,rfl,by simp only [e3];rfl,congrArg _ (C3 (by first | omega | (simp only;omega))),trivial⟩,⟨hlt,hlt2,_,_,hf⟩,by show 43-(i+1)<43-i;omega⟩
 have et:s.l.take i=s.l.take 42:=by
  rcases Nat.lt_or_ge i s.l.length with h | h
  ·rw [show i=42 by omega]
  ·rw [List.take_of_length_le h,List.take_of_length_le (by omega)]
 rw [et] at hc
 simp only [et]
 have hnc:=hM.1
 have hMx:=D4 hM
 have hm:=C22 s.ms.length
 obtain⟨l,hl⟩:∃ l,l=s.ms.take 103:=⟨_,rfl⟩
 have hll:min s.ms.length 103=l.length:=by rw [hl,List.length_take];omega
 have hl103:l.length<=103:=by omega
 have hfr:Row S0 w B l.length cap' ((l.map F7).flatten):=by
  have:=hM.front 3 (k:=l.length) (by omega)
  rwa [<-(F9 _).flat_take,<-List.map_take,show s.ms.take l.length=l by rw [hl,List.length_take,Nat.min_comm];exact (List.take_eq_take_iff.2 (by omega))] at this
 have eS:A7 s=⟨s.seq,(s.l.take 42).map B9A,l,s.lows⟩:=by unfold A7;rw [hl]
 rw [eS]
 rcases Nat.lt_or_ge i s.l.length with h | h
 all_goals first
  | (
    refine dt (by first | omega | (simp only;omega)) ?_
    refine df (show ¬ (i:Int)<42 by omega) ?_)
  | refine df (by first | omega | (simp only;omega)) ?_
 all_goals (
  refine hc.s 1 rfl fun wS hS hc=>?_
  obtain⟨S2,_,hc⟩:=hc.told
  have hc:=hc.nil 101 3
  refine hc.c 1 rfl rfl ?_
  refine hc.c 1 rfl rfl ?_
  refine⟨⟨Int.le_refl _,by rw [hm];omega,by rw [hm];omega,Int.le_refl _⟩,?_⟩
  refine A1O Tryz.underlying38 A1z rfl (by decide) hc (hfr.below hc.below) (by rw [(F9 _).len,List.length_map]) (F9 _).ones (by omega) (by decide) rfl (by
   show Value.slice (if (cap':Int)=0 then B else B.map (·.add ((0:Int).toNat*3))) ((if (103:Int)<(s.ms.length:Int) then (103:Int) else (s.ms.length:Int))-0).toNat ((cap':Int)-0).toNat=_
   rw [W2,hm,hll]
   congr 1<;>omega) ?_
  intro A1 cap1 w7 hc
  rw [Nat.zero_add l.length] at hc ⊢
  refine hc.s 1 rfl fun wS hS hc=>?_
  refine hc.a 1 rfl rfl ?_
  refine hc.s 0 rfl fun wS hS hc=>?_
  obtain⟨S3,_,hc⟩:=hc.told
  refine hc.a 0 rfl rfl ?_
  have ho:=hc.out
  exact⟨_,rfl,hc.below,RepS.mk' el ho.1.1 ho.1.2 ho.2⟩)
theorem B8E (t:List UInt8) (w:World) (ht:t.length<=1073741824) (hw:Env w):Calls Tryz.prog 180 #[.string ⟨t.toArray⟩] w (fun en w'=>∃ A cap,en=.returned (.tuple #[.agg (Y3 (A0F t).1 A cap).toArray,.int .i64 ((A0F t).2.1:Nat),.int .i64 (A0F t).2.2])/\Below w.heap.size w w'/\RepC (ext no w w') w' (A0F t).1 (Y3 (A0F t).1 A cap)):=
 (B4z t w ht hw).mono fun e w' h=>by
  obtain⟨cs,e1,hb,hr⟩:=h
  obtain⟨A',cap',e2⟩:=hr.cells
  subst e2
  exact⟨A',cap',e1,hb,hr⟩
end Go.Proofs.YtefdfaeieekioaaGreatDoor
