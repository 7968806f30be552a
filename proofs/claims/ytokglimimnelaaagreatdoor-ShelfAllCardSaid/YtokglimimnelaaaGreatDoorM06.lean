import Derived.Test.YtokglimimnelaaaGreatDoorM05
import Derived.Lib.Overlaps
import Derived.Lib.AppendZerosOnto
set_option linter.unusedVariables false
set_option linter.unusedSimpArgs false
namespace Go.Proofs.YtokglimimnelaaaGreatDoor
open Go.Vc Go.RowKit Go.Fl
set_option maxRecDepth 100000
set_option maxHeartbeats 1000000 in
theorem reqS_any (a b:Stt) (ca cb:List Value) (S:Nat->Prop) (w:World) (ha:RepS S w a ca) (hb:RepS S w b cb):Calls Tryz.prog 23 #[.agg ca.toArray,.agg cb.toArray] w (RetB (.bool (eqS a b)) w):=by
 obtain⟨A,cap,css,B,cap',l0,l1,l2,l3,l4,rfl,el,hE,hR,hM⟩:=ha.shape
 obtain⟨A',cap2,css',B',cap3,k0,k1,k2,k3,k4,rfl,ek,hE',hR',hM'⟩:=hb.shape
 have hMa:=row_max hR
 have hMm:=row_max hM
 refine vE Tryz.func23 ?_
 intro g1 w1 h1
 have hc:=((Ctx.start w no (fun _ h=>h.elim)).loc h1).1
 refine hc.n fun g2 w2 h2 hc=>?_
 refine⟨_,hc.cell 1 rfl _ rfl,?_⟩
 refine⟨_,hc.cell 0 rfl _ rfl,?_⟩
 have e0:eqS a b=(a.seq==b.seq&&a.lows==b.lows&&eqAll eqMem a.ms b.ms&&eqAll eqE a.l b.l):=rfl
 generalize eqS a b=r at e0 ⊢
 rcases Bool.eq_false_or_eq_true (a.seq==b.seq) with hs | hs
 rotate_left
 ·refine split_t (by show (!(a.seq==b.seq))=true;rw [hs];rfl) ?_
  rw [hs] at e0
  exact⟨ret_bool e0.symm,hc.below⟩
 refine split_f (by show (!(a.seq==b.seq))=false;rw [hs];rfl) ?_
 refine⟨[.int .i64 l0,.int .i64 l1,.int .i64 l2,.int .i64 l3,.int .i64 l4],rfl,hc.cellsAt 1 rfl (0+3) _ rfl,?_⟩
 refine⟨[.int .i64 k0,.int .i64 k1,.int .i64 k2,.int .i64 k3,.int .i64 k4],rfl,hc.cellsAt 0 rfl (0+3) _ rfl,?_⟩
 refine⟨_,fun w=>neq_run gd_lows (fun w=>lows_in 9998 w l0 l1 l2 l3 l4 k0 k1 k2 k3 k4) _ _ w,?_⟩
 rw [el,ek] at e0
 rcases Bool.eq_false_or_eq_true ([l0,l1,l2,l3,l4]==[k0,k1,k2,k3,k4]) with hl | hl
 rotate_left
 ·refine split_t (by show (!([l0,l1,l2,l3,l4]==[k0,k1,k2,k3,k4]))=true;rw [hl];rfl) ?_
  rw [hs,hl] at e0
  exact⟨ret_bool e0.symm,hc.below⟩
 refine split_f (by show (!([l0,l1,l2,l3,l4]==[k0,k1,k2,k3,k4]))=false;rw [hl];rfl) ?_
 rw [hs,hl,Bool.and_self,Bool.true_and] at e0
 refine⟨_,hc.cell 1 rfl _ rfl,?_⟩
 refine⟨_,hc.cell 0 rfl _ rfl,?_⟩
 rcases Nat.decEq a.l.length b.l.length with hle | hle
 ·refine split_t (by show ((a.l.length:Int) != (b.l.length:Int))=true;rw [bne_iff_ne];omega) ?_
  rw [eqAll_len eqE _ _ hle,Bool.and_false] at e0
  exact⟨ret_bool e0.symm,hc.below⟩
 refine split_f (by show ((a.l.length:Int) != (b.l.length:Int))=false;rw [hle];simp) ?_
 refine⟨_,hc.cell 1 rfl _ rfl,?_⟩
 refine⟨_,hc.cell 0 rfl _ rfl,?_⟩
 rcases Nat.decEq a.ms.length b.ms.length with hlm | hlm
 ·refine split_t (by show ((a.ms.length:Int) != (b.ms.length:Int))=true;rw [bne_iff_ne];omega) ?_
  rw [eqAll_len eqMem _ _ hlm,Bool.false_and] at e0
  exact⟨ret_bool e0.symm,hc.below⟩
 refine split_f (by show ((a.ms.length:Int) != (b.ms.length:Int))=false;rw [hlm];simp) ?_
 refine⟨Nat,fun i=>[(2,.pointer (some ⟨g1,0,none⟩)),(3,.pointer (some ⟨g2,0,none⟩)),(5,.int .i64 i)],
  fun i w'=>i<=a.l.length/\eqAll eqE (a.l.drop i) (b.l.drop i)=eqAll eqE a.l b.l/\Ctx no w no w' [(g2,43,[.int .i64 b.seq,.slice A' b.l.length cap2,.slice B' b.ms.length cap3,.int .i64 k0,.int .i64 k1,.int .i64 k2,.int .i64 k3,.int .i64 k4]),(g1,43,[.int .i64 a.seq,.slice A a.l.length cap,.slice B a.ms.length cap',.int .i64 l0,.int .i64 l1,.int .i64 l2,.int .i64 l3,.int .i64 l4])],fun i _=>a.l.length-i,0,
  ⟨rfl,rfl,rfl,trivial⟩,⟨Nat.zero_le _,rfl,hc⟩,?_⟩
 rintro i w' u ⟨hi,he,hc⟩
 refine⟨_,hc.cell 1 rfl _ rfl,?_⟩
 rcases Nat.lt_or_ge i a.l.length with hlt | hlt
 ·refine split_t (decide_eq_true (by omega)) ?_
  obtain⟨ad,A1,cap1,e1,hcell,hr1⟩:=RowE.elem (hR.below hc.below) (hE.below hc.below) i hlt
  obtain⟨bd,B1,capb,e2,hcell',hr2⟩:=RowE.elem (hR'.below hc.below) (hE'.below hc.below) i (by omega)
  subst e1
  subst e2
  rw [List.drop_eq_getElem_cons hlt,List.drop_eq_getElem_cons (show i<b.l.length by omega),eqAll] at he
  generalize a.l[i]=x at*
  generalize b.l[i]'(by omega)=y at*
  refine vD (.Q [0,1,2,3,4,5,6,7,8,9] (.n 10 (.q 11 .fin) .stop)) (Keeps (fun b=>b<w'.heap.size) w') (Keeps.start _ _) ?_
  refine⟨_,fun z hz=>hz.look (hc.cell 1 rfl _ rfl),?_⟩
  refine⟨⟨by omega,by omega⟩,?_⟩
  refine⟨[.string x.key,.slice A1 x.vs.length cap1],rfl,fun z hz=>hz.looks _ _ hcell,?_⟩
  refine⟨_,fun z hz=>hz.look (hc.cell 0 rfl _ rfl),?_⟩
  refine⟨⟨by omega,by omega⟩,?_⟩
  refine⟨[.string y.key,.slice B1 y.vs.length capb],rfl,fun z hz=>hz.looks _ _ hcell',?_⟩
  refine⟨call_b (reqE_any x y A1 B1 cap1 capb S _ (hr1.below (Below.refl _ _).drew) (hr2.below (Below.refl _ _).drew)) ?_,trivial⟩
  intro w3 h3
  have hcq:=(hc.drew.quiet h3).1
  refine⟨(Keeps.start _ _).below (fun b hb=>hb) h3,?_⟩
  rcases Bool.eq_false_or_eq_true (eqE x y) with hv | hv
  ·refine split_f (by rw [hv];rfl) ?_
   rw [hv,Bool.true_and] at he
   refine⟨i+1,⟨rfl,rfl,congrArg _ (i_down (by omega)),trivial⟩,⟨hlt,he,hcq⟩,by show a.l.length-(i+1)<a.l.length-i;omega⟩
  ·refine split_t (by rw [hv];rfl) ?_
   rw [hv,Bool.false_and] at he
   rw [<-he,Bool.and_false] at e0
   exact⟨ret_bool e0.symm,hcq.below⟩
 refine split_f (decide_eq_false (by omega)) ?_
 rw [List.drop_of_length_le (by omega),List.drop_of_length_le (by omega),eqAll] at he
 rw [<-he,Bool.and_true] at e0
 refine⟨Nat,fun i=>[(2,.pointer (some ⟨g1,0,none⟩)),(3,.pointer (some ⟨g2,0,none⟩)),(6,.int .i64 i)],
  fun i w'=>i<=a.ms.length/\eqAll eqMem (a.ms.drop i) (b.ms.drop i)=eqAll eqMem a.ms b.ms/\Ctx no w no w' [(g2,43,[.int .i64 b.seq,.slice A' b.l.length cap2,.slice B' b.ms.length cap3,.int .i64 k0,.int .i64 k1,.int .i64 k2,.int .i64 k3,.int .i64 k4]),(g1,43,[.int .i64 a.seq,.slice A a.l.length cap,.slice B a.ms.length cap',.int .i64 l0,.int .i64 l1,.int .i64 l2,.int .i64 l3,.int .i64 l4])],fun i _=>a.ms.length-i,0,
  ⟨rfl,rfl,rfl,trivial⟩,⟨Nat.zero_le _,rfl,hc⟩,?_⟩
 rintro i w' u ⟨hi,he,hc⟩
 refine⟨_,hc.cell 1 rfl _ rfl,?_⟩
 rcases Nat.lt_or_ge i a.ms.length with hlt | hlt
 ·refine split_t (decide_eq_true (by omega)) ?_
  obtain⟨ad,e1,hcell⟩:=RowM.elem (hM.below hc.below) i hlt
  obtain⟨bd,e2,hcell'⟩:=RowM.elem (hM'.below hc.below) i (by omega)
  subst e1
  subst e2
  rw [List.drop_eq_getElem_cons hlt,List.drop_eq_getElem_cons (show i<b.ms.length by omega),eqAll] at he
  generalize a.ms[i]=x at*
  generalize b.ms[i]'(by omega)=y at*
  refine vD (.Q [0,1,2,3,4,5,6,7,8,9,10] .fin) (Keeps (fun b=>b<w'.heap.size) w') (Keeps.start _ _) ?_
  refine⟨_,fun z hz=>hz.look (hc.cell 1 rfl _ rfl),?_⟩
  refine⟨⟨by omega,by omega⟩,?_⟩
  refine⟨memC x,rfl,fun z hz=>hz.looks _ _ hcell,?_⟩
  refine⟨_,fun z hz=>hz.look (hc.cell 0 rfl _ rfl),?_⟩
  refine⟨⟨by omega,by omega⟩,?_⟩
  refine⟨memC y,rfl,fun z hz=>hz.looks _ _ hcell',?_⟩
  refine⟨_,fun w=>neq_run gd_mem (eqMem_in 9997 · x y) _ _ w,?_⟩
  have hc:=hc.drew
  rcases Bool.eq_false_or_eq_true (eqMem x y) with hv | hv
  ·refine split_f (by rw [hv];rfl) ?_
   rw [hv,Bool.true_and] at he
   refine⟨i+1,⟨rfl,rfl,congrArg _ (i_down (by omega)),trivial⟩,⟨hlt,he,hc⟩,by show a.ms.length-(i+1)<a.ms.length-i;omega⟩
  ·refine split_t (by rw [hv];rfl) ?_
   rw [hv,Bool.false_and] at he
   rw [<-he] at e0
   exact⟨ret_bool e0.symm,hc.below⟩
 ·refine split_f (decide_eq_false (by omega)) ?_
  rw [List.drop_of_length_le (by omega),List.drop_of_length_le (by omega),eqAll] at he
  rw [<-he] at e0
  exact⟨ret_bool e0.symm,hc.below⟩
set_option maxRecDepth 100000
theorem lows_cell {w:World} {g T:Nat} {a b c:Value} {l0 l1 l2 l3 l4:Int} (hB:Blk w g T [a,b,c,.int .i64 l0,.int .i64 l1,.int .i64 l2,.int .i64 l3,.int .i64 l4]) (h j:Int) (hr:1<=h/\h<=5) (hj:j=h-1):
  w.cell? ((⟨g,0+3,none⟩:Addr).add (j.toNat*1))=some (.int .i64 (lowAt [l0,l1,l2,l3,l4] h)):=by
 subst hj
 have hh:h=1\/h=2\/h=3\/h=4\/h=5:=by omega
 rcases hh with rfl | rfl | rfl | rfl | rfl
 ·exact hB.cell 3
 ·exact hB.cell 4
 ·exact hB.cell 5
 ·exact hB.cell 6
 ·exact hB.cell 7
theorem lows_index (l0 l1 l2 l3 l4:Int) (i:Nat) (hi:i<5) (w:World):(Instr.index 41 (.agg #[.int .i64 l0,.int .i64 l1,.int .i64 l2,.int .i64 l3,.int .i64 l4]) (.int .i64 i)).run Tryz.prog w=.ok (.int .i64 ([l0,l1,l2,l3,l4].getD i 0)) w:=by
 obtain⟨ti,hsz,_,hs1,_⟩:=info_parts (show (Tryz.prog.info? 2).map (fun i=>(i.zero,i.size,i.bytes))=some (some (.int .i64 0),1,8) by kernel_rfl)
 unfold Instr.index
 simp only [Sem.run_bind,asIntOf,Sem.run_pure,Result.andThen_ok,run_underlying Tryz.underlying41]
 rw [if_pos ⟨by omega,by omega⟩]
 match i,hi with
 | 0,_=>simp [part,isAgg,sizeOf,typeInfo,run_underlying Tryz.underlying2,hsz,hs1]
 | 1,_=>simp [part,isAgg,sizeOf,typeInfo,run_underlying Tryz.underlying2,hsz,hs1]
 | 2,_=>simp [part,isAgg,sizeOf,typeInfo,run_underlying Tryz.underlying2,hsz,hs1]
 | 3,_=>simp [part,isAgg,sizeOf,typeInfo,run_underlying Tryz.underlying2,hsz,hs1]
 | 4,_=>simp [part,isAgg,sizeOf,typeInfo,run_underlying Tryz.underlying2,hsz,hs1]
def prevK (l:List Ent) (i:Nat):Option ByteArray:=if i=0 then none else (l[i-1]?).map (·.key)
def prevM (l:List Mem) (i:Nat):Option Int:=if i=0 then none else (l[i-1]?).map (·.req)
def leK (p:Option ByteArray) (k:ByteArray):Bool:=match p with | none=>true | some q=>strLt q k
def leM (p:Option Int) (n:Int):Bool:=match p with | none=>true | some q=>decide (q<n)
theorem risE_cons (seq:Int) (p:Option ByteArray) (e:Ent) (r:List Ent):risE seq p (e::r)=(mayE e&&decide ((lastV e.vs).ver<=seq)&&leK p e.key&&risE seq (some e.key) r):=by
 cases p<;>simp only [risE,leK]
theorem memB_cons (lows:List Int) (seq:Int) (p:Option Int) (m:Mem) (r:List Mem):memB lows seq p (m::r)=(!(homeI m.req==0)&&decide (lowAt lows (homeI m.req)<=m.req)&&leM p m.req&&
  decide (0<=m.res.err)&&decide (m.res.err<=13)&&decide (0<=m.res.ver)&&decide (m.res.ver<=seq)&&memB lows seq (some m.req) r):=by
 cases p<;>simp only [memB,leM]
def stC (s:Stt) (A:Option Addr) (cap:Nat) (B:Option Addr) (cap':Nat) (l0 l1 l2 l3 l4:Int):List Value:=[.int .i64 s.seq,.slice A s.l.length cap,.slice B s.ms.length cap',.int .i64 l0,.int .i64 l1,.int .i64 l2,.int .i64 l3,.int .i64 l4]
set_option maxHeartbeats 2000000 in
theorem bmay_any (s:Stt) (hk:∀ e∈s.l,strok e.key) (cs:List Value) (S:Nat->Prop) (w:World) (hs:RepS S w s cs):Calls Tryz.prog 65 #[.agg cs.toArray] w (RetB (.bool (mayS s)) w):=by
 obtain⟨A,cap,css,B,cap',l0,l1,l2,l3,l4,rfl,el,hE,hR,hM⟩:=hs.shape
 have hMa:=row_max hR
 have hMm:=row_max hM
 refine vE Tryz.func65 ?_
 intro g1 w1 h1
 have hc:=((Ctx.start w no (fun _ h=>h.elim)).loc h1).1
 have e0:mayS s=(decide (0<=s.seq)&&decide (s.seq<=maxN)&&decide (s.l.length<=40)&&decide (s.ms.length<=100)&&risE s.seq none s.l&&lowsB 0 s.lows&&memB s.lows s.seq none s.ms):=rfl
 have hmax:maxN=1099511627776:=rfl
 rw [el] at e0
 generalize mayS s=r at e0 ⊢
 refine⟨_,hc.cell 0 rfl _ rfl,?_⟩
 rcases Int.lt_or_le s.seq 0 with c1 | c1
 ·refine split_t (decide_eq_true c1) ?_
  rw [decide_eq_false (show ¬ 0<=s.seq by omega)] at e0
  exact⟨ret_bool e0.symm,hc.below⟩
 refine split_f (decide_eq_false (show ¬ s.seq<0 by omega)) ?_
 refine⟨_,hc.cell 0 rfl _ rfl,?_⟩
 rcases Int.lt_or_le 1099511627776 s.seq with c2 | c2
 ·refine split_t (decide_eq_true c2) ?_
  rw [decide_eq_true c1,decide_eq_false (show ¬ s.seq<=maxN by omega)] at e0
  exact⟨ret_bool e0.symm,hc.below⟩
 refine split_f (decide_eq_false (show ¬ 1099511627776<s.seq by omega)) ?_
 refine⟨_,hc.cell 0 rfl _ rfl,?_⟩
 rcases Nat.lt_or_ge 40 s.l.length with c3 | c3
 ·refine split_t (decide_eq_true (show (40:Int)<(s.l.length:Int) by omega)) ?_
  rw [decide_eq_false (show ¬ s.l.length<=40 by omega),Bool.and_false] at e0
  exact⟨ret_bool e0.symm,hc.below⟩
 refine split_f (decide_eq_false (show ¬ (40:Int)<(s.l.length:Int) by omega)) ?_
 refine⟨_,hc.cell 0 rfl _ rfl,?_⟩
 rcases Nat.lt_or_ge 100 s.ms.length with c4 | c4
 ·refine split_t (decide_eq_true (show (100:Int)<(s.ms.length:Int) by omega)) ?_
  rw [decide_eq_false (show ¬ s.ms.length<=100 by omega),Bool.and_false] at e0
  exact⟨ret_bool e0.symm,hc.below⟩
 refine split_f (decide_eq_false (show ¬ (100:Int)<(s.ms.length:Int) by omega)) ?_
 rw [decide_eq_true c1,decide_eq_true (show s.seq<=maxN by omega),decide_eq_true c3,decide_eq_true c4,Bool.and_self,Bool.and_self,Bool.and_self,Bool.true_and] at e0
 refine⟨_,hc.cell 0 rfl _ rfl,?_⟩
 refine⟨Nat,fun i=>[(1,.pointer (some ⟨g1,0,none⟩)),(31,.slice A s.l.length cap),(32,.int .i64 s.l.length),(33,.int .i64 i)],
  fun i w'=>i<=s.l.length/\risE s.seq (prevK s.l i) (s.l.drop i)=risE s.seq none s.l/\Ctx no w no w' [(g1,43,stC s A cap B cap' l0 l1 l2 l3 l4)],fun i _=>s.l.length-i,0,
  ⟨rfl,rfl,rfl,rfl,trivial⟩,⟨Nat.zero_le _,rfl,hc⟩,?_⟩
 rintro i w' u ⟨hi,he,hc⟩
 rcases Nat.lt_or_ge i s.l.length with hlt | hlt
 ·refine split_t (decide_eq_true (by omega)) ?_
  obtain⟨ad,A1,cap1,e1,hcell,hr1⟩:=RowE.elem (hR.below hc.below) (hE.below hc.below) i hlt
  subst e1
  have hnext:prevK s.l (i+1)=some s.l[i].key:=by rw [prevK,if_neg (by omega),Nat.add_sub_cancel,List.getElem?_eq_getElem hlt];rfl
  have hkk:=hk _ (List.getElem_mem hlt)
  rw [List.drop_eq_getElem_cons hlt,risE_cons] at he
  generalize s.l[i]=e at*
  refine⟨⟨by omega,by omega⟩,?_⟩
  refine⟨[.string e.key,.slice A1 e.vs.length cap1],rfl,hcell,?_⟩
  refine hc.n fun g4 w4 h4 hc=>?_
  refine⟨hc.may 0 rfl 0 _ (Nat.le_refl 2) rfl,?_⟩
  intro w5 h5
  have hc:=(hc.set 0 rfl h5).1
  have cz:=((Ctx.start w' no (fun _ h=>h.elim)).loc h4).1
  have cz:=(cz.set 0 rfl h5).1
  have hr1:=hr1.below cz.below
  have hMv:=row_max hr1
  have out:∀ w6:World,Below w.heap.size w w6->(mayE e&&decide ((lastV e.vs).ver<=s.seq)&&leK (prevK s.l i) e.key)=false->RetB (.bool r) w (.returned (.bool false)) w6:=fun w6 hb h=>by
   rw [h,Bool.false_and] at he
   rw [<-he,Bool.false_and,Bool.false_and] at e0
   exact⟨ret_bool e0.symm,hb⟩
  refine vD (.q 0 (.n 1 (.Q [2,3,4,5,6,7,8,9,10,11,12,13,14,15,16,17,18,19,20,21,22,23,24,25,26,27,28,29,30,31,32] .fin) .stop)) (Keeps (fun b=>b<w5.heap.size) w5) (Keeps.start _ _) ?_
  refine⟨_,?_,fun x hx=>hx.looks _ _ (hc.cells 0 rfl),?_⟩
  ·rfl
  refine⟨call_b (tmay_any e hkk A1 cap1 S _ (hr1.below (Below.refl _ _).drew)) ?_,trivial⟩
  intro w6 h6
  have hcq:=(hc.drew.quiet h6).1
  refine⟨(Keeps.start _ _).below (fun b hb=>hb) h6,?_⟩
  rcases Bool.eq_false_or_eq_true (mayE e) with hm | hm
  rotate_left
  ·refine split_t (by rw [hm];rfl) ?_
   exact out _ hcq.below (by rw [hm];rfl)
  refine split_f (by rw [hm];rfl) ?_
  have hpos:=(mayE_parts.1 hm).2.2.1
  have hlv:e.vs.length-1<e.vs.length:=by omega
  have hw:IntKind.i64.wrap ((e.vs.length:Int)-1)=((e.vs.length-1:Nat):Int):=by rw [IntWalk.i64_in _ ⟨by omega,by omega⟩];omega
  obtain⟨ed,e2,hcl⟩:=RowV.elem hr1 (e.vs.length-1) hlv
  subst e2
  rw [<-lastV_get hlv] at hcl
  refine⟨_,fun x hx=>hx.look (hc.cell 0 rfl _ rfl),?_⟩
  refine⟨_,fun x hx=>hx.look (hc.cell 0 rfl _ rfl),?_⟩
  refine⟨⟨by rw [hw];omega,by rw [hw];omega⟩,?_⟩
  have hl0:w5.cell? (ed.add ((IntKind.i64.wrap ((e.vs.length:Int)-1)).toNat*3))=some (.int .i64 (lastV e.vs).ver):=by
   have:=hcl.1
   rw [add_add,Nat.add_zero] at this
   rw [hw,Int.toNat_natCast]
   exact this
  generalize ed.add ((IntKind.i64.wrap ((e.vs.length:Int)-1)).toNat*3)=ae at hl0 ⊢
  obtain⟨ab,ao,asub⟩:=ae
  refine⟨_,fun x hx=>hx.look hl0,?_⟩
  refine⟨_,fun x hx=>hx.look (hc.cell 1 rfl _ rfl),?_⟩
  rcases Int.lt_or_le s.seq (lastV e.vs).ver with c5 | c5
  ·refine split_t (decide_eq_true c5) ?_
   exact out _ hcq.below (by rw [decide_eq_false (show ¬ (lastV e.vs).ver<=s.seq by omega),Bool.and_false];rfl)
  refine split_f (decide_eq_false (show ¬ s.seq<(lastV e.vs).ver by omega)) ?_
  have next:leK (prevK s.l i) e.key=true->risE s.seq (prevK s.l (i+1)) (s.l.drop (i+1))=risE s.seq none s.l:=fun h=>by
   rw [hnext,<-he,hm,decide_eq_true c5,h];rfl
  rcases Nat.eq_zero_or_pos i with c6 | c6
  ·refine split_f (decide_eq_false (show ¬ (0:Int)<(i:Int) by omega)) ?_
   exact⟨i+1,⟨rfl,rfl,rfl,congrArg _ (i_down (by omega)),trivial⟩,⟨hlt,next (by rw [prevK,if_pos c6];rfl),hcq.drop⟩,by show s.l.length-(i+1)<s.l.length-i;omega⟩
  refine split_t (decide_eq_true (show (0:Int)<(i:Int) by omega)) ?_
  have hj:i-1<s.l.length:=by omega
  have hwi:IntKind.i64.wrap ((i:Int)-1)=((i-1:Nat):Int):=by rw [IntWalk.i64_in _ ⟨by omega,by omega⟩];omega
  obtain⟨ad',A2,cap2,e3,hcellp,_⟩:=RowE.elem (hR.below hc.below) (hE.below hc.below) (i-1) hj
  cases e3
  have hpk:prevK s.l i=some s.l[i-1].key:=by rw [prevK,if_neg (by omega),List.getElem?_eq_getElem hj];rfl
  refine⟨_,fun x hx=>hx.look (hc.cell 1 rfl _ rfl),?_⟩
  refine⟨⟨by rw [hwi];omega,by rw [hwi];omega⟩,?_⟩
  have hp0:w5.cell? (ad.add ((IntKind.i64.wrap ((i:Int)-1)).toNat*2))=some (.string s.l[i-1].key):=by
   have:=hcellp.1
   rw [add_add,Nat.add_zero] at this
   rw [hwi,Int.toNat_natCast]
   exact this
  generalize ad.add ((IntKind.i64.wrap ((i:Int)-1)).toNat*2)=ap at hp0 ⊢
  obtain⟨pb,po,psub⟩:=ap
  refine⟨_,fun x hx=>hx.look hp0,?_⟩
  refine⟨_,fun x hx=>hx.look (hc.cell 0 rfl _ rfl),?_⟩
  rcases Bool.eq_false_or_eq_true (strLt s.l[i-1].key e.key) with c7 | c7
  ·refine split_f (by rw [c7];rfl) ?_
   exact⟨i+1,⟨rfl,rfl,rfl,congrArg _ (i_down (by omega)),trivial⟩,⟨hlt,next (by rw [hpk];exact c7),hcq.drop⟩,by show s.l.length-(i+1)<s.l.length-i;omega⟩
  ·refine split_t (by rw [c7];rfl) ?_
   exact out _ hcq.below (by rw [hpk];show (_&&strLt s.l[i-1].key e.key)=false;rw [c7,Bool.and_false])
 refine split_f (decide_eq_false (by omega)) ?_
 rw [List.drop_of_length_le (by omega),risE] at he
 rw [<-he,Bool.true_and] at e0
 refine⟨[.int .i64 l0,.int .i64 l1,.int .i64 l2,.int .i64 l3,.int .i64 l4],rfl,hc.cellsAt 0 rfl (0+3) _ rfl,?_⟩
 refine⟨Nat,fun i=>[(1,.pointer (some ⟨g1,0,none⟩)),(73,.agg #[.int .i64 l0,.int .i64 l1,.int .i64 l2,.int .i64 l3,.int .i64 l4]),(74,.int .i64 i)],
  fun i w'=>i<=5/\lowsB i ([l0,l1,l2,l3,l4].drop i)=lowsB 0 [l0,l1,l2,l3,l4]/\Ctx no w no w' [(g1,43,stC s A cap B cap' l0 l1 l2 l3 l4)],fun i _=>5-i,0,
  ⟨rfl,rfl,rfl,trivial⟩,⟨Nat.zero_le _,rfl,hc⟩,?_⟩
 rintro i w' u ⟨hi,he,hc⟩
 rcases Nat.lt_or_ge i 5 with hlt | hlt
 ·refine split_t (decide_eq_true (by omega)) ?_
  refine⟨_,fun w=>lows_index l0 l1 l2 l3 l4 i hlt w,?_⟩
  have hd:[l0,l1,l2,l3,l4].drop i=[l0,l1,l2,l3,l4].getD i 0::[l0,l1,l2,l3,l4].drop (i+1):=by
   match i,hlt with
   | 0,_=>rfl
   | 1,_=>rfl
   | 2,_=>rfl
   | 3,_=>rfl
   | 4,_=>rfl
  rw [hd,lowsB] at he
  generalize [l0,l1,l2,l3,l4].getD i 0=x at*
  have hwi:IntKind.i64.wrap ((i:Int)+1)=(i:Int)+1:=wrap_add _ _ (by omega) (by omega)
  rcases Int.decEq x 0 with c1 | c1
  ·refine split_t (by show (x != 0)=true;rw [bne_iff_ne];exact c1) ?_
   refine hc.q (home_any x _) fun w3 h3 hc=>?_
   have hx0:(x==0)=false:=by rw [beq_eq_false_iff_ne];exact c1
   rcases Int.decEq (homeI x) ((i:Int)+1) with c2 | c2
   ·refine split_t (by show (homeI x != IntKind.i64.wrap ((i:Int)+1))=true;rw [hwi,bne_iff_ne];exact c2) ?_
    have:(homeI x==(i:Int)+1)=false:=by rw [beq_eq_false_iff_ne];exact c2
    rw [hx0,this] at he
    rw [<-he] at e0
    exact⟨ret_bool e0.symm,hc.below⟩
   ·refine split_f (by show (homeI x != IntKind.i64.wrap ((i:Int)+1))=false;rw [hwi,c2];simp) ?_
    have:(homeI x==(i:Int)+1)=true:=by rw [beq_iff_eq];exact c2
    rw [this,Bool.or_true,Bool.true_and] at he
    exact⟨i+1,⟨rfl,rfl,congrArg _ (i_down (by omega)),trivial⟩,⟨hlt,he,hc⟩,by show 5-(i+1)<5-i;omega⟩
  ·subst c1
   exact⟨i+1,⟨rfl,rfl,congrArg _ (i_down (by omega)),trivial⟩,⟨hlt,he,hc⟩,by show 5-(i+1)<5-i;omega⟩
 refine split_f (decide_eq_false (by omega)) ?_
 rw [List.drop_of_length_le (by show 5<=i;exact hlt),lowsB] at he
 rw [<-he,Bool.true_and] at e0
 refine⟨_,hc.cell 0 rfl _ rfl,?_⟩
 refine⟨Nat,fun i=>[(1,.pointer (some ⟨g1,0,none⟩)),(89,.slice B s.ms.length cap'),(90,.int .i64 s.ms.length),(91,.int .i64 i)],
  fun i w'=>i<=s.ms.length/\memB [l0,l1,l2,l3,l4] s.seq (prevM s.ms i) (s.ms.drop i)=memB [l0,l1,l2,l3,l4] s.seq none s.ms/\Ctx no w no w' [(g1,43,stC s A cap B cap' l0 l1 l2 l3 l4)],fun i _=>s.ms.length-i,0,
  ⟨rfl,rfl,rfl,rfl,trivial⟩,⟨Nat.zero_le _,rfl,hc⟩,?_⟩
 rintro i w' u ⟨hi,he,hc⟩
 rcases Nat.lt_or_ge i s.ms.length with hlt | hlt
 ·refine split_t (decide_eq_true (by omega)) ?_
  obtain⟨ad,e1,hcell⟩:=RowM.elem (hM.below hc.below) i hlt
  subst e1
  have hnext:prevM s.ms (i+1)=some s.ms[i].req:=by rw [prevM,if_neg (by omega),Nat.add_sub_cancel,List.getElem?_eq_getElem hlt];rfl
  rw [List.drop_eq_getElem_cons hlt,memB_cons] at he
  generalize s.ms[i]=m at*
  refine⟨⟨by omega,by omega⟩,?_⟩
  refine⟨memC m,rfl,hcell,?_⟩
  refine hc.n fun g8 w4 h4 hc=>?_
  refine⟨hc.may 0 rfl 0 _ (Nat.le_refl 3) rfl,?_⟩
  intro w5 h5
  have hc:=(hc.set 0 rfl h5).1
  refine⟨_,hc.cell 0 rfl _ rfl,?_⟩
  refine hc.q (home_any m.req _) fun w6 h6 hc=>?_
  have hh:=homeI_range m.req
  have out:∀ w6:World,Below w.heap.size w w6->(!(homeI m.req==0)&&decide (lowAt [l0,l1,l2,l3,l4] (homeI m.req)<=m.req)&&leM (prevM s.ms i) m.req&&decide (0<=m.res.err)&&decide (m.res.err<=13)&&decide (0<=m.res.ver)&&decide (m.res.ver<=s.seq))=false->RetB (.bool r) w (.returned (.bool false)) w6:=fun w6 hb h=>by
   rw [h,Bool.false_and] at he
   rw [<-he] at e0
   exact⟨ret_bool e0.symm,hb⟩
  generalize homeI m.req=hm at*
  refine vD (.Q [0,1,2,3,4,5,6,7,8,9,10,11,12,13,14,15,16,17,18,19,20,21,22,23,24,25,26,27] .fin) (Keeps (fun b=>b<w6.heap.size) w6) (Keeps.start _ _) ?_
  have hcd:=hc.drew
  rcases Int.decEq hm 0 with c1 | c1
  rotate_left
  ·subst c1
   exact out _ hcd.below rfl
  refine split_f (by show (hm==0)=false;rw [beq_eq_false_iff_ne];exact c1) ?_
  have hwm:IntKind.i64.wrap (hm-1)=hm-1:=IntWalk.i64_in _ ⟨by omega,by omega⟩
  refine⟨_,fun x hx=>hx.look (hc.cell 0 rfl _ rfl),?_⟩
  refine⟨⟨by rw [hwm];omega,by rw [hwm];omega⟩,?_⟩
  have hl0:=lows_cell (hc.blk 1 rfl) hm (IntKind.i64.wrap (hm-1)) ⟨by omega,by omega⟩ hwm
  have hm0:(hm==0)=false:=by rw [beq_eq_false_iff_ne];exact c1
  generalize lowAt [l0,l1,l2,l3,l4] hm=lo at*
  generalize (⟨g1,0+3,none⟩:Addr).add ((IntKind.i64.wrap (hm-1)).toNat*1)=al at hl0 ⊢
  obtain⟨lb,lof,lsub⟩:=al
  refine⟨_,fun x hx=>hx.look hl0,?_⟩
  rcases Int.lt_or_le m.req lo with c2 | c2
  ·refine split_t (decide_eq_true c2) ?_
   exact out _ hcd.below (by rw [decide_eq_false (show ¬ lo<=m.req by omega),Bool.and_false];rfl)
  refine split_f (decide_eq_false (show ¬ m.req<lo by omega)) ?_
  have hfar:leM (prevM s.ms i) m.req=true->(!(hm==0)&&decide (lo<=m.req)&&leM (prevM s.ms i) m.req)=true:=fun h=>by rw [hm0,decide_eq_true c2,h];rfl
  rcases Nat.eq_zero_or_pos i with c3 | c3
  all_goals first
   | (
     refine split_f (decide_eq_false (show ¬ (0:Int)<(i:Int) by omega)) ?_
     have hle:=hfar (by rw [prevM,if_pos c3];rfl))
   | (
     refine split_t (decide_eq_true (show (0:Int)<(i:Int) by omega)) ?_
     have hj:i-1<s.ms.length:=by omega
     have hwi:IntKind.i64.wrap ((i:Int)-1)=((i-1:Nat):Int):=by rw [IntWalk.i64_in _ ⟨by omega,by omega⟩];omega
     obtain⟨ad',e3,hcellp⟩:=RowM.elem (hM.below hc.below) (i-1) hj
     cases e3
     have hpk:prevM s.ms i=some s.ms[i-1].req:=by rw [prevM,if_neg (by omega),List.getElem?_eq_getElem hj];rfl
     refine⟨_,fun x hx=>hx.look (hc.cell 1 rfl _ rfl),?_⟩
     refine⟨⟨by rw [hwi];omega,by rw [hwi];omega⟩,?_⟩
     have hp0:w6.cell? (ad.add ((IntKind.i64.wrap ((i:Int)-1)).toNat*3))=some (.int .i64 s.ms[i-1].req):=by
      have:=hcellp.1
      rw [add_add,Nat.add_zero] at this
      rw [hwi,Int.toNat_natCast]
      exact this
     generalize ad.add ((IntKind.i64.wrap ((i:Int)-1)).toNat*3)=ap at hp0 ⊢
     obtain⟨pb,po,psub⟩:=ap
     refine⟨_,fun x hx=>hx.look hp0,?_⟩
     refine⟨_,fun x hx=>hx.look (hc.cell 0 rfl _ rfl),?_⟩
     rcases Int.lt_or_le s.ms[i-1].req m.req with c7 | c7
     rotate_left
     ·refine split_t (decide_eq_true c7) ?_
      exact out _ hcd.below (by
       have:leM (prevM s.ms i) m.req=false:=by rw [hpk];exact decide_eq_false (by omega)
       rw [this,Bool.and_false];rfl)
     refine split_f (decide_eq_false (show ¬ m.req<=s.ms[i-1].req by omega)) ?_
     have hle:=hfar (by rw [hpk];exact decide_eq_true c7))
  all_goals rw [hle,Bool.true_and] at out he
  all_goals refine⟨_,hcd.cell 0 rfl _ rfl,?_⟩
  all_goals rcases Int.lt_or_le m.res.err 0 with d1 | d1
  all_goals first
   | (
     refine split_t (decide_eq_true d1) ?_
     exact out _ hcd.below (by rw [decide_eq_false (show ¬ 0<=m.res.err by omega)];rfl))
   | (refine split_f (decide_eq_false (show ¬ m.res.err<0 by omega)) ?_)
  all_goals refine⟨_,hcd.cell 0 rfl _ rfl,?_⟩
  all_goals rcases Int.lt_or_le 13 m.res.err with d2 | d2
  all_goals first
   | (
     refine split_t (decide_eq_true d2) ?_
     exact out _ hcd.below (by rw [decide_eq_false (show ¬ m.res.err<=13 by omega),Bool.and_false];rfl))
   | (refine split_f (decide_eq_false (show ¬ 13<m.res.err by omega)) ?_)
  all_goals refine⟨_,hcd.cell 0 rfl _ rfl,?_⟩
  all_goals rcases Int.lt_or_le m.res.ver 0 with d3 | d3
  all_goals first
   | (
     refine split_t (decide_eq_true d3) ?_
     exact out _ hcd.below (by rw [decide_eq_false (show ¬ 0<=m.res.ver by omega),Bool.and_false];rfl))
   | (refine split_f (decide_eq_false (show ¬ m.res.ver<0 by omega)) ?_)
  all_goals refine⟨_,hcd.cell 0 rfl _ rfl,?_⟩
  all_goals refine⟨_,hcd.cell 1 rfl _ rfl,?_⟩
  all_goals rcases Int.lt_or_le s.seq m.res.ver with d4 | d4
  all_goals first
   | (
     refine split_t (decide_eq_true d4) ?_
     exact out _ hcd.below (by rw [decide_eq_false (show ¬ m.res.ver<=s.seq by omega),Bool.and_false]))
   | (
     refine split_f (decide_eq_false (show ¬ s.seq<m.res.ver by omega)) ?_
     rw [decide_eq_true d1,decide_eq_true d2,decide_eq_true d3,decide_eq_true d4] at he
     exact⟨i+1,⟨rfl,rfl,rfl,congrArg _ (i_down (by omega)),trivial⟩,⟨hlt,by rw [hnext];exact he,hcd.drop⟩,by show s.ms.length-(i+1)<s.ms.length-i;omega⟩)
 ·refine split_f (decide_eq_false (by omega)) ?_
  rw [List.drop_of_length_le (by omega),memB] at he
  rw [<-he] at e0
  exact⟨ret_bool e0.symm,hc.below⟩
set_option maxRecDepth 100000
structure Ver.Ok (v:Ver):Prop where
 ver:i64ok v.ver
 body:strok v.body
structure Ent.Ok (e:Ent):Prop where
 key:strok e.key
 vs:∀ v∈e.vs,v.Ok
structure Mem.Ok (m:Mem):Prop where
 req:i64ok m.req
 err:i64ok m.res.err
 ver:i64ok m.res.ver
structure Stt.Ok (s:Stt):Prop where
 seq:i64ok s.seq
 l:∀ e∈s.l,e.Ok
 ms:∀ m∈s.ms,m.Ok
 lows:∀ x∈s.lows,i64ok x
theorem lows_cellN {w:World} {g T:Nat} {a b c:Value} {l0 l1 l2 l3 l4:Int} (hB:Blk w g T [a,b,c,.int .i64 l0,.int .i64 l1,.int .i64 l2,.int .i64 l3,.int .i64 l4]) (i:Nat) (hi:i<5):
  w.cell? ((⟨g,0+3,none⟩:Addr).add ((i:Int).toNat*1))=some (.int .i64 ([l0,l1,l2,l3,l4].getD i 0)):=by
 match i,hi with
 | 0,_=>exact hB.cell 3
 | 1,_=>exact hB.cell 4
 | 2,_=>exact hB.cell 5
 | 3,_=>exact hB.cell 6
 | 4,_=>exact hB.cell 7
theorem leK_leq (q k:ByteArray):(strLt k q||strEq k q)=!strLt q k:=(strLt_tri q k).symm
set_option maxHeartbeats 4000000 in
theorem rmayS_any (s:Stt) (hk:s.Ok) (cs:List Value) (S:Nat->Prop) (w:World) (hs:RepS S w s cs):Calls Tryz.prog 32 #[.agg cs.toArray] w (RetB (.bool (mayS s)) w):=by
 obtain⟨A,cap,css,B,cap',l0,l1,l2,l3,l4,rfl,el,hE,hR,hM⟩:=hs.shape
 have hMa:=row_max hR
 have hMm:=row_max hM
 refine vE Tryz.func32 ?_
 intro g1 w1 h1
 have hc:=((Ctx.start w no (fun _ h=>h.elim)).loc h1).1
 have e0:mayS s=(decide (0<=s.seq)&&decide (s.seq<=maxN)&&decide (s.l.length<=40)&&decide (s.ms.length<=100)&&risE s.seq none s.l&&lowsB 0 s.lows&&memB s.lows s.seq none s.ms):=rfl
 have hmax:maxN=1099511627776:=rfl
 have hlows:=hk.lows
 rw [el] at e0 hlows
 generalize mayS s=r at e0 ⊢
 refine⟨_,hc.cell 0 rfl _ rfl,?_⟩
 rcases Int.lt_or_le s.seq 0 with c1 | c1
 ·refine split_t (decide_eq_true c1) ?_
  rw [decide_eq_false (show ¬ 0<=s.seq by omega)] at e0
  exact⟨ret_bool e0.symm,hc.below⟩
 refine split_f (decide_eq_false (show ¬ s.seq<0 by omega)) ?_
 refine⟨_,hc.cell 0 rfl _ rfl,?_⟩
 rcases Int.lt_or_le 1099511627776 s.seq with c2 | c2
 ·refine split_t (decide_eq_true c2) ?_
  rw [decide_eq_true c1,decide_eq_false (show ¬ s.seq<=maxN by omega)] at e0
  exact⟨ret_bool e0.symm,hc.below⟩
 refine split_f (decide_eq_false (show ¬ 1099511627776<s.seq by omega)) ?_
 refine⟨_,hc.cell 0 rfl _ rfl,?_⟩
 rcases Nat.lt_or_ge 40 s.l.length with c3 | c3
 ·refine split_t (decide_eq_true (show (40:Int)<(s.l.length:Int) by omega)) ?_
  rw [decide_eq_false (show ¬ s.l.length<=40 by omega),Bool.and_false] at e0
  exact⟨ret_bool e0.symm,hc.below⟩
 refine split_f (decide_eq_false (show ¬ (40:Int)<(s.l.length:Int) by omega)) ?_
 refine⟨_,hc.cell 0 rfl _ rfl,?_⟩
 rcases Nat.lt_or_ge 100 s.ms.length with c4 | c4
 ·refine split_t (decide_eq_true (show (100:Int)<(s.ms.length:Int) by omega)) ?_
  rw [decide_eq_false (show ¬ s.ms.length<=100 by omega),Bool.and_false] at e0
  exact⟨ret_bool e0.symm,hc.below⟩
 refine split_f (decide_eq_false (show ¬ (100:Int)<(s.ms.length:Int) by omega)) ?_
 rw [decide_eq_true c1,decide_eq_true (show s.seq<=maxN by omega),decide_eq_true c3,decide_eq_true c4,Bool.and_self,Bool.and_self,Bool.and_self,Bool.true_and] at e0
 refine⟨Nat,fun i=>[(1,.pointer (some ⟨g1,0,none⟩)),(3,.int .i64 i)],
  fun i w'=>i<=s.l.length/\risE s.seq (prevK s.l i) (s.l.drop i)=risE s.seq none s.l/\Ctx no w no w' [(g1,43,stC s A cap B cap' l0 l1 l2 l3 l4)],fun i _=>s.l.length-i,0,
  ⟨rfl,rfl,trivial⟩,⟨Nat.zero_le _,rfl,hc⟩,?_⟩
 rintro i w5 u ⟨hi,he,hc⟩
 refine⟨_,hc.cell 0 rfl _ rfl,?_⟩
 rcases Nat.lt_or_ge i s.l.length with hlt | hlt
 ·refine split_t (decide_eq_true (by omega)) ?_
  obtain⟨ad,A1,cap1,e1,hcell,hr1⟩:=RowE.elem (hR.below hc.below) (hE.below hc.below) i hlt
  subst e1
  have hnext:prevK s.l (i+1)=some s.l[i].key:=by rw [prevK,if_neg (by omega),Nat.add_sub_cancel,List.getElem?_eq_getElem hlt];rfl
  have hkk:=(hk.l _ (List.getElem_mem hlt)).key
  rw [List.drop_eq_getElem_cons hlt,risE_cons] at he
  generalize s.l[i]=e at*
  have hMv:=row_max hr1
  have out:∀ w6:World,Below w.heap.size w w6->(mayE e&&decide ((lastV e.vs).ver<=s.seq)&&leK (prevK s.l i) e.key)=false->RetB (.bool r) w (.returned (.bool false)) w6:=fun w6 hb h=>by
   rw [h,Bool.false_and] at he
   rw [<-he,Bool.false_and,Bool.false_and] at e0
   exact⟨ret_bool e0.symm,hb⟩
  have hkey:w5.cell? (ad.add ((i:Int).toNat*2))=some (.string e.key):=by
   have:=hcell.1
   rw [add_add,Nat.add_zero] at this
   exact this
  have hsl:w5.cell? ((ad.add ((i:Int).toNat*2)).add 1)=some (.slice A1 e.vs.length cap1):=hcell.2.1
  refine vD (.Q [0,1,2,3,4] (.n 5 (.Q [6,7,8,9,10,11,12,13,14,15,16,17,18,19,20,21,22,23,24,25,26,27,28,29,30,31,32,33,34,35,36,37,38,39,40,41,42,43,44,45,46,47,48] .fin) .stop)) (Keeps (fun b=>b<w5.heap.size) w5) (Keeps.start _ _) ?_
  refine⟨_,fun x hx=>hx.look (hc.cell 0 rfl _ rfl),?_⟩
  refine⟨⟨by omega,by omega⟩,?_⟩
  refine⟨[.string e.key,.slice A1 e.vs.length cap1],rfl,fun x hx=>hx.looks _ _ hcell,?_⟩
  refine⟨call_b (rmayE_any e hkk A1 cap1 S _ (hr1.below (Below.refl _ _).drew)) ?_,trivial⟩
  intro w6 h6
  have hcq:=(hc.drew.quiet h6).1
  refine⟨(Keeps.start _ _).below (fun b hb=>hb) h6,?_⟩
  rcases Bool.eq_false_or_eq_true (mayE e) with hm | hm
  rotate_left
  ·refine split_t (by rw [hm];rfl) ?_
   exact out _ hcq.below (by rw [hm];rfl)
  refine split_f (by rw [hm];rfl) ?_
  have hpos:=(mayE_parts.1 hm).2.2.1
  have hlv:e.vs.length-1<e.vs.length:=by omega
  have hw:IntKind.i64.wrap ((e.vs.length:Int)-1)=((e.vs.length-1:Nat):Int):=by rw [IntWalk.i64_in _ ⟨by omega,by omega⟩];omega
  obtain⟨ed,e2,hcl⟩:=RowV.elem hr1 (e.vs.length-1) hlv
  subst e2
  rw [<-lastV_get hlv] at hcl
  have hl0:w5.cell? (ed.add ((IntKind.i64.wrap ((e.vs.length:Int)-1)).toNat*3))=some (.int .i64 (lastV e.vs).ver):=by
   have:=hcl.1
   rw [add_add,Nat.add_zero] at this
   rw [hw,Int.toNat_natCast]
   exact this
  rcases Nat.eq_zero_or_pos i with c6 | c6
  all_goals first
   | (
     refine split_f (decide_eq_false (show ¬ (0:Int)<(i:Int) by omega)) ?_
     have hle:leK (prevK s.l i) e.key=true:=by rw [prevK,if_pos c6];rfl)
   | (
     refine split_t (decide_eq_true (show (0:Int)<(i:Int) by omega)) ?_
     have hj:i-1<s.l.length:=by omega
     have hwi:IntKind.i64.wrap ((i:Int)-1)=((i-1:Nat):Int):=by rw [IntWalk.i64_in _ ⟨by omega,by omega⟩];omega
     obtain⟨ad',A2,cap2,e3,hcellp,_⟩:=RowE.elem (hR.below hc.below) (hE.below hc.below) (i-1) hj
     cases e3
     have hpk:prevK s.l i=some s.l[i-1].key:=by rw [prevK,if_neg (by omega),List.getElem?_eq_getElem hj];rfl
     have hp0:w5.cell? (ad.add ((IntKind.i64.wrap ((i:Int)-1)).toNat*2))=some (.string s.l[i-1].key):=by
      have:=hcellp.1
      rw [add_add,Nat.add_zero] at this
      rw [hwi,Int.toNat_natCast]
      exact this
     refine⟨_,fun x hx=>hx.look (hc.cell 0 rfl _ rfl),?_⟩
     refine⟨⟨by omega,by omega⟩,?_⟩
     generalize ad.add ((i:Int).toNat*2)=ae at hkey ⊢
     obtain⟨ab,ao,asub⟩:=ae
     refine⟨_,fun x hx=>hx.look hkey,?_⟩
     refine⟨_,fun x hx=>hx.look (hc.cell 0 rfl _ rfl),?_⟩
     refine⟨⟨by rw [hwi];omega,by rw [hwi];omega⟩,?_⟩
     generalize ad.add ((IntKind.i64.wrap ((i:Int)-1)).toNat*2)=ap at hp0 ⊢
     obtain⟨pb,po,psub⟩:=ap
     refine⟨_,fun x hx=>hx.look hp0,?_⟩
     rcases Bool.eq_false_or_eq_true (strLt s.l[i-1].key e.key) with c7 | c7
     rotate_left
     ·refine split_t (by rw [leK_leq,c7];rfl) ?_
      exact out _ hcq.below (by rw [hpk];show (_&&strLt s.l[i-1].key e.key)=false;rw [c7,Bool.and_false])
     refine split_f (by rw [leK_leq,c7];rfl) ?_
     have hle:leK (prevK s.l i) e.key=true:=by rw [hpk];exact c7)
  all_goals refine⟨_,fun x hx=>hx.look (hc.cell 0 rfl _ rfl),?_⟩
  all_goals refine⟨⟨by omega,by omega⟩,?_⟩
  all_goals have hsl2:=hsl
  all_goals generalize ad.add ((i:Int).toNat*2)=af at hsl ⊢
  all_goals obtain⟨fb,fo,fsub⟩:=af
  all_goals refine⟨_,fun x hx=>hx.look (show w5.cell? ⟨fb,fo+1,none⟩=_ from hsl),?_⟩
  all_goals refine⟨_,fun x hx=>hx.look (hc.cell 0 rfl _ rfl),?_⟩
  all_goals refine⟨⟨by omega,by omega⟩,?_⟩
  all_goals generalize ad.add ((i:Int).toNat*2)=ag at hsl2 ⊢
  all_goals obtain⟨gb,go,gsub⟩:=ag
  all_goals refine⟨_,fun x hx=>hx.look (show w5.cell? ⟨gb,go+1,none⟩=_ from hsl2),?_⟩
  all_goals refine⟨⟨by rw [hw];omega,by rw [hw];omega⟩,?_⟩
  all_goals generalize ed.add ((IntKind.i64.wrap ((e.vs.length:Int)-1)).toNat*3)=al at hl0 ⊢
  all_goals obtain⟨lb,lo,lsub⟩:=al
  all_goals refine⟨_,fun x hx=>hx.look hl0,?_⟩
  all_goals refine⟨_,fun x hx=>hx.look (hc.cell 0 rfl _ rfl),?_⟩
  all_goals rcases Int.lt_or_le s.seq (lastV e.vs).ver with c5 | c5
  all_goals first
   | (
     refine split_t (decide_eq_true c5) ?_
     exact out _ hcq.below (by rw [decide_eq_false (show ¬ (lastV e.vs).ver<=s.seq by omega),Bool.and_false];rfl))
   | (
     refine split_f (decide_eq_false (show ¬ s.seq<(lastV e.vs).ver by omega)) ?_
     exact⟨i+1,⟨rfl,congrArg _ (i_down (by omega)),trivial⟩,⟨hlt,by rw [hnext,<-he,hm,decide_eq_true c5,hle];rfl,hcq⟩,by show s.l.length-(i+1)<s.l.length-i;omega⟩)
 refine split_f (decide_eq_false (by omega)) ?_
 rw [List.drop_of_length_le (by omega),risE] at he
 rw [<-he,Bool.true_and] at e0
 refine⟨Nat,fun i=>[(1,.pointer (some ⟨g1,0,none⟩)),(4,.int .i64 i)],
  fun i w'=>i<=5/\lowsB i ([l0,l1,l2,l3,l4].drop i)=lowsB 0 [l0,l1,l2,l3,l4]/\Ctx no w no w' [(g1,43,stC s A cap B cap' l0 l1 l2 l3 l4)],fun i _=>5-i,0,
  ⟨rfl,rfl,trivial⟩,⟨Nat.zero_le _,rfl,hc⟩,?_⟩
 rintro i w' u ⟨hi,he,hc⟩
 rcases Nat.lt_or_ge i 5 with hlt | hlt
 ·refine split_t (decide_eq_true (by omega)) ?_
  have hd:[l0,l1,l2,l3,l4].drop i=[l0,l1,l2,l3,l4].getD i 0::[l0,l1,l2,l3,l4].drop (i+1):=by
   match i,hlt with
   | 0,_=>rfl
   | 1,_=>rfl
   | 2,_=>rfl
   | 3,_=>rfl
   | 4,_=>rfl
  have hx64:i64ok ([l0,l1,l2,l3,l4].getD i 0):=by
   match i,hlt with
   | 0,_=>exact hlows _ (by simp)
   | 1,_=>exact hlows _ (by simp)
   | 2,_=>exact hlows _ (by simp)
   | 3,_=>exact hlows _ (by simp)
   | 4,_=>exact hlows _ (by simp)
  have hcellx:=lows_cellN (hc.blk 0 rfl) i hlt
  rw [hd,lowsB] at he
  generalize [l0,l1,l2,l3,l4].getD i 0=x at*
  have hcelly:=hcellx
  have hwi:IntKind.i64.wrap ((i:Int)+1)=(i:Int)+1:=wrap_add _ _ (by omega) (by omega)
  refine⟨⟨by omega,by omega⟩,?_⟩
  generalize (⟨g1,0+3,none⟩:Addr).add ((i:Int).toNat*1)=al at hcellx ⊢
  obtain⟨lb,lo,lsub⟩:=al
  refine⟨_,hcellx,?_⟩
  rcases Int.decEq x 0 with c1 | c1
  ·refine split_t (by show (x != 0)=true;rw [bne_iff_ne];exact c1) ?_
   refine⟨⟨by omega,by omega⟩,?_⟩
   generalize (⟨g1,0+3,none⟩:Addr).add ((i:Int).toNat*1)=am at hcelly ⊢
   obtain⟨mb,mo,msub⟩:=am
   refine⟨_,hcelly,?_⟩
   refine hc.q (rhome_any x _ hx64.1 hx64.2) fun w3 h3 hc=>?_
   have hx0:(x==0)=false:=by rw [beq_eq_false_iff_ne];exact c1
   rcases Int.decEq (homeI x) ((i:Int)+1) with c2 | c2
   ·refine split_t (by show (homeI x != IntKind.i64.wrap ((i:Int)+1))=true;rw [hwi,bne_iff_ne];exact c2) ?_
    have:(homeI x==(i:Int)+1)=false:=by rw [beq_eq_false_iff_ne];exact c2
    rw [hx0,this] at he
    rw [<-he] at e0
    exact⟨ret_bool e0.symm,hc.below⟩
   ·refine split_f (by show (homeI x != IntKind.i64.wrap ((i:Int)+1))=false;rw [hwi,c2];simp) ?_
    have:(homeI x==(i:Int)+1)=true:=by rw [beq_iff_eq];exact c2
    rw [this,Bool.or_true,Bool.true_and] at he
    exact⟨i+1,⟨rfl,congrArg _ (i_down (by omega)),trivial⟩,⟨hlt,he,hc⟩,by show 5-(i+1)<5-i;omega⟩
  ·refine split_f (by show (x != 0)=false;rw [c1];rfl) ?_
   rw [c1] at he
   exact⟨i+1,⟨rfl,congrArg _ (i_down (by omega)),trivial⟩,⟨hlt,he,hc⟩,by show 5-(i+1)<5-i;omega⟩
 refine split_f (decide_eq_false (by omega)) ?_
 rw [List.drop_of_length_le (by show 5<=i;exact hlt),lowsB] at he
 rw [<-he,Bool.true_and] at e0
 refine⟨Nat,fun i=>[(1,.pointer (some ⟨g1,0,none⟩)),(5,.int .i64 i)],
  fun i w'=>i<=s.ms.length/\memB [l0,l1,l2,l3,l4] s.seq (prevM s.ms i) (s.ms.drop i)=memB [l0,l1,l2,l3,l4] s.seq none s.ms/\Ctx no w no w' [(g1,43,stC s A cap B cap' l0 l1 l2 l3 l4)],fun i _=>s.ms.length-i,0,
  ⟨rfl,rfl,trivial⟩,⟨Nat.zero_le _,rfl,hc⟩,?_⟩
 rintro i w' u ⟨hi,he,hc⟩
 refine⟨_,hc.cell 0 rfl _ rfl,?_⟩
 rcases Nat.lt_or_ge i s.ms.length with hlt | hlt
 ·refine split_t (decide_eq_true (by omega)) ?_
  obtain⟨ad,e1,hcell⟩:=RowM.elem (hM.below hc.below) i hlt
  subst e1
  have hnext:prevM s.ms (i+1)=some s.ms[i].req:=by rw [prevM,if_neg (by omega),Nat.add_sub_cancel,List.getElem?_eq_getElem hlt];rfl
  have hmok:=hk.ms _ (List.getElem_mem hlt)
  rw [List.drop_eq_getElem_cons hlt,memB_cons] at he
  generalize s.ms[i]=m at*
  refine⟨_,hc.cell 0 rfl _ rfl,?_⟩
  refine⟨⟨by omega,by omega⟩,?_⟩
  refine⟨memC m,rfl,hcell,?_⟩
  refine hc.n fun g8 w4 h4 hc=>?_
  refine⟨hc.may 0 rfl 0 _ (Nat.le_refl 3) rfl,?_⟩
  intro w5 h5
  have hc:=(hc.set 0 rfl h5).1
  refine⟨_,hc.cell 0 rfl _ rfl,?_⟩
  refine hc.q (rhome_any m.req _ hmok.req.1 hmok.req.2) fun w6 h6 hc=>?_
  have hh:=homeI_range m.req
  have out:∀ w6:World,Below w.heap.size w w6->(!(homeI m.req==0)&&decide (lowAt [l0,l1,l2,l3,l4] (homeI m.req)<=m.req)&&leM (prevM s.ms i) m.req&&decide (0<=m.res.err)&&decide (m.res.err<=13)&&decide (0<=m.res.ver)&&decide (m.res.ver<=s.seq))=false->RetB (.bool r) w (.returned (.bool false)) w6:=fun w6 hb h=>by
   rw [h,Bool.false_and] at he
   rw [<-he] at e0
   exact⟨ret_bool e0.symm,hb⟩
  generalize homeI m.req=hm at*
  refine vD (.Q [0,1,2,3,4,5,6,7,8,9,10,11,12,13,14,15,16,17,18,19,20,21,22,23,24,25,26,27,28,29,30,31,32,33,34,35,36,37,38,39,40,41,42,43,44,45,46,47,48,49,50,51,52,53] .fin) (Keeps (fun b=>b<w6.heap.size) w6) (Keeps.start _ _) ?_
  have hcd:=hc.drew
  rcases Int.decEq hm 0 with c1 | c1
  rotate_left
  ·subst c1
   exact out _ hcd.below rfl
  refine split_f (by show (hm==0)=false;rw [beq_eq_false_iff_ne];exact c1) ?_
  have hwm:IntKind.i64.wrap (hm-1)=hm-1:=IntWalk.i64_in _ ⟨by omega,by omega⟩
  have hl0:=lows_cell (hc.blk 1 rfl) hm (IntKind.i64.wrap (hm-1)) ⟨by omega,by omega⟩ hwm
  have hm0:(hm==0)=false:=by rw [beq_eq_false_iff_ne];exact c1
  generalize lowAt [l0,l1,l2,l3,l4] hm=lo at*
  rcases Nat.eq_zero_or_pos i with c3 | c3
  all_goals first
   | (
     refine split_f (decide_eq_false (show ¬ (0:Int)<(i:Int) by omega)) ?_
     have hle:leM (prevM s.ms i) m.req=true:=by rw [prevM,if_pos c3];rfl)
   | (
     refine split_t (decide_eq_true (show (0:Int)<(i:Int) by omega)) ?_
     have hj:i-1<s.ms.length:=by omega
     have hwi:IntKind.i64.wrap ((i:Int)-1)=((i-1:Nat):Int):=by rw [IntWalk.i64_in _ ⟨by omega,by omega⟩];omega
     obtain⟨ad',e3,hcellp⟩:=RowM.elem (hM.below hc.below) (i-1) hj
     cases e3
     have hpk:prevM s.ms i=some s.ms[i-1].req:=by rw [prevM,if_neg (by omega),List.getElem?_eq_getElem hj];rfl
     refine⟨_,fun x hx=>hx.look (hc.cell 0 rfl _ rfl),?_⟩
     refine⟨_,fun x hx=>hx.look (hc.cell 1 rfl _ rfl),?_⟩
     refine⟨⟨by rw [hwi];omega,by rw [hwi];omega⟩,?_⟩
     have hp0:w6.cell? (ad.add ((IntKind.i64.wrap ((i:Int)-1)).toNat*3))=some (.int .i64 s.ms[i-1].req):=by
      have:=hcellp.1
      rw [add_add,Nat.add_zero] at this
      rw [hwi,Int.toNat_natCast]
      exact this
     generalize ad.add ((IntKind.i64.wrap ((i:Int)-1)).toNat*3)=ap at hp0 ⊢
     obtain⟨pb,po,psub⟩:=ap
     refine⟨_,fun x hx=>hx.look hp0,?_⟩
     rcases Int.lt_or_le s.ms[i-1].req m.req with c7 | c7
     rotate_left
     ·refine split_t (decide_eq_true c7) ?_
      exact out _ hcd.below (by
       have:leM (prevM s.ms i) m.req=false:=by rw [hpk];exact decide_eq_false (by omega)
       rw [this,Bool.and_false];rfl)
     refine split_f (decide_eq_false (show ¬ m.req<=s.ms[i-1].req by omega)) ?_
     have hle:leM (prevM s.ms i) m.req=true:=by rw [hpk];exact decide_eq_true c7)
  all_goals refine⟨_,fun x hx=>hx.look (hc.cell 0 rfl _ rfl),?_⟩
  all_goals refine⟨⟨by rw [hwm];omega,by rw [hwm];omega⟩,?_⟩
  all_goals generalize (⟨g1,0+3,none⟩:Addr).add ((IntKind.i64.wrap (hm-1)).toNat*1)=al at hl0 ⊢
  all_goals obtain⟨lb,lof,lsub⟩:=al
  all_goals refine⟨_,fun x hx=>hx.look hl0,?_⟩
  all_goals rcases Int.lt_or_le m.req lo with c2 | c2
  all_goals first
   | (
     refine split_t (decide_eq_true c2) ?_
     exact out _ hcd.below (by rw [decide_eq_false (show ¬ lo<=m.req by omega),Bool.and_false];rfl))
   | (refine split_f (decide_eq_false (show ¬ m.req<lo by omega)) ?_)
  all_goals rw [hm0,decide_eq_true c2,hle] at out he
  all_goals simp only [Bool.not_false,Bool.true_and] at out he
  all_goals refine⟨_,fun x hx=>hx.look (hc.cell 0 rfl _ rfl),?_⟩
  all_goals rcases Int.lt_or_le m.res.err 0 with d1 | d1
  all_goals first
   | (
     refine split_t (decide_eq_true d1) ?_
     exact out _ hcd.below (by rw [decide_eq_false (show ¬ 0<=m.res.err by omega)];rfl))
   | (refine split_f (decide_eq_false (show ¬ m.res.err<0 by omega)) ?_)
  all_goals refine⟨_,fun x hx=>hx.look (hc.cell 0 rfl _ rfl),?_⟩
  all_goals rcases Int.lt_or_le 13 m.res.err with d2 | d2
  all_goals first
   | (
     refine split_t (decide_eq_true d2) ?_
     exact out _ hcd.below (by rw [decide_eq_false (show ¬ m.res.err<=13 by omega),Bool.and_false];rfl))
   | (refine split_f (decide_eq_false (show ¬ 13<m.res.err by omega)) ?_)
  all_goals refine⟨_,fun x hx=>hx.look (hc.cell 0 rfl _ rfl),?_⟩
  all_goals rcases Int.lt_or_le m.res.ver 0 with d3 | d3
  all_goals first
   | (
     refine split_t (decide_eq_true d3) ?_
     exact out _ hcd.below (by rw [decide_eq_false (show ¬ 0<=m.res.ver by omega),Bool.and_false];rfl))
   | (refine split_f (decide_eq_false (show ¬ m.res.ver<0 by omega)) ?_)
  all_goals refine⟨_,fun x hx=>hx.look (hc.cell 0 rfl _ rfl),?_⟩
  all_goals refine⟨_,fun x hx=>hx.look (hc.cell 1 rfl _ rfl),?_⟩
  all_goals rcases Int.lt_or_le s.seq m.res.ver with d4 | d4
  all_goals first
   | (
     refine split_t (decide_eq_true d4) ?_
     exact out _ hcd.below (by rw [decide_eq_false (show ¬ m.res.ver<=s.seq by omega),Bool.and_false]))
   | (
     refine split_f (decide_eq_false (show ¬ s.seq<m.res.ver by omega)) ?_
     rw [decide_eq_true d1,decide_eq_true d2,decide_eq_true d3,decide_eq_true d4] at he
     exact⟨i+1,⟨rfl,congrArg _ (i_down (by omega)),trivial⟩,⟨hlt,by rw [hnext];exact he,hcd.drop⟩,by show s.ms.length-(i+1)<s.ms.length-i;omega⟩)
 ·refine split_f (decide_eq_false (by omega)) ?_
  rw [List.drop_of_length_le (by omega),memB] at he
  rw [<-he] at e0
  exact⟨ret_bool e0.symm,hc.below⟩
set_option maxRecDepth 100000
def cmpI (a b:Int):Int:=if a<b then -1 else if b<a then 1 else 0
def cmpS (a b:ByteArray):Int:=if strLt a b then -1 else if strLt b a then 1 else 0
theorem isNaNI_any (n:Int) (w:World):Calls Tryz.prog 206 #[.int .i64 n] w (RetB (.bool false) w):=by
 refine vE Tryz.func206 ?_
 refine⟨ret_bool ?_,Below.refl _ _⟩
 simp
theorem isNaNS_any (n:ByteArray) (w:World):Calls Tryz.prog 229 #[.string n] w (RetB (.bool false) w):=by
 refine vE Tryz.func229 ?_
 refine⟨ret_bool ?_,Below.refl _ _⟩
 simp [strEq]
theorem cmpI_any (a b:Int) (w:World):Calls Tryz.prog 180 #[.int .i64 a,.int .i64 b] w (RetB (.int .i64 (cmpI a b)) w):=by
 refine vE Tryz.func180 ?_
 refine call_b (isNaNI_any a _) ?_
 intro w1 h1
 refine call_b (isNaNI_any b _) ?_
 intro w2 h2
 have hb:=h1.trans (h2.mono h1.size)
 rcases Int.lt_or_le a b with c | c
 ·refine split_t (decide_eq_true c) ?_
  exact⟨ret_int (by rw [cmpI,if_pos c]),hb⟩
 refine split_f (decide_eq_false (by omega)) ?_
 rcases Int.lt_or_le b a with d | d
 ·refine split_t (decide_eq_true d) ?_
  exact⟨ret_int (by rw [cmpI,if_neg (by omega),if_pos d]),hb⟩
 refine split_f (decide_eq_false (by omega)) ?_
 exact⟨ret_int (by rw [cmpI,if_neg (by omega),if_neg (by omega)]),hb⟩
theorem cmpS_any (a b:ByteArray) (w:World):Calls Tryz.prog 209 #[.string a,.string b] w (RetB (.int .i64 (cmpS a b)) w):=by
 refine vE Tryz.func209 ?_
 refine call_b (isNaNS_any a _) ?_
 intro w1 h1
 refine call_b (isNaNS_any b _) ?_
 intro w2 h2
 have hb:=h1.trans (h2.mono h1.size)
 have e0:cmpS a b=if strLt a b then -1 else if strLt b a then 1 else 0:=rfl
 have ht:=strLt_tri a b
 have he:strEq a b=strEq b a:=by
  rw [Bool.eq_iff_iff,strEq_iff,strEq_iff]
  exact eq_comm
 generalize cmpS a b=r at e0 ⊢
 rcases Bool.eq_false_or_eq_true (strLt a b) with c | c
 ·refine split_t c ?_
  exact⟨ret_int (by rw [e0,c];rfl),hb⟩
 refine split_f c ?_
 rcases Bool.eq_false_or_eq_true (strEq a b) with d | d
 ·refine split_f (by rw [c,d];rfl) ?_
  have:strLt b a=false:=by
   rw [strEq_iff] at d
   rw [d];exact strLt_irrefl _
  exact⟨ret_int (by rw [e0,c,this];rfl),hb⟩
 ·refine split_t (by rw [c,d];rfl) ?_
  have:strLt b a=true:=by
   rw [c,<-he,d] at ht
   simpa using ht.symm
  exact⟨ret_int (by rw [e0,c,this];rfl),hb⟩
theorem cmpI_neg (a b:Int):(cmpI a b<0)=(a<b):=by
 unfold cmpI
 apply propext
 by_cases h:a<b
 ·rw [if_pos h];simp [h]
 ·rw [if_neg h]
  by_cases k:b<a
  ·rw [if_pos k];simp [h]
  ·rw [if_neg k];simp [h]
theorem cmpI_zero (a b:Int) (h:¬ a<b):(cmpI a b==0)=(a==b):=by
 unfold cmpI
 rw [if_neg h]
 by_cases k:b<a
 ·rw [if_pos k,Bool.eq_iff_iff];simp;omega
 ·rw [if_neg k,Bool.eq_iff_iff];simp;omega
theorem cmpS_neg (a b:ByteArray):(cmpS a b<0)=(strLt a b=true):=by
 unfold cmpS
 apply propext
 cases h:strLt a b
 ·cases k:strLt b a<;>simp
 ·simp
theorem cmpS_zero (a b:ByteArray) (h:¬ strLt a b=true):(cmpS a b==0)=strEq a b:=by
 have h:strLt a b=false:=by simpa using h
 have ht:=strLt_tri a b
 have he:strEq a b=strEq b a:=by
  rw [Bool.eq_iff_iff,strEq_iff,strEq_iff]
  exact eq_comm
 unfold cmpS
 rw [h] at ht ⊢
 rw [<-he] at ht
 cases k:strLt b a
 ·rw [k] at ht
  rw [show strEq a b=true from by simpa using ht.symm]
  rfl
 ·rw [strLt_ne k |> fun e=>he.trans e]
  rfl
theorem memo1_any (m:Mem) (n:Int) (w:World):Calls Tryz.prog 179 #[.agg (memC m).toArray,.int .i64 n] w (RetB (.int .i64 (cmpI m.req n)) w):=by
 refine vE Tryz.func179 ?_
 intro g1 w1 h1
 have hc:=((Ctx.start w no (fun _ h=>h.elim)).loc h1).1
 refine⟨_,hc.cell 0 rfl _ rfl,?_⟩
 refine call_b (cmpI_any m.req n _) ?_
 intro w2 h2
 exact⟨rfl,(hc.quiet h2).1.below⟩
theorem find1_any (k n:ByteArray) (A:Option Addr) (len cap:Nat) (w:World):Calls Tryz.prog 208 #[.agg #[.string k,.slice A len cap],.string n] w (RetB (.int .i64 (cmpS k n)) w):=by
 refine vE Tryz.func208 ?_
 intro g1 w1 h1
 have hc:=((Ctx.start w no (fun _ h=>h.elim)).loc h1).1
 refine⟨_,hc.cell 0 rfl _ rfl,?_⟩
 refine call_b (cmpS_any k n _) ?_
 intro w2 h2
 exact⟨rfl,(hc.quiet h2).1.below⟩
theorem posM_eq:∀ (l:List Mem) (n:Int) (i:Nat),i<=l.length->(∀ k (h:k<l.length),k<i->l[k].req<n)->(∀ h:i<l.length,¬ l[i].req<n)->posM l n=i
 | [],n,i,hi,_,_=>by rw [posM];simp at hi;exact hi.symm
 | x::r,n,0,hi,h1,h2=>by
  have this:¬ x.req<n:=h2 (by simp)
  rw [posM,if_neg this]
 | x::r,n,i+1,hi,h1,h2=>by
  have this:x.req<n:=h1 0 (by simp) (by omega)
  rw [posM,if_pos this,posM_eq r n i (by simpa using hi) (fun k h hk=>h1 (k+1) (by simpa using h) (by omega)) (fun h=>h2 (by simpa using h))]
theorem bsM_any (l:List Mem) (n:Int) (hp:l.Pairwise (fun a b=>a.req<b.req)) (hfit:l.length<=1000000) (A:Option Addr) (cap:Nat) (S:Nat->Prop) (w:World) (hR:Row S w A l.length cap (l.map memC).flatten):
  Calls Tryz.prog 178 #[.slice A l.length cap,.int .i64 n,.func (.func 179) #[] #[]] w (RetB (.tuple #[.int .i64 (posM l n:Nat),.bool (memAt l n).isSome]) w):=by
 refine vE Tryz.func178 ?_
 have hM:=row_max hR
 have lt_of:∀ (i j:Nat) (hi:i<l.length) (hj:j<l.length),i<j->l[i].req<l[j].req:=fun i j hi hj h=>List.pairwise_iff_getElem.1 hp i j hi hj h
 refine⟨Nat × Nat,fun x=>[(0,.slice A l.length cap),(1,.int .i64 n),(2,.func (.func 179) #[] #[]),(8,.int .i64 l.length),(9,.int .i64 x.1),(10,.int .i64 x.2)],
  fun x w'=>x.1<=x.2/\x.2<=l.length/\(∀ k (h:k<l.length),k<x.1->l[k].req<n)/\(∀ k (h:k<l.length),x.2<=k->¬ l[k].req<n)/\Below w.heap.size w w',fun x _=>x.2-x.1,(0,l.length),
  ⟨rfl,rfl,rfl,rfl,rfl,rfl,trivial⟩,⟨Nat.zero_le _,Nat.le_refl _,fun k h h0=>absurd h0 (Nat.not_lt_zero _),fun k h h0=>by omega,Below.refl _ _⟩,?_⟩
 rintro⟨i,j⟩ w' u ⟨hij,hjn,hlo,hhi,hb⟩
 simp only at hij hjn hlo hhi
 rcases Nat.lt_or_ge i j with c | c
 ·refine split_t (decide_eq_true (by show (i:Int)<(j:Int);omega)) ?_
  refine⟨⟨by decide,by decide⟩,?_⟩
  have hw:IntKind.i64.wrap (IntKind.u64.wrap (IntKind.i64.wrap ((i:Int)+(j:Int))) / 2 ^ ((1:Int).toNat))=(((i+j) / 2:Nat):Int):=by
   rw [IntWalk.i64_in ((i:Int)+j) ⟨by omega,by omega⟩,IntWalk.u64_in _ ⟨by omega,by omega⟩,show (2:Int) ^ ((1:Int).toNat)=2 from rfl,IntWalk.i64_in _ ⟨by omega,by omega⟩]
   omega
  have hh:(i+j) / 2<l.length:=by omega
  obtain⟨ad,e1,hcell⟩:=RowM.elem (hR.below hb) ((i+j) / 2) hh
  subst e1
  refine⟨⟨by rw [hw];omega,by rw [hw];omega⟩,?_⟩
  refine⟨memC l[(i+j) / 2],rfl,by rw [hw,Int.toNat_natCast];exact hcell,?_⟩
  refine call_b (memo1_any l[(i+j) / 2] n _) ?_
  intro w3 h3
  have hb3:=hb.trans (h3.mono hb.size)
  by_cases d:l[(i+j) / 2].req<n
  ·refine split_t (decide_eq_true (by rw [cmpI_neg];exact d)) ?_
   refine⟨((i+j) / 2+1,j),⟨rfl,rfl,rfl,rfl,?_,rfl,trivial⟩,⟨by show (i+j) / 2+1<=j;omega,hjn,fun k h hk=>?_,hhi,hb3⟩,by show j-((i+j) / 2+1)<j-i;omega⟩
   ·show Value.int .i64 (IntKind.i64.wrap (IntKind.i64.wrap (IntKind.u64.wrap (IntKind.i64.wrap ((i:Int)+(j:Int))) / 2 ^ ((1:Int).toNat))+1))=_
    rw [hw,i_down (by omega)]
   ·rcases Nat.lt_or_ge k ((i+j) / 2) with e | e
    ·exact Int.lt_trans (lt_of k _ h hh e) d
    ·have:k=(i+j) / 2:=by simp only at hk;omega
     subst this;exact d
  ·refine split_f (decide_eq_false (by rw [cmpI_neg];exact d)) ?_
   refine⟨(i,(i+j) / 2),⟨rfl,rfl,rfl,rfl,rfl,congrArg _ hw,trivial⟩,⟨by show i<=(i+j) / 2;omega,by show (i+j) / 2<=l.length;omega,hlo,fun k h hk=>?_,hb3⟩,by show (i+j) / 2-i<j-i;omega⟩
   intro hk2
   rcases Nat.lt_or_ge ((i+j) / 2) k with e | e
   ·exact d (Int.lt_trans (lt_of _ k hh h e) hk2)
   ·have:k=(i+j) / 2:=by simp only at hk;omega
    subst this;exact d hk2
 refine split_f (decide_eq_false (by show ¬ (i:Int)<(j:Int);omega)) ?_
 have hij:i=j:=by omega
 subst hij
 have hpos:posM l n=i:=posM_eq l n i hjn hlo (fun h=>hhi i h (Nat.le_refl _))
 have e0:memAt l n=match l[i]? with | some x=>if x.req==n then some x else none | none=>none:=by rw [memAt,hpos];rfl
 rw [hpos]
 generalize memAt l n=r at e0 ⊢
 rcases Nat.lt_or_ge i l.length with c | c
 ·refine split_t (decide_eq_true (by show (i:Int)<(l.length:Int);omega)) ?_
  obtain⟨ad,e1,hcell⟩:=RowM.elem (hR.below hb) i c
  subst e1
  refine⟨⟨by show (0:Int)<=(i:Int);omega,by show (i:Int)<(l.length:Int);omega⟩,?_⟩
  refine⟨memC l[i],rfl,hcell,?_⟩
  refine call_b (memo1_any l[i] n _) ?_
  intro w3 h3
  have hb3:=hb.trans (h3.mono hb.size)
  rw [List.getElem?_eq_getElem c] at e0
  have hz:=cmpI_zero l[i].req n (hhi i c (Nat.le_refl _))
  have e1:r.isSome=(cmpI l[i].req n==0):=by
   rw [e0,hz]
   show (if l[i].req==n then some l[i] else none).isSome=_
   split
   ·rename_i h;rw [h];rfl
   ·rename_i h;rw [show (l[i].req==n)=false from by simpa using h];rfl
  rw [e1]
  exact⟨rfl,hb3⟩
 ·refine split_f (decide_eq_false (by show ¬ (i:Int)<(l.length:Int);omega)) ?_
  rw [List.getElem?_eq_none c] at e0
  rw [e0]
  exact⟨rfl,hb⟩
theorem posK_eq:∀ (l:List Ent) (n:ByteArray) (i:Nat),i<=l.length->(∀ k (h:k<l.length),k<i->strLt l[k].key n=true)->(∀ h:i<l.length,¬ strLt l[i].key n=true)->posK l n=i
 | [],n,i,hi,_,_=>by rw [posK];simp at hi;exact hi.symm
 | x::r,n,0,hi,h1,h2=>by
  have this:¬ strLt x.key n=true:=h2 (by simp)
  rw [posK,if_neg this]
 | x::r,n,i+1,hi,h1,h2=>by
  have this:strLt x.key n=true:=h1 0 (by simp) (by omega)
  rw [posK,if_pos this,posK_eq r n i (by simpa using hi) (fun k h hk=>h1 (k+1) (by simpa using h) (by omega)) (fun h=>h2 (by simpa using h))]
theorem bsK_any (l:List Ent) (n:ByteArray) (hp:l.Pairwise (fun a b=>strLt a.key b.key=true)) (hfit:l.length<=1000000) (A:Option Addr) (cap:Nat) (S:Nat->Prop) (w:World) (css:List (List Value)) (hE:RepEs S w l css) (hR:Row S w A l.length cap css.flatten):
  Calls Tryz.prog 207 #[.slice A l.length cap,.string n,.func (.func 208) #[] #[]] w (RetB (.tuple #[.int .i64 (posK l n:Nat),.bool (entAt l n).isSome]) w):=by
 refine vE Tryz.func207 ?_
 have hM:=row_max hR
 have lt_of:∀ (i j:Nat) (hi:i<l.length) (hj:j<l.length),i<j->strLt l[i].key l[j].key=true:=fun i j hi hj h=>List.pairwise_iff_getElem.1 hp i j hi hj h
 refine⟨Nat × Nat,fun x=>[(0,.slice A l.length cap),(1,.string n),(2,.func (.func 208) #[] #[]),(8,.int .i64 l.length),(9,.int .i64 x.1),(10,.int .i64 x.2)],
  fun x w'=>x.1<=x.2/\x.2<=l.length/\(∀ k (h:k<l.length),k<x.1->strLt l[k].key n=true)/\(∀ k (h:k<l.length),x.2<=k->¬ strLt l[k].key n=true)/\Below w.heap.size w w',fun x _=>x.2-x.1,(0,l.length),
  ⟨rfl,rfl,rfl,rfl,rfl,rfl,trivial⟩,⟨Nat.zero_le _,Nat.le_refl _,fun k h h0=>absurd h0 (Nat.not_lt_zero _),fun k h h0=>by omega,Below.refl _ _⟩,?_⟩
 rintro⟨i,j⟩ w' u ⟨hij,hjn,hlo,hhi,hb⟩
 simp only at hij hjn hlo hhi
 rcases Nat.lt_or_ge i j with c | c
 ·refine split_t (decide_eq_true (by show (i:Int)<(j:Int);omega)) ?_
  refine⟨⟨by decide,by decide⟩,?_⟩
  have hw:IntKind.i64.wrap (IntKind.u64.wrap (IntKind.i64.wrap ((i:Int)+(j:Int))) / 2 ^ ((1:Int).toNat))=(((i+j) / 2:Nat):Int):=by
   rw [IntWalk.i64_in ((i:Int)+j) ⟨by omega,by omega⟩,IntWalk.u64_in _ ⟨by omega,by omega⟩,show (2:Int) ^ ((1:Int).toNat)=2 from rfl,IntWalk.i64_in _ ⟨by omega,by omega⟩]
   omega
  have hh:(i+j) / 2<l.length:=by omega
  obtain⟨ad,A1,cap1,e1,hcell,_⟩:=RowE.elem (hR.below hb) (hE.below hb) ((i+j) / 2) hh
  subst e1
  refine⟨⟨by rw [hw];omega,by rw [hw];omega⟩,?_⟩
  refine⟨[.string l[(i+j) / 2].key,.slice A1 l[(i+j) / 2].vs.length cap1],rfl,by rw [hw,Int.toNat_natCast];exact hcell,?_⟩
  refine call_b (find1_any l[(i+j) / 2].key n A1 l[(i+j) / 2].vs.length cap1 _) ?_
  intro w3 h3
  have hb3:=hb.trans (h3.mono hb.size)
  by_cases d:strLt l[(i+j) / 2].key n=true
  ·refine split_t (decide_eq_true (by rw [cmpS_neg];exact d)) ?_
   refine⟨((i+j) / 2+1,j),⟨rfl,rfl,rfl,rfl,?_,rfl,trivial⟩,⟨by show (i+j) / 2+1<=j;omega,hjn,fun k h hk=>?_,hhi,hb3⟩,by show j-((i+j) / 2+1)<j-i;omega⟩
   ·show Value.int .i64 (IntKind.i64.wrap (IntKind.i64.wrap (IntKind.u64.wrap (IntKind.i64.wrap ((i:Int)+(j:Int))) / 2 ^ ((1:Int).toNat))+1))=_
    rw [hw,i_down (by omega)]
   ·rcases Nat.lt_or_ge k ((i+j) / 2) with e | e
    ·exact strLt_trans (lt_of k _ h hh e) d
    ·have:k=(i+j) / 2:=by simp only at hk;omega
     subst this;exact d
  ·refine split_f (decide_eq_false (by rw [cmpS_neg];exact d)) ?_
   refine⟨(i,(i+j) / 2),⟨rfl,rfl,rfl,rfl,rfl,congrArg _ hw,trivial⟩,⟨by show i<=(i+j) / 2;omega,by show (i+j) / 2<=l.length;omega,hlo,fun k h hk=>?_,hb3⟩,by show (i+j) / 2-i<j-i;omega⟩
   intro hk2
   rcases Nat.lt_or_ge ((i+j) / 2) k with e | e
   ·exact d (strLt_trans (lt_of _ k hh h e) hk2)
   ·have:k=(i+j) / 2:=by simp only at hk;omega
    subst this;exact d hk2
 refine split_f (decide_eq_false (by show ¬ (i:Int)<(j:Int);omega)) ?_
 have hij:i=j:=by omega
 subst hij
 have hpos:posK l n=i:=posK_eq l n i hjn hlo (fun h=>hhi i h (Nat.le_refl _))
 have e0:entAt l n=match l[i]? with | some x=>if strEq x.key n then some x else none | none=>none:=by rw [entAt,hpos];rfl
 rw [hpos]
 generalize entAt l n=r at e0 ⊢
 rcases Nat.lt_or_ge i l.length with c | c
 ·refine split_t (decide_eq_true (by show (i:Int)<(l.length:Int);omega)) ?_
  obtain⟨ad,A1,cap1,e1,hcell,_⟩:=RowE.elem (hR.below hb) (hE.below hb) i c
  subst e1
  refine⟨⟨by show (0:Int)<=(i:Int);omega,by show (i:Int)<(l.length:Int);omega⟩,?_⟩
  refine⟨[.string l[i].key,.slice A1 l[i].vs.length cap1],rfl,hcell,?_⟩
  refine call_b (find1_any l[i].key n A1 l[i].vs.length cap1 _) ?_
  intro w3 h3
  have hb3:=hb.trans (h3.mono hb.size)
  rw [List.getElem?_eq_getElem c] at e0
  have hz:=cmpS_zero l[i].key n (hhi i c (Nat.le_refl _))
  have e1:r.isSome=(cmpS l[i].key n==0):=by
   rw [e0,hz]
   show (if strEq l[i].key n then some l[i] else none).isSome=_
   split
   ·rename_i h;rw [h];rfl
   ·rename_i h;rw [show (strEq l[i].key n)=false from by simpa using h];rfl
  rw [e1]
  exact⟨rfl,hb3⟩
 ·refine split_f (decide_eq_false (by show ¬ (i:Int)<(l.length:Int);omega)) ?_
  rw [List.getElem?_eq_none c] at e0
  rw [e0]
  exact⟨rfl,hb⟩
theorem memo_any (s:Stt) (n:Int) (hp:s.ms.Pairwise (fun a b=>a.req<b.req)) (hfit:s.ms.length<=1000000) (cs:List Value) (S:Nat->Prop) (w:World) (hs:RepS S w s cs):Calls Tryz.prog 133 #[.agg cs.toArray,.int .i64 n] w (RetB (.tuple #[.int .i64 (posM s.ms n:Nat),.bool (memAt s.ms n).isSome]) w):=by
 obtain⟨A,cap,css,B,cap',l0,l1,l2,l3,l4,rfl,el,hE,hR,hM⟩:=hs.shape
 refine vE Tryz.func133 ?_
 intro g1 w1 h1
 have hc:=((Ctx.start w no (fun _ h=>h.elim)).loc h1).1
 refine⟨_,hc.cell 0 rfl _ rfl,?_⟩
 refine call_b (bsM_any s.ms n hp hfit B cap' S w1 (hM.below hc.below)) ?_
 intro w2 h2
 exact⟨rfl,(hc.quiet h2).1.below⟩
theorem find_any (s:Stt) (n:ByteArray) (hp:s.l.Pairwise (fun a b=>strLt a.key b.key=true)) (hfit:s.l.length<=1000000) (cs:List Value) (S:Nat->Prop) (w:World) (hs:RepS S w s cs):Calls Tryz.prog 181 #[.agg cs.toArray,.string n] w (RetB (.tuple #[.int .i64 (posK s.l n:Nat),.bool (entAt s.l n).isSome]) w):=by
 obtain⟨A,cap,css,B,cap',l0,l1,l2,l3,l4,rfl,el,hE,hR,hM⟩:=hs.shape
 refine vE Tryz.func181 ?_
 intro g1 w1 h1
 have hc:=((Ctx.start w no (fun _ h=>h.elim)).loc h1).1
 refine⟨_,hc.cell 0 rfl _ rfl,?_⟩
 refine call_b (bsK_any s.l n hp hfit A cap S w1 css (hE.below hc.below) (hR.below hc.below)) ?_
 intro w2 h2
 exact⟨rfl,(hc.quiet h2).1.below⟩
set_option maxRecDepth 100000
theorem rplace_any (s:Stt) (n:ByteArray) (cs:List Value) (S:Nat->Prop) (w:World) (hs:RepS S w s cs):Calls Tryz.prog 90 #[.agg cs.toArray,.string n] w (RetB (.tuple #[.int .i64 (posK s.l n:Nat),.bool (entAt s.l n).isSome]) w):=by
 obtain⟨A,cap,css,B,cap',l0,l1,l2,l3,l4,rfl,el,hE,hR,hM⟩:=hs.shape
 have hMx:=row_max hR
 refine vE Tryz.func90 ?_
 intro g1 w1 h1
 have hc:=((Ctx.start w no (fun _ h=>h.elim)).loc h1).1
 refine⟨Nat,fun i=>[(1,.string n),(2,.pointer (some ⟨g1,0,none⟩)),(6,.int .i64 i)],
  fun i w'=>i<=s.l.length/\(∀ k (h:k<s.l.length),k<i->strLt s.l[k].key n=true)/\Ctx no w no w' [(g1,43,stC s A cap B cap' l0 l1 l2 l3 l4)],fun i _=>s.l.length-i,0,
  ⟨rfl,rfl,rfl,trivial⟩,⟨Nat.zero_le _,fun k h h0=>absurd h0 (Nat.not_lt_zero _),hc⟩,?_⟩
 rintro i w' u ⟨hi,hlo,hc⟩
 refine⟨_,hc.cell 0 rfl _ rfl,?_⟩
 rcases Nat.lt_or_ge i s.l.length with c | c
 ·refine split_t (decide_eq_true (by omega)) ?_
  obtain⟨ad,A1,cap1,e1,hcell,_⟩:=RowE.elem (hR.below hc.below) (hE.below hc.below) i c
  subst e1
  have hkey:w'.cell? (ad.add ((i:Int).toNat*2))=some (.string s.l[i].key):=by
   have:=hcell.1
   rw [add_add,Nat.add_zero] at this
   exact this
  have hkey2:=hkey
  refine⟨_,hc.cell 0 rfl _ rfl,?_⟩
  refine⟨⟨by omega,by omega⟩,?_⟩
  generalize ad.add ((i:Int).toNat*2)=ae at hkey ⊢
  obtain⟨ab,ao,asub⟩:=ae
  refine⟨_,hkey,?_⟩
  rcases Bool.eq_false_or_eq_true (strLt s.l[i].key n) with d | d
  ·refine split_t d ?_
   refine⟨i+1,⟨rfl,rfl,congrArg _ (i_down (by omega)),trivial⟩,⟨c,fun k h hk=>?_,hc⟩,by show s.l.length-(i+1)<s.l.length-i;omega⟩
   rcases Nat.lt_succ_iff_lt_or_eq.1 hk with e | e
   ·exact hlo k h e
   ·subst e;exact d
  ·refine split_f d ?_
   have hpos:posK s.l n=i:=posK_eq s.l n i hi hlo (fun h=>by rw [d];exact Bool.false_ne_true)
   have e0:entAt s.l n=match s.l[i]? with | some x=>if strEq x.key n then some x else none | none=>none:=by rw [entAt,hpos];rfl
   rw [List.getElem?_eq_getElem c] at e0
   rw [hpos]
   have e1:(entAt s.l n).isSome=(strEq s.l[i].key n):=by
    rw [e0]
    show (if strEq s.l[i].key n then some s.l[i] else none).isSome=_
    split
    ·rename_i h;rw [h];rfl
    ·rename_i h;rw [show (strEq s.l[i].key n)=false from by simpa using h];rfl
   rw [e1]
   refine vD (.Q [0,1,2,3,4,5,6,7,8,9,10,11,12,13,14,15,16,17] .fin) (Keeps (fun b=>b<w'.heap.size) w') (Keeps.start _ _) ?_
   refine⟨_,fun x hx=>hx.look (hc.cell 0 rfl _ rfl),?_⟩
   refine split_t (decide_eq_true (by omega)) ?_
   refine⟨_,fun x hx=>hx.look (hc.cell 0 rfl _ rfl),?_⟩
   refine⟨⟨by omega,by omega⟩,?_⟩
   generalize ad.add ((i:Int).toNat*2)=af at hkey2 ⊢
   obtain⟨fb,fo,fsub⟩:=af
   refine⟨_,fun x hx=>hx.look hkey2,?_⟩
   exact⟨rfl,hc.drew.below⟩
 ·refine split_f (decide_eq_false (by omega)) ?_
  have hpos:posK s.l n=i:=posK_eq s.l n i hi hlo (fun h=>absurd h (by omega))
  have e1:(entAt s.l n).isSome=false:=by
   rw [entAt,hpos,List.getElem?_eq_none c];rfl
  rw [hpos,e1]
  refine vD (.Q [0,1,2,3,4,5,6,7,8,9,10,11,12,13,14,15,16,17] .fin) (Keeps (fun b=>b<w'.heap.size) w') (Keeps.start _ _) ?_
  refine⟨_,fun x hx=>hx.look (hc.cell 0 rfl _ rfl),?_⟩
  refine split_f (decide_eq_false (by omega)) ?_
  exact⟨rfl,hc.drew.below⟩
theorem rmemo_any (s:Stt) (n:Int) (cs:List Value) (S:Nat->Prop) (w:World) (hs:RepS S w s cs):Calls Tryz.prog 57 #[.agg cs.toArray,.int .i64 n] w (RetB (.tuple #[.int .i64 (posM s.ms n:Nat),.bool (memAt s.ms n).isSome]) w):=by
 obtain⟨A,cap,css,B,cap',l0,l1,l2,l3,l4,rfl,el,hE,hR,hM⟩:=hs.shape
 have hMx:=row_max hM
 refine vE Tryz.func57 ?_
 intro g1 w1 h1
 have hc:=((Ctx.start w no (fun _ h=>h.elim)).loc h1).1
 refine⟨Nat,fun i=>[(1,.int .i64 n),(2,.pointer (some ⟨g1,0,none⟩)),(6,.int .i64 i)],
  fun i w'=>i<=s.ms.length/\(∀ k (h:k<s.ms.length),k<i->s.ms[k].req<n)/\Ctx no w no w' [(g1,43,stC s A cap B cap' l0 l1 l2 l3 l4)],fun i _=>s.ms.length-i,0,
  ⟨rfl,rfl,rfl,trivial⟩,⟨Nat.zero_le _,fun k h h0=>absurd h0 (Nat.not_lt_zero _),hc⟩,?_⟩
 rintro i w' u ⟨hi,hlo,hc⟩
 refine⟨_,hc.cell 0 rfl _ rfl,?_⟩
 rcases Nat.lt_or_ge i s.ms.length with c | c
 ·refine split_t (decide_eq_true (by omega)) ?_
  obtain⟨ad,e1,hcell⟩:=RowM.elem (hM.below hc.below) i c
  subst e1
  have hkey:w'.cell? (ad.add ((i:Int).toNat*3))=some (.int .i64 s.ms[i].req):=by
   have:=hcell.1
   rw [add_add,Nat.add_zero] at this
   exact this
  have hkey2:=hkey
  refine⟨_,hc.cell 0 rfl _ rfl,?_⟩
  refine⟨⟨by omega,by omega⟩,?_⟩
  generalize ad.add ((i:Int).toNat*3)=ae at hkey ⊢
  obtain⟨ab,ao,asub⟩:=ae
  refine⟨_,hkey,?_⟩
  rcases Bool.eq_false_or_eq_true (decide (s.ms[i].req<n)) with d | d
  ·refine split_t d ?_
   refine⟨i+1,⟨rfl,rfl,congrArg _ (i_down (by omega)),trivial⟩,⟨c,fun k h hk=>?_,hc⟩,by show s.ms.length-(i+1)<s.ms.length-i;omega⟩
   rcases Nat.lt_succ_iff_lt_or_eq.1 hk with e | e
   ·exact hlo k h e
   ·subst e;exact of_decide_eq_true d
  ·refine split_f d ?_
   have hpos:posM s.ms n=i:=posM_eq s.ms n i hi hlo (fun h=>by exact of_decide_eq_false d)
   have e0:memAt s.ms n=match s.ms[i]? with | some x=>if x.req==n then some x else none | none=>none:=by rw [memAt,hpos];rfl
   rw [List.getElem?_eq_getElem c] at e0
   rw [hpos]
   have e1:(memAt s.ms n).isSome=(s.ms[i].req==n):=by
    rw [e0]
    show (if s.ms[i].req==n then some s.ms[i] else none).isSome=_
    split
    ·rename_i h;rw [h];rfl
    ·rename_i h;rw [show (s.ms[i].req==n)=false from by simpa using h];rfl
   rw [e1]
   refine vD (.Q [0,1,2,3,4,5,6,7,8,9,10,11,12,13,14,15,16,17] .fin) (Keeps (fun b=>b<w'.heap.size) w') (Keeps.start _ _) ?_
   refine⟨_,fun x hx=>hx.look (hc.cell 0 rfl _ rfl),?_⟩
   refine split_t (decide_eq_true (by omega)) ?_
   refine⟨_,fun x hx=>hx.look (hc.cell 0 rfl _ rfl),?_⟩
   refine⟨⟨by omega,by omega⟩,?_⟩
   generalize ad.add ((i:Int).toNat*3)=af at hkey2 ⊢
   obtain⟨fb,fo,fsub⟩:=af
   refine⟨_,fun x hx=>hx.look hkey2,?_⟩
   exact⟨rfl,hc.drew.below⟩
 ·refine split_f (decide_eq_false (by omega)) ?_
  have hpos:posM s.ms n=i:=posM_eq s.ms n i hi hlo (fun h=>absurd h (by omega))
  have e1:(memAt s.ms n).isSome=false:=by
   rw [memAt,hpos,List.getElem?_eq_none c];rfl
  rw [hpos,e1]
  refine vD (.Q [0,1,2,3,4,5,6,7,8,9,10,11,12,13,14,15,16,17] .fin) (Keeps (fun b=>b<w'.heap.size) w') (Keeps.start _ _) ?_
  refine⟨_,fun x hx=>hx.look (hc.cell 0 rfl _ rfl),?_⟩
  refine split_f (decide_eq_false (by omega)) ?_
  exact⟨rfl,hc.drew.below⟩
set_option maxRecDepth 100000
theorem Blk.shape {w:World} {g T:Nat} {cs:List Value} (h:Blk w g T cs):w.shape? g=some (T,cs.length):=by
 unfold Blk at h
 unfold World.shape?
 rw [h]
 simp
theorem overM_run (w:World) (vb g T T' la ca lb cb:Nat) (b:Addr) (c cur:List Value) (hv:Blk w vb T c) (hg:Blk w g T' cur) (hb:b.block=g) (hne:vb≠g) (hcur:cur.length≠0) {y:Value} (ey:y=.slice (some b) lb cb):
  (callFunc 186 #[.slice (some ⟨vb,0,none⟩) la ca,y]).run Tryz.prog w=.ok (.value (.bool false)) w:=by
 subst ey
 rw [run_callFunc_extern Tryz.func186 (by kernel_rfl) (by kernel_rfl) (by kernel_rfl) (show Extern.find _=some (Extern.SlicesOverlaps.overlaps #[40,40] #[4]) by kernel_rfl)]
 rw [Lib.run_overlaps_apart w 40 4 56 Tryz.underlying40 3 (fun w=>by kernel_rfl) ⟨vb,0,none⟩ b la ca lb cb (by rw [hb];exact hne) T T' c.length cur.length (Blk.shape hv) (by rw [hb];exact Blk.shape hg) hcur (hv.frozen 0) (hv.frozen c.length)]
 rfl
set_option maxHeartbeats 1000000 in
theorem insertM_any {S0 S:Nat->Prop} {w0 w:World} {l:List LB} (hc:Ctx S0 w0 S w l) (css:List (List Value)) (hF:Flat 3 css) (hn:css.length<=1000000) {A:Option Addr} {cap:Nat} (ho:Own S w0.heap.size w l 56 3 A css.length cap css.flatten)
  (i:Nat) (hi:i<=css.length) (kv vb:Nat) (c:List Value) (hkv:l[kv]?=some (vb,56,c)) (hcl:c.length=3) (hc1:allOne c=true):
  Calls Tryz.prog 135 #[.slice A css.length cap,.int .i64 i,.slice (some ⟨vb,0,none⟩) 1 1] w (fun en w'=>∃ A' cap',en=.returned (.slice A' (css.length+1) cap')/\Ctx S0 w0 S w' l/\Fut S w S w'/\Own S w0.heap.size w' l 56 3 A' (css.length+1) cap' ((css.take i).flatten++c++(css.drop i).flatten)):=by
 obtain⟨f1,f2⟩:=ho.fit
 have hM:cap<=9223372036854775807:=Nat.le_trans f2 (by decide)
 have hlen:=hF.len
 generalize hnn:css.length=n at*
 refine vE Tryz.func135 ?_
 refine⟨⟨by omega,by omega,by omega,by omega⟩,?_⟩
 rcases Nat.lt_or_ge i n with hlt | hge
 rotate_left
 ·have hin:i=n:=by omega
  subst hin
  refine split_t (by show ((i:Int)==(i:Int))=true;simp) ?_
  refine app_own Tryz.underlying40 info_M rfl (by decide) hc ho (ys:=c) (by rw [hcl]) (hc.cells kv hkv) hc1 (by omega) (by decide) ?_
  intro A' cap' w1 hc1 hf ho _
  refine⟨A',cap',rfl,hc1,hf,?_⟩
  rw [List.take_of_length_le (by omega),List.drop_of_length_le (by omega),List.flatten_nil,List.append_nil]
  exact ho
 refine split_f (by show ((i:Int)==(n:Int))=false;rw [beq_eq_false_iff_ne];omega) ?_
 cases hA:A with
 | none=>
  obtain⟨h0,_⟩:=ho.none' hA
  omega
 | some a=>
 obtain⟨g,cur,e1,hc,hcur,hct,_,_⟩:=ho.opened hc hA
 rw [hA] at e1
 cases e1
 have hkv1:((g,56,cur)::l)[kv+1]?=some (vb,56,c):=by simpa using hkv
 have hne:vb≠g:=(ho.out _ hA).2 _ (List.mem_of_getElem? hkv)
 have hw1:IntKind.i64.wrap ((n:Int)+((1:Nat):Int))=(n:Int)+1:=wrap_add _ _ (by omega) (by omega)
 have hwi:IntKind.i64.wrap ((i:Int)+((1:Nat):Int))=(i:Int)+1:=wrap_add _ _ (by omega) (by omega)
 have htl:(css.take i).flatten.length=i*3:=by rw [(hF.take _).len,List.length_take];omega
 have hdl:(css.drop i).flatten.length=(n-i)*3:=by rw [(hF.drop _).len,List.length_drop];omega
 have htake:cur.take (i*3)=(css.take i).flatten:=by rw [hF.flat_take,<-hct,List.take_take];congr 1;omega
 have hdrop:(cur.drop (i*3)).take (css.drop i).flatten.length=(css.drop i).flatten:=by
  rw [hF.flat_drop,<-hct,List.drop_take,List.length_take,List.length_drop,hcur]
  congr 1
  omega
 refine⟨_,fun w=>cap_run Tryz.underlying40 _ _ _ w,?_⟩
 rcases Nat.lt_or_ge cap (n+1) with hroom | hroom
 ·refine split_t (decide_eq_true (by rw [hw1];omega)) ?_
  have hfe:(if (cap:Int)=0 then some (⟨g,0,none⟩:Addr) else (some (⟨g,0,none⟩:Addr)).map (·.add ((0:Int).toNat*3)))=some ⟨g,0,none⟩:=front_eq _ _ _
  refine⟨⟨by omega,by omega,by omega,by omega⟩,?_⟩
  have hkk:IntKind.i64.wrap (IntKind.i64.wrap ((n:Int)+((1:Nat):Int))-(i:Int))=((n+1-i:Nat):Int):=by rw [hw1,IntWalk.i64_in _ ⟨by omega,by omega⟩];omega
  refine app_zeros Tryz.underlying40 Tryz.underlying3 info_M rfl (by decide) hc hcur (n:=i) (k:=n+1-i) (kq:=.i64) (by omega) (by omega) (by omega) (by omega) (by decide) ?_ (congrArg _ hkk) ?_
  ·show Value.slice (if (cap:Int)=0 then some (⟨g,0,none⟩:Addr) else (some (⟨g,0,none⟩:Addr)).map (·.add ((0:Int).toNat*3))) ((i:Int)-0).toNat ((cap:Int)-0).toNat=_
   rw [hfe]
   congr 1<;>omega
  intro g2 cap2 cur2 w2 hc hf2 hcl2 hcap2 hmx2 htk2
  have hkv2:((g2,56,cur2)::(g,56,cur)::l)[kv+2]?=some (vb,56,c):=by simpa using hkv
  have hlen2:i+(n+1-i)=n+1:=by omega
  have hM2:cap2<=9223372036854775807:=Nat.le_trans hmx2 (by decide)
  refine⟨⟨by omega,by omega,by omega,by omega⟩,?_⟩
  refine copy_run Tryz.underlying40 info_M (da:=⟨g2,i*3,none⟩) (sa:=⟨vb,0,none⟩) (dn:=n+1-i) (dc:=cap2-i) (sn:=1) (sc:=1) (xs:=c) (by rw [hcl,show Nat.min 1 (n+1-i)=1 from Nat.min_eq_left (by omega)]) (hc.cells (kv+2) hkv2) (hc.may 0 rfl _ _ (by rw [hcl2,hcl];omega) hc1) ?_ rfl ?_
  ·show Value.slice (if (cap2:Int)=(i:Int) then some (⟨g2,0,none⟩:Addr) else (some (⟨g2,0,none⟩:Addr)).map (·.add ((i:Int).toNat*3))) (((i+(n+1-i):Nat):Int)-(i:Int)).toNat ((cap2:Int)-(i:Int)).toNat=_
   rw [back_eq g2 cap2 3 (i:Int) i rfl (by omega)]
   congr 1<;>omega
  intro w3 h3
  have hC3:=hc.set 0 rfl h3
  have hc:=hC3.1
  have hl3:(putAt cur2 (i*3) c).length=cap2*3:=by rw [putAt_len,hcl2]
  refine vD (.Q [0,1,2,3,4,5,6,7] (.n 8 .fin .stop)) (fun _=>True) trivial ?_
  have hc:=hc.drew
  refine⟨⟨by rw [hwi];omega,by rw [hwi];omega,by omega,by omega⟩,?_⟩
  refine⟨⟨by omega,by omega,by omega,by omega⟩,?_⟩
  refine⟨copy_run Tryz.underlying40 info_M (da:=⟨g2,(i+1)*3,none⟩) (sa:=⟨g,i*3,none⟩) (dn:=n-i) (dc:=cap2-(i+1)) (sn:=n-i) (sc:=cap-i) (xs:=(css.drop i).flatten) (by rw [show Nat.min (n-i) (n-i)=n-i from Nat.min_self _,hdl]) (hc.cellsAt 1 rfl _ _ hdrop) (hc.may 0 rfl _ _ (by rw [hdl,hl3,<-Nat.add_mul];exact Nat.mul_le_mul_right _ (by omega)) (hF.drop _).ones) ?_ ?_ ?_,trivial⟩
  ·show Value.slice (if (cap2:Int)=(IntKind.i64.wrap ((i:Int)+((1:Nat):Int))) then some (⟨g2,0,none⟩:Addr) else (some (⟨g2,0,none⟩:Addr)).map (·.add ((IntKind.i64.wrap ((i:Int)+((1:Nat):Int))).toNat*3))) (((i+(n+1-i):Nat):Int)-(IntKind.i64.wrap ((i:Int)+((1:Nat):Int)))).toNat ((cap2:Int)-(IntKind.i64.wrap ((i:Int)+((1:Nat):Int)))).toNat=_
   rw [back_eq g2 cap2 3 (IntKind.i64.wrap ((i:Int)+((1:Nat):Int))) (i+1) (by rw [hwi];rfl) (by omega),hwi]
   congr 1<;>omega
  ·show Value.slice (if (cap:Int)=(i:Int) then some (⟨g,0,none⟩:Addr) else (some (⟨g,0,none⟩:Addr)).map (·.add ((i:Int).toNat*3))) ((n:Int)-(i:Int)).toNat ((cap:Int)-(i:Int)).toNat=_
   rw [back_eq g cap 3 (i:Int) i rfl (by omega)]
   congr 1<;>omega
  intro w4 h4
  refine⟨trivial,?_⟩
  have hC4:=hc.set 0 rfl h4
  have hc:=hC4.1
  have hput:=putAt_eq c cur2 (i*3) (by rw [hcl2,hcl];omega)
  have hput2:=putAt_eq (css.drop i).flatten (putAt cur2 (i*3) c) ((i+1)*3) (by rw [hdl,hl3,<-Nat.add_mul];exact Nat.mul_le_mul_right _ (by omega))
  have hfin:(putAt (putAt cur2 (i*3) c) ((i+1)*3) (css.drop i).flatten).take ((n+1)*3)=(css.take i).flatten++c++(css.drop i).flatten:=by
   have e1:(putAt cur2 (i*3) c).take ((i+1)*3)=(css.take i).flatten++c:=by
    rw [hput,htk2,htake,List.take_left' (by rw [List.length_append,htl,hcl];omega)]
   rw [hput2,e1,List.take_left' (by rw [List.length_append,List.length_append,htl,hcl,hdl];omega)]
  obtain⟨hc,ho⟩:=Ctx.closed hc 3 (n+1) cap2 (by omega) hmx2 (by rw [putAt_len,hl3])
  rw [hfin] at ho
  refine⟨some ⟨g2,0,none⟩,cap2,?_,hc.drop,hf2.trans (hC3.2.trans hC4.2),ho.drop⟩
  show Ending.returned (.slice (some ⟨g2,0,none⟩) (i+(n+1-i)) cap2)=_
  rw [hlen2]
 ·refine split_f (decide_eq_false (by rw [hw1];omega)) ?_
  have hcapi:(((cap:Int)-0).toNat:Int)=cap:=by omega
  have hlen1:((IntKind.i64.wrap ((n:Int)+((1:Nat):Int))-0).toNat:Int)=n+1:=by rw [hw1];omega
  refine⟨⟨by omega,by rw [hw1];omega,by rw [hw1];omega,by omega⟩,?_⟩
  have hfe:(if (cap:Int)=0 then some (⟨g,0,none⟩:Addr) else (some (⟨g,0,none⟩:Addr)).map (·.add ((0:Int).toNat*3)))=some ⟨g,0,none⟩:=front_eq _ _ _
  refine⟨⟨by rw [hwi];omega,by rw [hwi,hw1];omega,by rw [hw1];omega,by omega⟩,?_⟩
  have hB1:=hc.blk 0 rfl
  have hBv:=hc.blk (kv+1) hkv1
  refine⟨_,_,overM_run w vb g _ _ 1 1 (n-i) (cap-(i+1)) ⟨g,(i+1)*3,none⟩ c cur hBv hB1 rfl hne (by rw [hcur];omega) (ey:=?ey),?_⟩
  case ey=>
   show Value.slice (if (((cap:Int)-0).toNat:Int)=(IntKind.i64.wrap ((i:Int)+((1:Nat):Int))) then (if (cap:Int)=0 then some (⟨g,0,none⟩:Addr) else (some (⟨g,0,none⟩:Addr)).map (·.add ((0:Int).toNat*3))) else (if (cap:Int)=0 then some (⟨g,0,none⟩:Addr) else (some (⟨g,0,none⟩:Addr)).map (·.add ((0:Int).toNat*3))).map (·.add ((IntKind.i64.wrap ((i:Int)+((1:Nat):Int))).toNat*3))) (((IntKind.i64.wrap ((n:Int)+((1:Nat):Int))-0).toNat:Int)-(IntKind.i64.wrap ((i:Int)+((1:Nat):Int)))).toNat ((((cap:Int)-0).toNat:Int)-(IntKind.i64.wrap ((i:Int)+((1:Nat):Int)))).toNat=_
   rw [hwi,hcapi,hlen1,hfe,if_neg (by omega),Option.map_some,Addr.add_lit,Nat.zero_add,show ((i:Int)+1).toNat=i+1 by omega]
   congr 1<;>omega
  refine vD (.Q [0,1,2,3,4,5,6,7] (.n 8 .fin .stop)) (fun _=>True) trivial ?_
  have hc:=hc.drew
  refine⟨⟨by rw [hwi];omega,by rw [hwi,hw1];omega,by rw [hw1];omega,by omega⟩,?_⟩
  refine⟨⟨by omega,by rw [hw1];omega,by rw [hw1];omega,by omega⟩,?_⟩
  refine⟨?_,trivial⟩
  have hmn:Nat.min (n+1-i) (n-i)=n-i:=Nat.min_eq_right (by omega)
  refine copy_run Tryz.underlying40 info_M (da:=⟨g,(i+1)*3,none⟩) (sa:=⟨g,i*3,none⟩) (dn:=n-i) (dc:=cap-(i+1)) (sn:=n+1-i) (sc:=cap-i) (xs:=(css.drop i).flatten) (by rw [hmn,hdl]) (hc.cellsAt 0 rfl _ _ hdrop) (hc.may 0 rfl _ _ (by rw [hdl,hcur,<-Nat.add_mul];exact Nat.mul_le_mul_right _ (by omega)) (hF.drop _).ones) ?_ ?_ ?_
  ·show Value.slice (if (((cap:Int)-0).toNat:Int)=(IntKind.i64.wrap ((i:Int)+((1:Nat):Int))) then (if (cap:Int)=0 then some (⟨g,0,none⟩:Addr) else (some (⟨g,0,none⟩:Addr)).map (·.add ((0:Int).toNat*3))) else (if (cap:Int)=0 then some (⟨g,0,none⟩:Addr) else (some (⟨g,0,none⟩:Addr)).map (·.add ((0:Int).toNat*3))).map (·.add ((IntKind.i64.wrap ((i:Int)+((1:Nat):Int))).toNat*3))) (((IntKind.i64.wrap ((n:Int)+((1:Nat):Int))-0).toNat:Int)-(IntKind.i64.wrap ((i:Int)+((1:Nat):Int)))).toNat ((((cap:Int)-0).toNat:Int)-(IntKind.i64.wrap ((i:Int)+((1:Nat):Int)))).toNat=_
   rw [hwi,hcapi,hlen1,hfe,if_neg (by omega),Option.map_some,Addr.add_lit,Nat.zero_add,show ((i:Int)+1).toNat=i+1 by omega]
   congr 1<;>omega
  ·show Value.slice (if (((cap:Int)-0).toNat:Int)=(i:Int) then (if (cap:Int)=0 then some (⟨g,0,none⟩:Addr) else (some (⟨g,0,none⟩:Addr)).map (·.add ((0:Int).toNat*3))) else (if (cap:Int)=0 then some (⟨g,0,none⟩:Addr) else (some (⟨g,0,none⟩:Addr)).map (·.add ((0:Int).toNat*3))).map (·.add ((i:Int).toNat*3))) (((IntKind.i64.wrap ((n:Int)+((1:Nat):Int))-0).toNat:Int)-(i:Int)).toNat ((((cap:Int)-0).toNat:Int)-(i:Int)).toNat=_
   rw [hcapi,hlen1,hfe,if_neg (by omega),Option.map_some,Addr.add_lit,Nat.zero_add,Int.toNat_natCast]
   congr 1<;>omega
  intro w2 h2
  refine⟨trivial,?_⟩
  have hC:=hc.set 0 rfl h2
  have hc:=hC.1
  refine⟨⟨by omega,by rw [hw1];omega,by rw [hw1];omega,by omega⟩,?_⟩
  have hkv2:(setLoc ((g,56,cur)::l) 0 (putAt cur ((i+1)*3) (css.drop i).flatten))[kv+1]?=some (vb,56,c):=hkv1
  have hl2:(putAt cur ((i+1)*3) (css.drop i).flatten).length=cap*3:=by rw [putAt_len,hcur]
  have hput:putAt cur ((i+1)*3) (css.drop i).flatten=cur.take ((i+1)*3)++(css.drop i).flatten++cur.drop ((i+1)*3+(css.drop i).flatten.length):=putAt_eq _ _ _ (by rw [hdl,hcur,<-Nat.add_mul];exact Nat.mul_le_mul_right _ (by omega))
  refine copy_run Tryz.underlying40 info_M (da:=⟨g,i*3,none⟩) (sa:=⟨vb,0,none⟩) (dn:=n+1-i) (dc:=cap-i) (sn:=1) (sc:=1) (xs:=c) (by rw [hcl,show Nat.min 1 (n+1-i)=1 from Nat.min_eq_left (by omega)]) (hc.cells (kv+1) hkv2) (hc.may 0 rfl _ _ (by rw [hl2,hcl];omega) hc1) ?_ rfl ?_
  ·show Value.slice (if (((cap:Int)-0).toNat:Int)=(i:Int) then (if (cap:Int)=0 then some (⟨g,0,none⟩:Addr) else (some (⟨g,0,none⟩:Addr)).map (·.add ((0:Int).toNat*3))) else (if (cap:Int)=0 then some (⟨g,0,none⟩:Addr) else (some (⟨g,0,none⟩:Addr)).map (·.add ((0:Int).toNat*3))).map (·.add ((i:Int).toNat*3))) (((IntKind.i64.wrap ((n:Int)+((1:Nat):Int))-0).toNat:Int)-(i:Int)).toNat ((((cap:Int)-0).toNat:Int)-(i:Int)).toNat=_
   rw [hcapi,hlen1,hfe,if_neg (by omega),Option.map_some,Addr.add_lit,Nat.zero_add,Int.toNat_natCast]
   congr 1<;>omega
  intro w3 h3
  have hC3:=hc.set 0 rfl h3
  have hc:=hC3.1
  have hput2:=putAt_eq c (putAt cur ((i+1)*3) (css.drop i).flatten) (i*3) (by rw [hl2,hcl];omega)
  have hfin:(putAt (putAt cur ((i+1)*3) (css.drop i).flatten) (i*3) c).take ((n+1)*3)=(css.take i).flatten++c++(css.drop i).flatten:=by
   have e1:(putAt cur ((i+1)*3) (css.drop i).flatten).take (i*3)=(css.take i).flatten:=by
    rw [hput,List.append_assoc,List.take_append_of_le_length (by rw [List.length_take,hcur];omega),List.take_take,Nat.min_eq_left (by omega),htake]
   have e2:(putAt cur ((i+1)*3) (css.drop i).flatten).drop (i*3+c.length)=(css.drop i).flatten++cur.drop ((i+1)*3+(css.drop i).flatten.length):=by
    rw [hput,List.append_assoc,List.drop_left' (by rw [List.length_take,hcur,hcl];omega)]
   rw [hput2,e1,e2,<-List.append_assoc,List.take_left' (by rw [List.length_append,List.length_append,htl,hcl,hdl];omega)]
  obtain⟨hc,ho⟩:=Ctx.closed hc 3 (n+1) cap hroom f2 (by rw [putAt_len,hl2])
  rw [hfin] at ho
  refine⟨some ⟨g,0,none⟩,cap,?_,hc,((Fut.refl S w).trans ⟨fun _ h=>h,fun _ _=>rfl⟩).trans (hC.2.trans hC3.2),ho⟩
  show Ending.returned (.slice (if (cap:Int)=0 then some (⟨g,0,none⟩:Addr) else (some (⟨g,0,none⟩:Addr)).map (·.add ((0:Int).toNat*3))) (IntKind.i64.wrap ((n:Int)+((1:Nat):Int))-0).toNat ((cap:Int)-0).toNat)=_
  have e1:(IntKind.i64.wrap ((n:Int)+((1:Nat):Int))-0).toNat=n+1:=by rw [hw1];omega
  have e2:((cap:Int)-0).toNat=cap:=by omega
  rw [hfe,e1,e2]
theorem overE_run (w:World) (vb g T T' la ca lb cb:Nat) (b:Addr) (c cur:List Value) (hv:Blk w vb T c) (hg:Blk w g T' cur) (hb:b.block=g) (hne:vb≠g) (hcur:cur.length≠0) {y:Value} (ey:y=.slice (some b) lb cb):
  (callFunc 213 #[.slice (some ⟨vb,0,none⟩) la ca,y]).run Tryz.prog w=.ok (.value (.bool false)) w:=by
 subst ey
 rw [run_callFunc_extern Tryz.func213 (by kernel_rfl) (by kernel_rfl) (by kernel_rfl) (show Extern.find _=some (Extern.SlicesOverlaps.overlaps #[39,39] #[4]) by kernel_rfl)]
 rw [Lib.run_overlaps_apart w 39 4 50 Tryz.underlying39 2 (fun w=>by kernel_rfl) ⟨vb,0,none⟩ b la ca lb cb (by rw [hb];exact hne) T T' c.length cur.length (Blk.shape hv) (by rw [hb];exact Blk.shape hg) hcur (hv.frozen 0) (hv.frozen c.length)]
 rfl
set_option maxHeartbeats 1000000 in
theorem insertE_any {S0 S:Nat->Prop} {w0 w:World} {l:List LB} (hc:Ctx S0 w0 S w l) (css:List (List Value)) (hF:Flat 2 css) (hn:css.length<=1000000) {A:Option Addr} {cap:Nat} (ho:Own S w0.heap.size w l 50 2 A css.length cap css.flatten)
  (i:Nat) (hi:i<=css.length) (kv vb:Nat) (c:List Value) (hkv:l[kv]?=some (vb,50,c)) (hcl:c.length=2) (hc1:allOne c=true):
  Calls Tryz.prog 185 #[.slice A css.length cap,.int .i64 i,.slice (some ⟨vb,0,none⟩) 1 1] w (fun en w'=>∃ A' cap',en=.returned (.slice A' (css.length+1) cap')/\Ctx S0 w0 S w' l/\Fut S w S w'/\Own S w0.heap.size w' l 50 2 A' (css.length+1) cap' ((css.take i).flatten++c++(css.drop i).flatten)):=by
 obtain⟨f1,f2⟩:=ho.fit
 have hM:cap<=9223372036854775807:=Nat.le_trans f2 (by decide)
 have hlen:=hF.len
 generalize hnn:css.length=n at*
 refine vE Tryz.func185 ?_
 refine⟨⟨by omega,by omega,by omega,by omega⟩,?_⟩
 rcases Nat.lt_or_ge i n with hlt | hge
 rotate_left
 ·have hin:i=n:=by omega
  subst hin
  refine split_t (by show ((i:Int)==(i:Int))=true;simp) ?_
  refine app_own Tryz.underlying39 info_E rfl (by decide) hc ho (ys:=c) (by rw [hcl]) (hc.cells kv hkv) hc1 (by omega) (by decide) ?_
  intro A' cap' w1 hc1 hf ho _
  refine⟨A',cap',rfl,hc1,hf,?_⟩
  rw [List.take_of_length_le (by omega),List.drop_of_length_le (by omega),List.flatten_nil,List.append_nil]
  exact ho
 refine split_f (by show ((i:Int)==(n:Int))=false;rw [beq_eq_false_iff_ne];omega) ?_
 cases hA:A with
 | none=>
  obtain⟨h0,_⟩:=ho.none' hA
  omega
 | some a=>
 obtain⟨g,cur,e1,hc,hcur,hct,_,_⟩:=ho.opened hc hA
 rw [hA] at e1
 cases e1
 have hkv1:((g,50,cur)::l)[kv+1]?=some (vb,50,c):=by simpa using hkv
 have hne:vb≠g:=(ho.out _ hA).2 _ (List.mem_of_getElem? hkv)
 have hw1:IntKind.i64.wrap ((n:Int)+((1:Nat):Int))=(n:Int)+1:=wrap_add _ _ (by omega) (by omega)
 have hwi:IntKind.i64.wrap ((i:Int)+((1:Nat):Int))=(i:Int)+1:=wrap_add _ _ (by omega) (by omega)
 have htl:(css.take i).flatten.length=i*2:=by rw [(hF.take _).len,List.length_take];omega
 have hdl:(css.drop i).flatten.length=(n-i)*2:=by rw [(hF.drop _).len,List.length_drop];omega
 have htake:cur.take (i*2)=(css.take i).flatten:=by rw [hF.flat_take,<-hct,List.take_take];congr 1;omega
 have hdrop:(cur.drop (i*2)).take (css.drop i).flatten.length=(css.drop i).flatten:=by
  rw [hF.flat_drop,<-hct,List.drop_take,List.length_take,List.length_drop,hcur]
  congr 1
  omega
 refine⟨_,fun w=>cap_run Tryz.underlying39 _ _ _ w,?_⟩
 rcases Nat.lt_or_ge cap (n+1) with hroom | hroom
 ·refine split_t (decide_eq_true (by rw [hw1];omega)) ?_
  have hfe:(if (cap:Int)=0 then some (⟨g,0,none⟩:Addr) else (some (⟨g,0,none⟩:Addr)).map (·.add ((0:Int).toNat*2)))=some ⟨g,0,none⟩:=front_eq _ _ _
  refine⟨⟨by omega,by omega,by omega,by omega⟩,?_⟩
  have hkk:IntKind.i64.wrap (IntKind.i64.wrap ((n:Int)+((1:Nat):Int))-(i:Int))=((n+1-i:Nat):Int):=by rw [hw1,IntWalk.i64_in _ ⟨by omega,by omega⟩];omega
  refine app_zeros Tryz.underlying39 Tryz.underlying3 info_E rfl (by decide) hc hcur (n:=i) (k:=n+1-i) (kq:=.i64) (by omega) (by omega) (by omega) (by omega) (by decide) ?_ (congrArg _ hkk) ?_
  ·show Value.slice (if (cap:Int)=0 then some (⟨g,0,none⟩:Addr) else (some (⟨g,0,none⟩:Addr)).map (·.add ((0:Int).toNat*2))) ((i:Int)-0).toNat ((cap:Int)-0).toNat=_
   rw [hfe]
   congr 1<;>omega
  intro g2 cap2 cur2 w2 hc hf2 hcl2 hcap2 hmx2 htk2
  have hkv2:((g2,50,cur2)::(g,50,cur)::l)[kv+2]?=some (vb,50,c):=by simpa using hkv
  have hlen2:i+(n+1-i)=n+1:=by omega
  have hM2:cap2<=9223372036854775807:=Nat.le_trans hmx2 (by decide)
  refine⟨⟨by omega,by omega,by omega,by omega⟩,?_⟩
  refine copy_run Tryz.underlying39 info_E (da:=⟨g2,i*2,none⟩) (sa:=⟨vb,0,none⟩) (dn:=n+1-i) (dc:=cap2-i) (sn:=1) (sc:=1) (xs:=c) (by rw [hcl,show Nat.min 1 (n+1-i)=1 from Nat.min_eq_left (by omega)]) (hc.cells (kv+2) hkv2) (hc.may 0 rfl _ _ (by rw [hcl2,hcl];omega) hc1) ?_ rfl ?_
  ·show Value.slice (if (cap2:Int)=(i:Int) then some (⟨g2,0,none⟩:Addr) else (some (⟨g2,0,none⟩:Addr)).map (·.add ((i:Int).toNat*2))) (((i+(n+1-i):Nat):Int)-(i:Int)).toNat ((cap2:Int)-(i:Int)).toNat=_
   rw [back_eq g2 cap2 2 (i:Int) i rfl (by omega)]
   congr 1<;>omega
  intro w3 h3
  have hC3:=hc.set 0 rfl h3
  have hc:=hC3.1
  have hl3:(putAt cur2 (i*2) c).length=cap2*2:=by rw [putAt_len,hcl2]
  refine vD (.Q [0,1,2,3,4,5,6,7] (.n 8 .fin .stop)) (fun _=>True) trivial ?_
  have hc:=hc.drew
  refine⟨⟨by rw [hwi];omega,by rw [hwi];omega,by omega,by omega⟩,?_⟩
  refine⟨⟨by omega,by omega,by omega,by omega⟩,?_⟩
  refine⟨copy_run Tryz.underlying39 info_E (da:=⟨g2,(i+1)*2,none⟩) (sa:=⟨g,i*2,none⟩) (dn:=n-i) (dc:=cap2-(i+1)) (sn:=n-i) (sc:=cap-i) (xs:=(css.drop i).flatten) (by rw [show Nat.min (n-i) (n-i)=n-i from Nat.min_self _,hdl]) (hc.cellsAt 1 rfl _ _ hdrop) (hc.may 0 rfl _ _ (by rw [hdl,hl3,<-Nat.add_mul];exact Nat.mul_le_mul_right _ (by omega)) (hF.drop _).ones) ?_ ?_ ?_,trivial⟩
  ·show Value.slice (if (cap2:Int)=(IntKind.i64.wrap ((i:Int)+((1:Nat):Int))) then some (⟨g2,0,none⟩:Addr) else (some (⟨g2,0,none⟩:Addr)).map (·.add ((IntKind.i64.wrap ((i:Int)+((1:Nat):Int))).toNat*2))) (((i+(n+1-i):Nat):Int)-(IntKind.i64.wrap ((i:Int)+((1:Nat):Int)))).toNat ((cap2:Int)-(IntKind.i64.wrap ((i:Int)+((1:Nat):Int)))).toNat=_
   rw [back_eq g2 cap2 2 (IntKind.i64.wrap ((i:Int)+((1:Nat):Int))) (i+1) (by rw [hwi];rfl) (by omega),hwi]
   congr 1<;>omega
  ·show Value.slice (if (cap:Int)=(i:Int) then some (⟨g,0,none⟩:Addr) else (some (⟨g,0,none⟩:Addr)).map (·.add ((i:Int).toNat*2))) ((n:Int)-(i:Int)).toNat ((cap:Int)-(i:Int)).toNat=_
   rw [back_eq g cap 2 (i:Int) i rfl (by omega)]
   congr 1<;>omega
  intro w4 h4
  refine⟨trivial,?_⟩
  have hC4:=hc.set 0 rfl h4
  have hc:=hC4.1
  have hput:=putAt_eq c cur2 (i*2) (by rw [hcl2,hcl];omega)
  have hput2:=putAt_eq (css.drop i).flatten (putAt cur2 (i*2) c) ((i+1)*2) (by rw [hdl,hl3,<-Nat.add_mul];exact Nat.mul_le_mul_right _ (by omega))
  have hfin:(putAt (putAt cur2 (i*2) c) ((i+1)*2) (css.drop i).flatten).take ((n+1)*2)=(css.take i).flatten++c++(css.drop i).flatten:=by
   have e1:(putAt cur2 (i*2) c).take ((i+1)*2)=(css.take i).flatten++c:=by
    rw [hput,htk2,htake,List.take_left' (by rw [List.length_append,htl,hcl];omega)]
   rw [hput2,e1,List.take_left' (by rw [List.length_append,List.length_append,htl,hcl,hdl];omega)]
  obtain⟨hc,ho⟩:=Ctx.closed hc 2 (n+1) cap2 (by omega) hmx2 (by rw [putAt_len,hl3])
  rw [hfin] at ho
  refine⟨some ⟨g2,0,none⟩,cap2,?_,hc.drop,hf2.trans (hC3.2.trans hC4.2),ho.drop⟩
  show Ending.returned (.slice (some ⟨g2,0,none⟩) (i+(n+1-i)) cap2)=_
  rw [hlen2]
 ·refine split_f (decide_eq_false (by rw [hw1];omega)) ?_
  have hcapi:(((cap:Int)-0).toNat:Int)=cap:=by omega
  have hlen1:((IntKind.i64.wrap ((n:Int)+((1:Nat):Int))-0).toNat:Int)=n+1:=by rw [hw1];omega
  refine⟨⟨by omega,by rw [hw1];omega,by rw [hw1];omega,by omega⟩,?_⟩
  have hfe:(if (cap:Int)=0 then some (⟨g,0,none⟩:Addr) else (some (⟨g,0,none⟩:Addr)).map (·.add ((0:Int).toNat*2)))=some ⟨g,0,none⟩:=front_eq _ _ _
  refine⟨⟨by rw [hwi];omega,by rw [hwi,hw1];omega,by rw [hw1];omega,by omega⟩,?_⟩
  have hB1:=hc.blk 0 rfl
  have hBv:=hc.blk (kv+1) hkv1
  refine⟨_,_,overE_run w vb g _ _ 1 1 (n-i) (cap-(i+1)) ⟨g,(i+1)*2,none⟩ c cur hBv hB1 rfl hne (by rw [hcur];omega) (ey:=?ey),?_⟩
  case ey=>
   show Value.slice (if (((cap:Int)-0).toNat:Int)=(IntKind.i64.wrap ((i:Int)+((1:Nat):Int))) then (if (cap:Int)=0 then some (⟨g,0,none⟩:Addr) else (some (⟨g,0,none⟩:Addr)).map (·.add ((0:Int).toNat*2))) else (if (cap:Int)=0 then some (⟨g,0,none⟩:Addr) else (some (⟨g,0,none⟩:Addr)).map (·.add ((0:Int).toNat*2))).map (·.add ((IntKind.i64.wrap ((i:Int)+((1:Nat):Int))).toNat*2))) (((IntKind.i64.wrap ((n:Int)+((1:Nat):Int))-0).toNat:Int)-(IntKind.i64.wrap ((i:Int)+((1:Nat):Int)))).toNat ((((cap:Int)-0).toNat:Int)-(IntKind.i64.wrap ((i:Int)+((1:Nat):Int)))).toNat=_
   rw [hwi,hcapi,hlen1,hfe,if_neg (by omega),Option.map_some,Addr.add_lit,Nat.zero_add,show ((i:Int)+1).toNat=i+1 by omega]
   congr 1<;>omega
  refine vD (.Q [0,1,2,3,4,5,6,7] (.n 8 .fin .stop)) (fun _=>True) trivial ?_
  have hc:=hc.drew
  refine⟨⟨by rw [hwi];omega,by rw [hwi,hw1];omega,by rw [hw1];omega,by omega⟩,?_⟩
  refine⟨⟨by omega,by rw [hw1];omega,by rw [hw1];omega,by omega⟩,?_⟩
  refine⟨?_,trivial⟩
  have hmn:Nat.min (n+1-i) (n-i)=n-i:=Nat.min_eq_right (by omega)
  refine copy_run Tryz.underlying39 info_E (da:=⟨g,(i+1)*2,none⟩) (sa:=⟨g,i*2,none⟩) (dn:=n-i) (dc:=cap-(i+1)) (sn:=n+1-i) (sc:=cap-i) (xs:=(css.drop i).flatten) (by rw [hmn,hdl]) (hc.cellsAt 0 rfl _ _ hdrop) (hc.may 0 rfl _ _ (by rw [hdl,hcur,<-Nat.add_mul];exact Nat.mul_le_mul_right _ (by omega)) (hF.drop _).ones) ?_ ?_ ?_
  ·show Value.slice (if (((cap:Int)-0).toNat:Int)=(IntKind.i64.wrap ((i:Int)+((1:Nat):Int))) then (if (cap:Int)=0 then some (⟨g,0,none⟩:Addr) else (some (⟨g,0,none⟩:Addr)).map (·.add ((0:Int).toNat*2))) else (if (cap:Int)=0 then some (⟨g,0,none⟩:Addr) else (some (⟨g,0,none⟩:Addr)).map (·.add ((0:Int).toNat*2))).map (·.add ((IntKind.i64.wrap ((i:Int)+((1:Nat):Int))).toNat*2))) (((IntKind.i64.wrap ((n:Int)+((1:Nat):Int))-0).toNat:Int)-(IntKind.i64.wrap ((i:Int)+((1:Nat):Int)))).toNat ((((cap:Int)-0).toNat:Int)-(IntKind.i64.wrap ((i:Int)+((1:Nat):Int)))).toNat=_
   rw [hwi,hcapi,hlen1,hfe,if_neg (by omega),Option.map_some,Addr.add_lit,Nat.zero_add,show ((i:Int)+1).toNat=i+1 by omega]
   congr 1<;>omega
  ·show Value.slice (if (((cap:Int)-0).toNat:Int)=(i:Int) then (if (cap:Int)=0 then some (⟨g,0,none⟩:Addr) else (some (⟨g,0,none⟩:Addr)).map (·.add ((0:Int).toNat*2))) else (if (cap:Int)=0 then some (⟨g,0,none⟩:Addr) else (some (⟨g,0,none⟩:Addr)).map (·.add ((0:Int).toNat*2))).map (·.add ((i:Int).toNat*2))) (((IntKind.i64.wrap ((n:Int)+((1:Nat):Int))-0).toNat:Int)-(i:Int)).toNat ((((cap:Int)-0).toNat:Int)-(i:Int)).toNat=_
   rw [hcapi,hlen1,hfe,if_neg (by omega),Option.map_some,Addr.add_lit,Nat.zero_add,Int.toNat_natCast]
   congr 1<;>omega
  intro w2 h2
  refine⟨trivial,?_⟩
  have hC:=hc.set 0 rfl h2
  have hc:=hC.1
  refine⟨⟨by omega,by rw [hw1];omega,by rw [hw1];omega,by omega⟩,?_⟩
  have hkv2:(setLoc ((g,50,cur)::l) 0 (putAt cur ((i+1)*2) (css.drop i).flatten))[kv+1]?=some (vb,50,c):=hkv1
  have hl2:(putAt cur ((i+1)*2) (css.drop i).flatten).length=cap*2:=by rw [putAt_len,hcur]
  have hput:putAt cur ((i+1)*2) (css.drop i).flatten=cur.take ((i+1)*2)++(css.drop i).flatten++cur.drop ((i+1)*2+(css.drop i).flatten.length):=putAt_eq _ _ _ (by rw [hdl,hcur,<-Nat.add_mul];exact Nat.mul_le_mul_right _ (by omega))
  refine copy_run Tryz.underlying39 info_E (da:=⟨g,i*2,none⟩) (sa:=⟨vb,0,none⟩) (dn:=n+1-i) (dc:=cap-i) (sn:=1) (sc:=1) (xs:=c) (by rw [hcl,show Nat.min 1 (n+1-i)=1 from Nat.min_eq_left (by omega)]) (hc.cells (kv+1) hkv2) (hc.may 0 rfl _ _ (by rw [hl2,hcl];omega) hc1) ?_ rfl ?_
  ·show Value.slice (if (((cap:Int)-0).toNat:Int)=(i:Int) then (if (cap:Int)=0 then some (⟨g,0,none⟩:Addr) else (some (⟨g,0,none⟩:Addr)).map (·.add ((0:Int).toNat*2))) else (if (cap:Int)=0 then some (⟨g,0,none⟩:Addr) else (some (⟨g,0,none⟩:Addr)).map (·.add ((0:Int).toNat*2))).map (·.add ((i:Int).toNat*2))) (((IntKind.i64.wrap ((n:Int)+((1:Nat):Int))-0).toNat:Int)-(i:Int)).toNat ((((cap:Int)-0).toNat:Int)-(i:Int)).toNat=_
   rw [hcapi,hlen1,hfe,if_neg (by omega),Option.map_some,Addr.add_lit,Nat.zero_add,Int.toNat_natCast]
   congr 1<;>omega
  intro w3 h3
  have hC3:=hc.set 0 rfl h3
  have hc:=hC3.1
  have hput2:=putAt_eq c (putAt cur ((i+1)*2) (css.drop i).flatten) (i*2) (by rw [hl2,hcl];omega)
  have hfin:(putAt (putAt cur ((i+1)*2) (css.drop i).flatten) (i*2) c).take ((n+1)*2)=(css.take i).flatten++c++(css.drop i).flatten:=by
   have e1:(putAt cur ((i+1)*2) (css.drop i).flatten).take (i*2)=(css.take i).flatten:=by
    rw [hput,List.append_assoc,List.take_append_of_le_length (by rw [List.length_take,hcur];omega),List.take_take,Nat.min_eq_left (by omega),htake]
   have e2:(putAt cur ((i+1)*2) (css.drop i).flatten).drop (i*2+c.length)=(css.drop i).flatten++cur.drop ((i+1)*2+(css.drop i).flatten.length):=by
    rw [hput,List.append_assoc,List.drop_left' (by rw [List.length_take,hcur,hcl];omega)]
   rw [hput2,e1,e2,<-List.append_assoc,List.take_left' (by rw [List.length_append,List.length_append,htl,hcl,hdl];omega)]
  obtain⟨hc,ho⟩:=Ctx.closed hc 2 (n+1) cap hroom f2 (by rw [putAt_len,hl2])
  rw [hfin] at ho
  refine⟨some ⟨g,0,none⟩,cap,?_,hc,((Fut.refl S w).trans ⟨fun _ h=>h,fun _ _=>rfl⟩).trans (hC.2.trans hC3.2),ho⟩
  show Ending.returned (.slice (if (cap:Int)=0 then some (⟨g,0,none⟩:Addr) else (some (⟨g,0,none⟩:Addr)).map (·.add ((0:Int).toNat*2))) (IntKind.i64.wrap ((n:Int)+((1:Nat):Int))-0).toNat ((cap:Int)-0).toNat)=_
  have e1:(IntKind.i64.wrap ((n:Int)+((1:Nat):Int))-0).toNat=n+1:=by rw [hw1];omega
  have e2:((cap:Int)-0).toNat=cap:=by omega
  rw [hfe,e1,e2]
set_option maxRecDepth 100000
def idxP (p:Mem->Bool):List Mem->Option Nat
 | []=>none
 | m::r=>if p m then some 0 else (idxP p r).map (·+1)
theorem idxP_none (p:Mem->Bool):∀ l:List Mem,(∀ j (h:j<l.length),p l[j]=false)->idxP p l=none
 | [],_=>rfl
 | m::r,h=>by
  have h0:p m=false:=h 0 (by simp)
  rw [idxP,h0,idxP_none p r (fun j hj=>h (j+1) (by simpa using hj))]
  rfl
theorem idxP_some (p:Mem->Bool):∀ (l:List Mem) (i:Nat) (hi:i<l.length),p l[i]=true->(∀ j (h:j<l.length),j<i->p l[j]=false)->idxP p l=some i
 | m::r,0,hi,hp,_=>by
  have h0:p m=true:=hp
  rw [idxP,h0]
  rfl
 | m::r,i+1,hi,hp,h=>by
  have h0:p m=false:=h 0 (by simp) (by omega)
  rw [idxP,h0,idxP_some p r i (by simpa using hi) (by simpa using hp) (fun j hj hlt=>h (j+1) (by simpa using hj) (by omega))]
  rfl
theorem idxP_lt (p:Mem->Bool):∀ (l:List Mem) (i:Nat),idxP p l=some i->i<l.length/\(l.take i).filter (fun m=>!p m)=l.take i/\(∃ h:i<l.length,p l[i]=true)
 | [],i,h=>by cases h
 | m::r,i,h=>by
  unfold idxP at h
  split at h
  ·cases h
   exact⟨by simp,rfl,by simp,by assumption⟩
  ·rename_i hp
   cases e:idxP p r with
   | none=>rw [e] at h;cases h
   | some k=>
    rw [e] at h
    cases h
    obtain⟨h1,h2,h3,h4⟩:=idxP_lt p r k e
    refine⟨by simpa using h1,?_,by simpa using h1,by simpa using h4⟩
    have hp':p m=false:=by simpa using hp
    show List.filter (fun m=>!p m) (m::r.take k)=m::r.take k
    rw [List.filter_cons,hp',h2]
    rfl
theorem filter_all {p:Mem->Bool}:∀ l:List Mem,idxP p l=none->l.filter (fun m=>!p m)=l
 | [],_=>rfl
 | m::r,h=>by
  unfold idxP at h
  split at h
  ·cases h
  ·rename_i hp
   have hp':p m=false:=by simpa using hp
   rw [List.filter_cons,hp',filter_all r (by cases e:idxP p r with | none=>rfl | some k=>rw [e] at h;cases h)]
   rfl
theorem indexFuncM2_any (p:Mem->Bool) (a b:Addr) (l:List Mem) (A:Option Addr) (cap:Nat) (S:Nat->Prop) (w:World) (hR:Row S w A l.length cap (l.map memC).flatten)
  (hp:∀ m w',Below w.heap.size w w'->Calls Tryz.prog 137 #[.agg (memC m).toArray,.pointer (some a),.pointer (some b)] w' (RetB (.bool (p m)) w')):
  Calls Tryz.prog 188 #[.slice A l.length cap,.func (.func 137) #[] #[.pointer (some a),.pointer (some b)]] w (RetB (.int .i64 (idxI (idxP p l))) w):=by
 refine vE Tryz.func188 ?_
 have hM:=row_max hR
 refine⟨Nat,fun i=>[(0,.slice A l.length cap),(1,.func (.func 137) #[] #[.pointer (some a),.pointer (some b)]),(7,.int .i64 l.length),(8,.int .i64 i)],
  fun i w'=>i<=l.length/\(∀ j (hj:j<l.length),j<i->p l[j]=false)/\Below w.heap.size w w',fun i _=>l.length-i,0,
  ⟨rfl,rfl,rfl,rfl,trivial⟩,⟨Nat.zero_le _,fun j hj h=>absurd h (Nat.not_lt_zero _),Below.refl _ _⟩,?_⟩
 rintro i w' u ⟨hi,he,hb⟩
 by_cases hlt:i<l.length
 ·refine split_t (decide_eq_true (by omega)) ?_
  obtain⟨ad,rfl,hcell⟩:=RowM.elem (hR.below hb) i hlt
  refine⟨⟨by omega,by omega⟩,?_⟩
  refine⟨memC l[i],rfl,hcell,?_⟩
  refine call_b (hp l[i] w' hb) ?_
  intro w2 h2
  have hb2:=hb.trans (h2.mono hb.size)
  rcases Bool.eq_false_or_eq_true (p l[i]) with hv | hv
  ·refine split_t hv ?_
   refine⟨?_,hb2⟩
   rw [idxP_some p l i hlt hv he]
   rfl
  ·refine split_f hv ?_
   refine⟨i+1,⟨rfl,rfl,rfl,congrArg _ (i_down (by omega)),trivial⟩,⟨hlt,fun j hj h=>?_,hb2⟩,by show l.length-(i+1)<l.length-i;omega⟩
   rcases Nat.lt_succ_iff_lt_or_eq.1 h with h | h
   ·exact he j hj h
   ·subst h;exact hv
 ·refine split_f (decide_eq_false (by omega)) ?_
  refine⟨?_,hb⟩
  rw [idxP_none p l (fun j hj=>he j hj (by omega))]
  rfl
theorem do1_any (m:Mem) (a b:Addr) (low home:Int) (h0:0<=home) (h9:home<100) (w:World) (ha:w.cell? a=some (.int .i64 low)) (hb:w.cell? b=some (.int .i64 home)):
  Calls Tryz.prog 137 #[.agg (memC m).toArray,.pointer (some a),.pointer (some b)] w (RetB (.bool (decide (m.req<low)&&homeI m.req==home+1)) w):=by
 obtain⟨ab,ao,asub⟩:=a
 obtain⟨bb,bo,bsub⟩:=b
 refine vE Tryz.func137 ?_
 intro g w1 h1
 have hc:=((Ctx.start w no (fun _ h=>h.elim)).loc h1).1
 have ha:=cell_later hc.below ha
 have hb:=cell_later hc.below hb
 have hw:IntKind.i64.wrap (home+1)=home+1:=wrap_add _ _ (by omega) (by omega)
 refine vD (.Q [0,1,2,3,4,5,6,8,9] (.n 7 (.Q [10,11,12] .fin) .stop)) (Keeps (fun b=>b<w1.heap.size) w1) (Keeps.start _ _) ?_
 refine⟨_,fun x hx=>hx.look (hc.cell 0 rfl _ rfl),?_⟩
 refine⟨_,fun x hx=>hx.look ha,?_⟩
 by_cases hl:m.req<low
 ·refine split_t (decide_eq_true hl) ?_
  refine⟨_,fun x hx=>hx.look (hc.cell 0 rfl _ rfl),?_⟩
  refine⟨_,fun x hx=>hx.look hb,?_⟩
  refine⟨?_,trivial⟩
  have hc:=hc.drew
  refine hc.q (home_any m.req _) fun w2 h2 hc=>?_
  refine⟨(Keeps.start _ _).below (fun _ h=>h) h2,?_⟩
  refine⟨?_,hc.below⟩
  rw [decide_eq_true hl,hw]
  rfl
 ·refine split_f (decide_eq_false hl) ?_
  have hc:=hc.drew
  refine⟨?_,trivial⟩
  refine⟨?_,hc.below⟩
  rw [decide_eq_false hl]
  rfl
theorem Own.seen {S:Nat->Prop} {w:World} {l:List LB} {e sz:Nat} {A:Option Addr} {n cap:Nat} {xs:List Value} {n0:Nat} (h:Own S n0 w l e sz A n cap xs):Row (fun b=>∃ a,A=some a/\a.block=b) w A n cap xs:=by
 obtain⟨f1,f2⟩:=h.fit
 refine⟨f1,f2,fun hx=>?_⟩
 obtain⟨e0,h3⟩:=h.row
 rcases h3 with ⟨h3,rfl⟩ | ⟨g,cp,cur,e1,_,_,_,_,_,_⟩
 ·rw [Nat.zero_mul] at e0
  exact absurd (List.eq_nil_of_length_eq_zero e0) hx
 ·cases e1
  exact⟨_,rfl,⟨_,rfl,rfl⟩,h.row.cells rfl⟩
theorem zeroCells_one:∀ n:Nat,allOne (Builtin.zeroCells (Value.agg #[.int .i64 0,.int .i64 0,.int .i64 0]).cells n).toList=true:=fun n=>allOne_of fun v hv=>by
 have hv:v∈(Builtin.zeroCells (Value.agg #[.int .i64 0,.int .i64 0,.int .i64 0]).cells n):=by simpa using hv
 unfold Builtin.zeroCells at hv
 rw [Array.mem_map] at hv
 obtain⟨i,_,rfl⟩:=hv
 have hlt:i % 3<3:=Nat.mod_lt _ (by decide)
 show (#[Value.int .i64 0,.int .i64 0,.int .i64 0][i % 3]!).oneCell'=true
 generalize i % 3=k at hlt
 match k,hlt with
 | 0,_=>rfl
 | 1,_=>rfl
 | 2,_=>rfl
theorem memC_take (l:List Mem) (i:Nat):((l.map memC).flatten).take (i*3)=((l.take i).map memC).flatten:=by
 rw [<-(memC_flat l).flat_take,List.map_take]
theorem memC_drop (l:List Mem) (i:Nat):((l.map memC).flatten).drop (i*3)=((l.drop i).map memC).flatten:=by
 rw [<-(memC_flat l).flat_drop,List.map_drop]
theorem putAt_drop (xs cs:List Value) (o d:Nat) (h:o+xs.length<=cs.length) (hd:o+xs.length<=d):(putAt cs o xs).drop d=cs.drop d:=by
 rw [putAt_eq xs cs o h,List.drop_append,List.drop_of_length_le (by rw [List.length_append,List.length_take];omega),List.nil_append,List.drop_drop]
 congr 1
 rw [List.length_append,List.length_take]
 omega
theorem putAt_take (xs cs:List Value) (o:Nat) (h:o+xs.length<=cs.length):(putAt cs o xs).take (o+xs.length)=cs.take o++xs:=by
 rw [putAt_eq xs cs o h,List.take_left' (by rw [List.length_append,List.length_take];omega)]
theorem keepM_snoc (low h:Int) (l:List Mem) (j:Nat) (hj:j<l.length):keepM low h (l.take (j+1))=keepM low h (l.take j)++(if (decide (l[j].req<low)&&homeI l[j].req==h)=true then [] else [l[j]]):=by
 rw [List.take_add_one,List.getElem?_eq_getElem hj]
 unfold keepM
 show List.filter _ (l.take j++[l[j]])=_
 rw [List.filter_append,List.filter_cons]
 cases (decide (l[j].req<low)&&homeI l[j].req==h)<;>rfl
set_option maxHeartbeats 1000000 in
theorem deleteFuncM_any {S0 S:Nat->Prop} {w0 w:World} {l:List LB} (hc:Ctx S0 w0 S w l) (ms:List Mem) (hn:ms.length<=1000000) {A:Option Addr} {cap:Nat} (ho:Own S w0.heap.size w l 56 3 A ms.length cap (ms.map memC).flatten)
  (low home:Int) (h0:0<=home) (h9:home<100) (ka kb ga gb Ta Tb:Nat) (hka:l[ka]?=some (ga,Ta,[.int .i64 low])) (hkb:l[kb]?=some (gb,Tb,[.int .i64 home])):
  Calls Tryz.prog 136 #[.slice A ms.length cap,.func (.func 137) #[] #[.pointer (some ⟨ga,0,none⟩),.pointer (some ⟨gb,0,none⟩)]] w (fun en w'=>∃ A',en=.returned (.slice A' (keepM low (home+1) ms).length cap)/\Ctx S0 w0 S w' l/\Fut S w S w'/\Own S w0.heap.size w' l 56 3 A' (keepM low (home+1) ms).length cap ((keepM low (home+1) ms).map memC).flatten):=by
 refine vE Tryz.func136 ?_
 refine call_b (indexFuncM2_any (fun m=>decide (m.req<low)&&homeI m.req==home+1) ⟨ga,0,none⟩ ⟨gb,0,none⟩ ms A cap _ w (Own.seen ho) (fun m w2 h2=>do1_any m _ _ low home h0 h9 w2 (cell_later h2 (hc.cell ka hka 0 rfl)) (cell_later h2 (hc.cell kb hkb 0 rfl)))) ?_
 intro w1 h1
 have hC1:=hc.quiet h1
 have hc:=hC1.1
 have hf:=hC1.2
 have ho:=ho.quiet h1
 cases hi:idxP (fun m=>decide (m.req<low)&&homeI m.req==home+1) ms with
 | none=>
  have hk:keepM low (home+1) ms=ms:=filter_all ms hi
  rw [hk]
  exact⟨A,rfl,hc,hf,ho⟩
 | some i=>
 obtain⟨hlt,htk,hpi⟩:=idxP_lt _ ms i hi
 cases hA:A with
 | none=>
  obtain⟨hz,_⟩:=ho.none' hA
  omega
 | some a=>
 obtain⟨g,cur,e1,hc,hcur,hct,hnc,hcm⟩:=ho.opened hc hA
 rw [hA] at e1
 cases e1
 have hM:cap<=9223372036854775807:=Nat.le_trans hcm (by decide)
 obtain⟨_,hpi⟩:=hpi
 have hk0:keepM low (home+1) (ms.take (i+1))=ms.take i:=by
  have hg:(decide (ms[i].req<low)&&homeI ms[i].req==home+1)=true:=hpi
  rw [List.take_add_one,List.getElem?_eq_getElem hlt]
  show List.filter _ (ms.take i++[ms[i]])=_
  rw [List.filter_append,htk,List.filter_cons,hg]
  simp
 refine⟨Nat × Nat × List Value,fun x=>[(0,.slice (some ⟨g,0,none⟩) ms.length cap),(1,.func (.func 137) #[] #[.pointer (some ⟨ga,0,none⟩),.pointer (some ⟨gb,0,none⟩)]),(5,.int .i64 x.2.1),(6,.int .i64 x.1)],
  fun x w'=>x.2.1<x.1/\x.1<=ms.length/\(keepM low (home+1) (ms.take x.1)).length=x.2.1/\x.2.2.length=cap*3/\x.2.2.take (x.2.1*3)=((keepM low (home+1) (ms.take x.1)).map memC).flatten/\(x.2.2.take (ms.length*3)).drop (x.1*3)=((ms.drop x.1).map memC).flatten/\Ctx S0 w0 S w' ((g,56,x.2.2)::l)/\Fut S w S w',fun x _=>ms.length-x.1,(i+1,i,cur),
  ⟨rfl,rfl,rfl,congrArg _ (i_down (by omega)),trivial⟩,⟨Nat.lt_succ_self _,hlt,?_,hcur,?_,?_,hc,hf⟩,?_⟩
 ·show (keepM low (home+1) (ms.take (i+1))).length=i
  rw [hk0,List.length_take];omega
 ·rw [hk0,<-memC_take,<-hct,List.take_take]
  show cur.take (i*3)=_
  congr 1
  omega
 ·show (cur.take (ms.length*3)).drop ((i+1)*3)=_
  rw [hct,memC_drop]
 clear hct hcur hc hf
 rintro⟨j,k,cur⟩ w2 u ⟨hkj,hjn,hkl,hcl,hct,hcd,hc,hf⟩
 simp only at hkj hjn hkl hcl hct hcd hc
 rcases Nat.lt_or_ge j ms.length with hj | hj
 ·refine split_t (decide_eq_true (by omega)) ?_
  have hld:(cur.drop (j*3)).take 3=memC ms[j]:=by
   have e0:((cur.take (ms.length*3)).drop (j*3)).take 3=(((ms.drop j).map memC).flatten).take 3:=by rw [hcd]
   rw [List.drop_eq_getElem_cons hj] at e0
   rw [List.drop_take,List.take_take,show min 3 (ms.length*3-j*3)=3 by omega] at e0
   rw [e0]
   rfl
  have hadj:((⟨g,0,none⟩:Addr).add ((j:Int).toNat*3))=⟨g,j*3,none⟩:=by rw [Addr.add_lit,Nat.zero_add,Int.toNat_natCast]
  have hadk:((⟨g,0,none⟩:Addr).add ((k:Int).toNat*3))=⟨g,k*3,none⟩:=by rw [Addr.add_lit,Nat.zero_add,Int.toNat_natCast]
  refine⟨⟨(by first | omega | (simp only;omega)),(by first | omega | (simp only;omega))⟩,?_⟩
  refine⟨memC ms[j],rfl,by rw [hadj];exact hc.cellsAt 0 rfl _ _ hld,?_⟩
  generalize hm:ms[j]=m at*
  intro g7 w7 h7
  have hcf:=hc.loc h7
  have hf:=hf.trans hcf.2
  have hc:=hcf.1
  refine⟨hc.may 0 rfl 0 _ (Nat.le_refl 3) rfl,?_⟩
  intro w8 h8
  have hcf:=hc.set 0 rfl h8
  have hf:=hf.trans hcf.2
  have hc:=hcf.1
  refine⟨memC m,rfl,hc.cells 0 rfl,?_⟩
  refine call_b (do1_any m ⟨ga,0,none⟩ ⟨gb,0,none⟩ low home h0 h9 w8 (hc.cell (ka+2) (show l[ka]?=_ from hka) 0 rfl) (hc.cell (kb+2) (show l[kb]?=_ from hkb) 0 rfl)) ?_
  intro w9 h9
  have hcf:=hc.quiet h9
  have hf:=hf.trans hcf.2
  have hc:=hcf.1
  have hks:=keepM_snoc low (home+1) ms j hj
  rw [hm] at hks
  have hcd1:(cur.take (ms.length*3)).drop ((j+1)*3)=((ms.drop (j+1)).map memC).flatten:=by
   rw [show (j+1)*3=j*3+3 by omega,<-List.drop_drop,hcd,List.drop_eq_getElem_cons hj]
   rfl
  rcases Bool.eq_false_or_eq_true (decide (m.req<low)&&homeI m.req==home+1) with hq | hq
  ·refine split_f (by show (!(decide (m.req<low)&&homeI m.req==home+1))=false;rw [hq];rfl) ?_
   rw [hq,if_pos rfl,List.append_nil] at hks
   refine⟨(j+1,k,cur),⟨rfl,rfl,rfl,congrArg _ (i_down (by first | omega | (simp only;omega))),trivial⟩,⟨Nat.lt_succ_of_lt hkj,hj,by rw [hks];exact hkl,hcl,by rw [hks];exact hct,hcd1,hc.drop,hf⟩,by show ms.length-(j+1)<ms.length-j;omega⟩
  ·refine split_t (by show (!(decide (m.req<low)&&homeI m.req==home+1))=true;rw [hq];rfl) ?_
   rw [hq,if_neg (by decide)] at hks
   refine⟨memC m,rfl,hc.cells 0 rfl,?_⟩
   refine⟨⟨(by first | omega | (simp only;omega)),(by first | omega | (simp only;omega))⟩,?_⟩
   generalize hae:((⟨g,0,none⟩:Addr).add ((k:Int).toNat*3))=ae
   rw [hadk] at hae
   subst hae
   refine⟨hc.may 1 rfl (k*3) (memC m) (by show k*3+3<=cur.length;omega) rfl,?_⟩
   intro w10 h10
   have hcf:=hc.set 1 rfl h10
   have hf:=hf.trans hcf.2
   have hc:=hcf.1
   have hfit:k*3+(memC m).length<=cur.length:=by show k*3+3<=cur.length;omega
   refine⟨(j+1,k+1,putAt cur (k*3) (memC m)),⟨rfl,rfl,congrArg _ (i_down (by first | omega | (simp only;omega))),congrArg _ (i_down (by first | omega | (simp only;omega))),trivial⟩,⟨Nat.succ_lt_succ hkj,hj,by rw [hks,List.length_append,hkl];rfl,by rw [putAt_len];exact hcl,?_,?_,hc.drop,hf⟩,by show ms.length-(j+1)<ms.length-j;omega⟩
   ·show (putAt cur (k*3) (memC m)).take ((k+1)*3)=_
    rw [show (k+1)*3=k*3+(memC m).length by show _=k*3+3;omega,putAt_take _ _ _ hfit,hct,hks,List.map_append,List.flatten_append]
    simp
   ·show ((putAt cur (k*3) (memC m)).take (ms.length*3)).drop ((j+1)*3)=_
    rw [List.drop_take,putAt_drop _ _ _ _ hfit (by show k*3+3<=_;omega),<-List.drop_take,hcd1]
 ·refine split_f (decide_eq_false (by omega)) ?_
  have hjn:j=ms.length:=by omega
  subst hjn
  rw [List.take_length] at hkl hct
  refine⟨⟨(by first | omega | (simp only;omega)),(by first | omega | (simp only;omega)),(by first | omega | (simp only;omega)),(by first | omega | (simp only;omega))⟩,?_⟩
  have hzl:(Builtin.zeroCells (Value.agg #[.int .i64 0,.int .i64 0,.int .i64 0]).cells (ms.length-k)).toList.length=(ms.length-k)*3:=by rw [Array.length_toList,size_zeroCells];rfl
  refine clear_run Tryz.underlying40 (z:=.agg #[.int .i64 0,.int .i64 0,.int .i64 0]) (fun w=>by kernel_rfl) (a:=⟨g,k*3,none⟩) (n:=ms.length-k) (c:=cap-k) (by omega) ?_ rfl (hc.may 0 rfl (k*3) _ (by rw [hzl];show _<=cur.length;omega) (zeroCells_one _)) ?_
  ·show Value.slice (if (cap:Int)=(k:Int) then some (⟨g,0,none⟩:Addr) else (some (⟨g,0,none⟩:Addr)).map (·.add ((k:Int).toNat*3))) ((ms.length:Int)-(k:Int)).toNat ((cap:Int)-(k:Int)).toNat=_
   rw [back_eq g cap 3 (k:Int) k rfl (by omega)]
   congr 1<;>omega
  intro w3 h3
  have hC:=hc.set 0 rfl h3
  have hc:=hC.1
  refine⟨⟨(by first | omega | (simp only;omega)),(by first | omega | (simp only;omega)),(by first | omega | (simp only;omega)),(by first | omega | (simp only;omega))⟩,?_⟩
  obtain⟨hc,ho⟩:=Ctx.closed hc 3 k cap (by omega) hcm (by rw [putAt_len,hcl])
  rw [putAt_eq _ _ _ (by rw [hzl];omega),List.append_assoc,List.take_left' (by rw [List.length_take];omega),hct] at ho
  refine⟨some ⟨g,0,none⟩,?_,hc,hf.trans hC.2,?_⟩
  ·rw [hkl]
   show Ending.returned (Value.slice (if (cap:Int)=0 then some (⟨g,0,none⟩:Addr) else (some (⟨g,0,none⟩:Addr)).map (·.add ((0:Int).toNat*3))) ((k:Int)-0).toNat ((cap:Int)-0).toNat)=_
   rw [front_eq]
   congr 2<;>omega
  ·rw [hkl];exact ho
end Go.Proofs.YtokglimimnelaaaGreatDoor
