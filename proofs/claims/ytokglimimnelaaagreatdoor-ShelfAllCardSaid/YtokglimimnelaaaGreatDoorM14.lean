import Derived.Test.YtokglimimnelaaaGreatDoorM13
set_option linter.unusedVariables false
set_option linter.unusedSimpArgs false
namespace Go.Proofs.YtokglimimnelaaaGreatDoor
open Go.Vc Go.RowKit Go.Fl Go.ChangeShapes Go.WideShapes Go.ChangeAt
set_option maxRecDepth 100000
def lkC (k:Known) (x:SX) (A:Option Addr) (cap:Nat):List Value:=[.int .i64 0,.int .i64 k.b.seq,.slice x.A k.b.l.length x.cap,.slice x.B k.b.ms.length x.cap',.int .i64 x.l0,.int .i64 x.l1,.int .i64 x.l2,.int .i64 x.l3,.int .i64 x.l4,.slice A k.pend.length cap,.int .i64 k.ep,.int .i64 0,.slice none 0 0,.int .i64 0,.int .i64 0,.int .i64 k.ln,.slice none 0 0,.slice none 0 0]
def AtK (b o:Nat) (cs:List Value):Kn:=fun S w=>S b/\Go.Vc.cellsAt w ⟨b,o,none⟩ cs 0
theorem AtK.stab (b o:Nat) (cs:List Value):Stab (AtK b o cs):=stab_at ⟨b,o,none⟩ cs
theorem cells_get {w:World} {a:Addr}:∀ (cs:List Value) (i j:Nat) (v:Value),Go.Vc.cellsAt w a cs i->cs[j]?=some v->w.cell? (a.add (i+j))=some v
 | c::r,i,0,v,h,e=>by cases e;exact h.1
 | c::r,i,j+1,v,h,e=>by
  have:=cells_get r (i+1) j v h.2 e
  rw [show i+(j+1)=i+1+j from by omega]
  exact this
theorem AtK.cell {b o:Nat} {cs:List Value} {S:Nat->Prop} {w:World} (h:AtK b o cs S w) (j:Nat) {v:Value} (e:cs[j]?=some v):w.cell? ⟨b,o+j,none⟩=some v:=by
 have:=cells_get cs 0 j v h.2 e
 rw [Addr.add_lit,Nat.zero_add] at this
 exact this
theorem at_cells {w:World} {b o:Nat}:∀ (cs:List Value) (i:Nat),(∀ j v,cs[j]?=some v->w.cell? ⟨b,o+(i+j),none⟩=some v)->Go.Vc.cellsAt w ⟨b,o,none⟩ cs i
 | [],_,_=>trivial
 | c::r,i,h=>⟨by rw [Addr.add_lit];exact h 0 c rfl,at_cells r (i+1) fun j v e=>by have:=h (j+1) v e;rw [show i+(j+1)=i+1+j from by omega] at this;exact this⟩
theorem AtK.cells {b o:Nat} {cs:List Value} {S:Nat->Prop} {w:World} (h:AtK b o cs S w) (j:Nat) (ys:List Value) (e:(cs.drop j).take ys.length=ys):Go.Vc.cellsAt w ⟨b,o+j,none⟩ ys 0:=by
 refine at_cells ys 0 fun i v hv=>?_
 have h1:cs[j+i]?=some v:=by
  rw [<-e,List.getElem?_take] at hv
  split at hv
  ·rw [List.getElem?_drop] at hv
   exact hv
  ·cases hv
 have:=h.cell (j+i) h1
 rw [show o+j+(0+i)=o+(j+i) from by omega]
 exact this
theorem AtK.drew {b o:Nat} {cs:List Value} {S:Nat->Prop} {w z:World} (h:AtK b o cs S w) (hz:Old w z):AtK b o cs S z:=⟨h.1,Old.looks hz h.2⟩
theorem lseq_any (k:Known) (h:k.Ok) (x:SX) (A:Option Addr) (cap b o:Nat) (S:Nat->Prop) (w:World) (hl:AtK b o (lkC k x A cap) S w):Calls Tryz.prog 66 #[.pointer (some ⟨b,o,none⟩)] w (RetB (.int .i64 k.seq) w):=by
 have hs:=h.seq
 have hln:=h.len
 have h0:=(mayS_parts.1 h.may).1.1
 have hm:maxN=1099511627776:=rfl
 refine vE Tryz.func66 ?_
 have hc:=CtxF.start w no (fun _ h=>h.elim) (R:=fun _ _=>True) trivial Stab.true
 have hr:=hc
 refine vD (.Q [0,1,2,3,4,5,6,7,8,9,10,11] .fin) (Old _) (Old.start _) ?_
 have hk:=hc.old0
 have hc:=hc.drew
 refine⟨_,fun z hz=>(hl.drew hz).cell 1 rfl,?_⟩
 refine⟨_,fun z hz=>(hl.drew hz).cell 9 rfl,?_⟩
 refine⟨?_,hc.below⟩
 show Ending.returned (.int .i64 (IntKind.i64.wrap (k.b.seq+(k.pend.length:Int))))=_
 rw [IntWalk.i64_in _ ⟨by omega,by omega⟩]
 rfl
def TwoK (gs gj gc b:Nat) (H:Sh) (k:Known) (x:SX) (A:Option Addr) (cap ab ao:Nat):Kn:=fun S w=>AtK ab ao (lkC k x A cap) S w/\(KnR k x A cap S w/\ShelfK gs gj gc b H S w)
theorem TwoK.stab (gs gj gc b:Nat) (H:Sh) (k:Known) (x:SX) (A:Option Addr) (cap ab ao:Nat):Stab (TwoK gs gj gc b H k x A cap ab ao):=(AtK.stab _ _ _).and ((KnR.stab _ _ _ _).and (ShelfK.stab _ _ _ _ _))
set_option maxHeartbeats 4000000 in
theorem same8_any (gs gj gc b:Nat) (H:Sh) (h:H.Ok) (k:Known) (hk0:k.Ok) (x:SX) (A:Option Addr) (cap ab ao:Nat) (S:Nat->Prop) (w:World) (hlt:∀ x,S x->x<w.heap.size) (hd:H.down=false) (hK:TwoK gs gj gc b H k x A cap ab ao S w):
  Calls Tryz.prog 36 #[.pointer (some ⟨gs,0,none⟩),.pointer (some ⟨ab,ao,none⟩)] w (RetB (.bool (sameK H.k k)) w):=by
 obtain⟨q,hq⟩:∃ q,q=sameK H.k k:=⟨_,rfl⟩
 rw [<-hq]
 unfold sameK at hq
 refine vE Tryz.func36 ?_
 have hc:=CtxF.start w S hlt hK (TwoK.stab _ _ _ _ _ _ _ _ _ _ _)
 have hat:=hK.1
 cases h1:eqS H.k.b k.b with
 | false=>
  rw [h1] at hq
  subst hq
  have hr:=hc
  refine vD (.Q [0,2,3,4,5] (.n 1 (.n 6 (.Q [7,8,10,11,12,13] (.n 9 (.n 14 (.Q [15,16,17,19] (.n 18 (.n 20 (.Q [21,22,23,24,26,27,28,29] (.n 25 (.Q [30,31,32,33,35,36,37,38] (.n 34 (.Q [39,40,41,42] (.n 43 (.Q [44,45,46] .fin) .stop)) .stop)) .stop)) .stop) .stop)) .stop) .stop)) .stop) .stop)) (Old _) (Old.start _) ?_
  have hk:=hc.old0
  have hc:=hc.drew
  refine⟨stX k.b x,rfl,fun z hz=>(hat.drew hz).cells 1 (stX k.b x) rfl,?_⟩
  refine⟨⟨(Book_any gs gj gc b H h _ _ hc.row.2.2).mono fun en wq hq=>?_⟩,trivial⟩
  obtain⟨cB,e1,hq,hrB⟩:=hq
  obtain⟨xB,rfl⟩:=hrB.stX
  have hc:=(hc.call hq).1.know (X:=fun S w=>RepS S w H.k.b (stX H.k.b xB)) (hrB.map fun h=>h.sub fun b h=>h.elim (fun h=>h.elim) .inr) (stab_S _ _)
  have hk:=Keeps.below hk (fun _ h=>h) hq
  refine⟨_,e1,hk,?_⟩
  refine⟨?_,trivial⟩
  have heq:=reqS_any H.k.b k.b _ _ _ _ hc.row.2 hc.row.1.2.1.1
  rw [h1] at heq
  refine hc.q (heq) fun wA hA hc=>?_
  have hk:=Keeps.below hk (fun _ h=>h) hA
  refine⟨hk,?_⟩
  refine⟨?_,trivial⟩
  skip
  refine⟨?_,trivial⟩
  skip
  refine⟨?_,trivial⟩
  skip
  refine⟨?_,trivial⟩
  skip
  refine⟨?_,trivial⟩
  skip
  refine⟨?_,trivial⟩
  skip
  refine⟨?_,trivial⟩
  skip
  exact⟨rfl,hc.below⟩
 | true=>
 cases h2:eqAll eqD H.k.pend k.pend with
 | false=>
  rw [h1,h2] at hq
  subst hq
  have hr:=hc
  refine vD (.Q [0,2,3,4,5] (.n 1 (.n 6 (.Q [7,8,10,11,12,13] (.n 9 (.n 14 (.Q [15,16,17,19] (.n 18 (.n 20 (.Q [21,22,23,24,26,27,28,29] (.n 25 (.Q [30,31,32,33,35,36,37,38] (.n 34 (.Q [39,40,41,42] (.n 43 (.Q [44,45,46] .fin) .stop)) .stop)) .stop)) .stop) .stop)) .stop) .stop)) .stop) .stop)) (Old _) (Old.start _) ?_
  have hk:=hc.old0
  have hc:=hc.drew
  refine⟨stX k.b x,rfl,fun z hz=>(hat.drew hz).cells 1 (stX k.b x) rfl,?_⟩
  refine⟨⟨(Book_any gs gj gc b H h _ _ hc.row.2.2).mono fun en wq hq=>?_⟩,trivial⟩
  obtain⟨cB,e1,hq,hrB⟩:=hq
  obtain⟨xB,rfl⟩:=hrB.stX
  have hc:=(hc.call hq).1.know (X:=fun S w=>RepS S w H.k.b (stX H.k.b xB)) (hrB.map fun h=>h.sub fun b h=>h.elim (fun h=>h.elim) .inr) (stab_S _ _)
  have hk:=Keeps.below hk (fun _ h=>h) hq
  refine⟨_,e1,hk,?_⟩
  refine⟨?_,trivial⟩
  have heq:=reqS_any H.k.b k.b _ _ _ _ hc.row.2 hc.row.1.2.1.1
  rw [h1] at heq
  refine hc.q (heq) fun wA hA hc=>?_
  have hk:=Keeps.below hk (fun _ h=>h) hA
  refine⟨hk,?_⟩
  refine⟨_,fun z hz=>(hat.drew hz).cell 9 rfl,?_⟩
  refine⟨⟨(Pend_any gs gj gc b H h _ _ hc.row.1.2.2).mono fun en wq hq=>?_⟩,trivial⟩
  obtain⟨A3,c3,e4,hq,ho⟩:=hq
  have hrow3:=own_row hq ho no
  have hc:=(hc.quiet hq).1
  have hk:=Keeps.below hk (fun _ h=>h) hq
  refine⟨_,e4,hk,?_⟩
  refine⟨?_,trivial⟩
  have heq:=eqDeeds_any H.k.pend k.pend A3 A c3 cap _ _ _ hrow3 hc.row.1.2.1.2
  rw [h2] at heq
  refine hc.q (heq) fun wA hA hc=>?_
  have hk:=Keeps.below hk (fun _ h=>h) hA
  refine⟨hk,?_⟩
  refine⟨?_,trivial⟩
  skip
  refine⟨?_,trivial⟩
  skip
  refine⟨?_,trivial⟩
  skip
  refine⟨?_,trivial⟩
  skip
  refine⟨?_,trivial⟩
  skip
  exact⟨rfl,hc.below⟩
 | true=>
 cases h3:(H.k.seq==k.seq) with
 | false=>
  rw [h1,h2,h3] at hq
  subst hq
  have hr:=hc
  refine vD (.Q [0,2,3,4,5] (.n 1 (.n 6 (.Q [7,8,10,11,12,13] (.n 9 (.n 14 (.Q [15,16,17,19] (.n 18 (.n 20 (.Q [21,22,23,24,26,27,28,29] (.n 25 (.Q [30,31,32,33,35,36,37,38] (.n 34 (.Q [39,40,41,42] (.n 43 (.Q [44,45,46] .fin) .stop)) .stop)) .stop)) .stop) .stop)) .stop) .stop)) .stop) .stop)) (Old _) (Old.start _) ?_
  have hk:=hc.old0
  have hc:=hc.drew
  refine⟨stX k.b x,rfl,fun z hz=>(hat.drew hz).cells 1 (stX k.b x) rfl,?_⟩
  refine⟨⟨(Book_any gs gj gc b H h _ _ hc.row.2.2).mono fun en wq hq=>?_⟩,trivial⟩
  obtain⟨cB,e1,hq,hrB⟩:=hq
  obtain⟨xB,rfl⟩:=hrB.stX
  have hc:=(hc.call hq).1.know (X:=fun S w=>RepS S w H.k.b (stX H.k.b xB)) (hrB.map fun h=>h.sub fun b h=>h.elim (fun h=>h.elim) .inr) (stab_S _ _)
  have hk:=Keeps.below hk (fun _ h=>h) hq
  refine⟨_,e1,hk,?_⟩
  refine⟨?_,trivial⟩
  have heq:=reqS_any H.k.b k.b _ _ _ _ hc.row.2 hc.row.1.2.1.1
  rw [h1] at heq
  refine hc.q (heq) fun wA hA hc=>?_
  have hk:=Keeps.below hk (fun _ h=>h) hA
  refine⟨hk,?_⟩
  refine⟨_,fun z hz=>(hat.drew hz).cell 9 rfl,?_⟩
  refine⟨⟨(Pend_any gs gj gc b H h _ _ hc.row.1.2.2).mono fun en wq hq=>?_⟩,trivial⟩
  obtain⟨A3,c3,e4,hq,ho⟩:=hq
  have hrow3:=own_row hq ho no
  have hc:=(hc.quiet hq).1
  have hk:=Keeps.below hk (fun _ h=>h) hq
  refine⟨_,e4,hk,?_⟩
  refine⟨?_,trivial⟩
  have heq:=eqDeeds_any H.k.pend k.pend A3 A c3 cap _ _ _ hrow3 hc.row.1.2.1.2
  rw [h2] at heq
  refine hc.q (heq) fun wA hA hc=>?_
  have hk:=Keeps.below hk (fun _ h=>h) hA
  refine⟨hk,?_⟩
  refine⟨hc.q (Seq_any gs gj gc b H h _ _ hc.row.1.2.2) fun wA hA hc=>?_,trivial⟩
  have hk:=Keeps.below hk (fun _ h=>h) hA
  refine⟨hk,?_⟩
  refine⟨hc.q (lseq_any k hk0 x A cap ab ao _ _ hc.row.1.1) fun wA hA hc=>?_,trivial⟩
  have hk:=Keeps.below hk (fun _ h=>h) hA
  refine⟨hk,?_⟩
  refine split_f h3 ?_
  refine⟨?_,trivial⟩
  skip
  refine⟨?_,trivial⟩
  skip
  refine⟨?_,trivial⟩
  skip
  exact⟨rfl,hc.below⟩
 | true=>
 cases h4:(H.k.ep==k.ep) with
 | false=>
  rw [h1,h2,h3,h4] at hq
  subst hq
  have hr:=hc
  refine vD (.Q [0,2,3,4,5] (.n 1 (.n 6 (.Q [7,8,10,11,12,13] (.n 9 (.n 14 (.Q [15,16,17,19] (.n 18 (.n 20 (.Q [21,22,23,24,26,27,28,29] (.n 25 (.Q [30,31,32,33,35,36,37,38] (.n 34 (.Q [39,40,41,42] (.n 43 (.Q [44,45,46] .fin) .stop)) .stop)) .stop)) .stop) .stop)) .stop) .stop)) .stop) .stop)) (Old _) (Old.start _) ?_
  have hk:=hc.old0
  have hc:=hc.drew
  refine⟨stX k.b x,rfl,fun z hz=>(hat.drew hz).cells 1 (stX k.b x) rfl,?_⟩
  refine⟨⟨(Book_any gs gj gc b H h _ _ hc.row.2.2).mono fun en wq hq=>?_⟩,trivial⟩
  obtain⟨cB,e1,hq,hrB⟩:=hq
  obtain⟨xB,rfl⟩:=hrB.stX
  have hc:=(hc.call hq).1.know (X:=fun S w=>RepS S w H.k.b (stX H.k.b xB)) (hrB.map fun h=>h.sub fun b h=>h.elim (fun h=>h.elim) .inr) (stab_S _ _)
  have hk:=Keeps.below hk (fun _ h=>h) hq
  refine⟨_,e1,hk,?_⟩
  refine⟨?_,trivial⟩
  have heq:=reqS_any H.k.b k.b _ _ _ _ hc.row.2 hc.row.1.2.1.1
  rw [h1] at heq
  refine hc.q (heq) fun wA hA hc=>?_
  have hk:=Keeps.below hk (fun _ h=>h) hA
  refine⟨hk,?_⟩
  refine⟨_,fun z hz=>(hat.drew hz).cell 9 rfl,?_⟩
  refine⟨⟨(Pend_any gs gj gc b H h _ _ hc.row.1.2.2).mono fun en wq hq=>?_⟩,trivial⟩
  obtain⟨A3,c3,e4,hq,ho⟩:=hq
  have hrow3:=own_row hq ho no
  have hc:=(hc.quiet hq).1
  have hk:=Keeps.below hk (fun _ h=>h) hq
  refine⟨_,e4,hk,?_⟩
  refine⟨?_,trivial⟩
  have heq:=eqDeeds_any H.k.pend k.pend A3 A c3 cap _ _ _ hrow3 hc.row.1.2.1.2
  rw [h2] at heq
  refine hc.q (heq) fun wA hA hc=>?_
  have hk:=Keeps.below hk (fun _ h=>h) hA
  refine⟨hk,?_⟩
  refine⟨hc.q (Seq_any gs gj gc b H h _ _ hc.row.1.2.2) fun wA hA hc=>?_,trivial⟩
  have hk:=Keeps.below hk (fun _ h=>h) hA
  refine⟨hk,?_⟩
  refine⟨hc.q (lseq_any k hk0 x A cap ab ao _ _ hc.row.1.1) fun wA hA hc=>?_,trivial⟩
  have hk:=Keeps.below hk (fun _ h=>h) hA
  refine⟨hk,?_⟩
  refine split_t h3 ?_
  refine⟨_,fun z hz=>(hat.drew hz).cell 10 rfl,?_⟩
  refine⟨hc.q (Epoch_any gs gj gc b H _ _ hc.row.1.2.2) fun wA hA hc=>?_,trivial⟩
  have hk:=Keeps.below hk (fun _ h=>h) hA
  refine⟨hk,?_⟩
  refine split_f h4 ?_
  refine⟨?_,trivial⟩
  skip
  refine⟨?_,trivial⟩
  skip
  exact⟨rfl,hc.below⟩
 | true=>
 cases h5:(H.k.ln==k.ln) with
 | false=>
  rw [h1,h2,h3,h4,h5] at hq
  subst hq
  have hr:=hc
  refine vD (.Q [0,2,3,4,5] (.n 1 (.n 6 (.Q [7,8,10,11,12,13] (.n 9 (.n 14 (.Q [15,16,17,19] (.n 18 (.n 20 (.Q [21,22,23,24,26,27,28,29] (.n 25 (.Q [30,31,32,33,35,36,37,38] (.n 34 (.Q [39,40,41,42] (.n 43 (.Q [44,45,46] .fin) .stop)) .stop)) .stop)) .stop) .stop)) .stop) .stop)) .stop) .stop)) (Old _) (Old.start _) ?_
  have hk:=hc.old0
  have hc:=hc.drew
  refine⟨stX k.b x,rfl,fun z hz=>(hat.drew hz).cells 1 (stX k.b x) rfl,?_⟩
  refine⟨⟨(Book_any gs gj gc b H h _ _ hc.row.2.2).mono fun en wq hq=>?_⟩,trivial⟩
  obtain⟨cB,e1,hq,hrB⟩:=hq
  obtain⟨xB,rfl⟩:=hrB.stX
  have hc:=(hc.call hq).1.know (X:=fun S w=>RepS S w H.k.b (stX H.k.b xB)) (hrB.map fun h=>h.sub fun b h=>h.elim (fun h=>h.elim) .inr) (stab_S _ _)
  have hk:=Keeps.below hk (fun _ h=>h) hq
  refine⟨_,e1,hk,?_⟩
  refine⟨?_,trivial⟩
  have heq:=reqS_any H.k.b k.b _ _ _ _ hc.row.2 hc.row.1.2.1.1
  rw [h1] at heq
  refine hc.q (heq) fun wA hA hc=>?_
  have hk:=Keeps.below hk (fun _ h=>h) hA
  refine⟨hk,?_⟩
  refine⟨_,fun z hz=>(hat.drew hz).cell 9 rfl,?_⟩
  refine⟨⟨(Pend_any gs gj gc b H h _ _ hc.row.1.2.2).mono fun en wq hq=>?_⟩,trivial⟩
  obtain⟨A3,c3,e4,hq,ho⟩:=hq
  have hrow3:=own_row hq ho no
  have hc:=(hc.quiet hq).1
  have hk:=Keeps.below hk (fun _ h=>h) hq
  refine⟨_,e4,hk,?_⟩
  refine⟨?_,trivial⟩
  have heq:=eqDeeds_any H.k.pend k.pend A3 A c3 cap _ _ _ hrow3 hc.row.1.2.1.2
  rw [h2] at heq
  refine hc.q (heq) fun wA hA hc=>?_
  have hk:=Keeps.below hk (fun _ h=>h) hA
  refine⟨hk,?_⟩
  refine⟨hc.q (Seq_any gs gj gc b H h _ _ hc.row.1.2.2) fun wA hA hc=>?_,trivial⟩
  have hk:=Keeps.below hk (fun _ h=>h) hA
  refine⟨hk,?_⟩
  refine⟨hc.q (lseq_any k hk0 x A cap ab ao _ _ hc.row.1.1) fun wA hA hc=>?_,trivial⟩
  have hk:=Keeps.below hk (fun _ h=>h) hA
  refine⟨hk,?_⟩
  refine split_t h3 ?_
  refine⟨_,fun z hz=>(hat.drew hz).cell 10 rfl,?_⟩
  refine⟨hc.q (Epoch_any gs gj gc b H _ _ hc.row.1.2.2) fun wA hA hc=>?_,trivial⟩
  have hk:=Keeps.below hk (fun _ h=>h) hA
  refine⟨hk,?_⟩
  refine split_t h4 ?_
  refine⟨_,fun z hz=>(hat.drew hz).cell 15 rfl,?_⟩
  refine⟨hc.q (Learnt_any gs gj gc b H _ _ hc.row.1.2.2) fun wA hA hc=>?_,trivial⟩
  have hk:=Keeps.below hk (fun _ h=>h) hA
  refine⟨hk,?_⟩
  refine split_f h5 ?_
  refine⟨?_,trivial⟩
  skip
  exact⟨rfl,hc.below⟩
 | true=>
 rw [h1,h2,h3,h4,h5] at hq
 subst hq
 have hr:=hc
 refine vD (.Q [0,2,3,4,5] (.n 1 (.n 6 (.Q [7,8,10,11,12,13] (.n 9 (.n 14 (.Q [15,16,17,19] (.n 18 (.n 20 (.Q [21,22,23,24,26,27,28,29] (.n 25 (.Q [30,31,32,33,35,36,37,38] (.n 34 (.Q [39,40,41,42] (.n 43 (.Q [44,45,46] .fin) .stop)) .stop)) .stop)) .stop) .stop)) .stop) .stop)) .stop) .stop)) (Old _) (Old.start _) ?_
 have hk:=hc.old0
 have hc:=hc.drew
 refine⟨stX k.b x,rfl,fun z hz=>(hat.drew hz).cells 1 (stX k.b x) rfl,?_⟩
 refine⟨⟨(Book_any gs gj gc b H h _ _ hc.row.2.2).mono fun en wq hq=>?_⟩,trivial⟩
 obtain⟨cB,e1,hq,hrB⟩:=hq
 obtain⟨xB,rfl⟩:=hrB.stX
 have hc:=(hc.call hq).1.know (X:=fun S w=>RepS S w H.k.b (stX H.k.b xB)) (hrB.map fun h=>h.sub fun b h=>h.elim (fun h=>h.elim) .inr) (stab_S _ _)
 have hk:=Keeps.below hk (fun _ h=>h) hq
 refine⟨_,e1,hk,?_⟩
 refine⟨?_,trivial⟩
 have heq:=reqS_any H.k.b k.b _ _ _ _ hc.row.2 hc.row.1.2.1.1
 rw [h1] at heq
 refine hc.q (heq) fun wA hA hc=>?_
 have hk:=Keeps.below hk (fun _ h=>h) hA
 refine⟨hk,?_⟩
 refine⟨_,fun z hz=>(hat.drew hz).cell 9 rfl,?_⟩
 refine⟨⟨(Pend_any gs gj gc b H h _ _ hc.row.1.2.2).mono fun en wq hq=>?_⟩,trivial⟩
 obtain⟨A3,c3,e4,hq,ho⟩:=hq
 have hrow3:=own_row hq ho no
 have hc:=(hc.quiet hq).1
 have hk:=Keeps.below hk (fun _ h=>h) hq
 refine⟨_,e4,hk,?_⟩
 refine⟨?_,trivial⟩
 have heq:=eqDeeds_any H.k.pend k.pend A3 A c3 cap _ _ _ hrow3 hc.row.1.2.1.2
 rw [h2] at heq
 refine hc.q (heq) fun wA hA hc=>?_
 have hk:=Keeps.below hk (fun _ h=>h) hA
 refine⟨hk,?_⟩
 refine⟨hc.q (Seq_any gs gj gc b H h _ _ hc.row.1.2.2) fun wA hA hc=>?_,trivial⟩
 have hk:=Keeps.below hk (fun _ h=>h) hA
 refine⟨hk,?_⟩
 refine⟨hc.q (lseq_any k hk0 x A cap ab ao _ _ hc.row.1.1) fun wA hA hc=>?_,trivial⟩
 have hk:=Keeps.below hk (fun _ h=>h) hA
 refine⟨hk,?_⟩
 refine split_t h3 ?_
 refine⟨_,fun z hz=>(hat.drew hz).cell 10 rfl,?_⟩
 refine⟨hc.q (Epoch_any gs gj gc b H _ _ hc.row.1.2.2) fun wA hA hc=>?_,trivial⟩
 have hk:=Keeps.below hk (fun _ h=>h) hA
 refine⟨hk,?_⟩
 refine split_t h4 ?_
 refine⟨_,fun z hz=>(hat.drew hz).cell 15 rfl,?_⟩
 refine⟨hc.q (Learnt_any gs gj gc b H _ _ hc.row.1.2.2) fun wA hA hc=>?_,trivial⟩
 have hk:=Keeps.below hk (fun _ h=>h) hA
 refine⟨hk,?_⟩
 refine split_t h5 ?_
 refine⟨?_,trivial⟩
 have hdn:=Down_any gs gj gc b H _ _ hc.row.1.2.2
 rw [hd] at hdn
 refine hc.q (hdn) fun wA hA hc=>?_
 have hk:=Keeps.below hk (fun _ h=>h) hA
 refine⟨hk,?_⟩
 exact⟨rfl,hc.below⟩
def RetKd (g:Nat) (S:Nat->Prop) (w:World) (q:Known × Int × List Res) (en:Ending) (w':World):Prop:=
 ∃ A2 c2,en=.returned (.tuple #[.int .i64 q.2.1,.slice A2 q.2.2.length c2])/\Turn (fun x=>x=g) w w'/\∃ x A cap,Blk w' g 83 (lkC q.1 x A cap)/\KnR q.1 x A cap (ext S w w') w'/\Row (ext S w w') w' A2 q.2.2.length c2 (q.2.2.map resC).flatten
theorem RetKd.mk {g:Nat} {S S1:Nat->Prop} {w w':World} {q:Known × Int × List Res} {x:SX} {A A2:Option Addr} {cap c2 i:Nat} {cs:List Value} (hc:CtxF no (bare w) S1 w' [(g,83,cs)] [] (KL w g S (fun S w=>KnR q.1 x A cap S w/\Row S w A2 q.2.2.length c2 (q.2.2.map resC).flatten))) (ec:cs=lkC q.1 x A cap) (hi:q.2.2.length=i):RetKd g S w q (.returned (.tuple #[.int .i64 q.2.1,.slice A2 i c2])) w':=by
 subst hi
 obtain⟨h1,h2,Sr,h3,h4⟩:=hc.leaveL ((KnR.stab _ _ _ _).and (fun _ _ _ _ h f=>h.fut f))
 subst ec
 have f:Fut Sr w' (ext S w w') w':=⟨fun x hx=>(h3 x hx).2,fun _ _=>rfl⟩
 exact⟨A2,c2,rfl,h1,x,A,cap,h2,KnR.stab _ _ _ _ _ _ _ _ h4.1 f,h4.2.fut f⟩
theorem RetKd.nil {g:Nat} {S S1:Nat->Prop} {w w':World} {k:Known} {e:Int} {x:SX} {A:Option Addr} {cap:Nat} {cs:List Value} (hc:CtxF no (bare w) S1 w' [(g,83,cs)] [] (KL w g S (KnR k x A cap))) (ec:cs=lkC k x A cap):RetKd g S w (k,e,[]) (.returned (.tuple #[.int .i64 e,.slice none 0 0])) w':=
 RetKd.mk (q:=(k,e,[])) (A2:=none) (c2:=0) (hc.nowL (fun S w h=>⟨h,row0 _ _⟩) ((KnR.stab _ _ _ _).and (fun _ _ _ _ h f=>h.fut f))) ec rfl
theorem rdo_call {w w1:World} {g T:Nat} {S S1:Nat->Prop} {l:List LB} {os:List OR} {ki:Known} {x:SX} {A:Option Addr} {cap:Nat} {cs:List Value} (hc:CtxF no (bare w) S1 w1 l os (KL w g S (KnR ki x A cap))) (k:Nat) (hk:l[k]?=some (g,T,cs)) (hko:ki.Ok) (d:D) (hd:d.Ok):
  Calls Tryz.prog 28 #[.agg (stX ki.b x).toArray,.agg (dC d).toArray] w1 (fun en wq=>∃ xS S2,en=.returned (.tuple #[.agg (stX (doS ki.b d).1 xS).toArray,.agg #[.int .i64 (doS ki.b d).2.err,.int .i64 (doS ki.b d).2.ver]])/\Below w1.heap.size w1 wq/\CtxF no (bare w) S2 wq l os (KL w g S (fun S w=>KnR ki x A cap S w/\RepS S w (doS ki.b d).1 (stX (doS ki.b d).1 xS)))):=by
 obtain⟨Sr,hR1,hSr,hin⟩:=hc.inL (KnR.stab _ _ _ _) k hk
 refine (rdo_any ki.b d (mayS_ok hko.lows hko.may) hd (stX ki.b x) Sr _ (fun b hb=>hc.ctx.lt b (hSr b hb)) hR1.1).mono fun en wq hq2=>?_
 obtain⟨cS,e1,hb,hrep⟩:=hq2
 obtain⟨xS,rfl⟩:=hrep.stX
 exact⟨xS,_,e1,hb,hin (hc.call hb) (fun x hx=>.inl (hx.elim (fun h=>.inl (hSr x h)) .inr)) (X:=fun S w=>RepS S w (doS ki.b d).1 (stX (doS ki.b d).1 xS)) (stab_S _ _) (hrep.map fun h=>h.sub fun b hb=>⟨hb,hb.elim (fun h=>.inl (hSr b h)) .inr⟩)⟩
theorem dcommit_leaf {w w1:World} {g i c3:Nat} {S S1:Nat->Prop} {k ki:Known} {d:D} {r:List D} {l:List Res} {ad0:Addr} {cap:Nat} {x xS:SX} {A3:Option Addr} {y1 y2 y3 y4 Y5:LB}
  (hk1:kAt k (i+1)=⟨(doS ki.b d).1,r,k.ep,k.ln⟩) (hk2:resS k.b (k.pend.take (i+1))=l++[(doS ki.b d).2]) (hpd:ki.pend=d::r) (hcapb:ki.pend.length<=cap) (hke:ki.ep=k.ep) (hkl:ki.ln=k.ln)
  (hc:CtxF no (bare w) S1 w1 [y1,y2,y3,y4,Y5,(g,83,putAt (putAt (lkC ki x (some ad0) cap) 1 (stX (doS ki.b d).1 xS)) 9 [.slice (if (cap:Int)=1 then some ad0 else (some ad0).map (·.add ((1:Int).toNat*8))) ((ki.pend.length:Int)-1).toNat ((cap:Int)-1).toNat])] [⟨54,2,A3,i+1,c3,(l.map resC).flatten++resC (doS ki.b d).2⟩] (KL w g S (fun S w=>KnR ki x (some ad0) cap S w/\RepS S w (doS ki.b d).1 (stX (doS ki.b d).1 xS)))):
  ∃ S3 A' cap',CtxF no (bare w) S3 w1 [y4,Y5,(g,83,lkC (kAt k (i+1)) xS A' cap')] [⟨54,2,A3,i+1,c3,((resS k.b (k.pend.take (i+1))).map resC).flatten⟩] (KL w g S (KnR (kAt k (i+1)) xS A' cap')):=by
 have hpl:ki.pend.length=r.length+1:=by rw [hpd];rfl
 have e:putAt (putAt (lkC ki x (some ad0) cap) 1 (stX (doS ki.b d).1 xS)) 9 [.slice (if (cap:Int)=1 then some ad0 else (some ad0).map (·.add ((1:Int).toNat*8))) ((ki.pend.length:Int)-1).toNat ((cap:Int)-1).toNat]=lkC ⟨(doS ki.b d).1,r,k.ep,k.ln⟩ xS (if (cap:Int)=1 then some ad0 else (some ad0).map (·.add ((1:Int).toNat*8))) (cap-1):=by
  rw [show cap-1=((cap:Int)-1).toNat from by omega]
  unfold lkC
  rw [<-hke,<-hkl,show r.length=((ki.pend.length:Int)-1).toNat from by omega]
  rfl
 rw [e] at hc
 have hc:=(hc.nowL (R':=KnR ⟨(doS ki.b d).1,r,k.ep,k.ln⟩ xS (if (cap:Int)=1 then some ad0 else (some ad0).map (·.add ((1:Int).toNat*8))) (cap-1)) (fun S w h=>⟨h.2,commit_row hpd h.1.2⟩) (KnR.stab _ _ _ _)).drop.drop.drop
 rw [hk1,hk2,flat_snoc]
 exact⟨_,_,_,hc⟩
set_option maxHeartbeats 8000000 in
theorem do8_any (k:Known) (h:k.Ok) (o:Op8) (ho:o.Ok) (hn:0<=o.n/\o.n<=1048576) (hep:0<=k.ep/\k.ep<=1000000000) (x:SX) (A:Option Addr) (cap g:Nat) (S:Nat->Prop) (w:World) (hB:Blk w g 83 (lkC k x A cap)) (hS:∀ x,S x->x<w.heap.size/\x≠g) (hR:KnR k x A cap S w):
  Calls Tryz.prog 35 #[.pointer (some ⟨g,0,none⟩),.agg (opC o).toArray] w (RetKd g S w (doK8 k o.kind o.n (cutD o.d))):=by
 have hcd:=cutD_ok ho.d
 have hsq:=h.seq
 have hln:=h.len
 have hm:maxN=1099511627776:=rfl
 have h0:=(mayS_parts.1 h.may).1.1
 have hc:=CtxF.enterL hB hS hR (KnR.stab _ _ _ _)
 obtain⟨q,hq⟩:∃ q,q=doK8 k o.kind o.n (cutD o.d):=⟨_,rfl⟩
 rw [<-hq]
 unfold doK8 at hq
 refine vE Tryz.func35 ?_
 refine hc.n fun g3 wg3 hg3 hc=>?_
 refine⟨dC o.d,rfl,hc.cellsAt 0 rfl 2 (dC o.d) rfl,?_⟩
 refine hc.q (deed5_any o.d ho.d _) fun wQ hQ hc=>?_
 refine hc.n fun g6 wg6 hg6 hc=>?_
 refine hc.s 0 rfl fun wS hS hc=>?_
 refine⟨_,hc.cell 1 rfl _ rfl,?_⟩
 obtain⟨dd,hdd⟩:∃ dd,dd=cutD o.d:=⟨_,rfl⟩
 have hc:CtxF no (bare w) (fun x=>x<w.heap.size/\x≠g) wS [(g6,32,dC dd),(g3,71,opC o),(g,83,lkC k x A cap)] [] (KL w g S (KnR k x A cap)):=by rw [hdd];exact hc
 rw [<-hdd] at hq hcd
 by_cases k0:o.kind=0
 ·refine split_t (by show (o.kind==0)=true;rw [k0];rfl) ?_
  rw [if_pos k0] at hq
  refine hc.a 0 rfl rfl ?_
  refine hc.q (rmay_any dd hcd _) fun wQ hQ hc=>?_
  cases hmd:mayD dd with
  | false=>
   rw [hmd,if_pos rfl] at hq
   subst hq
   exact RetKd.nil hc.drop.drop rfl
  | true=>
  rw [hmd,if_neg (by decide)] at hq
  refine⟨_,hc.cell 2 rfl _ rfl,?_⟩
  by_cases h60:60<=k.pend.length
  ·rw [if_pos h60] at hq
   subst hq
   refine split_t (decide_eq_true (by omega)) ?_
   exact RetKd.nil hc.drop.drop rfl
  rw [if_neg h60] at hq
  subst hq
  refine split_f (decide_eq_false (by omega)) ?_
  refine vD (.Q [0,1,2,3,6] (.n 4 (.n 5 (.n 7 (.n 8 (.Q [9,10] (.n 11 .fin .stop)) .stop) .stop) (.n 7 (.n 5 (.n 8 (.Q [9,10] (.n 11 .fin .stop)) .stop) .stop) .stop)) (.n 7 (.n 4 (.n 5 (.n 8 (.Q [9,10] (.n 11 .fin .stop)) .stop) .stop) .stop) .stop))) (fun z=>Blk z g6 32 (dC dd)) (hc.blk 0 rfl) ?_
  have hc:=hc.drew
  refine⟨dC dd,rfl,fun z hz=>drop_cells hz 0 _ 0 (fun j v hj=>by simpa using hj),?_⟩
  refine⟨?_,?_⟩
  ·skip
   refine⟨_,hc.cell 2 rfl _ rfl,(hc.blk 0 rfl),?_⟩
   refine⟨?_,?_⟩
   ·skip
    obtain⟨Sr,hR1,hSr,hin⟩:=hc.inL (KnR.stab _ _ _ _) 2 rfl
    refine app_rowF Tryz.underlying22 info_D rfl (by decide) (hc.nil 32 8) hR1.2 (by rw [(dC_flat _).len,List.length_map]) (dC_flat _).ones (by omega) (by decide) rfl rfl ?_
    intro A2 cap2 w2 hc
    refine⟨(hc.blk 0 rfl),?_⟩
    refine⟨hc.n fun gv wgv hgv hc=>?_,trivial⟩
    refine⟨(hc.blk 1 rfl),?_⟩
    refine⟨app_ownF (m:=1) Tryz.underlying22 info_D rfl (by decide) hc (by rfl) (hc.cells 0 rfl) rfl (by show 0+k.pend.length+1<=_;omega) (by decide) rfl rfl ?_,trivial⟩
    intro A3 cap3 w3 hc
    refine⟨(hc.blk 1 rfl),?_⟩
    refine⟨hc.s 3 rfl fun wS hS hc=>?_,trivial⟩
    refine⟨(hc.blk 1 rfl),?_⟩
    obtain⟨S2,hc⟩:=hc.toldL (KnR.stab _ _ _ _) 3 rfl
    have hc:=(hc.nowL (R':=KnR ⟨k.b,k.pend++[dd],k.ep,k.ln⟩ x A3 cap3) (fun S w h=>⟨h.1.1,by
     have e1:((k.pend++[dd]).map dC).flatten=[]++(k.pend.map dC).flatten++dC dd:=by simp
     have e2:(k.pend++[dd]).length=0+k.pend.length+1:=by simp
     show Row S w A3 (k.pend++[dd]).length cap3 ((k.pend++[dd]).map dC).flatten
     rw [e1,e2]
     exact h.2⟩) (KnR.stab _ _ _ _)).drop.drop.drop
    refine RetKd.nil hc ?_
    show _=lkC ⟨k.b,k.pend++[dd],k.ep,k.ln⟩ x A3 cap3
    unfold lkC
    rw [show (k.pend++[dd]).length=0+k.pend.length+1 from by simp]
    rfl
   refine⟨hc.n fun gv wgv hgv hc=>?_,trivial⟩
   refine⟨(hc.blk 1 rfl),?_⟩
   refine⟨?_,trivial⟩
   obtain⟨Sr,hR1,hSr,hin⟩:=hc.inL (KnR.stab _ _ _ _) 3 rfl
   refine app_rowF Tryz.underlying22 info_D rfl (by decide) (hc.nil 32 8) hR1.2 (by rw [(dC_flat _).len,List.length_map]) (dC_flat _).ones (by omega) (by decide) rfl rfl ?_
   intro A2 cap2 w2 hc
   refine⟨(hc.blk 1 rfl),?_⟩
   refine⟨app_ownF (m:=1) Tryz.underlying22 info_D rfl (by decide) hc (by rfl) (hc.cells 0 rfl) rfl (by show 0+k.pend.length+1<=_;omega) (by decide) rfl rfl ?_,trivial⟩
   intro A3 cap3 w3 hc
   refine⟨(hc.blk 1 rfl),?_⟩
   refine⟨hc.s 3 rfl fun wS hS hc=>?_,trivial⟩
   refine⟨(hc.blk 1 rfl),?_⟩
   obtain⟨S2,hc⟩:=hc.toldL (KnR.stab _ _ _ _) 3 rfl
   have hc:=(hc.nowL (R':=KnR ⟨k.b,k.pend++[dd],k.ep,k.ln⟩ x A3 cap3) (fun S w h=>⟨h.1.1,by
    have e1:((k.pend++[dd]).map dC).flatten=[]++(k.pend.map dC).flatten++dC dd:=by simp
    have e2:(k.pend++[dd]).length=0+k.pend.length+1:=by simp
    show Row S w A3 (k.pend++[dd]).length cap3 ((k.pend++[dd]).map dC).flatten
    rw [e1,e2]
    exact h.2⟩) (KnR.stab _ _ _ _)).drop.drop.drop
   refine RetKd.nil hc ?_
   show _=lkC ⟨k.b,k.pend++[dd],k.ep,k.ln⟩ x A3 cap3
   unfold lkC
   rw [show (k.pend++[dd]).length=0+k.pend.length+1 from by simp]
   rfl
  refine⟨hc.n fun gv wgv hgv hc=>?_,trivial⟩
  refine⟨(hc.blk 1 rfl),?_⟩
  refine⟨⟨_,hc.cell 3 rfl _ rfl,(hc.blk 1 rfl),?_⟩,trivial⟩
  refine⟨?_,trivial⟩
  obtain⟨Sr,hR1,hSr,hin⟩:=hc.inL (KnR.stab _ _ _ _) 3 rfl
  refine app_rowF Tryz.underlying22 info_D rfl (by decide) (hc.nil 32 8) hR1.2 (by rw [(dC_flat _).len,List.length_map]) (dC_flat _).ones (by omega) (by decide) rfl rfl ?_
  intro A2 cap2 w2 hc
  refine⟨(hc.blk 1 rfl),?_⟩
  refine⟨app_ownF (m:=1) Tryz.underlying22 info_D rfl (by decide) hc (by rfl) (hc.cells 0 rfl) rfl (by show 0+k.pend.length+1<=_;omega) (by decide) rfl rfl ?_,trivial⟩
  intro A3 cap3 w3 hc
  refine⟨(hc.blk 1 rfl),?_⟩
  refine⟨hc.s 3 rfl fun wS hS hc=>?_,trivial⟩
  refine⟨(hc.blk 1 rfl),?_⟩
  obtain⟨S2,hc⟩:=hc.toldL (KnR.stab _ _ _ _) 3 rfl
  have hc:=(hc.nowL (R':=KnR ⟨k.b,k.pend++[dd],k.ep,k.ln⟩ x A3 cap3) (fun S w h=>⟨h.1.1,by
   have e1:((k.pend++[dd]).map dC).flatten=[]++(k.pend.map dC).flatten++dC dd:=by simp
   have e2:(k.pend++[dd]).length=0+k.pend.length+1:=by simp
   show Row S w A3 (k.pend++[dd]).length cap3 ((k.pend++[dd]).map dC).flatten
   rw [e1,e2]
   exact h.2⟩) (KnR.stab _ _ _ _)).drop.drop.drop
  refine RetKd.nil hc ?_
  show _=lkC ⟨k.b,k.pend++[dd],k.ep,k.ln⟩ x A3 cap3
  unfold lkC
  rw [show (k.pend++[dd]).length=0+k.pend.length+1 from by simp]
  rfl
 refine split_f (by show (o.kind==0)=false;rw [beq_eq_false_iff_ne];exact k0) ?_
 rw [if_neg k0] at hq
 by_cases k1:o.kind=1
 ·refine split_t (by show (o.kind==1)=true;rw [k1];rfl) ?_
  rw [if_pos k1] at hq
  have hw1:IntKind.i64.wrap (k.b.seq+o.n)=k.b.seq+o.n:=IntWalk.i64_in _ ⟨by omega,by omega⟩
  have hr:=hc
  refine vD (.Q [0,1,2,3,4,5,6,7,8] .fin) (Old _) (Old.start _) ?_
  have hk:=hc.old0
  have hc:=hc.drew
  refine⟨_,fun x hx=>Keeps.cell hx (hr.blk 2 rfl) (hr.blk 2 rfl).lt rfl,?_⟩
  refine⟨_,fun x hx=>Keeps.cell hx (hr.blk 1 rfl) (hr.blk 1 rfl).lt rfl,?_⟩
  skip
  refine hc.q (lseq_any k h x A cap g 0 (fun x=>x=g) _ ⟨rfl,hc.cells 2 rfl⟩) fun wQ hQ hc=>?_
  by_cases hgt:k.seq<k.b.seq+o.n
  ·rw [if_pos hgt] at hq
   subst hq
   refine split_t (by rw [hw1];exact decide_eq_true hgt) ?_
   exact RetKd.nil hc.drop.drop rfl
  rw [if_neg hgt] at hq
  refine split_f (by rw [hw1];exact decide_eq_false hgt) ?_
  have hc:=hc.nil 54 2
  obtain⟨n,hn1⟩:∃ n,n=k.b.seq+o.n:=⟨_,rfl⟩
  have hj:(n-k.b.seq).toNat<=k.pend.length:=by unfold Known.seq at hgt;omega
  refine⟨Nat × Option Addr × Nat,fun y=>[(0,.pointer (some ⟨g,0,none⟩)),(7,.int .i64 n),(8,.slice y.2.1 y.1 y.2.2)],
   fun y w'=>y.1<=(n-k.b.seq).toNat/\∃ S1 x A cap,CtxF no (bare w) S1 w' [(g6,32,dC dd),(g3,71,opC o),(g,83,lkC (kAt k y.1) x A cap)] [⟨54,2,y.2.1,y.1,y.2.2,((resS k.b (k.pend.take y.1)).map resC).flatten⟩] (KL w g S (KnR (kAt k y.1) x A cap)),fun y _=>(n-k.b.seq).toNat-y.1,(0,none,0),⟨rfl,(show Value.int .i64 (IntKind.i64.wrap (k.b.seq+o.n))=.int .i64 n by rw [hw1,hn1]),rfl,trivial⟩,⟨Nat.zero_le _,_,x,A,cap,hc⟩,?_⟩
  clear hc
  rintro⟨i,A2,c2⟩ w1 u ⟨hi,S1,x,A,cap,hc⟩
  simp only at hi hc
  have hko:=kAt_ok h i
  have hks:=kAt_seq h (i:=i) (by omega)
  have hkn:=kAt_next k i
  have hke:(kAt k i).ep=k.ep:=rfl
  have hkl:(kAt k i).ln=k.ln:=rfl
  generalize hki:kAt k i=ki at*
  refine⟨_,hc.cell 2 rfl _ rfl,?_⟩
  by_cases hlt:i<(n-k.b.seq).toNat
  rotate_left
  ·refine split_f (decide_eq_false (by show ¬ ki.b.seq<n;omega)) ?_
   have hii:i=(n-k.b.seq).toNat:=by omega
   have e:q=(ki,0,resS k.b (k.pend.take i)):=by rw [hq,<-hki,hii,hn1];rfl
   subst e
   have hlen:(resS k.b (k.pend.take i)).length=i:=by rw [resS_len,List.length_take];omega
   obtain⟨S2,hc⟩:=hc.toldL (KnR.stab _ _ _ _) 2 rfl
   have hc:=hc.drop.drop
   refine RetKd.mk (q:=(ki,0,resS k.b (k.pend.take i))) (x:=x) (A:=A) (cap:=cap) (hc.nowL (fun S w h=>⟨h.1,?_⟩) ((KnR.stab _ _ _ _).and (fun _ _ _ _ h f=>h.fut f))) rfl hlen
   have h2:=h.2
   show Row S w A2 (resS k.b (k.pend.take i)).length c2 _
   rw [hlen]
   exact h2
  refine split_t (decide_eq_true (by show ki.b.seq<n;omega)) ?_
  obtain⟨d,r,hpd⟩:∃ d r,ki.pend=d::r:=by
   have e:ki.pend=k.pend.drop i:=by rw [<-hki];rfl
   cases hd:k.pend.drop i with
   | nil=>
    have:=congrArg List.length hd
    rw [List.length_drop] at this
    simp only [List.length_nil] at this
    omega
   | cons d r=>exact⟨d,r,by rw [e,hd]⟩
  obtain⟨hk1,hk2⟩:=hkn d r hpd
  have hdd:=hko.pend d (by rw [hpd];exact List.mem_cons_self ..)
  have hpl:ki.pend.length=r.length+1:=by rw [hpd];rfl
  obtain⟨hk0,Sr0,hs0,hR0⟩:=hc.row
  obtain⟨ad0,rfl,hcell0⟩:=Row.elemF hR0.2 (by decide) (dC_flat _) 0 (by rw [List.length_map,hpl];omega)
  have hcell:Go.Vc.cellsAt w1 ad0 (dC d) 0:=by
   have e:(ki.pend.map dC)[0]'(by rw [List.length_map,hpl];omega)=dC d:=by simp [hpd]
   rw [e] at hcell0
   have e2:ad0.add (0*8)=ad0:=by unfold Addr.add;simp
   rw [e2] at hcell0
   exact hcell0
  have hcapb:ki.pend.length<=cap:=hR0.2.1
  refine Drawn.join (α:=Nat × Nat × SX) (fun z=>[(0,.pointer (some ⟨g,0,none⟩)),(7,.int .i64 n),(8,.slice A2 i c2),(9,.pointer (some ⟨z.1,0,none⟩)),(10,.pointer (some ⟨z.2.1,0,none⟩))])
   (fun z wS=>∃ S2,CtxF no (bare w) S2 wS [(z.2.1,54,resC (doS ki.b d).2),(z.1,43,stX (doS ki.b d).1 z.2.2),(g6,32,dC dd),(g3,71,opC o),(g,83,lkC ki x (some ad0) cap)] [⟨54,2,A2,i,c2,((resS k.b (k.pend.take i)).map resC).flatten⟩] (KL w g S (fun S w=>KnR ki x (some ad0) cap S w/\RepS S w (doS ki.b d).1 (stX (doS ki.b d).1 z.2.2)))) ?_ ?_
  ·have hr:=hc
   refine vD (.Q [0,1,2,3,4,5,6,7,8,9] (.n 10 (.Q [11,12,13] (.n 14 (.n 15 (.n 16 (.z 17) .stop) .stop) (.n 15 (.n 14 (.n 16 (.z 17) .stop) .stop) .stop))) (.n 14 (.n 10 (.Q [11,12,13] (.n 15 (.n 16 (.z 17) .stop) .stop)) (.n 15 (.n 10 (.Q [11,12,13] (.n 16 (.z 17) .stop)) .stop) .stop)) (.n 15 (.n 10 (.Q [11,12,13] (.n 14 (.n 16 (.z 17) .stop) .stop)) (.n 14 (.n 10 (.Q [11,12,13] (.n 16 (.z 17) .stop)) .stop) .stop)) .stop)))) (Old _) (Old.start _) ?_
   have hk:=hc.old0
   have hc:=hc.drew
   refine⟨stX ki.b x,rfl,fun z hz=>Old.looks hz (hr.cellsAt 2 rfl 1 (stX ki.b x) rfl),?_⟩
   refine⟨_,fun z hz=>Keeps.cell hz (hr.blk 2 rfl) (hr.blk 2 rfl).lt rfl,?_⟩
   refine⟨⟨by decide,by show (0:Int)<(ki.pend.length:Int);omega⟩,?_⟩
   refine⟨dC d,rfl,fun z hz=>Old.looks hz hcell,?_⟩
   refine⟨?_,?_⟩
   ·skip
    refine⟨(rdo_call hc 2 rfl hko d hdd.2).mono fun en wq hq2=>?_⟩
    obtain⟨xS,S2,e1,hb,hc⟩:=hq2
    have hk:=Keeps.below hk (fun _ h=>h) hb
    refine⟨_,e1,hk,?_⟩
    refine⟨?_,?_⟩
    ·skip
     refine hc.n fun g9 wg9 hg9 hc=>?_
     have ng9:=Old.new hk hg9
     have hk:=Keeps.below hk (fun _ h=>h) hg9.below
     refine⟨hk,?_⟩
     refine⟨hc.n fun g10 wg10 hg10 hc=>?_,trivial⟩
     have ng10:=Old.new hk hg10
     have hk:=Keeps.below hk (fun _ h=>h) hg10.below
     refine⟨hk,?_⟩
     refine⟨⟨hc.may 1 rfl _ _ (nle rfl) rfl,?_⟩,trivial⟩
     intro wS hS
     have hk:=Keeps.stored hk (hc.blk 1 rfl) ng9 hS
     have hc:=(hc.set 1 rfl hS).1
     refine⟨hk,?_⟩
     refine hc.s 0 rfl fun wS hS hc=>?_
     first | exact⟨(g9,g10,xS),⟨rfl,rfl,rfl,rfl,rfl,trivial⟩,_,hc⟩ | exact⟨(g9,g10,xS),⟨rfl,rfl,rfl,rfl,rfl,trivial⟩,_,hc.swapL⟩
    refine⟨hc.n fun g10 wg10 hg10 hc=>?_,trivial⟩
    have ng10:=Old.new hk hg10
    have hk:=Keeps.below hk (fun _ h=>h) hg10.below
    refine⟨hk,?_⟩
    refine⟨hc.n fun g9 wg9 hg9 hc=>?_,trivial⟩
    have ng9:=Old.new hk hg9
    have hk:=Keeps.below hk (fun _ h=>h) hg9.below
    refine⟨hk,?_⟩
    refine⟨⟨hc.may 0 rfl _ _ (nle rfl) rfl,?_⟩,trivial⟩
    intro wS hS
    have hk:=Keeps.stored hk (hc.blk 0 rfl) ng9 hS
    have hc:=(hc.set 0 rfl hS).1
    refine⟨hk,?_⟩
    refine hc.s 1 rfl fun wS hS hc=>?_
    first | exact⟨(g9,g10,xS),⟨rfl,rfl,rfl,rfl,rfl,trivial⟩,_,hc⟩ | exact⟨(g9,g10,xS),⟨rfl,rfl,rfl,rfl,rfl,trivial⟩,_,hc.swapL⟩
   refine⟨?_,?_⟩
   ·skip
    refine hc.n fun g9 wg9 hg9 hc=>?_
    have ng9:=Old.new hk hg9
    have hk:=Keeps.below hk (fun _ h=>h) hg9.below
    refine⟨hk,?_⟩
    refine⟨?_,?_⟩
    ·skip
     refine⟨(rdo_call hc 3 rfl hko d hdd.2).mono fun en wq hq2=>?_⟩
     obtain⟨xS,S2,e1,hb,hc⟩:=hq2
     have hk:=Keeps.below hk (fun _ h=>h) hb
     refine⟨_,e1,hk,?_⟩
     refine⟨hc.n fun g10 wg10 hg10 hc=>?_,trivial⟩
     have ng10:=Old.new hk hg10
     have hk:=Keeps.below hk (fun _ h=>h) hg10.below
     refine⟨hk,?_⟩
     refine⟨⟨hc.may 1 rfl _ _ (nle rfl) rfl,?_⟩,trivial⟩
     intro wS hS
     have hk:=Keeps.stored hk (hc.blk 1 rfl) ng9 hS
     have hc:=(hc.set 1 rfl hS).1
     refine⟨hk,?_⟩
     refine hc.s 0 rfl fun wS hS hc=>?_
     first | exact⟨(g9,g10,xS),⟨rfl,rfl,rfl,rfl,rfl,trivial⟩,_,hc⟩ | exact⟨(g9,g10,xS),⟨rfl,rfl,rfl,rfl,rfl,trivial⟩,_,hc.swapL⟩
    refine⟨hc.n fun g10 wg10 hg10 hc=>?_,trivial⟩
    have ng10:=Old.new hk hg10
    have hk:=Keeps.below hk (fun _ h=>h) hg10.below
    refine⟨hk,?_⟩
    refine⟨⟨(rdo_call hc 4 rfl hko d hdd.2).mono fun en wq hq2=>?_⟩,trivial⟩
    obtain⟨xS,S2,e1,hb,hc⟩:=hq2
    have hk:=Keeps.below hk (fun _ h=>h) hb
    refine⟨_,e1,hk,?_⟩
    refine⟨⟨hc.may 1 rfl _ _ (nle rfl) rfl,?_⟩,trivial⟩
    intro wS hS
    have hk:=Keeps.stored hk (hc.blk 1 rfl) ng9 hS
    have hc:=(hc.set 1 rfl hS).1
    refine⟨hk,?_⟩
    refine hc.s 0 rfl fun wS hS hc=>?_
    first | exact⟨(g9,g10,xS),⟨rfl,rfl,rfl,rfl,rfl,trivial⟩,_,hc⟩ | exact⟨(g9,g10,xS),⟨rfl,rfl,rfl,rfl,rfl,trivial⟩,_,hc.swapL⟩
   refine⟨hc.n fun g10 wg10 hg10 hc=>?_,trivial⟩
   have ng10:=Old.new hk hg10
   have hk:=Keeps.below hk (fun _ h=>h) hg10.below
   refine⟨hk,?_⟩
   refine⟨?_,?_⟩
   ·skip
    refine⟨(rdo_call hc 3 rfl hko d hdd.2).mono fun en wq hq2=>?_⟩
    obtain⟨xS,S2,e1,hb,hc⟩:=hq2
    have hk:=Keeps.below hk (fun _ h=>h) hb
    refine⟨_,e1,hk,?_⟩
    refine⟨hc.n fun g9 wg9 hg9 hc=>?_,trivial⟩
    have ng9:=Old.new hk hg9
    have hk:=Keeps.below hk (fun _ h=>h) hg9.below
    refine⟨hk,?_⟩
    refine⟨⟨hc.may 0 rfl _ _ (nle rfl) rfl,?_⟩,trivial⟩
    intro wS hS
    have hk:=Keeps.stored hk (hc.blk 0 rfl) ng9 hS
    have hc:=(hc.set 0 rfl hS).1
    refine⟨hk,?_⟩
    refine hc.s 1 rfl fun wS hS hc=>?_
    first | exact⟨(g9,g10,xS),⟨rfl,rfl,rfl,rfl,rfl,trivial⟩,_,hc⟩ | exact⟨(g9,g10,xS),⟨rfl,rfl,rfl,rfl,rfl,trivial⟩,_,hc.swapL⟩
   refine⟨hc.n fun g9 wg9 hg9 hc=>?_,trivial⟩
   have ng9:=Old.new hk hg9
   have hk:=Keeps.below hk (fun _ h=>h) hg9.below
   refine⟨hk,?_⟩
   refine⟨⟨(rdo_call hc 4 rfl hko d hdd.2).mono fun en wq hq2=>?_⟩,trivial⟩
   obtain⟨xS,S2,e1,hb,hc⟩:=hq2
   have hk:=Keeps.below hk (fun _ h=>h) hb
   refine⟨_,e1,hk,?_⟩
   refine⟨⟨hc.may 0 rfl _ _ (nle rfl) rfl,?_⟩,trivial⟩
   intro wS hS
   have hk:=Keeps.stored hk (hc.blk 0 rfl) ng9 hS
   have hc:=(hc.set 0 rfl hS).1
   refine⟨hk,?_⟩
   refine hc.s 1 rfl fun wS hS hc=>?_
   first | exact⟨(g9,g10,xS),⟨rfl,rfl,rfl,rfl,rfl,trivial⟩,_,hc⟩ | exact⟨(g9,g10,xS),⟨rfl,rfl,rfl,rfl,rfl,trivial⟩,_,hc.swapL⟩
  clear hc
  rintro⟨g9,g10,xS⟩ u2 w2 ⟨S2,hc⟩
  simp only at hc
  refine Drawn.join (α:=Option Addr × Nat) (fun z=>[(0,.pointer (some ⟨g,0,none⟩)),(7,.int .i64 n),(8,.slice z.1 (i+1) z.2)])
   (fun z wS=>∃ S3 A' cap',CtxF no (bare w) S3 wS [(g6,32,dC dd),(g3,71,opC o),(g,83,lkC (kAt k (i+1)) xS A' cap')] [⟨54,2,z.1,i+1,z.2,((resS k.b (k.pend.take (i+1))).map resC).flatten⟩] (KL w g S (KnR (kAt k (i+1)) xS A' cap'))) ?_ ?_
  ·refine vD (.Q [0,1,2,3,4,5,8,9] (.n 6 (.q 7 (.n 10 (.n 11 (.Q [12,13] (.n 14 (.Q [15,16] (.n 17 (.q 18 .fin) .stop)) .stop)) .stop) .stop)) (.n 10 (.n 6 (.q 7 (.n 11 (.Q [12,13] (.n 14 (.Q [15,16] (.n 17 (.q 18 .fin) .stop)) .stop)) .stop)) (.n 11 (.n 6 (.Q [7,12,13] (.n 14 (.Q [15,16] (.n 17 (.q 18 .fin) .stop)) .stop)) .stop) .stop)) .stop))) (fun z=>Blk z g9 43 (stX (doS ki.b d).1 xS)/\Blk z g10 54 (resC (doS ki.b d).2)) ⟨hc.blk 1 rfl,hc.blk 0 rfl⟩ ?_
   have hc:=hc.drew
   refine⟨stX (doS ki.b d).1 xS,rfl,fun z hz=>drop_cells hz.1 0 _ 0 (fun j v hj=>by simpa using hj),?_⟩
   refine⟨resC (doS ki.b d).2,rfl,fun z hz=>drop_cells hz.2 0 _ 0 (fun j v hj=>by simpa using hj),?_⟩
   refine⟨?_,?_⟩
   ·skip
    refine⟨_,hc.cell 4 rfl _ rfl,⟨hc.blk 1 rfl,hc.blk 0 rfl⟩,?_⟩
    refine⟨⟨by decide,by show (1:Int)<=(ki.pend.length:Int)/\(ki.pend.length:Int)<=(cap:Int)/\(cap:Int)<=(cap:Int);omega⟩,?_⟩
    refine⟨hc.n fun gv wgv hgv hc=>?_,trivial⟩
    refine⟨⟨hc.blk 2 rfl,hc.blk 1 rfl⟩,?_⟩
    refine⟨app_ownF (m:=1) Tryz.underlying35 info_Rs rfl (by decide) hc (by rfl) (hc.cells 0 rfl) rfl (by omega) (by decide) rfl rfl ?_,trivial⟩
    intro A3 c3 w3 hc
    refine⟨⟨hc.blk 2 rfl,hc.blk 1 rfl⟩,?_⟩
    refine⟨hc.s 5 rfl fun wS hS hc=>?_,trivial⟩
    refine⟨⟨hc.blk 2 rfl,hc.blk 1 rfl⟩,?_⟩
    refine⟨hc.s 5 rfl fun wS hS hc=>?_,trivial⟩
    refine⟨⟨hc.blk 2 rfl,hc.blk 1 rfl⟩,?_⟩
    exact⟨(A3,c3),⟨rfl,rfl,rfl,trivial⟩,dcommit_leaf hk1 hk2 hpd hcapb hke hkl hc⟩
   refine⟨hc.n fun gv wgv hgv hc=>?_,trivial⟩
   refine⟨⟨hc.blk 2 rfl,hc.blk 1 rfl⟩,?_⟩
   refine⟨?_,?_⟩
   ·skip
    refine⟨_,hc.cell 5 rfl _ rfl,⟨hc.blk 2 rfl,hc.blk 1 rfl⟩,?_⟩
    refine⟨⟨by decide,by show (1:Int)<=(ki.pend.length:Int)/\(ki.pend.length:Int)<=(cap:Int)/\(cap:Int)<=(cap:Int);omega⟩,?_⟩
    refine⟨app_ownF (m:=1) Tryz.underlying35 info_Rs rfl (by decide) hc (by rfl) (hc.cells 0 rfl) rfl (by omega) (by decide) rfl rfl ?_,trivial⟩
    intro A3 c3 w3 hc
    refine⟨⟨hc.blk 2 rfl,hc.blk 1 rfl⟩,?_⟩
    refine⟨hc.s 5 rfl fun wS hS hc=>?_,trivial⟩
    refine⟨⟨hc.blk 2 rfl,hc.blk 1 rfl⟩,?_⟩
    refine⟨hc.s 5 rfl fun wS hS hc=>?_,trivial⟩
    refine⟨⟨hc.blk 2 rfl,hc.blk 1 rfl⟩,?_⟩
    exact⟨(A3,c3),⟨rfl,rfl,rfl,trivial⟩,dcommit_leaf hk1 hk2 hpd hcapb hke hkl hc⟩
   refine⟨app_ownF (m:=1) Tryz.underlying35 info_Rs rfl (by decide) hc (by rfl) (hc.cells 0 rfl) rfl (by omega) (by decide) rfl rfl ?_,trivial⟩
   intro A3 c3 w3 hc
   refine⟨⟨hc.blk 2 rfl,hc.blk 1 rfl⟩,?_⟩
   refine⟨⟨_,hc.cell 5 rfl _ rfl,⟨hc.blk 2 rfl,hc.blk 1 rfl⟩,?_⟩,trivial⟩
   refine⟨⟨by decide,by show (1:Int)<=(ki.pend.length:Int)/\(ki.pend.length:Int)<=(cap:Int)/\(cap:Int)<=(cap:Int);omega⟩,?_⟩
   refine⟨hc.s 5 rfl fun wS hS hc=>?_,trivial⟩
   refine⟨⟨hc.blk 2 rfl,hc.blk 1 rfl⟩,?_⟩
   refine⟨hc.s 5 rfl fun wS hS hc=>?_,trivial⟩
   refine⟨⟨hc.blk 2 rfl,hc.blk 1 rfl⟩,?_⟩
   exact⟨(A3,c3),⟨rfl,rfl,rfl,trivial⟩,dcommit_leaf hk1 hk2 hpd hcapb hke hkl hc⟩
  clear hc
  rintro⟨A3,c3⟩ u3 w3 ⟨S3,A',cap',hc⟩
  exact⟨(i+1,A3,c3),⟨rfl,rfl,rfl,trivial⟩,⟨hlt,S3,xS,A',cap',hc⟩,by show (n-k.b.seq).toNat-(i+1)<(n-k.b.seq).toNat-i;omega⟩
 refine split_f (by show (o.kind==1)=false;rw [beq_eq_false_iff_ne];exact k1) ?_
 rw [if_neg k1] at hq
 by_cases k2:o.kind=2
 ·refine split_t (by show (o.kind==2)=true;rw [k2];rfl) ?_
  rw [if_pos k2] at hq
  refine⟨_,hc.cell 1 rfl _ rfl,?_⟩
  by_cases hn1:o.n<1
  ·rw [if_pos hn1] at hq
   subst hq
   refine split_t (decide_eq_true hn1) ?_
   exact RetKd.nil hc.drop.drop rfl
  rw [if_neg hn1] at hq
  subst hq
  refine split_f (decide_eq_false hn1) ?_
  have hw2:IntKind.i64.wrap (k.ep+o.n)=k.ep+o.n:=IntWalk.i64_in _ ⟨by omega,by omega⟩
  refine vD (.Q [0,1,2,4] (.n 3 (.n 5 (.Q [6,7,8] (.n 9 .fin .stop)) .stop) (.n 5 (.n 3 (.Q [6,7,8] (.n 9 .fin .stop)) .stop) .stop))) (fun _=>True) trivial ?_
  have hc:=hc.drew
  refine⟨?_,?_⟩
  ·skip
   refine⟨_,hc.cell 2 rfl _ rfl,trivial,?_⟩
   refine⟨⟨_,hc.cell 1 rfl _ rfl,trivial,?_⟩,trivial⟩
   refine⟨hc.s' 2 rfl fun wS hS hc=>?_,trivial⟩
   refine RetKd.nil (k:=⟨k.b,k.pend,k.ep+o.n,k.ln⟩) (x:=x) (A:=A) (cap:=cap) hc.drop.drop ?_
   show putAt (lkC k x A cap) 10 [.int .i64 (IntKind.i64.wrap (k.ep+o.n))]=_
   rw [hw2]
   rfl
  refine⟨⟨_,hc.cell 1 rfl _ rfl,trivial,?_⟩,trivial⟩
  refine⟨⟨_,hc.cell 2 rfl _ rfl,trivial,?_⟩,trivial⟩
  refine⟨hc.s' 2 rfl fun wS hS hc=>?_,trivial⟩
  refine RetKd.nil (k:=⟨k.b,k.pend,k.ep+o.n,k.ln⟩) (x:=x) (A:=A) (cap:=cap) hc.drop.drop ?_
  show putAt (lkC k x A cap) 10 [.int .i64 (IntKind.i64.wrap (k.ep+o.n))]=_
  rw [hw2]
  rfl
 refine split_f (by show (o.kind==2)=false;rw [beq_eq_false_iff_ne];exact k2) ?_
 rw [if_neg k2] at hq
 by_cases k3:o.kind=3
 ·refine split_t (by show (o.kind==3)=true;rw [k3];rfl) ?_
  rw [if_pos k3] at hq
  refine hc.a 0 rfl rfl ?_
  refine hc.q (rmay_any dd hcd _) fun wQ hQ hc=>?_
  cases hmd:mayD dd with
  | false=>
   rw [hmd,if_pos rfl] at hq
   subst hq
   exact RetKd.nil hc.drop.drop rfl
  | true=>
  rw [hmd,if_neg (by decide)] at hq
  subst hq
  refine vD (.Q [0,1,4,5,6] (.n 2 (.n 3 (.n 7 (.Q [8,9] (.n 10 (.Q [11,12] (.n 13 .fin .stop)) .stop)) .stop) (.n 7 (.n 3 (.Q [8,9] (.n 10 (.Q [11,12] (.n 13 .fin .stop)) .stop)) .stop) .stop)) (.n 7 (.n 2 (.n 3 (.Q [8,9] (.n 10 (.Q [11,12] (.n 13 .fin .stop)) .stop)) .stop) .stop) .stop))) (fun _=>True) trivial ?_
  have hc:=hc.drew
  refine⟨?_,?_⟩
  ·skip
   refine hc.a' 0 rfl rfl ?_
   refine⟨?_,?_⟩
   ·skip
    refine hc.n' fun gv wgv hgv hc=>?_
    refine⟨⟨_,hc.cell 3 rfl _ rfl,trivial,?_⟩,trivial⟩
    refine⟨hc.s' 3 rfl fun wS hS hc=>?_,trivial⟩
    refine⟨hc.s' 3 rfl fun wS hS hc=>?_,trivial⟩
    have hc:=hc.closed 8 1 1 (Nat.le_refl _) (by decide) rfl
    obtain⟨S2,hc⟩:=hc.toldL (KnR.stab _ _ _ _) 2 rfl
    have hc:=(hc.nowL (R':=KnR ⟨k.b,[dd],k.ep,k.ep⟩ x (some ⟨gv,0,none⟩) 1) (fun S w h=>⟨h.1.1,h.2⟩) (KnR.stab _ _ _ _)).drop.drop
    exact RetKd.nil hc rfl
   refine⟨⟨_,hc.cell 2 rfl _ rfl,trivial,?_⟩,trivial⟩
   refine⟨hc.n' fun gv wgv hgv hc=>?_,trivial⟩
   refine⟨hc.s' 3 rfl fun wS hS hc=>?_,trivial⟩
   refine⟨hc.s' 3 rfl fun wS hS hc=>?_,trivial⟩
   have hc:=hc.closed 8 1 1 (Nat.le_refl _) (by decide) rfl
   obtain⟨S2,hc⟩:=hc.toldL (KnR.stab _ _ _ _) 2 rfl
   have hc:=(hc.nowL (R':=KnR ⟨k.b,[dd],k.ep,k.ep⟩ x (some ⟨gv,0,none⟩) 1) (fun S w h=>⟨h.1.1,h.2⟩) (KnR.stab _ _ _ _)).drop.drop
   exact RetKd.nil hc rfl
  refine⟨⟨_,hc.cell 2 rfl _ rfl,trivial,?_⟩,trivial⟩
  refine⟨hc.a' 0 rfl rfl ?_,trivial⟩
  refine⟨hc.n' fun gv wgv hgv hc=>?_,trivial⟩
  refine⟨hc.s' 3 rfl fun wS hS hc=>?_,trivial⟩
  refine⟨hc.s' 3 rfl fun wS hS hc=>?_,trivial⟩
  have hc:=hc.closed 8 1 1 (Nat.le_refl _) (by decide) rfl
  obtain⟨S2,hc⟩:=hc.toldL (KnR.stab _ _ _ _) 2 rfl
  have hc:=(hc.nowL (R':=KnR ⟨k.b,[dd],k.ep,k.ep⟩ x (some ⟨gv,0,none⟩) 1) (fun S w h=>⟨h.1.1,h.2⟩) (KnR.stab _ _ _ _)).drop.drop
  exact RetKd.nil hc rfl
 refine split_f (by show (o.kind==3)=false;rw [beq_eq_false_iff_ne];exact k3) ?_
 rw [if_neg k3] at hq
 subst hq
 exact RetKd.nil hc.drop.drop rfl
end Go.Proofs.YtokglimimnelaaaGreatDoor
section
namespace Go.Vc
open Go Go.RowKit
open Go.Proofs.YtokglimimnelaaaGreatDoor (no)
set_option maxRecDepth 100000
def Mut (R:Kn):Kn:=fun S w=>∃ Sr:Nat->Prop,(∀ x,Sr x->S x/\∃ T cs,Blk w x T cs)/\R Sr w
theorem Mut.stab {R:Kn} (hR:Stab R):Stab (Mut R):=fun S w S' w' h f=>by
 obtain⟨Sr,h1,h2⟩:=h
 refine⟨Sr,fun x hx=>⟨f.1 x (h1 x hx).1,?_⟩,hR _ _ _ _ h2 ⟨fun _ h=>h,fun x hx=>f.2 x (h1 x hx).1⟩⟩
 obtain⟨T,cs,hB⟩:=(h1 x hx).2
 exact⟨T,cs,hB.of_eq (f.2 x (h1 x hx).1)⟩
theorem Mut.plain {R:Kn} (hR:Stab R) {S:Nat->Prop} {w:World} (h:Mut R S w):R S w:=by
 obtain⟨Sr,h1,h2⟩:=h
 exact hR _ _ _ _ h2 ⟨fun x hx=>(h1 x hx).1,fun _ _=>rfl⟩
theorem Mut.imp {R R':Kn} {S:Nat->Prop} {w:World} (h:Mut R S w) (k:∀ S w,R S w->R' S w):Mut R' S w:=by
 obtain⟨Sr,h1,h2⟩:=h
 exact⟨Sr,h1,k _ _ h2⟩
theorem Mut.and {R X:Kn} (hR:Stab R) (hX:Stab X) {S:Nat->Prop} {w:World} (h:Mut R S w) (k:Mut X S w):Mut (fun S w=>R S w/\X S w) S w:=by
 obtain⟨Sr,h1,h2⟩:=h
 obtain⟨Sx,k1,k2⟩:=k
 refine⟨fun x=>Sr x\/Sx x,fun x hx=>hx.elim (h1 x) (k1 x),hR _ _ _ _ h2 ⟨fun _ h=>.inl h,fun _ _=>rfl⟩,hX _ _ _ _ k2 ⟨fun _ h=>.inr h,fun _ _=>rfl⟩⟩
def ZA (A:Option Addr):Prop:=∀ a,A=some a->a=⟨a.block,0,none⟩
theorem row_stab {A:Option Addr} {n cap:Nat} {xs:List Value}:Stab (fun S w=>Row S w A n cap xs):=fun _ _ _ _ h f=>h.fut f
theorem rowz_stab {A:Option Addr} {n cap:Nat} {xs:List Value}:Stab (fun S w=>Row S w A n cap xs/\ZA A):=fun _ _ _ _ h f=>⟨h.1.fut f,h.2⟩
theorem Own.blk {S:Nat->Prop} {n0:Nat} {w:World} {l:List LB} {e sz n cap:Nat} {A:Option Addr} {xs:List Value} (h:Own S n0 w l e sz A n cap xs) {a:Addr} (ha:A=some a):∃ T cs,Blk w a.block T cs:=by
 rcases h.row.2 with ⟨e1,_⟩ | ⟨g,cp,cur,e1,_,hb,_⟩
 ·subst ha
  cases e1
 ·subst ha
  cases e1
  exact⟨e,cur.toList,by unfold Blk;rw [hb]⟩
section
variable {S0 S:Nat->Prop} {w0 w w':World} {l:List LB} {os:List OR} {o:OR} {R O O':Kn}
structure Cel (w:World) (a:Addr):Prop where
 spot:a.spot=none
 blk:∃ T cs,Blk w a.block T cs/\a.off<cs.length
theorem Cel.kept {a:Addr} (h:Cel w a) (e:w'.heap[a.block]?=w.heap[a.block]?):Cel w' a:=by
 obtain⟨h1,T,cs,h2,h3⟩:=h
 exact⟨h1,T,cs,h2.of_eq e,h3⟩
theorem Cel.of {a:Addr} {v:Value} (hs:a.spot=none) (hB:∃ T cs,Blk w a.block T cs) (hv:w.cell? a=some v):Cel w a:=by
 obtain⟨T,cs,hB⟩:=hB
 refine⟨hs,T,cs,hB,?_⟩
 obtain⟨b,off,sub⟩:=a
 cases hs
 rw [hB.cell] at hv
 exact (List.getElem?_eq_some_iff.1 hv).1
structure Poked (w:World) (a:Addr) (w':World):Prop where
 turn:Turn (fun x=>x=a.block) w w'
 size:w'.heap.size=w.heap.size
 cell:∀ b:Addr,b.spot=none->(b.block≠a.block\/b.off≠a.off)->w'.cell? b=w.cell? b
 cel:∀ b:Addr,Cel w b->Cel w' b
theorem Cel.may {a:Addr} (h:Cel w a) {v:Value} (h1:v.oneCell'=true):mayStore w a [v] 0:=by
 obtain⟨b,off,sub⟩:=a
 obtain⟨h2,T,cs,hB,hl⟩:=h
 cases h2
 exact mayStore_blk hB off [v] 0 (by show off+0+1<=_;have:off<cs.length:=hl;omega) (fun x hx=>by rw [List.mem_singleton.1 hx];exact h1)
end
end Go.Vc
namespace Go.Proofs.YtokglimimnelaaaGreatDoor
open Go.Vc Go.RowKit Go.Fl Go.ChangeShapes Go.WideShapes Go.ChangeAt
theorem flatAt:∀ {css:List (List Value)} {k:Nat},Flat k css->∀ (i j:Nat) (c:List Value) (v:Value),css[i]?=some c->c[j]?=some v->css.flatten[i*k+j]?=some v
 | c0::r,k,hF,0,j,c,v,hc,hv=>by
  cases hc
  rw [List.flatten_cons,Nat.zero_mul,Nat.zero_add,List.getElem?_append_left (List.getElem?_eq_some_iff.1 hv).1]
  exact hv
 | c0::r,k,hF,i+1,j,c,v,hc,hv=>by
  have h0:=(hF c0 (List.mem_cons_self ..)).1
  rw [List.flatten_cons,List.getElem?_append_right (by rw [h0,Nat.succ_mul];omega),h0,show (i+1)*k+j-k=i*k+j from by rw [Nat.succ_mul];omega]
  exact flatAt (fun x hx=>hF x (List.mem_cons_of_mem _ hx)) i j c v hc hv
def zc (c:List Value):Prop:=∃ k AV nv cv,c=[k,.slice AV nv cv]/\ZA AV
def EsM (l:List Ent) (css:List (List Value)) (B:Option Addr) (m cap:Nat) (xs:List Value):Kn:=fun S w=>(RepEs S w l css/\Row S w B m cap xs)/\(ZA B/\∀ c∈css,zc c)
theorem EsM.stab (l:List Ent) (css:List (List Value)) (B:Option Addr) (m cap:Nat) (xs:List Value):Stab (EsM l css B m cap xs):=Stab.and (Stab.and (fun _ _ _ _ h f=>h.map fun h=>h.fut f) row_stab) (fun _ _ _ _ h _=>h)
def StM (s:Stt) (x:SX) (css:List (List Value)):Kn:=Sep 0 (Mut (EsM s.l css x.B s.ms.length x.cap' (s.ms.map memC).flatten)) (Mut (fun S w=>Row S w x.A s.l.length x.cap css.flatten/\ZA x.A))
theorem StM.stab (s:Stt) (x:SX) (css:List (List Value)):Stab (StM s x css):=Sep.stab (Mut.stab (EsM.stab _ _ _ _ _ _)) (Mut.stab rowz_stab)
end Go.Proofs.YtokglimimnelaaaGreatDoor
end
