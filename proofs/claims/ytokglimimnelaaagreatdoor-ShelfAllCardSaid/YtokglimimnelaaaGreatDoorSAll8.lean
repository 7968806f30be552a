import Derived.Test.YtokglimimnelaaaGreatDoorM14
set_option linter.unusedVariables false
set_option linter.unusedSimpArgs false
/- Walk: armariumlaw8.ShelfAll. -/
namespace Go.Proofs.YtokglimimnelaaaGreatDoor
open Go.Vc Go.RowKit Go.Fl Go.ChangeShapes Go.WideShapes Go.ChangeAt
set_option maxRecDepth 100000
def ElR:List Known->List (List Value)->(Nat->Prop)->World->Prop
 | [],css,S,w=>css=[]
 | k::r,css,S,w=>∃ x A cap t,css=lkC k x A cap::t/\KnR k x A cap S w/\ElR r t S w
theorem ElR.stab:∀ (el:List Known) (css:List (List Value)),Stab (ElR el css)
 | [],css=>fun _ _ _ _ h _=>h
 | k::r,css=>fun S w S' w' h f=>by
  obtain⟨x,A,cap,t,e,h1,h2⟩:=h
  exact⟨x,A,cap,t,e,KnR.stab _ _ _ _ _ _ _ _ h1 f,ElR.stab r t _ _ _ _ h2 f⟩
theorem ElR.len {S:Nat->Prop} {w:World}:∀ {el:List Known} {css:List (List Value)},ElR el css S w->css.length=el.length
 | [],css,h=>by rw [show css=[] from h];rfl
 | k::r,css,⟨x,A,cap,t,e,h1,h2⟩=>by rw [e,List.length_cons,List.length_cons,h2.len]
theorem lkC_flat (k:Known) (x:SX) (A:Option Addr) (cap:Nat):(lkC k x A cap).length=18/\allOne (lkC k x A cap)=true:=⟨rfl,rfl⟩
theorem ElR.flat {S:Nat->Prop} {w:World}:∀ {el:List Known} {css:List (List Value)},ElR el css S w->Flat 18 css
 | [],css,h=>by rw [show css=[] from h];intro c hc;cases hc
 | k::r,css,⟨x,A,cap,t,e,h1,h2⟩=>by
  rw [e]
  intro c hc
  cases hc with
  | head=>exact lkC_flat _ _ _ _
  | tail _ hc=>exact h2.flat c hc
theorem ElR.get {S:Nat->Prop} {w:World}:∀ {el:List Known} {css:List (List Value)},ElR el css S w->∀ (i:Nat) (hi:i<el.length),∃ x A cap,css[i]?=some (lkC el[i] x A cap)/\KnR el[i] x A cap S w
 | k::r,css,⟨x,A,cap,t,e,h1,h2⟩,0,hi=>⟨x,A,cap,by rw [e];rfl,h1⟩
 | k::r,css,⟨x,A,cap,t,e,h1,h2⟩,i+1,hi=>by
  obtain⟨x',A',cap',e',h'⟩:=h2.get i (Nat.lt_of_succ_lt_succ hi)
  exact⟨x',A',cap',by rw [e];exact e',h'⟩
theorem ElR.snoc {S:Nat->Prop} {w:World} {k:Known} {x:SX} {A:Option Addr} {cap:Nat} (hk:KnR k x A cap S w):∀ {el:List Known} {css:List (List Value)},ElR el css S w->ElR (el++[k]) (css++[lkC k x A cap]) S w
 | [],css,h=>by rw [show css=[] from h];exact⟨x,A,cap,[],rfl,hk,rfl⟩
 | k'::r,css,⟨x',A',cap',t,e,h1,h2⟩=>by rw [e];exact⟨x',A',cap',_,rfl,h1,ElR.snoc hk h2⟩
theorem KnR.lkC {k:Known} {x x':SX} {A A':Option Addr} {cap cap':Nat} {S:Nat->Prop} {w:World} (h:KnR k x A cap S w) (e:lkC k x A cap=lkC k x' A' cap'):KnR k x' A' cap' S w:=by
 obtain⟨a1,a2,a3,a4,b0,b1,b2,b3,b4⟩:=x
 obtain⟨c1,c2,c3,c4,d0,d1,d2,d3,d4⟩:=x'
 unfold Go.Proofs.YtokglimimnelaaaGreatDoor.lkC at e
 simp only [List.cons.injEq,Value.int.injEq,Value.slice.injEq,true_and,and_true] at e
 obtain⟨⟨e1,e2⟩,⟨e3,e4⟩,e5,e6,e7,e8,e9,⟨e10,e11⟩⟩:=e
 subst e1 e2 e3 e4 e5 e6 e7 e8 e9 e10 e11
 exact h
theorem blkRow {w:World} {g T:Nat} {xs:List Value} (hB:Blk w g T xs) (n:Nat) (hn:n<=maxLen):Row (fun b=>b=g) w (some ⟨g,0,none⟩) n n xs:=
 ⟨Nat.le_refl _,hn,fun _=>⟨_,rfl,rfl,fun j u hu=>by rw [Addr.add_lit,Nat.zero_add,hB.cell];exact hu⟩⟩
def RA (k:Known) (x:SX) (A:Option Addr) (cap:Nat) (el:List Known) (css:List (List Value)):Kn:=fun S w=>KnR k x A cap S w/\ElR el css S w
theorem RA.stab (k:Known) (x:SX) (A:Option Addr) (cap:Nat) (el:List Known) (css:List (List Value)):Stab (RA k x A cap el css):=(KnR.stab _ _ _ _).and (ElR.stab _ _)
def orL (C:Option Addr) (cc n:Nat) (css:List (List Value)):OR:=⟨83,18,C,n,cc,css.flatten⟩
theorem info_L:(Tryz.prog.info? 83).map (fun i=>(i.zero,i.size,i.bytes))=some (some (.agg #[.int .i64 0,.int .i64 0,.slice none 0 0,.slice none 0 0,.int .i64 0,.int .i64 0,.int .i64 0,.int .i64 0,.int .i64 0,.slice none 0 0,.int .i64 0,.int .i64 0,.slice none 0 0,.int .i64 0,.int .i64 0,.int .i64 0,.slice none 0 0,.slice none 0 0]),18,240):=by kernel_rfl
section
variable {w0 w:World} {S:Nat->Prop} {l:List LB} {os:List OR} {R O:Kn} {g T n0:Nat} {cs:List Value}
/-- A local block that a call turns, beside the thing; what it makes is known. -/
theorem _root_.Go.Vc.CtxF.sepTurnL (hc:CtxF no w0 S w l os (Sep w0.heap.size R O)) (hR:Stab R) (hO:Stab O) (k:Nat) (hk:l[k]?=some (g,T,cs)):
  ∃ S1:Nat->Prop,(∀ x,S1 x->x<w.heap.size/\x≠g)/\R S1 w/\∀ {w':World} {cs':List Value} {X:Kn},Turn (fun x=>x=g) w w'->Blk w' g T cs'->Stab X->X (ext S1 w w') w'->CtxF no w0 (ext S w w') w' (setLoc l k cs') os (Sep w0.heap.size (fun S w=>R S w/\X S w) O):=by
 obtain⟨S1,Sa,h1,h2,h3,h4⟩:=hc.row
 refine⟨S1,fun x hx=>⟨hc.ctx.lt x (h1 x hx).1,fun e=>(hc.ctx.locs.notS hk).1 (e▸(h1 x hx).1)⟩,h3,fun {w' cs' X} hT hB hX hx=>?_⟩
 obtain⟨hc',hf⟩:=hc.turnL k hk hT hB
 refine hc'.now (fun _=>⟨ext S1 w w',Sa,fun x hx=>?_,fun x hx=>⟨.inl (h2 x hx).1,(h2 x hx).2⟩,⟨hR _ _ _ _ h3 ⟨fun _ h=>.inl h,fun x hx=>hf.2 x (h1 x hx).1⟩,hx⟩,hO _ _ _ _ h4 ⟨fun _ h=>h,fun x hx=>hf.2 x (h2 x hx).1⟩⟩) (Sep.stab (hR.and hX) hO)
 rcases hx with hx | hx
 ·exact⟨.inl (h1 x hx).1,(h1 x hx).2⟩
 ·exact⟨.inr hx,fun h=>by have:=hc.ctx.lt x (h2 x h).1;omega⟩
theorem same_loc {gs gj gc b:Nat} {H:Sh} {x:SX} {A:Option Addr} {cap:Nat} {el:List Known} {css:List (List Value)} (hc:CtxF no w0 S w l os (Sep n0 (RA H.k x A cap el css) (ShelfK gs gj gc b H))) (hf:H.Ok) (hd:H.down=false) (k:Nat) (hk:l[k]?=some (g,T,lkC H.k x A cap)):
  Calls Tryz.prog 36 #[.pointer (some ⟨gs,0,none⟩),.pointer (some ⟨g,0,none⟩)] w (RetB (.bool true) w):=by
 have h:=same8_any gs gj gc b H hf H.k hf.k x A cap g 0 (fun y=>y=g\/S y) w (fun y hy=>hy.elim (fun e=>e▸(hc.blk k hk).lt) (hc.ctx.lt y)) hd ⟨⟨.inl rfl,hc.cells k hk⟩,KnR.stab _ _ _ _ _ _ _ _ (hc.row.left (RA.stab _ _ _ _ _ _)).1 ⟨fun _ h=>.inr h,fun _ _=>rfl⟩,ShelfK.stab _ _ _ _ _ _ _ _ _ (hc.row.right (ShelfK.stab _ _ _ _ _)) ⟨fun _ h=>.inr h,fun _ _=>rfl⟩⟩
 rw [sameK_iff.2 rfl] at h
 exact h
theorem _root_.Go.Vc.CtxF.fstBlk {S0:Nat->Prop} {o:OR} (hc:CtxF S0 w0 S w l (o::os) R) (hn:0<o.n):∃ ge,o.A=some ⟨ge,0,none⟩/\ge<w.heap.size/\∀ i v,o.xs[i]?=some v->w.cell? ⟨ge,i,none⟩=some v:=by
 have hrow:=hc.fst.row
 rcases hrow.2 with ⟨_,h0⟩ | ⟨g,cp,cur,e1,_⟩
 ·omega
 ·cases hA:o.A with
  | none=>rw [hA] at e1;cases e1
  | some a=>
   rw [hA] at e1 hrow
   cases e1
   refine⟨g,rfl,(hrow.lt g rfl).2,fun i v hv=>?_⟩
   have:=hrow.cells rfl i v hv
   rw [Addr.add_lit,Nat.zero_add] at this
   exact this
theorem same_el {gs gj gc b:Nat} {H:Sh} {el:List Known} {css:List (List Value)} {C:Option Addr} {cc n ge:Nat} (hc:CtxF no w0 S w l (orL C cc n css::os) (Sep n0 R (ShelfK gs gj gc b H))) (hR:∀ S,R S w->ElR el css S w) (hs:Stab R) (hf:H.Ok) (hd:H.down=false) (hge:ge<w.heap.size) (hcl:∀ i v,css.flatten[i]?=some v->w.cell? ⟨ge,i,none⟩=some v) (i:Nat) (hi:i<el.length) (hok:el[i].Ok):
  Calls Tryz.prog 36 #[.pointer (some ⟨gs,0,none⟩),.pointer (some ⟨ge,i*18,none⟩)] w (RetB (.bool (sameK H.k el[i])) w):=by
 have hE:=hR _ (hc.row.left hs)
 obtain⟨x,A,cap,e,hK⟩:=hE.get i hi
 refine same8_any gs gj gc b H hf el[i] hok x A cap ge (i*18) (fun y=>y=ge\/S y) w (fun y hy=>hy.elim (fun e=>e▸hge) (hc.ctx.lt y)) hd ⟨⟨.inl rfl,at_cells _ 0 fun j v hj=>?_⟩,KnR.stab _ _ _ _ _ _ _ _ hK ⟨fun _ h=>.inr h,fun _ _=>rfl⟩,ShelfK.stab _ _ _ _ _ _ _ _ _ (hc.row.right (ShelfK.stab _ _ _ _ _)) ⟨fun _ h=>.inr h,fun _ _=>rfl⟩⟩
 rw [Nat.zero_add]
 exact hcl _ _ (flatAt hE.flat i j _ _ e hj)
end
def AllI (ol:List Op8) (w:World) (i:Nat) (H:Sh) (el:List Known) (gs gc gw:Nat) (C:Option Addr) (cc:Nat) (w':World):Prop:=
 i<=ol.length/\i<=30/\EldI H el i/\∃ gj b x A cap css S,CtxF no w S w' [(gw,83,lkC H.k x A cap)] [orL C cc el.length css] (Sep w.heap.size (RA H.k x A cap el css) (ShelfK gs gj gc b H))
set_option maxHeartbeats 16000000 in
theorem all8_any (ol:List Op8) (A0:Option Addr) (ca:Nat) (hok:∀ o∈ol,o.Ok) (w:World) (hw:Env w) (hA:Row (inW w) w A0 ol.length ca (ol.map opC).flatten):Calls Tryz.prog 11 #[.slice A0 ol.length ca] w (RetB (.bool true) w):=by
 refine vE Tryz.func11 ?_
 have hc:=CtxF.start w no (fun _ h=>h.elim) (R:=fun _ _=>True) trivial Stab.true
 refine hc.q (begun8_any _ (hw.below hc.below)) fun wQ hQ hc=>?_
 refine⟨(new_any 1048576 _).mono fun en wq hq=>?_⟩
 rw [newC_c0 (by decide)] at hq
 obtain⟨gc,b,e1,hq,hO⟩:=hq
 have hc:=hc.sepNew hq hO (ChestK.stab _ _ _)
 refine⟨_,e1,?_⟩
 obtain⟨S1,Sa,h1,h2,h3,hO⟩:=hc.row
 refine⟨(snew_any gc b 1048576 (by decide) Sa _ (fun x hx=>hc.ctx.lt x (h2 x hx).1) (hw.free hc.below h2) hO).mono fun en wq hq=>?_⟩
 obtain⟨gs,gj,e1,hT,Sn,hSn,hO⟩:=hq
 have hc:=hc.turnO (Stab.true) h1 h2 h3 hT hSn hO (ShelfK.stab _ _ _ _ _)
 refine⟨_,e1,?_⟩
 refine hc.n fun gw wgw hgw hc=>?_
 refine hc.a 0 rfl rfl ?_
 intro g8 w8 h8
 have hc:=hc.made h8 18 1 rfl (by decide)
 have hc:=(hc.sepNow (R':=RA Known0 SX0 none 0 [Known0] [lkC Known0 SX0 none 0]) (fun S h=>⟨⟨rep0X _ _,row0 _ _⟩,⟨SX0,none,0,[],rfl,⟨rep0X _ _,row0 _ _⟩,rfl⟩⟩) (fun _ h=>h) (RA.stab _ _ _ _ _ _) (ShelfK.stab _ _ _ _ _)).castO (o':=orL (some ⟨g8,0,none⟩) 1 1 [lkC Known0 SX0 none 0]) rfl
 have hmA:=row_max hA
 refine⟨Nat × Sh × List Known × Nat × Nat × Nat × Option Addr × Nat,fun (i,H,el,gs,gc,gw,C,cc)=>[(0,.slice A0 ol.length ca),(4,.pointer (some ⟨gc,0,none⟩)),(5,.pointer (some ⟨gs,0,none⟩)),(7,.pointer (some ⟨gw,0,none⟩)),(8,.slice C el.length cc),(9,.int .i64 (i:Int))],
  fun (i,H,el,gs,gc,gw,C,cc) w'=>AllI ol w i H el gs gc gw C cc w',fun (i,_) _=>30-i,(0,H0 1048576,[Known0],gs,gc,gw,some ⟨g8,0,none⟩,1),⟨rfl,rfl,rfl,rfl,rfl,rfl,trivial⟩,⟨Nat.zero_le _,Nat.zero_le _,EldI.h0,gj,b,SX0,none,0,[lkC Known0 SX0 none 0],_,hc⟩,?_⟩
 clear hc
 rintro⟨i,H,el,gs,gc,gw,C,cc⟩ w1 u ⟨hi,hi30,hE,gj,b,x,A,cap,css,S,hc⟩
 by_cases hlt:i<ol.length
 rotate_left
 ·refine split_f (decide_eq_false (by omega)) ?_
  exact⟨rfl,hc.below⟩
 refine split_t (decide_eq_true (by omega)) ?_
 by_cases h30:i<30
 rotate_left
 ·refine split_f (decide_eq_false (by omega)) ?_
  exact⟨rfl,hc.below⟩
 refine split_t (decide_eq_true (by omega)) ?_
 obtain⟨ad,rfl,hcell⟩:=RowO8.elem (hA.below hc.below) i hlt
 obtain⟨o,ho⟩:∃ o,o=ol[i]:=⟨_,rfl⟩
 have hoo:o.Ok:=by rw [ho];exact hok _ (List.getElem_mem _)
 rw [<-ho] at hcell
 refine⟨⟨by omega,by omega⟩,?_⟩
 refine⟨opC o,rfl,by rw [Int.toNat_natCast];exact hcell,?_⟩
 refine hc.n fun g10 wg10 hg10 hc=>?_
 refine hc.s 0 rfl fun wS hS hc=>?_
 have hc:CtxF no w _ _ [(g10,71,opC o),(gw,83,lkC H.k x A cap)] [orL C cc el.length css] (Sep w.heap.size (RA H.k x A cap el css) (ShelfK gs gj gc b H)):=hc
 refine⟨_,hc.cell 0 rfl _ rfl,?_⟩
 by_cases hn0:o.n<0
 ·refine split_t (decide_eq_true hn0) ?_
  exact⟨(i+1,H,el,gs,gc,gw,C,cc),⟨rfl,rfl,rfl,rfl,rfl,congrArg _ (i_down (by omega)),trivial⟩,⟨by omega,by omega,hE.mono (by omega),gj,b,x,A,cap,css,_,hc.drop⟩,by show 30-(i+1)<30-i;omega⟩
 refine split_f (decide_eq_false hn0) ?_
 refine⟨_,hc.cell 0 rfl _ rfl,?_⟩
 by_cases hn1:1048576<o.n
 ·refine split_t (decide_eq_true hn1) ?_
  exact⟨(i+1,H,el,gs,gc,gw,C,cc),⟨rfl,rfl,rfl,rfl,rfl,congrArg _ (i_down (by omega)),trivial⟩,⟨by omega,by omega,hE.mono (by omega),gj,b,x,A,cap,css,_,hc.drop⟩,by show 30-(i+1)<30-i;omega⟩
 refine split_f (decide_eq_false hn1) ?_
 have hn0:0<=o.n:=by omega
 have hn1:o.n<=1048576:=by omega
 refine⟨_,hc.cell 0 rfl _ rfl,?_⟩
 have hcd:=cutD_ok hoo.d
 have hcut:=fun w=>deed5_any o.d hoo.d w
 have hko:=hE.fit.ok.k
 have hsm:=hE.small'
 have hb0:=(mayS_parts.1 hko.may).1
 have hsq:H.k.b.seq<=H.k.seq:=by unfold Known.seq;omega
 have hdo:=fun g S1 w1 hB hS hR=>do8_any H.k hko o hoo ⟨hn0,hn1⟩ ⟨hsm.2.1,by omega⟩ x A cap g S1 w1 hB hS hR
 obtain⟨dd,hdd⟩:∃ dd,dd=cutD o.d:=⟨_,rfl⟩
 rw [<-hdd] at hcd hdo
 have hcut:∀ w,Calls Tryz.prog 17 #[.agg (dC o.d).toArray] w (RetB (.agg (dC dd).toArray) w):=fun w=>by rw [hdd];exact hcut w
 by_cases k0:o.kind=0
 ·refine split_t (by show (o.kind==0)=true;rw [k0];rfl) ?_
  obtain⟨H',e1,hE',hsa⟩:=hE.add (by omega) hcd o.n
  rw [k0] at hdo
  obtain⟨q,hq0⟩:∃ q,q=doK8 H.k 0 o.n dd:=⟨_,rfl⟩
  rw [<-hq0] at e1 hE' hsa hdo
  refine hc.a 0 rfl rfl ?_
  obtain⟨S1,hS1,hR1,hmk⟩:=hc.sepTurnL (RA.stab _ _ _ _ _ _) (ShelfK.stab _ _ _ _ _) 1 rfl
  refine⟨(hdo gw S1 _ (hc.blk 1 rfl) hS1 hR1.1).mono fun en wq hq=>?_⟩
  obtain⟨A2,c2,e2,hT,x',A',cap',hB',hR',hrow⟩:=hq
  have hc:=(hmk hT hB' (X:=fun S w=>KnR q.1 x' A' cap' S w/\Row S w A2 q.2.2.length c2 (q.2.2.map resC).flatten) ((KnR.stab _ _ _ _).and row_stab) ⟨hR',hrow⟩).sepNow (R':=fun S w=>RA q.1 x' A' cap' el css S w/\Row S w A2 q.2.2.length c2 (q.2.2.map resC).flatten) (fun S h=>⟨⟨h.2.1,h.1.2⟩,h.2.2⟩) (fun _ h=>h) ((RA.stab _ _ _ _ _ _).and row_stab) (ShelfK.stab _ _ _ _ _)
  refine⟨_,e2,?_⟩
  obtain⟨k',er,rs⟩:=q
  simp only at e1 hE' hsa hc
  subst e1
  refine⟨dC o.d,rfl,hc.cellsAt 0 rfl 2 (dC o.d) rfl,?_⟩
  refine hc.q (hcut _) fun wQ hQ hc=>?_
  obtain⟨S1,Sa,h1,h2,h3,hO⟩:=hc.row
  refine⟨(hsa gs gj gc b Sa _ (fun x hx=>hc.ctx.lt x (h2 x hx).1) (hw.free hc.below h2) hO).mono fun en wq hq=>?_⟩
  obtain⟨e1,hT,Sn,hSn,hO⟩:=hq
  have hc:=hc.turnO (((RA.stab _ _ _ _ _ _).and row_stab)) h1 h2 h3 hT hSn hO (ShelfK.stab _ _ _ _ _)
  refine⟨_,e1,?_⟩
  refine split_f (by show (er != er)=false;rw [bne_self_eq_false]) ?_
  by_cases h0:er=0
  ·refine split_t (by show (er==0)=true;rw [h0];rfl) ?_
   have hc:=hc.sepNow (R':=RA H'.k x' A' cap' el css) (fun S h=>h.1) (fun _ h=>h) (RA.stab _ _ _ _ _ _) (ShelfK.stab _ _ _ _ _)
   refine hc.a 1 rfl rfl ?_
   intro g8 w8 h8
   have hc:=(hc.made h8 18 1 rfl (by decide)).swap.rest
   have hc:=(hc.sepNow (R':=RA H'.k x' A' cap' [H'.k] [lkC H'.k x' A' cap']) (fun S h=>⟨h.1,⟨x',A',cap',[],rfl,h.1,rfl⟩⟩) (fun _ h=>h) (RA.stab _ _ _ _ _ _) (ShelfK.stab _ _ _ _ _)).castO (o':=orL (some ⟨g8,0,none⟩) 1 1 [lkC H'.k x' A' cap']) rfl
   have hE':EldI H' [H'.k] (i+1):=by
    unfold elNext at hE'
    rw [if_pos h0] at hE'
    exact hE'
   refine hc.q (same_loc hc hE'.fit.ok hE'.fit.down 1 rfl) fun wQ hQ hc=>?_
   exact⟨(i+1,H',[H'.k],gs,gc,gw,some ⟨g8,0,none⟩,1),⟨rfl,rfl,rfl,rfl,rfl,congrArg _ (i_down (by omega)),trivial⟩,⟨by omega,by omega,hE',gj,b,x',A',cap',[lkC H'.k x' A' cap'],_,hc.drop⟩,by show 30-(i+1)<30-i;omega⟩
  ·refine split_f (by show (er==0)=false;rw [beq_eq_false_iff_ne];exact h0) ?_
   have hc:=hc.sepNow (R':=RA H'.k x' A' cap' el css) (fun S h=>h.1) (fun _ h=>h) (RA.stab _ _ _ _ _ _) (ShelfK.stab _ _ _ _ _)
   have hE':EldI H' el (i+1):=by
    unfold elNext at hE'
    rw [if_neg h0] at hE'
    exact hE'
   refine hc.q (same_loc hc hE'.fit.ok hE'.fit.down 1 rfl) fun wQ hQ hc=>?_
   exact⟨(i+1,H',el,gs,gc,gw,C,cc),⟨rfl,rfl,rfl,rfl,rfl,congrArg _ (i_down (by omega)),trivial⟩,⟨by omega,by omega,hE',gj,b,x',A',cap',css,_,hc.drop⟩,by show 30-(i+1)<30-i;omega⟩
 refine split_f (by show (o.kind==0)=false;rw [beq_eq_false_iff_ne];exact k0) ?_
 by_cases k1:o.kind=1
 ·refine split_t (by show (o.kind==1)=true;rw [k1];rfl) ?_
  obtain⟨H',e1,hE',hsa⟩:=hE.commit (by omega) dd ⟨hn0,hn1⟩
  rw [k1] at hdo
  obtain⟨q,hq0⟩:∃ q,q=doK8 H.k 1 o.n dd:=⟨_,rfl⟩
  rw [<-hq0] at e1 hE' hsa hdo
  refine hc.a 0 rfl rfl ?_
  obtain⟨S1,hS1,hR1,hmk⟩:=hc.sepTurnL (RA.stab _ _ _ _ _ _) (ShelfK.stab _ _ _ _ _) 1 rfl
  refine⟨(hdo gw S1 _ (hc.blk 1 rfl) hS1 hR1.1).mono fun en wq hq=>?_⟩
  obtain⟨A2,c2,e2,hT,x',A',cap',hB',hR',hrow⟩:=hq
  have hc:=(hmk hT hB' (X:=fun S w=>KnR q.1 x' A' cap' S w/\Row S w A2 q.2.2.length c2 (q.2.2.map resC).flatten) ((KnR.stab _ _ _ _).and row_stab) ⟨hR',hrow⟩).sepNow (R':=fun S w=>RA q.1 x' A' cap' el css S w/\Row S w A2 q.2.2.length c2 (q.2.2.map resC).flatten) (fun S h=>⟨⟨h.2.1,h.1.2⟩,h.2.2⟩) (fun _ h=>h) ((RA.stab _ _ _ _ _ _).and row_stab) (ShelfK.stab _ _ _ _ _)
  refine⟨_,e2,?_⟩
  obtain⟨k',er,rs⟩:=q
  simp only at e1 hE' hsa hc
  subst e1
  have hw1:IntKind.i64.wrap (H.k.b.seq+o.n)=H.k.b.seq+o.n:=IntWalk.i64_in _ ⟨by omega,by omega⟩
  rw [<-hw1] at hsa
  have hrm:=row_max (hc.row.left ((RA.stab _ _ _ _ _ _).and row_stab)).2
  refine Drawn.join (α:=Option Addr × Nat) (fun z=>[(0,.slice (some ad) ol.length ca),(4,.pointer (some ⟨gc,0,none⟩)),(5,.pointer (some ⟨gs,0,none⟩)),(7,.pointer (some ⟨gw,0,none⟩)),(8,.slice C el.length cc),(9,.int .i64 (i:Int)),(10,.pointer (some ⟨g10,0,none⟩)),(13,.int .i64 er),(14,.slice A2 rs.length c2),(15,.slice z.1 rs.length z.2),(16,.int .i64 er)])
   (fun z wS=>∃ S,CtxF no w S wS [(g10,71,opC o),(gw,83,lkC H'.k x' A' cap')] [orL C cc el.length css] (Sep w.heap.size (fun S w=>(RA H'.k x' A' cap' el css S w/\Row S w A2 rs.length c2 (rs.map resC).flatten)/\Row S w z.1 rs.length z.2 (rs.map resC).flatten) (ShelfK gs gj gc b H'))) ?_ ?_
  ·refine vD (.Q [0,1,4,5] (.n 2 (.Q [3,6] (.n 7 (.Q [8,9,10,11,12] .fin) .stop)) .stop)) (fun z=>z.cell? ⟨g10,1,none⟩=some (.int .i64 o.n)) (hc.cell 0 rfl 1 rfl) ?_
   have hc:=hc.drew
   refine⟨_,fun z hz=>hz,?_⟩
   refine⟨⟨(Book_any gs gj gc b H hE.fit.ok _ _ (hc.row.right (ShelfK.stab _ _ _ _ _))).mono fun en wq hq=>?_⟩,trivial⟩
   obtain⟨cB,e3,hq,hrB⟩:=hq
   obtain⟨y,rfl⟩:=hrB.stX
   have hc:=(hc.quiet hq).1
   refine⟨_,e3,(hc.cell 0 rfl 1 rfl),?_⟩
   refine⟨?_,trivial⟩
   obtain⟨S1,Sa,h1,h2,h3,hO⟩:=hc.row
   refine⟨(hsa gs gj gc b Sa _ (fun x hx=>hc.ctx.lt x (h2 x hx).1) (hw.free hc.below h2) hO).mono fun en wq hq=>?_⟩
   obtain⟨A1,c1,e3,hT,Sn,Sl,hSn,hO,hSl,hX⟩:=hq
   obtain⟨S3,hc⟩:=hc.turnR ((RA.stab _ _ _ _ _ _).and row_stab) h1 h2 h3 hT hSn hO hSl (X:=fun S w=>Row S w A1 rs.length c1 (rs.map resC).flatten) hX (ShelfK.stab _ _ _ _ _) row_stab
   refine⟨_,e3,(hc.cell 0 rfl 1 rfl),?_⟩
   exact⟨(A1,c1),⟨rfl,rfl,rfl,rfl,rfl,rfl,rfl,rfl,rfl,rfl,rfl,trivial⟩,_,hc⟩
  clear hc
  rintro⟨A1,c1⟩ u2 w2 ⟨S,hc⟩
  simp only at hc
  have sR:Stab (fun S w=>(RA H'.k x' A' cap' el css S w/\Row S w A2 rs.length c2 (rs.map resC).flatten)/\Row S w A1 rs.length c1 (rs.map resC).flatten):=((RA.stab _ _ _ _ _ _).and row_stab).and row_stab
  refine split_f (by show (er != er)=false;rw [bne_self_eq_false]) ?_
  refine split_f (by show ((rs.length:Int) != (rs.length:Int))=false;rw [bne_self_eq_false]) ?_
  refine⟨Nat,fun k=>[(0,.slice (some ad) ol.length ca),(4,.pointer (some ⟨gc,0,none⟩)),(5,.pointer (some ⟨gs,0,none⟩)),(7,.pointer (some ⟨gw,0,none⟩)),(8,.slice C el.length cc),(9,.int .i64 (i:Int)),(14,.slice A2 rs.length c2),(15,.slice A1 rs.length c1),(17,.int .i64 (k:Int))],
   fun k wS=>k<=rs.length/\∃ S,CtxF no w S wS [(g10,71,opC o),(gw,83,lkC H'.k x' A' cap')] [orL C cc el.length css] (Sep w.heap.size (fun S w=>(RA H'.k x' A' cap' el css S w/\Row S w A2 rs.length c2 (rs.map resC).flatten)/\Row S w A1 rs.length c1 (rs.map resC).flatten) (ShelfK gs gj gc b H')),fun k _=>rs.length-k,0,⟨rfl,rfl,rfl,rfl,rfl,rfl,rfl,rfl,rfl,trivial⟩,⟨Nat.zero_le _,_,hc⟩,?_⟩
  clear hc
  rintro k w3 u3 ⟨hk,S,hc⟩
  by_cases hkr:k<rs.length
  ·refine split_t (decide_eq_true (by omega)) ?_
   obtain⟨a2,rfl,hr2⟩:=RowR8.elem (hc.row.left sR).1.2 k hkr
   obtain⟨a1,rfl,hr1⟩:=RowR8.elem (hc.row.left sR).2 k hkr
   have hr:=hc
   refine vD (.Q [0,1,2,3,4,5,6,7,8] .fin) (Old _) (Old.start _) ?_
   have hk:=hc.old0
   have hc:=hc.drew
   refine⟨⟨by omega,by omega⟩,?_⟩
   refine⟨resC rs[k],rfl,fun z hz=>Old.looks hz (by rw [Int.toNat_natCast];exact hr2),?_⟩
   refine⟨⟨by omega,by omega⟩,?_⟩
   refine⟨resC rs[k],rfl,fun z hz=>Old.looks hz (by rw [Int.toNat_natCast];exact hr1),?_⟩
   refine⟨.bool false,fun w=>res_selfN rs[k] _ _ w,?_⟩
   exact⟨k+1,⟨rfl,rfl,rfl,rfl,rfl,rfl,rfl,rfl,congrArg _ (i_down (by omega)),trivial⟩,⟨hkr,_,hc⟩,by show rs.length-(k+1)<rs.length-k;omega⟩
  refine split_f (decide_eq_false (by omega)) ?_
  refine hc.a 1 rfl rfl ?_
  refine hc.n fun gv wgv hgv hc=>?_
  refine app_ownF (m:=1) Tryz.underlying84 info_L rfl (by decide) hc (by rfl) (hc.cells 0 rfl) rfl (by have:=hE.len;omega) (by decide) rfl rfl ?_
  intro A3 cap3 w4 hc
  have hc:=hc.drop.castO (o':=orL A3 cap3 (el.length+1) (css++[lkC H'.k x' A' cap'])) (by unfold orL;rw [List.flatten_append];rfl)
  have hc:=hc.sepNow (R':=RA H'.k x' A' cap' (el++[H'.k]) (css++[lkC H'.k x' A' cap'])) (fun S h=>⟨h.1.1.1,ElR.snoc h.1.1.1 h.1.1.2⟩) (fun _ h=>h) (RA.stab _ _ _ _ _ _) (ShelfK.stab _ _ _ _ _)
  have hl1:(el++[H'.k]).length=el.length+1:=by rw [List.length_append];rfl
  rw [<-hl1] at hc
  refine hc.q (same_loc hc hE'.fit.ok hE'.fit.down 1 rfl) fun wQ hQ hc=>?_
  exact⟨(i+1,H',el++[H'.k],gs,gc,gw,A3,cap3),⟨rfl,rfl,rfl,rfl,(show Value.slice A3 (el.length+1) cap3=.slice A3 (el++[H'.k]).length cap3 by rw [hl1]),congrArg _ (i_down (by omega)),trivial⟩,⟨by omega,by omega,hE',gj,b,x',A',cap',css++[lkC H'.k x' A' cap'],_,hc.drop⟩,by show 30-(i+1)<30-i;omega⟩
 refine split_f (by show (o.kind==1)=false;rw [beq_eq_false_iff_ne];exact k1) ?_
 by_cases k2:o.kind=2
 ·refine split_t (by show (o.kind==2)=true;rw [k2];rfl) ?_
  obtain⟨H',e1,hE',hsa⟩:=hE.enter (by omega) dd ⟨hn0,hn1⟩
  rw [k2] at hdo
  obtain⟨q,hq0⟩:∃ q,q=doK8 H.k 2 o.n dd:=⟨_,rfl⟩
  rw [<-hq0] at e1 hE' hsa hdo
  refine hc.a 0 rfl rfl ?_
  obtain⟨S1,hS1,hR1,hmk⟩:=hc.sepTurnL (RA.stab _ _ _ _ _ _) (ShelfK.stab _ _ _ _ _) 1 rfl
  refine⟨(hdo gw S1 _ (hc.blk 1 rfl) hS1 hR1.1).mono fun en wq hq=>?_⟩
  obtain⟨A2,c2,e2,hT,x',A',cap',hB',hR',hrow⟩:=hq
  have hc:=(hmk hT hB' (X:=fun S w=>KnR q.1 x' A' cap' S w/\Row S w A2 q.2.2.length c2 (q.2.2.map resC).flatten) ((KnR.stab _ _ _ _).and row_stab) ⟨hR',hrow⟩).sepNow (R':=fun S w=>RA q.1 x' A' cap' el css S w/\Row S w A2 q.2.2.length c2 (q.2.2.map resC).flatten) (fun S h=>⟨⟨h.2.1,h.1.2⟩,h.2.2⟩) (fun _ h=>h) ((RA.stab _ _ _ _ _ _).and row_stab) (ShelfK.stab _ _ _ _ _)
  refine⟨_,e2,?_⟩
  obtain⟨k',er,rs⟩:=q
  simp only at e1 hE' hsa hc
  subst e1
  have hw2:IntKind.i64.wrap (H.k.ep+o.n)=H.k.ep+o.n:=IntWalk.i64_in _ ⟨by omega,by omega⟩
  rw [<-hw2] at hsa
  refine vD (.Q [0,1,3,4,7] (.n 2 (.q 5 (.n 6 (.q 8 .fin) .stop)) .stop)) (fun z=>z.cell? ⟨g10,1,none⟩=some (.int .i64 o.n)) (hc.cell 0 rfl 1 rfl) ?_
  have hc:=hc.drew
  refine⟨_,fun z hz=>hz,?_⟩
  refine⟨hc.q (Epoch_any gs gj gc b H _ _ (hc.row.right (ShelfK.stab _ _ _ _ _))) fun wQ hQ hc=>?_,trivial⟩
  refine⟨(hc.cell 0 rfl 1 rfl),?_⟩
  refine⟨?_,trivial⟩
  obtain⟨S1,Sa,h1,h2,h3,hO⟩:=hc.row
  refine⟨(hsa gs gj gc b Sa _ (fun x hx=>hc.ctx.lt x (h2 x hx).1) (hw.free hc.below h2) hO).mono fun en wq hq=>?_⟩
  obtain⟨e3,hT,Sn,hSn,hO⟩:=hq
  have hc:=hc.turnO ((RA.stab _ _ _ _ _ _).and row_stab) h1 h2 h3 hT hSn hO (ShelfK.stab _ _ _ _ _)
  refine⟨_,e3,(hc.cell 0 rfl 1 rfl),?_⟩
  skip
  refine split_f (by show (er != er)=false;rw [bne_self_eq_false]) ?_
  by_cases h0:er=0
  ·refine split_t (by show (er==0)=true;rw [h0];rfl) ?_
   have hc:=hc.sepNow (R':=RA H'.k x' A' cap' el css) (fun S h=>h.1) (fun _ h=>h) (RA.stab _ _ _ _ _ _) (ShelfK.stab _ _ _ _ _)
   refine hc.a 1 rfl rfl ?_
   intro g8 w8 h8
   have hc:=(hc.made h8 18 1 rfl (by decide)).swap.rest
   have hc:=(hc.sepNow (R':=RA H'.k x' A' cap' [H'.k] [lkC H'.k x' A' cap']) (fun S h=>⟨h.1,⟨x',A',cap',[],rfl,h.1,rfl⟩⟩) (fun _ h=>h) (RA.stab _ _ _ _ _ _) (ShelfK.stab _ _ _ _ _)).castO (o':=orL (some ⟨g8,0,none⟩) 1 1 [lkC H'.k x' A' cap']) rfl
   have hE':EldI H' [H'.k] (i+1):=by
    unfold elNext at hE'
    rw [if_pos h0] at hE'
    exact hE'
   refine hc.q (same_loc hc hE'.fit.ok hE'.fit.down 1 rfl) fun wQ hQ hc=>?_
   exact⟨(i+1,H',[H'.k],gs,gc,gw,some ⟨g8,0,none⟩,1),⟨rfl,rfl,rfl,rfl,rfl,congrArg _ (i_down (by omega)),trivial⟩,⟨by omega,by omega,hE',gj,b,x',A',cap',[lkC H'.k x' A' cap'],_,hc.drop⟩,by show 30-(i+1)<30-i;omega⟩
  ·refine split_f (by show (er==0)=false;rw [beq_eq_false_iff_ne];exact h0) ?_
   have hc:=hc.sepNow (R':=RA H'.k x' A' cap' el css) (fun S h=>h.1) (fun _ h=>h) (RA.stab _ _ _ _ _ _) (ShelfK.stab _ _ _ _ _)
   have hE':EldI H' el (i+1):=by
    unfold elNext at hE'
    rw [if_neg h0] at hE'
    exact hE'
   refine hc.q (same_loc hc hE'.fit.ok hE'.fit.down 1 rfl) fun wQ hQ hc=>?_
   exact⟨(i+1,H',el,gs,gc,gw,C,cc),⟨rfl,rfl,rfl,rfl,rfl,congrArg _ (i_down (by omega)),trivial⟩,⟨by omega,by omega,hE',gj,b,x',A',cap',css,_,hc.drop⟩,by show 30-(i+1)<30-i;omega⟩
 refine split_f (by show (o.kind==2)=false;rw [beq_eq_false_iff_ne];exact k2) ?_
 by_cases k3:o.kind=3
 ·refine split_t (by show (o.kind==3)=true;rw [k3];rfl) ?_
  obtain⟨H',e1,hE',hsa⟩:=hE.learn (by omega) hcd o.n
  rw [k3] at hdo
  obtain⟨q,hq0⟩:∃ q,q=doK8 H.k 3 o.n dd:=⟨_,rfl⟩
  rw [<-hq0] at e1 hE' hsa hdo
  refine hc.a 0 rfl rfl ?_
  obtain⟨S1,hS1,hR1,hmk⟩:=hc.sepTurnL (RA.stab _ _ _ _ _ _) (ShelfK.stab _ _ _ _ _) 1 rfl
  refine⟨(hdo gw S1 _ (hc.blk 1 rfl) hS1 hR1.1).mono fun en wq hq=>?_⟩
  obtain⟨A2,c2,e2,hT,x',A',cap',hB',hR',hrow⟩:=hq
  have hc:=(hmk hT hB' (X:=fun S w=>KnR q.1 x' A' cap' S w/\Row S w A2 q.2.2.length c2 (q.2.2.map resC).flatten) ((KnR.stab _ _ _ _).and row_stab) ⟨hR',hrow⟩).sepNow (R':=fun S w=>RA q.1 x' A' cap' el css S w/\Row S w A2 q.2.2.length c2 (q.2.2.map resC).flatten) (fun S h=>⟨⟨h.2.1,h.1.2⟩,h.2.2⟩) (fun _ h=>h) ((RA.stab _ _ _ _ _ _).and row_stab) (ShelfK.stab _ _ _ _ _)
  refine⟨_,e2,?_⟩
  obtain⟨k',er,rs⟩:=q
  simp only at e1 hE' hsa hc
  subst e1
  have hkeys:∀ e∈H.k.b.l,strok e.key:=foldS_keys hko.may hko.lows
  refine vD (.Q [0,1,3,4,8] (.n 2 (.n 5 (.n 6 (.n 7 (.q 9 .fin) .stop) .stop) .stop) .stop)) (fun z=>Go.Vc.cellsAt z ⟨g10,2,none⟩ (dC o.d) 0) (hc.cellsAt 0 rfl 2 (dC o.d) rfl) ?_
  have hc:=hc.drew
  refine⟨dC o.d,rfl,fun z hz=>hz,?_⟩
  refine⟨⟨(Book_any gs gj gc b H hE.fit.ok _ _ (hc.row.right (ShelfK.stab _ _ _ _ _))).mono fun en wq hq=>?_⟩,trivial⟩
  obtain⟨cB,e3,hq,hrB⟩:=hq
  obtain⟨y,rfl⟩:=hrB.stX
  have hc:=hc.sepKnow (X:=fun S w=>RepS S w H.k.b (stX H.k.b y)) ((RA.stab _ _ _ _ _ _).and row_stab) (ShelfK.stab _ _ _ _ _) hq hrB (stab_S _ _)
  refine⟨_,e3,(hc.cellsAt 0 rfl 2 (dC o.d) rfl),?_⟩
  refine⟨hc.q (hcut _) fun wQ hQ hc=>?_,trivial⟩
  refine⟨(hc.cellsAt 0 rfl 2 (dC o.d) rfl),?_⟩
  refine⟨hc.n fun gv wgv hgv hc=>?_,trivial⟩
  refine⟨(hc.cellsAt 1 rfl 2 (dC o.d) rfl),?_⟩
  refine⟨?_,trivial⟩
  have sR:Stab (fun S w=>(RA H'.k x' A' cap' el css S w/\Row S w A2 rs.length c2 (rs.map resC).flatten)/\RepS S w H.k.b (stX H.k.b y)):=((RA.stab _ _ _ _ _ _).and row_stab).and (stab_S _ _)
  have hgv:=hc.blk 0 rfl
  have hgvn:=(hc.ctx.locs.notS (k:=0) rfl).1
  obtain⟨S1,Sa,h1,h2,h3,hO⟩:=hc.row
  have hln:=slearn_any gs gj gc b H hE.fit.ok H.k.b hkeys [dd] (fun d hd=>by rw [List.mem_singleton.1 hd];exact hcd) (by show 1<=100000;omega) y (some ⟨gv,0,none⟩) 1 Sa _ (fun x hx=>hc.ctx.lt x (h2 x hx).1) (hw.free hc.below h2) hO (fun z=>S1 z\/z=gv)
   (fun z hz=>hz.elim (fun hz=>⟨hc.ctx.lt z (h1 z hz).1,(h1 z hz).2⟩) (fun e=>by subst e;exact⟨hgv.lt,fun hs=>hgvn (h2 _ hs).1⟩)) (h3.2.map fun h=>h.sub fun _ h=>.inl h) ((blkRow (xs:=dC dd) hgv 1 (by decide)).sub fun z hz=>.inr hz)
  rw [hsa] at hln
  refine⟨hln.mono fun en wq hq=>?_⟩
  obtain⟨e3,hT,Sn,hSn,hO⟩:=hq
  have hc:=hc.turnO sR h1 h2 h3 hT hSn hO (ShelfK.stab _ _ _ _ _)
  refine⟨_,e3,(hc.cellsAt 1 rfl 2 (dC o.d) rfl),?_⟩
  have hc:=hc.drop.sepNow (R':=fun S w=>RA H'.k x' A' cap' el css S w/\Row S w A2 rs.length c2 (rs.map resC).flatten) (fun S h=>h.1) (fun _ h=>h) ((RA.stab _ _ _ _ _ _).and row_stab) (ShelfK.stab _ _ _ _ _)
  refine split_f (by show (er != er)=false;rw [bne_self_eq_false]) ?_
  by_cases h0:er=0
  ·refine split_t (by show (er==0)=true;rw [h0];rfl) ?_
   have hc:=hc.sepNow (R':=RA H'.k x' A' cap' el css) (fun S h=>h.1) (fun _ h=>h) (RA.stab _ _ _ _ _ _) (ShelfK.stab _ _ _ _ _)
   refine hc.a 1 rfl rfl ?_
   intro g8 w8 h8
   have hc:=(hc.made h8 18 1 rfl (by decide)).swap.rest
   have hc:=(hc.sepNow (R':=RA H'.k x' A' cap' [H'.k] [lkC H'.k x' A' cap']) (fun S h=>⟨h.1,⟨x',A',cap',[],rfl,h.1,rfl⟩⟩) (fun _ h=>h) (RA.stab _ _ _ _ _ _) (ShelfK.stab _ _ _ _ _)).castO (o':=orL (some ⟨g8,0,none⟩) 1 1 [lkC H'.k x' A' cap']) rfl
   have hE':EldI H' [H'.k] (i+1):=by
    unfold elNext at hE'
    rw [if_pos h0] at hE'
    exact hE'
   refine hc.q (same_loc hc hE'.fit.ok hE'.fit.down 1 rfl) fun wQ hQ hc=>?_
   exact⟨(i+1,H',[H'.k],gs,gc,gw,some ⟨g8,0,none⟩,1),⟨rfl,rfl,rfl,rfl,rfl,congrArg _ (i_down (by omega)),trivial⟩,⟨by omega,by omega,hE',gj,b,x',A',cap',[lkC H'.k x' A' cap'],_,hc.drop⟩,by show 30-(i+1)<30-i;omega⟩
  ·refine split_f (by show (er==0)=false;rw [beq_eq_false_iff_ne];exact h0) ?_
   have hc:=hc.sepNow (R':=RA H'.k x' A' cap' el css) (fun S h=>h.1) (fun _ h=>h) (RA.stab _ _ _ _ _ _) (ShelfK.stab _ _ _ _ _)
   have hE':EldI H' el (i+1):=by
    unfold elNext at hE'
    rw [if_neg h0] at hE'
    exact hE'
   refine hc.q (same_loc hc hE'.fit.ok hE'.fit.down 1 rfl) fun wQ hQ hc=>?_
   exact⟨(i+1,H',el,gs,gc,gw,C,cc),⟨rfl,rfl,rfl,rfl,rfl,congrArg _ (i_down (by omega)),trivial⟩,⟨by omega,by omega,hE',gj,b,x',A',cap',css,_,hc.drop⟩,by show 30-(i+1)<30-i;omega⟩
 refine split_f (by show (o.kind==3)=false;rw [beq_eq_false_iff_ne];exact k3) ?_
 by_cases k4:o.kind=4
 ·refine split_t (by show (o.kind==4)=true;rw [k4];rfl) ?_
  obtain⟨H',ek,hE',hsa⟩:=hE.pack (by omega)
  obtain⟨S1,Sa,h1,h2,h3,hO⟩:=hc.row
  refine⟨(hsa gs gj gc b Sa _ (fun x hx=>hc.ctx.lt x (h2 x hx).1) (hw.free hc.below h2) hO).mono fun en wq hq=>?_⟩
  obtain⟨e1,hT,Sn,hSn,hO⟩:=hq
  have hc:=hc.turnO ((RA.stab _ _ _ _ _ _)) h1 h2 h3 hT hSn hO (ShelfK.stab _ _ _ _ _)
  refine⟨_,e1,?_⟩
  rw [<-ek] at hc hE'
  refine hc.a 1 rfl rfl ?_
  intro g8 w8 h8
  have hc:=(hc.made h8 18 1 rfl (by decide)).swap.rest
  have hc:=(hc.sepNow (R':=RA H'.k x A cap [H'.k] [lkC H'.k x A cap]) (fun S h=>⟨h.1,⟨x,A,cap,[],rfl,h.1,rfl⟩⟩) (fun _ h=>h) (RA.stab _ _ _ _ _ _) (ShelfK.stab _ _ _ _ _)).castO (o':=orL (some ⟨g8,0,none⟩) 1 1 [lkC H'.k x A cap]) rfl
  refine hc.q (same_loc hc hE'.fit.ok hE'.fit.down 1 rfl) fun wQ hQ hc=>?_
  exact⟨(i+1,H',[H'.k],gs,gc,gw,some ⟨g8,0,none⟩,1),⟨rfl,rfl,rfl,rfl,rfl,congrArg _ (i_down (by omega)),trivial⟩,⟨by omega,by omega,hE',gj,b,x,A,cap,[lkC H'.k x A cap],_,hc.drop⟩,by show 30-(i+1)<30-i;omega⟩
 refine split_f (by show (o.kind==4)=false;rw [beq_eq_false_iff_ne];exact k4) ?_
 refine⟨_,hc.cell 0 rfl _ rfl,?_⟩
 refine⟨(tearS_any gs gj gc b H hE.fit.ok o.n _ _ (hc.row.right (ShelfK.stab _ _ _ _ _))).mono fun en wq hq=>?_⟩
 obtain⟨g2,b2,L,e1,hq,hO2,hL1,hL2⟩:=hq
 have hc:=hc.sepNew hq hO2 (ChestK.stab _ _ _)
 refine⟨_,e1,?_⟩
 obtain⟨j,hi1,hi2,hop⟩:=sopenT_any hE.fit.ok hL1 hL2
 obtain⟨S1,Sa,h1,h2,h3,hO⟩:=hc.row
 refine⟨(hop g2 b2 Sa _ (fun x hx=>hc.ctx.lt x (h2 x hx).1) (hw.free hc.below h2) hO).mono fun en wq hq=>?_⟩
 obtain⟨gt,gk,e1,hT,Sn,hSn,hO⟩:=hq
 have hc:=hc.turnO (Sep.stab ((RA.stab _ _ _ _ _ _)) (ShelfK.stab _ _ _ _ _)) h1 h2 h3 hT hSn hO (ShelfK.stab _ _ _ _ _)
 refine⟨_,e1,?_⟩
 have hc:=hc.now Sep.drop (Sep.stab ((RA.stab _ _ _ _ _ _)) (ShelfK.stab _ _ _ _ _))
 obtain⟨hm,hE'⟩:=hE.cut hi1 hi2
 obtain⟨H',hH'⟩:∃ H',H'=H.cut j:=⟨_,rfl⟩
 rw [<-hH'] at hm hE' hc
 have hel0:0<el.length:=by
  cases el with
  | nil=>cases hm
  | cons a r=>exact Nat.succ_pos _
 obtain⟨ge,hA,hge,hcl⟩:=hc.fstBlk hel0
 have hA:C=some ⟨ge,0,none⟩:=hA
 subst hA
 have hl40:=hE.len
 refine⟨Nat × Int,fun (k,at_)=>[(0,.slice (some ad) ol.length ca),(4,.pointer (some ⟨g2,0,none⟩)),(5,.pointer (some ⟨gt,0,none⟩)),(8,.slice (some ⟨ge,0,none⟩) el.length cc),(9,.int .i64 (i:Int)),(22,.int .i64 at_),(78,.int .i64 (el.length:Int)),(79,.int .i64 (k:Int))],
  fun (k,at_) wS=>k<=el.length/\((at_ = -1/\∀ j (hj:j<el.length),j<k->el[j]≠H'.k)\/∃ j,∃ hj:j<el.length,at_=(j:Int)/\el[j]=H'.k)/\∃ S,CtxF no w S wS [(g10,71,opC o),(gw,83,lkC H.k x A cap)] [orL (some ⟨ge,0,none⟩) cc el.length css] (Sep w.heap.size (RA H.k x A cap el css) (ShelfK gt gk g2 b2 H')),fun (k,_) _=>el.length-k,(0,-1),⟨rfl,rfl,rfl,rfl,rfl,rfl,rfl,rfl,trivial⟩,⟨Nat.zero_le _,.inl ⟨rfl,fun j hj hlt=>absurd hlt (Nat.not_lt_zero _)⟩,_,hc⟩,?_⟩
 clear hc hcl hge
 rintro⟨k,at_⟩ w3 u3 ⟨hk,hat,S,hc⟩
 obtain⟨ge',hA,hge,hcl⟩:=hc.fstBlk hel0
 cases hA
 by_cases hkl:k<el.length
 ·refine split_t (decide_eq_true (by omega)) ?_
  refine⟨⟨by omega,by omega⟩,?_⟩
  have hsm:=same_el hc (fun S h=>h.2) (RA.stab _ _ _ _ _ _) hE'.fit.ok hE'.fit.down hge hcl k hkl (hE.small _ (List.getElem_mem hkl)).1
  have hadr:((⟨ge,0,none⟩:Addr).add ((k:Int).toNat*18))=⟨ge,k*18,none⟩:=by rw [Addr.add_lit,Nat.zero_add,Int.toNat_natCast]
  rw [<-hadr] at hsm
  cases hsk:sameK H'.k el[k] with
  | true=>
   rw [hsk] at hsm
   refine hc.q (hsm) fun wQ hQ hc=>?_
   exact⟨(k+1,(k:Int)),⟨rfl,rfl,rfl,rfl,rfl,rfl,rfl,congrArg _ (i_down (by omega)),trivial⟩,⟨hkl,.inr ⟨k,hkl,rfl,(sameK_iff.1 hsk).symm⟩,_,hc⟩,by show el.length-(k+1)<el.length-k;omega⟩
  | false=>
   rw [hsk] at hsm
   refine hc.q (hsm) fun wQ hQ hc=>?_
   refine⟨(k+1,at_),⟨rfl,rfl,rfl,rfl,rfl,rfl,rfl,congrArg _ (i_down (by omega)),trivial⟩,⟨hkl,?_,_,hc⟩,by show el.length-(k+1)<el.length-k;omega⟩
   rcases hat with ⟨h1,h2⟩ | h
   ·refine .inl ⟨h1,fun j hj hlt e=>?_⟩
    rcases Nat.lt_or_ge j k with h | h
    ·exact h2 j hj h e
    ·have:j=k:=by omega
     subst this
     rw [e,sameK_iff.2 rfl] at hsk
     cases hsk
   ·exact .inr h
 refine split_f (decide_eq_false (by omega)) ?_
 obtain⟨j,hj,rfl,hej⟩:∃ j,∃ hj:j<el.length,at_=(j:Int)/\el[j]=H'.k:=by
  rcases hat with ⟨h1,h2⟩ | h
  ·obtain⟨j,hj,e⟩:=List.getElem_of_mem hm
   exact absurd e (h2 j hj (by omega))
  ·exact h
 refine⟨⟨by omega,by omega⟩,?_⟩
 obtain⟨x',A',cap',ecs,hKx⟩:=(hc.row.left (RA.stab _ _ _ _ _ _)).2.get j hj
 rw [hej] at ecs hKx
 have hEl:=(hc.row.left (RA.stab _ _ _ _ _ _)).2
 refine⟨lkC H'.k x' A' cap',rfl,?_,?_⟩
 ·have hadr:((⟨ge,0,none⟩:Addr).add ((j:Int).toNat*18))=⟨ge,j*18,none⟩:=by rw [Addr.add_lit,Nat.zero_add,Int.toNat_natCast]
  rw [hadr]
  exact at_cells _ 0 fun i v hv=>by rw [Nat.zero_add];exact hcl _ _ (flatAt hEl.flat j i _ _ ecs hv)
 have hc:=hc.sepNow (R':=RA H'.k x' A' cap' el css) (fun S h=>by
  obtain⟨x2,A2,cap2,e2,hK2⟩:=h.2.get j hj
  rw [hej] at e2 hK2
  rw [e2] at ecs
  have:=Option.some.inj ecs
  exact⟨hK2.lkC this,h.2⟩) (fun _ h=>h) (RA.stab _ _ _ _ _ _) (ShelfK.stab _ _ _ _ _)
 refine hc.n fun g24 wg24 hg24 hc=>?_
 refine hc.s 0 rfl fun wS hS hc=>?_
 refine vD (.q 2 (.n 0 (.n 1 (.q 3 .fin) .stop) .stop)) (fun _=>True) trivial ?_
 have hc:=hc.drew
 refine⟨hc.a' 0 rfl rfl ?_,trivial⟩
 refine⟨fun g8 w8 h8=>?_,trivial⟩
 have hc:=(hc.made h8 18 1 rfl (by decide)).swap.rest
 refine⟨trivial,?_⟩
 have hc:=(hc.sepNow (R':=RA H'.k x' A' cap' [H'.k] [lkC H'.k x' A' cap']) (fun S h=>⟨h.1,⟨x',A',cap',[],rfl,h.1,rfl⟩⟩) (fun _ h=>h) (RA.stab _ _ _ _ _ _) (ShelfK.stab _ _ _ _ _)).castO (o':=orL (some ⟨g8,0,none⟩) 1 1 [lkC H'.k x' A' cap']) rfl
 have hc:CtxF no w _ _ [(g24,83,lkC H'.k x' A' cap'),(g10,71,opC o),(gw,83,lkC H.k x A cap)] [orL (some ⟨g8,0,none⟩) 1 1 [lkC H'.k x' A' cap']] (Sep w.heap.size (RA H'.k x' A' cap' [H'.k] [lkC H'.k x' A' cap']) (ShelfK gt gk g2 b2 H')):=hc
 refine hc.q (same_loc hc hE'.fit.ok hE'.fit.down 0 rfl) fun wQ hQ hc=>?_
 exact⟨(i+1,H',[H'.k],gt,g2,g24,some ⟨g8,0,none⟩,1),⟨rfl,rfl,rfl,rfl,rfl,congrArg _ (i_down (by omega)),trivial⟩,⟨by omega,by omega,hE',gk,b2,x',A',cap',_,_,hc.swapL.drop.swapL.drop⟩,by show 30-(i+1)<30-i;omega⟩
set_option maxRecDepth 100000 in
theorem shelfAll_ct {H:Type} (enc:TypeId × Value->H) (W:World) (hw:Env W) {base:Nat}
  (v0:Value) (d0:DataW H) (p0:List MemPlace) (h0:DataW.Trod enc Tryz.prog W 0 (fun _=>true) true 68 v0 d0 p0) (k0:Value.okWide Tryz.prog W .any base 68 v0):
  Calls Tryz.prog 11 #[v0] W (RetB (.bool true) W):=by
 obtain⟨A0,c0,a0,rfl,r0,o0⟩:=open_ops h0 k0
 exact all8_any a0 A0 c0 o0 W hw r0
end Go.Proofs.YtokglimimnelaaaGreatDoor
