import Derived.Test.YtokglimimnelaaaGreatDoorM12
set_option linter.unusedVariables false
set_option linter.unusedSimpArgs false
section
namespace Go.Proofs.YtokglimimnelaaaGreatDoor
open Go.Vc Go.RowKit Go.Fl Go.ChangeShapes Go.WideShapes Go.ChangeAt
set_option maxRecDepth 100000
structure Op8 where
 kind:Int
 n:Int
 d:D
def opC (o:Op8):List Value:=[.int .i64 o.kind,.int .i64 o.n,.int .i64 o.d.kind,.string o.d.key,.string o.d.body,.int .i64 o.d.ver,.int .i64 o.d.cond,.string o.d.tag,.int .i64 o.d.req,.int .i64 o.d.low]
structure Op8.Ok (o:Op8):Prop where
 kind:i64ok o.kind
 n:i64ok o.n
 d:o.d.Ok
theorem shape10 {c:List Value} (h:c.length=10):∃ a0 a1 a2 a3 a4 a5 a6 a7 a8 a9,c=[a0,a1,a2,a3,a4,a5,a6,a7,a8,a9]:=by
 match c,h with
 | [a0,a1,a2,a3,a4,a5,a6,a7,a8,a9],_=>exact⟨a0,a1,a2,a3,a4,a5,a6,a7,a8,a9,rfl⟩
theorem cOpA:Tryz.prog.cellsOf 71=10:=by kernel_rfl
section
variable {H:Type} {enc:TypeId × Value->H} {w:World} {base:Nat} {spare:Nat->Bool} {held:Bool} {fuel:Nat} {cs:List Value} {x:DataW H × List MemPlace}
set_option maxRecDepth 100000 in
theorem rd_op (h:DataW.trod enc Tryz.prog w base spare held fuel 71 cs=some x):∃ o:Op8,cs=opC o/\o.Ok:=by
 obtain⟨hl,hf⟩:=rd_struct Tryz.underlying71 h
 rw [cOpA] at hl
 obtain⟨c0,c1,c2,c3,c4,c5,c6,c7,c8,c9,rfl⟩:=shape10 hl
 obtain⟨_,_,h0⟩:=fld hf 0 _ rfl 3 rfl 1 cIntA 0 rfl
 obtain⟨_,_,h1⟩:=fld hf 1 _ rfl 3 rfl 1 cIntA 1 rfl
 obtain⟨_,_,h2⟩:=fld hf 2 _ rfl 32 rfl 8 cDeedA 2 rfl
 obtain⟨n0,e0,k0⟩:=rd_i64 Tryz.underlying3 h0
 obtain⟨n1,e1,k1⟩:=rd_i64 Tryz.underlying3 h1
 obtain⟨d,e2,k2⟩:=rd_deed h2
 cases e0;cases e1;cases e2
 exact⟨⟨n0,n1,d⟩,rfl,⟨k0,k1,k2⟩⟩
end
section
variable {H:Type} {enc:TypeId × Value->H} {W:World} {sp:Nat->Bool} {hd:Bool} {v:Value} {d:DataW H} {p:List MemPlace} {base:Nat}
set_option maxRecDepth 100000 in
theorem open_ops (h:DataW.Trod enc Tryz.prog W 0 sp hd 68 v d p) (k:Value.okWide Tryz.prog W .any base 68 v):∃ A cap,∃ l:List Op8,v=.slice A l.length cap/\Row (inW W) W A l.length cap (l.map opC).flatten/\∀ a∈l,a.Ok:=
 open_flat opC Op8.Ok (by rw [cOpA];decide) (fun _ _ _ h=>rd_op h) Tryz.underlying68 h k
end
theorem RowO8.elem {S:Nat->Prop} {w:World} {A:Option Addr} {n cap:Nat} {l:List Op8} (hR:Row S w A n cap (l.map opC).flatten) (i:Nat) (hi:i<l.length):∃ ad,A=some ad/\Go.Vc.cellsAt w (ad.add (i*10)) (opC l[i]) 0:=by
 obtain⟨ad,e,h⟩:=Row.elemF hR (k:=10) (by decide) (Flat.map opC (fun d=>⟨rfl,rfl⟩) l) i (by rw [List.length_map];exact hi)
 rw [List.getElem_map] at h
 exact⟨ad,e,h⟩
def addKK (k:Known) (d:D):Known × Int:=if mayD d=false then (k,1) else if k.pend.length<60/\k.seq<maxN then (⟨k.b,k.pend++[d],k.ep,k.ln⟩,0) else (k,5)
theorem add_fit {H:Sh} {n:Nat} (h:Fit H n) (hn:n<=400) {d:D} (hd:d.Ok):∃ H',H'.k=(addKK H.k d).1/\Fit H' (n+1)/\(H.np=H.l.length->H'.np=H'.l.length)/\((addKK H.k d).2≠0->H'=H)/\((addKK H.k d).2=0->H'.np=H'.l.length)/\
  ∀ (gs gj gc b:Nat) (Sa:Nat->Prop) (w:World),(∀ x,Sa x->x<w.heap.size)->EnvFree Sa w->ShelfK gs gj gc b H Sa w->Calls Tryz.prog 16 #[.pointer (some ⟨gs,0,none⟩),.agg (dC d).toArray] w (RetOb Sa w (.int .i64 (addKK H.k d).2) (ShelfK gs gj gc b H')):=by
 have had:=fun gs gj gc b Sa w hlt he hK=>sadd_any gs gj gc b H h.ok d hd Sa w hlt he hK
 unfold addKK
 rcases h.add hn hd with ⟨hm,hc,e⟩ | ⟨hm,hc,e⟩ | ⟨hm,e⟩
 ·rw [e] at had
  rw [if_neg (by rw [hm];decide),if_pos (show H.k.pend.length<60/\H.k.seq<maxN from hc)]
  exact⟨_,write_add_k _ _ _,h.write hn (r:=.add _) ⟨hm,hd⟩ hc true,fun _=>write_full _ _,fun h=>absurd rfl h,fun _=>write_full _ _,had⟩
 ·rw [e] at had
  rw [if_neg (by rw [hm];decide),if_neg (show ¬ (H.k.pend.length<60/\H.k.seq<maxN) from hc)]
  exact⟨H,rfl,h.mono (by omega),id,fun _=>rfl,(fun h=>by cases h),had⟩
 ·rw [e] at had
  rw [if_pos hm]
  exact⟨H,rfl,h.mono (by omega),id,fun _=>rfl,(fun h=>by cases h),had⟩
def enterKK (k:Known) (m:Int):Known × Int:=if m<=k.ep then (k,12) else (⟨k.b,k.pend,m,k.ln⟩,0)
theorem enter_fit {H:Sh} {n:Nat} (h:Fit H n) (hn:n<=400) {m:Int} (hm:i64ok m):∃ H',H'.k=(enterKK H.k m).1/\Fit H' (n+1)/\(H.np=H.l.length->H'.np=H'.l.length)/\((enterKK H.k m).2≠0->H'=H)/\((enterKK H.k m).2=0->H'.np=H'.l.length)/\
  ∀ (gs gj gc b:Nat) (Sa:Nat->Prop) (w:World),(∀ x,Sa x->x<w.heap.size)->EnvFree Sa w->ShelfK gs gj gc b H Sa w->Calls Tryz.prog 26 #[.pointer (some ⟨gs,0,none⟩),.int .i64 m] w (RetOb Sa w (.int .i64 (enterKK H.k m).2) (ShelfK gs gj gc b H')):=by
 have had:=fun gs gj gc b Sa w hlt he hK=>senter_any gs gj gc b H h.ok m hm Sa w hlt he hK
 unfold enterKK
 rcases h.enter hn hm with ⟨hc,e⟩ | ⟨hc,e⟩
 ·rw [e] at had
  rw [if_pos hc]
  exact⟨H,rfl,h.mono (by omega),id,fun _=>rfl,(fun h=>by cases h),had⟩
 ·rw [e] at had
  rw [if_neg (by omega)]
  refine⟨_,?_,h.write hn (r:=.enter _) hm trivial true,fun _=>write_full _ _,fun h=>absurd rfl h,fun _=>write_full _ _,had⟩
  rw [write_enter_k]
  show (⟨H.k.b,H.k.pend,max H.k.ep m,H.k.ln⟩:Known)=_
  rw [show max H.k.ep m=m from by omega]
theorem pack_fit {H:Sh} {n:Nat} (h:Fit H n) (hn:n<=400):∃ H',H'.k=H.k/\Fit H' 0/\H'.np=H'.l.length/\
  ∀ (gs gj gc b:Nat) (Sa:Nat->Prop) (w:World),(∀ x,Sa x->x<w.heap.size)->EnvFree Sa w->ShelfK gs gj gc b H Sa w->Calls Tryz.prog 30 #[.pointer (some ⟨gs,0,none⟩)] w (RetOb Sa w (.int .i64 0) (ShelfK gs gj gc b H')):=by
 have had:=fun gs gj gc b Sa w hlt he hK=>spack_any gs gj gc b H h.ok Sa w hlt he hK
 have e:packH H=(H.lay H.k,0):=by
  obtain⟨h1,h2⟩:=h.lays hn h.ok.k
  unfold packH
  rw [h.down,if_neg (by decide),h1,h2]
 rw [e] at had
 exact⟨H.lay H.k,rfl,h.lay hn h.ok.k,rfl,had⟩
theorem _root_.Go.Vc.CtxF.sepTold {w0 w:World} {S:Nat->Prop} {l:List LB} {o:OR} {os:List OR} {R O:Kn} {n0:Nat} (hc:CtxF no w0 S w l (o::os) (Sep n0 R O)) (hR:Stab R) (hO:Stab O):∃ S',CtxF no w0 S' w l os (Sep n0 (fun S w=>R S w/\Row S w o.A o.n o.cap o.xs) O):=by
 obtain⟨S1,Sa,h1,h2,h3,h4⟩:=hc.row
 have hout:=hc.fst.out
 obtain⟨S2,hs,hc2⟩:=hc.told
 refine⟨S2,hc2.now (fun hh=>?_) (Sep.stab (hR.and fun _ _ _ _ h f=>h.fut f) hO)⟩
 obtain⟨_,hR1,hR2,hR3⟩:=hh
 refine⟨fun x=>S1 x\/(S2 x/\∃ a,o.A=some a/\a.block=x),Sa,fun x hx=>?_,fun x hx=>⟨hs x (h2 x hx).1,(h2 x hx).2⟩,⟨hR _ _ _ _ h3 ⟨fun _ h=>.inl h,fun _ _=>rfl⟩,hR1,hR2,fun hx=>?_⟩,h4⟩
 ·rcases hx with hx | ⟨hx,a,ha,e⟩
  ·exact⟨hs x (h1 x hx).1,(h1 x hx).2⟩
  ·exact⟨hx,fun h=>(hout a ha).1 (e▸(h2 x h).1)⟩
 ·obtain⟨ad,e,hsa,hcl⟩:=hR3 hx
  exact⟨ad,e,.inr ⟨hsa,ad,e,rfl⟩,hcl⟩
def goodL (s:Stt) (p:List D):Bool:=mayS s&&p.all mayD&&decide (s.seq<=maxN-p.length)
theorem learn_bad {H:Sh} {s:Stt} {p:List D} (hd:H.down=false) (hl:p.length<=60) (h:goodL s p=false):learnH H s p=(H,1):=by
 unfold learnH
 rw [hd,if_neg (by decide),if_pos]
 unfold goodL at h
 rw [Bool.and_eq_false_iff,Bool.and_eq_false_iff] at h
 rcases h with (h | h) | h
 ·exact .inr (.inl h)
 ·refine .inl ?_
  rw [List.all_eq_false] at h
  obtain⟨d,hd1,hd2⟩:=h
  exact List.any_eq_true.2 ⟨d,hd1,by unfold badD;simpa using hd2⟩
 ·have:=of_decide_eq_false h
  exact .inr (.inr (.inr (by omega)))
theorem learn_good {H:Sh} {n:Nat} (hf:Fit H n) (hn:n<=400) {s:Stt} {p:List D} (h5:s.lows.length=5) (hp:∀ d∈p,d.Ok) (hl:p.length<=60) (h:goodL s p=true):
  learnH H s p=(H.lay ⟨s,p,H.k.ep,H.k.ep⟩,0)/\(⟨s,p,H.k.ep,H.k.ep⟩:Known).Ok:=by
 unfold goodL at h
 rw [Bool.and_eq_true,Bool.and_eq_true,decide_eq_true_eq,List.all_eq_true] at h
 obtain⟨⟨h1,h2⟩,h3⟩:=h
 have hc:¬ (p.any badD=true\/mayS s=false\/60<p.length\/maxN-p.length<s.seq):=by
  rintro (h | h | h | h)
  ·obtain⟨d,hd1,hd2⟩:=List.any_eq_true.1 h
   unfold badD at hd2
   rw [h2 d hd1] at hd2
   cases hd2
  ·rw [h1] at h;cases h
  ·omega
  ·omega
 have hk:=learn_ok hf.ok h5 hp hc
 refine⟨?_,hk⟩
 unfold learnH
 obtain⟨e1,e2⟩:=hf.lays hn hk
 rw [hf.down,if_neg (by decide),if_neg hc,e1,e2]
end Go.Proofs.YtokglimimnelaaaGreatDoor
end
section
namespace Go.Vc
open Go Go.RowKit
open Go.Proofs.YtokglimimnelaaaGreatDoor (no)
set_option maxRecDepth 100000
def Mut (R:Kn):Kn:=fun S w=>∃ Sr:Nat->Prop,(∀ x,Sr x->S x/\∃ T cs,Blk w x T cs)/\R Sr w
theorem Mut.stab {R:Kn} (hR:Stab R):Stab (Mut R):=fun S w S' w' h f=>by
 obtain⟨Sr,h1,h2⟩:=h
 refine⟨Sr,fun x hx=>⟨f.1 x (h1 x hx).1,?_⟩,hR _ _ _ _ h2 ⟨fun _ h=>h,fun x hx=>f.2 x (h1 x hx).1⟩⟩
 obtain⟨T,cs,hB⟩:=(h1 x hx).2
 exact⟨T,cs,hB.of_eq (f.2 x (h1 x hx).1)⟩
theorem Mut.plain {R:Kn} (hR:Stab R) {S:Nat->Prop} {w:World} (h:Mut R S w):R S w:=by
 obtain⟨Sr,h1,h2⟩:=h
 exact hR _ _ _ _ h2 ⟨fun x hx=>(h1 x hx).1,fun _ _=>rfl⟩
theorem Mut.imp {R R':Kn} {S:Nat->Prop} {w:World} (h:Mut R S w) (k:∀ S w,R S w->R' S w):Mut R' S w:=by
 obtain⟨Sr,h1,h2⟩:=h
 exact⟨Sr,h1,k _ _ h2⟩
theorem Mut.and {R X:Kn} (hR:Stab R) (hX:Stab X) {S:Nat->Prop} {w:World} (h:Mut R S w) (k:Mut X S w):Mut (fun S w=>R S w/\X S w) S w:=by
 obtain⟨Sr,h1,h2⟩:=h
 obtain⟨Sx,k1,k2⟩:=k
 refine⟨fun x=>Sr x\/Sx x,fun x hx=>hx.elim (h1 x) (k1 x),hR _ _ _ _ h2 ⟨fun _ h=>.inl h,fun _ _=>rfl⟩,hX _ _ _ _ k2 ⟨fun _ h=>.inr h,fun _ _=>rfl⟩⟩
def ZA (A:Option Addr):Prop:=∀ a,A=some a->a=⟨a.block,0,none⟩
theorem row_stab {A:Option Addr} {n cap:Nat} {xs:List Value}:Stab (fun S w=>Row S w A n cap xs):=fun _ _ _ _ h f=>h.fut f
theorem Own.za {S:Nat->Prop} {n0:Nat} {w:World} {l:List LB} {e sz n cap:Nat} {A:Option Addr} {xs:List Value} (h:Own S n0 w l e sz A n cap xs):ZA A:=fun a ha=>by
 rcases h.row.2 with ⟨e1,_⟩ | ⟨g,cp,cur,e1,_⟩
 ·subst ha
  cases e1
 ·subst ha
  cases e1
  rfl
theorem rowz_stab {A:Option Addr} {n cap:Nat} {xs:List Value}:Stab (fun S w=>Row S w A n cap xs/\ZA A):=fun _ _ _ _ h f=>⟨h.1.fut f,h.2⟩
theorem Own.blk {S:Nat->Prop} {n0:Nat} {w:World} {l:List LB} {e sz n cap:Nat} {A:Option Addr} {xs:List Value} (h:Own S n0 w l e sz A n cap xs) {a:Addr} (ha:A=some a):∃ T cs,Blk w a.block T cs:=by
 rcases h.row.2 with ⟨e1,_⟩ | ⟨g,cp,cur,e1,_,hb,_⟩
 ·subst ha
  cases e1
 ·subst ha
  cases e1
  exact⟨e,cur.toList,by unfold Blk;rw [hb]⟩
section
variable {S0 S:Nat->Prop} {w0 w w':World} {l:List LB} {os:List OR} {o:OR} {R O O':Kn}
theorem CtxF.toldM (hc:CtxF S0 w0 S w l (o::os) R):∃ S':Nat->Prop,(∀ b,S b->S' b)/\CtxF S0 w0 S' w l os (fun S w=>R S w/\Mut (fun S w=>Row S w o.A o.n o.cap o.xs/\ZA o.A) S w):=by
 obtain⟨h1,h2,h3⟩:=hc.fst.told hc.ctx
 have hrow:=h3 hc.fst.fit.1 hc.fst.fit.2
 refine⟨_,fun b hb=>.inl hb,h1,hc.own.2.2.step fun p hp a ha=>⟨rfl,?_,((hc.own.2.2.mem p hp).out a ha).2⟩,⟨hc.stab _ _ _ _ hc.row h2,fun x=>∃ a,o.A=some a/\a.block=x,fun x hx=>⟨.inr hx,?_⟩,⟨hrow.1,hrow.2.1,fun hx=>?_⟩,hc.fst.za⟩,hc.stab.and (Mut.stab rowz_stab)⟩
 ·rintro (hs | ⟨b,hb,e⟩)
  ·exact ((hc.own.2.2.mem p hp).out a ha).1 hs
  ·exact hc.own.2.1 p hp b a hb ha e
 ·obtain⟨a,ha,rfl⟩:=hx
  exact hc.fst.blk ha
 ·obtain⟨ad,e,_,hcl⟩:=hrow.2.2 hx
  exact⟨ad,e,⟨ad,e,rfl⟩,hcl⟩
theorem CtxF.toldSep (hc:CtxF S0 w0 S w l (o::os) R):∃ S':Nat->Prop,CtxF S0 w0 S' w l os (Sep 0 R (Mut (fun S w=>Row S w o.A o.n o.cap o.xs/\ZA o.A))):=by
 have hout:=hc.fst.out
 obtain⟨h1,h2,h3⟩:=hc.fst.told hc.ctx
 have hrow:=h3 hc.fst.fit.1 hc.fst.fit.2
 refine⟨_,h1,hc.own.2.2.step fun p hp a ha=>⟨rfl,?_,((hc.own.2.2.mem p hp).out a ha).2⟩,⟨S,fun x=>∃ a,o.A=some a/\a.block=x,fun x hx=>⟨.inl hx,fun ⟨a,ha,e⟩=>(hout a ha).1 (e▸hx)⟩,fun x hx=>⟨.inr hx,Nat.zero_le _⟩,hc.row,fun x=>∃ a,o.A=some a/\a.block=x,fun x hx=>⟨hx,?_⟩,⟨hrow.1,hrow.2.1,fun hx=>?_⟩,hc.fst.za⟩,Sep.stab hc.stab (Mut.stab rowz_stab)⟩
 ·rintro (hs | ⟨b,hb,e⟩)
  ·exact ((hc.own.2.2.mem p hp).out a ha).1 hs
  ·exact hc.own.2.1 p hp b a hb ha e
 ·obtain⟨a,ha,rfl⟩:=hx
  exact hc.fst.blk ha
 ·obtain⟨ad,e,_,hcl⟩:=hrow.2.2 hx
  exact⟨ad,e,⟨ad,e,rfl⟩,hcl⟩
structure Cel (w:World) (a:Addr):Prop where
 spot:a.spot=none
 blk:∃ T cs,Blk w a.block T cs/\a.off<cs.length
theorem Cel.kept {a:Addr} (h:Cel w a) (e:w'.heap[a.block]?=w.heap[a.block]?):Cel w' a:=by
 obtain⟨h1,T,cs,h2,h3⟩:=h
 exact⟨h1,T,cs,h2.of_eq e,h3⟩
theorem Cel.of {a:Addr} {v:Value} (hs:a.spot=none) (hB:∃ T cs,Blk w a.block T cs) (hv:w.cell? a=some v):Cel w a:=by
 obtain⟨T,cs,hB⟩:=hB
 refine⟨hs,T,cs,hB,?_⟩
 obtain⟨b,off,sub⟩:=a
 cases hs
 rw [hB.cell] at hv
 exact (List.getElem?_eq_some_iff.1 hv).1
structure Poked (w:World) (a:Addr) (w':World):Prop where
 turn:Turn (fun x=>x=a.block) w w'
 size:w'.heap.size=w.heap.size
 cell:∀ b:Addr,b.spot=none->(b.block≠a.block\/b.off≠a.off)->w'.cell? b=w.cell? b
 cel:∀ b:Addr,Cel w b->Cel w' b
theorem Cel.may {a:Addr} (h:Cel w a) {v:Value} (h1:v.oneCell'=true):mayStore w a [v] 0:=by
 obtain⟨b,off,sub⟩:=a
 obtain⟨h2,T,cs,hB,hl⟩:=h
 cases h2
 exact mayStore_blk hB off [v] 0 (by show off+0+1<=_;have:off<cs.length:=hl;omega) (fun x hx=>by rw [List.mem_singleton.1 hx];exact h1)
theorem Cel.poke {a:Addr} (h:Cel w a) {v:Value} (hS:Stored w a [v] w'):Poked w a w':=by
 obtain⟨b,off,sub⟩:=a
 obtain⟨h2,T,cs,hB,hl⟩:=h
 cases h2
 obtain⟨k1,k2,k3,k4,k5,k6⟩:=stored_blk off [v] w 0 cs hB
 have e:w'=stored w ⟨b,off,none⟩ [v] 0:=hS
 rw [<-e] at k1 k2 k3 k4 k5 k6
 have k1:Blk w' b T (cs.set off v):=k1
 refine⟨⟨k4,k5,k6,fun x _ hx=>k2 x hx⟩,k3,fun a hs hn=>?_,fun a ha=>?_⟩
 ·by_cases hb:a.block=b
  ·obtain⟨ab,ao,sp⟩:=a
   cases hs
   cases hb
   rw [k1.cell,hB.cell,List.getElem?_set_ne]
   exact fun e=>hn.elim (fun h=>h rfl) (fun h=>h e.symm)
  ·exact World.cell?_of_block (k2 _ hb)
 ·by_cases hb:a.block=b
  ·obtain⟨h1,T',cs',h3,h4⟩:=ha
   have e2:Blk w b T' cs':=hb▸h3
   have e3:=Option.some.inj (e2.symm.trans hB)
   have e4:cs'.length=cs.length:=by
    have:=congrArg (fun | .cells c _ _=>c.size | _=>0) e3
    simpa using this
   exact⟨h1,T,_,hb▸k1,by rw [List.length_set];omega⟩
  ·exact ha.kept (k2 _ hb)
theorem CtxF.poke (hc:CtxF no w0 S w l os (Sep w0.heap.size R O)) (hR:Stab R) {a:Addr} {v:Value} (hp:∀ Sa,O Sa w->Sa a.block/\Cel w a) (h1:v.oneCell'=true) (hO:∀ Sa w',O Sa w->Poked w a w'->O' Sa w') (sO:Stab O'):
  mayStore w a [v] 0/\∀ w',Stored w a [v] w'->∃ S',CtxF no w0 S' w' l os (Sep w0.heap.size R O'):=by
 obtain⟨S1,Sa,k1,k2,k3,k4⟩:=hc.row
 obtain⟨p1,p2⟩:=hp Sa k4
 refine⟨p2.may h1,fun w' hS=>?_⟩
 have hP:=p2.poke hS
 exact⟨_,hc.turnO hR k1 k2 k3 (Sn:=Sa) ⟨hP.turn.os,hP.turn.tape,hP.turn.output,fun x hx hn=>hP.turn.block x hx (fun e=>hn (e▸p1))⟩ (fun x hx=>⟨.inl hx,by rw [hP.size];exact hc.ctx.lt x (k2 x hx).1⟩) (hO Sa w' k4 hP) sO⟩
end
end Go.Vc
namespace Go.Proofs.YtokglimimnelaaaGreatDoor
open Go.Vc Go.RowKit Go.Fl Go.ChangeShapes Go.WideShapes Go.ChangeAt
theorem flatAt:∀ {css:List (List Value)} {k:Nat},Flat k css->∀ (i j:Nat) (c:List Value) (v:Value),css[i]?=some c->c[j]?=some v->css.flatten[i*k+j]?=some v
 | c0::r,k,hF,0,j,c,v,hc,hv=>by
  cases hc
  rw [List.flatten_cons,Nat.zero_mul,Nat.zero_add,List.getElem?_append_left (List.getElem?_eq_some_iff.1 hv).1]
  exact hv
 | c0::r,k,hF,i+1,j,c,v,hc,hv=>by
  have h0:=(hF c0 (List.mem_cons_self ..)).1
  rw [List.flatten_cons,List.getElem?_append_right (by rw [h0,Nat.succ_mul];omega),h0,show (i+1)*k+j-k=i*k+j from by rw [Nat.succ_mul];omega]
  exact flatAt (fun x hx=>hF x (List.mem_cons_of_mem _ hx)) i j c v hc hv
def zc (c:List Value):Prop:=∃ k AV nv cv,c=[k,.slice AV nv cv]/\ZA AV
def EsM (l:List Ent) (css:List (List Value)) (B:Option Addr) (m cap:Nat) (xs:List Value):Kn:=fun S w=>(RepEs S w l css/\Row S w B m cap xs)/\(ZA B/\∀ c∈css,zc c)
theorem EsM.stab (l:List Ent) (css:List (List Value)) (B:Option Addr) (m cap:Nat) (xs:List Value):Stab (EsM l css B m cap xs):=Stab.and (Stab.and (fun _ _ _ _ h f=>h.map fun h=>h.fut f) row_stab) (fun _ _ _ _ h _=>h)
def StM (s:Stt) (x:SX) (css:List (List Value)):Kn:=Sep 0 (Mut (EsM s.l css x.B s.ms.length x.cap' (s.ms.map memC).flatten)) (Mut (fun S w=>Row S w x.A s.l.length x.cap css.flatten/\ZA x.A))
theorem StM.stab (s:Stt) (x:SX) (css:List (List Value)):Stab (StM s x css):=Sep.stab (Mut.stab (EsM.stab _ _ _ _ _ _)) (Mut.stab rowz_stab)
def RetStM (s:Stt) (w:World) (en:Ending) (w':World):Prop:=∃ x css,en=.returned (.agg (stX s x).toArray)/\Below w.heap.size w w'/\StM s x css (ext no w w') w'
set_option maxHeartbeats 8000000 in
theorem cloneM_state (s:Stt) (h1:s.l.length<=100000) (h2:s.ms.length<=100000) (h3:∀ e∈s.l,e.vs.length<=100000) (cs:List Value) (S0:Nat->Prop) (w:World) (hs:RepS S0 w s cs):
  Calls Tryz.prog 52 #[.agg cs.toArray] w (RetStM s w):=by
 obtain⟨A,cap,css,B,cap',l0,l1,l2,l3,l4,rfl,el,hE,hR,hM⟩:=hs.shape
 have hFE:=hE.flat
 have hlE:=hE.len
 refine vE Tryz.func52 ?_
 have hc:=CtxF.start w no (fun _ h=>h.elim) (R:=fun _ _=>True) trivial Stab.true
 refine hc.n fun g1 wg1 hg1 hc=>?_
 refine hc.n fun g2 wg2 hg2 hc=>?_
 refine Drawn.join (α:=Option Addr × Nat × Option Addr × Nat) (fun _=>[(1,.pointer (some ⟨g1,0,none⟩)),(2,.pointer (some ⟨g2,0,none⟩))])
  (fun z wS=>CtxF no w no wS [(g2,43,(lay.ty 43).zero),(g1,43,[.int .i64 s.seq,.slice z.1 s.l.length z.2.1,.slice z.2.2.1 s.ms.length z.2.2.2,.int .i64 l0,.int .i64 l1,.int .i64 l2,.int .i64 l3,.int .i64 l4])] [⟨56,3,z.2.2.1,s.ms.length,z.2.2.2,(s.ms.map memC).flatten⟩,⟨50,2,z.1,s.l.length,z.2.1,css.flatten⟩] (fun _ _=>True)) ?_ ?_
 ·refine vD (.Q [0,3] (.n 1 (.n 2 (.n 4 (.q 6 (.n 5 (.n 7 (.q 8 (.z 9)) .stop) .stop)) .stop) (.n 4 (.n 2 (.q 6 (.n 5 (.n 7 (.q 8 (.z 9)) .stop) .stop)) .stop) .stop)) (.n 4 (.n 1 (.n 2 (.q 6 (.n 5 (.n 7 (.q 8 (.z 9)) .stop) .stop)) .stop) .stop) .stop))) (fun _=>True) trivial ?_
  have hc:=hc.drew
  refine⟨?_,?_⟩
  ·skip
   refine⟨_,hc.cell 1 rfl _ rfl,trivial,?_⟩
   refine⟨?_,?_⟩
   ·skip
    refine⟨(cloneE_any A s.l.length cap css hFE hlE (by omega) S0 _ (hR.below hc.below)).mono fun en wq hq=>?_⟩
    obtain⟨A1,c1,e1,hb,ho⟩:=hq
    have hc:=hc.fresh hb ho
    refine⟨_,e1,trivial,?_⟩
    refine⟨⟨_,hc.cell 1 rfl _ rfl,trivial,?_⟩,trivial⟩
    refine⟨⟨(cloneM_any B s.ms.length cap' (s.ms.map memC) (memC_flat _) (List.length_map _) (by omega) S0 _ (hM.below hc.below)).mono fun en wq hq=>?_⟩,trivial⟩
    obtain⟨A2,c2,e1,hb,ho⟩:=hq
    have hc:=hc.fresh hb ho
    refine⟨_,e1,trivial,?_⟩
    refine⟨hc.s' 1 rfl fun wS hS hc=>?_,trivial⟩
    refine hc.s 1 rfl fun wS hS hc=>?_
    exact⟨(A1,c1,A2,c2),⟨rfl,rfl,trivial⟩,hc⟩
   refine⟨⟨_,hc.cell 1 rfl _ rfl,trivial,?_⟩,trivial⟩
   refine⟨⟨(cloneE_any A s.l.length cap css hFE hlE (by omega) S0 _ (hR.below hc.below)).mono fun en wq hq=>?_⟩,trivial⟩
   obtain⟨A1,c1,e1,hb,ho⟩:=hq
   have hc:=hc.fresh hb ho
   refine⟨_,e1,trivial,?_⟩
   refine⟨⟨(cloneM_any B s.ms.length cap' (s.ms.map memC) (memC_flat _) (List.length_map _) (by omega) S0 _ (hM.below hc.below)).mono fun en wq hq=>?_⟩,trivial⟩
   obtain⟨A2,c2,e1,hb,ho⟩:=hq
   have hc:=hc.fresh hb ho
   refine⟨_,e1,trivial,?_⟩
   refine⟨hc.s' 1 rfl fun wS hS hc=>?_,trivial⟩
   refine hc.s 1 rfl fun wS hS hc=>?_
   exact⟨(A1,c1,A2,c2),⟨rfl,rfl,trivial⟩,hc⟩
  refine⟨⟨_,hc.cell 1 rfl _ rfl,trivial,?_⟩,trivial⟩
  refine⟨⟨_,hc.cell 1 rfl _ rfl,trivial,?_⟩,trivial⟩
  refine⟨⟨(cloneE_any A s.l.length cap css hFE hlE (by omega) S0 _ (hR.below hc.below)).mono fun en wq hq=>?_⟩,trivial⟩
  obtain⟨A1,c1,e1,hb,ho⟩:=hq
  have hc:=hc.fresh hb ho
  refine⟨_,e1,trivial,?_⟩
  refine⟨⟨(cloneM_any B s.ms.length cap' (s.ms.map memC) (memC_flat _) (List.length_map _) (by omega) S0 _ (hM.below hc.below)).mono fun en wq hq=>?_⟩,trivial⟩
  obtain⟨A2,c2,e1,hb,ho⟩:=hq
  have hc:=hc.fresh hb ho
  refine⟨_,e1,trivial,?_⟩
  refine⟨hc.s' 1 rfl fun wS hS hc=>?_,trivial⟩
  refine hc.s 1 rfl fun wS hS hc=>?_
  exact⟨(A1,c1,A2,c2),⟨rfl,rfl,trivial⟩,hc⟩
 clear hc
 rintro⟨A1,c1,A2,c2⟩ u wS hc
 simp only at hc
 obtain⟨S1,_,hc⟩:=hc.toldM
 have hc:=hc.now (X:=Mut (EsM (s.l.take 0) [] A2 s.ms.length c2 (s.ms.map memC).flatten)) (fun h=>h.2.imp (fun _ _ h=>⟨⟨rfl,h.1⟩,h.2,fun c hc=>by cases hc⟩)) (Mut.stab (EsM.stab _ _ _ _ _ _))
 refine⟨_,hc.cell 1 rfl _ rfl,?_⟩
 cases hA:A1 with
 | none=>
  have h0:s.l.length=0:=(hc.fst.none' hA).1
  refine⟨Unit,fun _=>[(1,.pointer (some ⟨g1,0,none⟩)),(2,.pointer (some ⟨g2,0,none⟩)),(14,.int .i64 s.l.length),(15,.int .i64 0)],fun _ w'=>w'=_,fun _ _=>0,(),⟨rfl,rfl,rfl,rfl,trivial⟩,rfl,?_⟩
  rintro _ _ u rfl
  refine split_f (decide_eq_false (show ¬ (0:Int)<(s.l.length:Int) by omega)) ?_
  refine hc.a 1 rfl rfl ?_
  refine hc.s 0 rfl fun wS hS hc=>?_
  refine hc.a 0 rfl rfl ?_
  have hl:s.l=[]:=List.eq_nil_of_length_eq_zero h0
  have hcs:css=[]:=List.eq_nil_of_length_eq_zero (by rw [hlE,h0])
  obtain⟨S2,hc⟩:=hc.toldSep
  have hu:=hc.out
  subst hA
  subst hcs
  obtain⟨seq,l,ms,lows⟩:=s
  simp only at hl el hu
  subst hl
  exact⟨⟨none,c1,A2,c2,l0,l1,l2,l3,l4⟩,[],rfl,hc.below,hu⟩
 | some a=>
 obtain⟨g,cur,ea,hco,hcl,hct,hcn,hcm⟩:=hc.opened hA
 clear hc
 subst hA
 cases ea
 have hc:=hco
 have hcl:cur.length=c1*2:=hcl
 have hct:cur.take (s.l.length*2)=css.flatten:=hct
 have hcn:s.l.length<=c1:=hcn
 refine⟨Nat × List Value × List (List Value),fun y=>[(1,.pointer (some ⟨g1,0,none⟩)),(2,.pointer (some ⟨g2,0,none⟩)),(14,.int .i64 s.l.length),(15,.int .i64 y.1)],
  fun y w'=>y.1<=s.l.length/\y.2.1.length=c1*2/\y.2.2.length=y.1/\Flat 2 y.2.2/\y.2.1.take (s.l.length*2)=(y.2.2++css.drop y.1).flatten/\∃ S,CtxF no w S w' [(g,50,y.2.1),(g2,43,(lay.ty 43).zero),(g1,43,[.int .i64 s.seq,.slice (some ⟨g,0,none⟩) s.l.length c1,.slice A2 s.ms.length c2,.int .i64 l0,.int .i64 l1,.int .i64 l2,.int .i64 l3,.int .i64 l4])] [] (Mut (EsM (s.l.take y.1) y.2.2 A2 s.ms.length c2 (s.ms.map memC).flatten)),
  fun y _=>s.l.length-y.1,(0,cur,[]),⟨rfl,rfl,rfl,rfl,trivial⟩,⟨Nat.zero_le _,hcl,rfl,(fun c hc=>by cases hc),hct,_,hc⟩,?_⟩
 clear hc hco hcl hct
 rintro⟨i,cur,done⟩ w4 u ⟨hi,hcl,hdl,hdf,hct,S,hc⟩
 simp only at hi hcl hdl hdf hct hc
 by_cases hlt:i<s.l.length
 ·refine split_t (decide_eq_true (by show (i:Int)<(s.l.length:Int);omega)) ?_
  have hrep:=hE.get i hlt (by omega)
  obtain⟨AV,cv,ecs,hV⟩:=hrep
  have hvl:=h3 s.l[i] (List.getElem_mem hlt)
  have hdr:css.drop i=[.string s.l[i].key,.slice AV s.l[i].vs.length cv]::css.drop (i+1):=by rw [<-ecs];exact List.drop_eq_getElem_cons (by omega)
  have hcell:cur[i*2+1]?=some (.slice AV s.l[i].vs.length cv):=by
   have e1:(cur.take (s.l.length*2))[i*2+1]?=some (.slice AV s.l[i].vs.length cv):=by
    have hl:done.flatten.length=i*2:=by rw [hdf.len,hdl]
    rw [hct,hdr,List.flatten_append,List.getElem?_append_right (by omega),hl,show i*2+1-i*2=1 from by omega]
    rfl
   rw [List.getElem?_take] at e1
   split at e1
   ·exact e1
   ·cases e1
  generalize hx:s.l[i]=e at*
  refine Drawn.join (α:=Option Addr × Nat) (fun _=>[(1,.pointer (some ⟨g1,0,none⟩)),(2,.pointer (some ⟨g2,0,none⟩)),(14,.int .i64 s.l.length),(15,.int .i64 i)])
   (fun z wS=>CtxF no w S wS [(g,50,putAt cur (i*2+1) [.slice z.1 e.vs.length z.2]),(g2,43,(lay.ty 43).zero),(g1,43,[.int .i64 s.seq,.slice (some ⟨g,0,none⟩) s.l.length c1,.slice A2 s.ms.length c2,.int .i64 l0,.int .i64 l1,.int .i64 l2,.int .i64 l3,.int .i64 l4])] [⟨52,3,z.1,e.vs.length,z.2,(e.vs.map verC).flatten⟩] (Mut (EsM (s.l.take i) done A2 s.ms.length c2 (s.ms.map memC).flatten))) ?_ ?_
  ·refine vD (.Q [0,2,3,5] (.n 1 (.n 4 (.Q [6,7] (.n 8 (.n 9 (.Q [10,11] (.n 12 .fin .stop)) .stop) .stop)) .stop) (.n 4 (.Q [6,7] (.n 1 (.n 8 (.n 9 (.Q [10,11] (.n 12 .fin .stop)) .stop) .stop) (.n 8 (.n 1 (.n 9 (.Q [10,11] (.n 12 .fin .stop)) .stop) (.n 9 (.n 1 (.Q [10,11] (.n 12 .fin .stop)) .stop) .stop)) .stop))) .stop))) (fun _=>True) trivial ?_
   have hc:=hc.drew
   refine⟨?_,?_⟩
   ·skip
    refine⟨_,hc.cell 2 rfl _ rfl,trivial,?_⟩
    refine⟨⟨_,hc.cell 2 rfl _ rfl,trivial,?_⟩,trivial⟩
    refine⟨⟨by omega,by omega⟩,?_⟩
    generalize hae:((⟨g,0,none⟩:Addr).add ((i:Int).toNat*2))=ae
    have hae:(⟨g,i*2,none⟩:Addr)=ae:=by rw [<-hae,Addr.add_lit,Nat.zero_add,Int.toNat_natCast]
    subst hae
    refine⟨⟨_,(hc.blk 0 rfl).cell (i*2+1) |>.trans hcell,trivial,?_⟩,trivial⟩
    refine⟨⟨(cloneV_any AV e.vs.length cv (e.vs.map verC) (verC_flat _) (List.length_map _) (by omega) S0 _ (hV.below hc.below)).mono fun en wq hq=>?_⟩,trivial⟩
    obtain⟨A3,c3,e1,hb,ho⟩:=hq
    have hc:=hc.fresh hb ho
    refine⟨_,e1,trivial,?_⟩
    refine⟨⟨by omega,by omega⟩,?_⟩
    generalize hae:((⟨g,0,none⟩:Addr).add ((i:Int).toNat*2))=ae
    have hae:(⟨g,i*2,none⟩:Addr)=ae:=by rw [<-hae,Addr.add_lit,Nat.zero_add,Int.toNat_natCast]
    subst hae
    refine⟨⟨hc.may 0 rfl (i*2+1) [.slice A3 e.vs.length c3] (by show i*2+1+1<=cur.length;omega) rfl,?_⟩,trivial⟩
    intro wS hS
    have hS:Stored _ ⟨g,i*2+1,none⟩ [.slice A3 e.vs.length c3] wS:=hS
    have hc:=(hc.set 0 rfl hS).1
    refine⟨trivial,?_⟩
    exact⟨(A3,c3),⟨rfl,rfl,rfl,rfl,trivial⟩,hc⟩
   refine⟨⟨_,hc.cell 2 rfl _ rfl,trivial,?_⟩,trivial⟩
   refine⟨⟨by omega,by omega⟩,?_⟩
   generalize hae:((⟨g,0,none⟩:Addr).add ((i:Int).toNat*2))=ae
   have hae:(⟨g,i*2,none⟩:Addr)=ae:=by rw [<-hae,Addr.add_lit,Nat.zero_add,Int.toNat_natCast]
   subst hae
   refine⟨?_,?_⟩
   ·skip
    refine⟨_,hc.cell 2 rfl _ rfl,trivial,?_⟩
    refine⟨⟨_,(hc.blk 0 rfl).cell (i*2+1) |>.trans hcell,trivial,?_⟩,trivial⟩
    refine⟨⟨(cloneV_any AV e.vs.length cv (e.vs.map verC) (verC_flat _) (List.length_map _) (by omega) S0 _ (hV.below hc.below)).mono fun en wq hq=>?_⟩,trivial⟩
    obtain⟨A3,c3,e1,hb,ho⟩:=hq
    have hc:=hc.fresh hb ho
    refine⟨_,e1,trivial,?_⟩
    refine⟨⟨by omega,by omega⟩,?_⟩
    generalize hae:((⟨g,0,none⟩:Addr).add ((i:Int).toNat*2))=ae
    have hae:(⟨g,i*2,none⟩:Addr)=ae:=by rw [<-hae,Addr.add_lit,Nat.zero_add,Int.toNat_natCast]
    subst hae
    refine⟨⟨hc.may 0 rfl (i*2+1) [.slice A3 e.vs.length c3] (by show i*2+1+1<=cur.length;omega) rfl,?_⟩,trivial⟩
    intro wS hS
    have hS:Stored _ ⟨g,i*2+1,none⟩ [.slice A3 e.vs.length c3] wS:=hS
    have hc:=(hc.set 0 rfl hS).1
    refine⟨trivial,?_⟩
    exact⟨(A3,c3),⟨rfl,rfl,rfl,rfl,trivial⟩,hc⟩
   refine⟨⟨_,(hc.blk 0 rfl).cell (i*2+1) |>.trans hcell,trivial,?_⟩,trivial⟩
   refine⟨?_,?_⟩
   ·skip
    refine⟨_,hc.cell 2 rfl _ rfl,trivial,?_⟩
    refine⟨⟨(cloneV_any AV e.vs.length cv (e.vs.map verC) (verC_flat _) (List.length_map _) (by omega) S0 _ (hV.below hc.below)).mono fun en wq hq=>?_⟩,trivial⟩
    obtain⟨A3,c3,e1,hb,ho⟩:=hq
    have hc:=hc.fresh hb ho
    refine⟨_,e1,trivial,?_⟩
    refine⟨⟨by omega,by omega⟩,?_⟩
    generalize hae:((⟨g,0,none⟩:Addr).add ((i:Int).toNat*2))=ae
    have hae:(⟨g,i*2,none⟩:Addr)=ae:=by rw [<-hae,Addr.add_lit,Nat.zero_add,Int.toNat_natCast]
    subst hae
    refine⟨⟨hc.may 0 rfl (i*2+1) [.slice A3 e.vs.length c3] (by show i*2+1+1<=cur.length;omega) rfl,?_⟩,trivial⟩
    intro wS hS
    have hS:Stored _ ⟨g,i*2+1,none⟩ [.slice A3 e.vs.length c3] wS:=hS
    have hc:=(hc.set 0 rfl hS).1
    refine⟨trivial,?_⟩
    exact⟨(A3,c3),⟨rfl,rfl,rfl,rfl,trivial⟩,hc⟩
   refine⟨⟨(cloneV_any AV e.vs.length cv (e.vs.map verC) (verC_flat _) (List.length_map _) (by omega) S0 _ (hV.below hc.below)).mono fun en wq hq=>?_⟩,trivial⟩
   obtain⟨A3,c3,e1,hb,ho⟩:=hq
   have hc:=hc.fresh hb ho
   refine⟨_,e1,trivial,?_⟩
   refine⟨⟨_,hc.cell 2 rfl _ rfl,trivial,?_⟩,trivial⟩
   refine⟨⟨by omega,by omega⟩,?_⟩
   generalize hae:((⟨g,0,none⟩:Addr).add ((i:Int).toNat*2))=ae
   have hae:(⟨g,i*2,none⟩:Addr)=ae:=by rw [<-hae,Addr.add_lit,Nat.zero_add,Int.toNat_natCast]
   subst hae
   refine⟨⟨hc.may 0 rfl (i*2+1) [.slice A3 e.vs.length c3] (by show i*2+1+1<=cur.length;omega) rfl,?_⟩,trivial⟩
   intro wS hS
   have hS:Stored _ ⟨g,i*2+1,none⟩ [.slice A3 e.vs.length c3] wS:=hS
   have hc:=(hc.set 0 rfl hS).1
   refine⟨trivial,?_⟩
   exact⟨(A3,c3),⟨rfl,rfl,rfl,rfl,trivial⟩,hc⟩
  clear hc
  rintro⟨A3,c3⟩ u2 w5 hc
  simp only at hc
  obtain⟨S2,_,hc⟩:=hc.toldM
  have et:s.l.take (i+1)=s.l.take i++[e]:=by rw [List.take_add_one,List.getElem?_eq_getElem hlt,hx];rfl
  refine⟨(i+1,putAt cur (i*2+1) [.slice A3 e.vs.length c3],done++[[Value.string e.key,Value.slice A3 e.vs.length c3]]),⟨rfl,rfl,rfl,congrArg _ (i_down (by omega)),trivial⟩,⟨hlt,?_,?_,?_,?_,S2,?_⟩,by show s.l.length-(i+1)<s.l.length-i;omega⟩
  ·show (putAt cur (i*2+1) [.slice A3 e.vs.length c3]).length=c1*2
   rw [putAt_len,hcl]
  ·show (done++[_]).length=i+1
   rw [List.length_append,hdl]
   rfl
  ·exact hdf.append (fun c hc=>by rw [List.mem_singleton.1 hc];exact⟨rfl,rfl⟩)
  ·show (cur.set (i*2+1) (.slice A3 e.vs.length c3)).take (s.l.length*2)=((done++[[Value.string e.key,Value.slice A3 e.vs.length c3]])++css.drop (i+1)).flatten
   rw [List.take_set,hct]
   exact ent_set done (css.drop i) hdf _ _ _ _ i hdl hdr
  ·show CtxF no w S2 w5 _ [] (Mut (EsM (s.l.take (i+1)) (done++[_]) A2 s.ms.length c2 (s.ms.map memC).flatten))
   rw [et]
   exact hc.now (fun h=>(Mut.and (EsM.stab _ _ _ _ _ _) rowz_stab h.1 h.2).imp (fun _ _ h=>⟨⟨h.1.1.1.append ⟨_,_,rfl,⟨A3,c3,rfl,h.2.1⟩,rfl⟩,h.1.1.2⟩,h.1.2.1,fun c hc=>(List.mem_append.1 hc).elim (h.1.2.2 c) (fun hc=>by rw [List.mem_singleton.1 hc];exact⟨_,_,_,_,rfl,h.2.2⟩)⟩)) (Mut.stab (EsM.stab _ _ _ _ _ _))
 ·refine split_f (decide_eq_false (by show ¬ (i:Int)<(s.l.length:Int);omega)) ?_
  have hi:i=s.l.length:=by omega
  subst hi
  have hcd:css.drop s.l.length=[]:=List.drop_of_length_le (by omega)
  rw [hcd,List.append_nil] at hct
  rw [List.take_length] at hc
  refine hc.a 2 rfl rfl ?_
  refine hc.s 1 rfl fun wS hS hc=>?_
  refine hc.a 1 rfl rfl ?_
  have hc:=hc.closed 2 s.l.length c1 hcn hcm hcl
  rw [hct] at hc
  obtain⟨S2,hc⟩:=hc.toldSep
  have hu:=hc.out
  exact⟨⟨some ⟨g,0,none⟩,c1,A2,c2,l0,l1,l2,l3,l4⟩,done,rfl,hc.below,hu⟩
theorem BookM_any (gs gj gc b:Nat) (H:Sh) (h:H.Ok) (S:Nat->Prop) (w:World) (hK:ShelfK gs gj gc b H S w):Calls Tryz.prog 22 #[.pointer (some ⟨gs,0,none⟩)] w (RetStM H.k.b w):=by
 obtain⟨x,A,cap,hO⟩:=hK
 have hR:=(hO.left (KnR.stab _ _ _ _)).1
 obtain⟨f1,f2,f3⟩:=may_fits h.k.may
 have hB:=hO.2.1
 refine vE Tryz.func22 ?_
 have hc:=CtxF.start w no (fun _ h=>h.elim) (R:=fun _ _=>True) trivial Stab.true
 refine hc.n fun g2 wg2 hg2 hc=>?_
 refine⟨.bool false,fun w=>shNil gs _ _ w,?_⟩
 refine⟨stX H.k.b x,rfl,drop_cells (hB.of_eq (hc.below.block _ hB.lt)) 1 _ 0 (fun j v hj=>?_),?_⟩
 ·match j,hj with
  | 0,hj=>exact hj
  | 1,hj=>exact hj
  | 2,hj=>exact hj
  | 3,hj=>exact hj
  | 4,hj=>exact hj
  | 5,hj=>exact hj
  | 6,hj=>exact hj
  | 7,hj=>exact hj
 refine⟨(cloneM_state H.k.b f1 f2 f3 (stX H.k.b x) S _ (hR.below hc.below)).mono fun en wq hq=>?_⟩
 obtain⟨xS,css,e1,hb,hrep⟩:=hq
 have hc:=(hc.call hb).1.know (X:=StM H.k.b xS css) (StM.stab _ _ _ _ _ _ _ hrep ⟨fun b hb2=>hb2.elim (fun h=>h.elim) .inr,fun _ _=>rfl⟩) (StM.stab _ _ _)
 refine⟨_,e1,?_⟩
 refine hc.s 0 rfl fun wS hS hc=>?_
 refine hc.a 0 rfl rfl ?_
 exact⟨xS,css,rfl,hc.below,hc.out.2⟩
end Go.Proofs.YtokglimimnelaaaGreatDoor
end
