import Derived.Test.YtokglimimnelaaaGreatDoorM06
set_option linter.unusedVariables false
set_option linter.unusedSimpArgs false
section
namespace Go.Vc
open Go Go.RowKit
structure CtxR (S0:Nat->Prop) (w0:World) (S:Nat->Prop) (w:World) (l:List LB) (R:World->Prop):Prop where
 ctx:Ctx S0 w0 S w l
 row:R w
 stab:∀ w1 w2,R w1->Fut S w1 S w2->R w2
section
variable {S0 S:Nat->Prop} {w0 w w':World} {l l':List LB} {R:World->Prop}
theorem CtxR.re (hc:CtxR S0 w0 S w l R) (h:Ctx S0 w0 S w l'):CtxR S0 w0 S w l' R:=⟨h,hc.row,hc.stab⟩
theorem CtxR.via (hc:CtxR S0 w0 S w l R) (h:Ctx S0 w0 S w' l') (f:Fut S w S w'):CtxR S0 w0 S w' l' R:=⟨h,hc.stab _ _ hc.row f,hc.stab⟩
theorem CtxR.below (hc:CtxR S0 w0 S w l R):Below w0.heap.size w0 w:=hc.ctx.below
theorem CtxR.loc (hc:CtxR S0 w0 S w l R) {cs:List Value} {T g:Nat} (hN:New w cs T g w'):CtxR S0 w0 S w' ((g,T,cs)::l) R/\Fut S w S w':=
 ⟨hc.via (hc.ctx.loc hN).1 (hc.ctx.loc hN).2,(hc.ctx.loc hN).2⟩
theorem CtxR.quiet (hc:CtxR S0 w0 S w l R) (hb:Below w.heap.size w w'):CtxR S0 w0 S w' l R/\Fut S w S w':=
 ⟨hc.via (hc.ctx.quiet hb).1 (hc.ctx.quiet hb).2,(hc.ctx.quiet hb).2⟩
theorem CtxR.blk (hc:CtxR S0 w0 S w l R) (k:Nat) {g T:Nat} {cs:List Value} (h:l[k]?=some (g,T,cs)):Blk w g T cs:=hc.ctx.blk k h
theorem CtxR.cell (hc:CtxR S0 w0 S w l R) (k:Nat) {g T:Nat} {cs:List Value} (h:l[k]?=some (g,T,cs)) (i:Nat) {v:Value} (hv:cs[i]?=some v):w.cell? ⟨g,i,none⟩=some v:=hc.ctx.cell k h i hv
theorem CtxR.cells (hc:CtxR S0 w0 S w l R) (k:Nat) {g T:Nat} {cs:List Value} (h:l[k]?=some (g,T,cs)):Go.Vc.cellsAt w ⟨g,0,none⟩ cs 0:=hc.ctx.cells k h
theorem CtxR.cellsAt (hc:CtxR S0 w0 S w l R) (k:Nat) {g T:Nat} {cs:List Value} (h:l[k]?=some (g,T,cs)) (o:Nat) (xs:List Value) (hx:(cs.drop o).take xs.length=xs):Go.Vc.cellsAt w ⟨g,o,none⟩ xs 0:=hc.ctx.cellsAt k h o xs hx
theorem CtxR.may (hc:CtxR S0 w0 S w l R) (k:Nat) {g T:Nat} {cs:List Value} (h:l[k]?=some (g,T,cs)) (o:Nat) (xs:List Value) (hl:o+xs.length<=cs.length) (h1:allOne xs=true):mayStore w ⟨g,o,none⟩ xs 0:=hc.ctx.may k h o xs hl h1
theorem CtxR.set (hc:CtxR S0 w0 S w l R) (k:Nat) {g T:Nat} {cs:List Value} (h:l[k]?=some (g,T,cs)) {o:Nat} {xs:List Value} (hS:Stored w ⟨g,o,none⟩ xs w'):
  CtxR S0 w0 S w' (setLoc l k (putAt cs o xs)) R/\Fut S w S w':=⟨hc.via (hc.ctx.set k h hS).1 (hc.ctx.set k h hS).2,(hc.ctx.set k h hS).2⟩
section
variable {S0 S:Nat->Prop} {w0 w:World} {l:List LB} {R:World->Prop} {g T:Nat} {cs xs:List Value} {o:Nat} {K:World->Prop}
theorem CtxR.s (hc:CtxR S0 w0 S w l R) (k:Nat) (h:l[k]?=some (g,T,cs)) (hk:∀ w',Stored w ⟨g,o,none⟩ xs w'->CtxR S0 w0 S w' (setLoc l k (putAt cs o xs)) R->K w') (hl:Nat.ble (o+xs.length) cs.length=true:=by rfl) (h1:allOne xs=true:=by rfl):mayStore w ⟨g,o,none⟩ xs 0/\∀ w',Stored w ⟨g,o,none⟩ xs w'->K w':=
 ⟨hc.may k h o xs (Nat.le_of_ble_eq_true hl) h1,fun w' hS=>hk w' hS (hc.set k h hS).1⟩
theorem CtxR.s' (hc:CtxR S0 w0 S w l R) (k:Nat) (h:l[k]?=some (g,T,cs)) (hk:∀ w',Stored w ⟨g,o,none⟩ xs w'->CtxR S0 w0 S w' (setLoc l k (putAt cs o xs)) R->K w') (hl:Nat.ble (o+xs.length) cs.length=true:=by rfl) (h1:allOne xs=true:=by rfl):mayStore w ⟨g,o,none⟩ xs 0/\∀ w',Stored w ⟨g,o,none⟩ xs w'->True/\K w':=
 ⟨hc.may k h o xs (Nat.le_of_ble_eq_true hl) h1,fun w' hS=>⟨trivial,hk w' hS (hc.set k h hS).1⟩⟩
theorem CtxR.a (hc:CtxR S0 w0 S w l R) (k:Nat) (h:l[k]?=some (g,T,cs)) {n:Nat} {K:List Value->Prop} (hn:cs.length=n) (hk:K cs):∃ ds:List Value,ds.length=n/\Go.Vc.cellsAt w ⟨g,0,none⟩ ds 0/\K ds:=⟨cs,hn,hc.cells k h,hk⟩
theorem CtxR.a' (hc:CtxR S0 w0 S w l R) (k:Nat) (h:l[k]?=some (g,T,cs)) {n:Nat} {K:List Value->Prop} (hn:cs.length=n) (hk:K cs):∃ ds:List Value,ds.length=n/\Go.Vc.cellsAt w ⟨g,0,none⟩ ds 0/\True/\K ds:=⟨cs,hn,hc.cells k h,trivial,hk⟩
theorem CtxR.n (hc:CtxR S0 w0 S w l R) {K:Nat->World->Prop} (hk:∀ g w',New w cs T g w'->CtxR S0 w0 S w' ((g,T,cs)::l) R->K g w'):∀ g w',New w cs T g w'->K g w':=fun g w' h=>hk g w' h (hc.loc h).1
theorem CtxR.n' (hc:CtxR S0 w0 S w l R) {K:Nat->World->Prop} (hk:∀ g w',New w cs T g w'->CtxR S0 w0 S w' ((g,T,cs)::l) R->K g w'):∀ g w',New w cs T g w'->True/\K g w':=fun g w' h=>⟨trivial,hk g w' h (hc.loc h).1⟩
theorem CtxR.q (hc:CtxR S0 w0 S w l R) {P:Program} {n:Nat} {args:List Value} {v:Value} {K:Value->World->Prop} (h:Calls P n args.toArray w (RetB v w)) (hk:∀ w',Below w.heap.size w w'->CtxR S0 w0 S w' l R->K v w'):CallVc P n args w K:=call_b h fun w' hb=>hk w' hb (hc.quiet hb).1
theorem CtxR.q' (hc:CtxR S0 w0 S w l R) {P:Program} {n:Nat} {args:List Value} {v:Value} {K:Value->World->Prop} (h:Calls P n args.toArray w (RetB v w)) (hk:∀ w',Below w.heap.size w w'->CtxR S0 w0 S w' l R->K v w'):CallVc P n args w (fun v w'=>True/\K v w'):=call_b h fun w' hb=>⟨trivial,hk w' hb (hc.quiet hb).1⟩
end
theorem CtxR.drop {x:LB} (h:CtxR S0 w0 S w (x::l) R):CtxR S0 w0 S w l R:=h.re h.ctx.drop
theorem CtxR.drew (h:CtxR S0 w0 S w l R):CtxR S0 w0 S w.drew l R:=h.via h.ctx.drew ⟨fun _ h=>h,fun _ _=>rfl⟩
theorem CtxR.fresh (hc:CtxR S0 w0 S w l R) {e sz n cap:Nat} {A:Option Addr} {xs:List Value} (hb:Below w.heap.size w w') (ho:w'.ownsRow w.heap.size e sz (.slice A n cap) n xs):
  CtxR S0 w0 S w' l R/\Fut S w S w'/\Own S w0.heap.size w' l e sz A n cap xs:=by
 obtain⟨h1,h2,h3⟩:=hc.ctx.fresh hb ho
 exact⟨hc.via h1 h2,h2,h3⟩
theorem ownsRow_fit {n0 e sz n cap:Nat} {A:Option Addr} {xs:List Value} (ho:w'.ownsRow n0 e sz (.slice A n cap) n xs):n<=cap/\cap<=maxLen:=by
 obtain⟨e0,h3⟩:=ho
 rcases h3 with ⟨h3,rfl⟩ | ⟨g,cp,cur,e1,_,_,h4,h5,_,_⟩
 ·cases h3;exact⟨Nat.le_refl _,Nat.zero_le _⟩
 ·cases e1;exact⟨h4,h5⟩
theorem told_row {n0 e sz n cap:Nat} {A:Option Addr} {xs:List Value} (ho:w'.ownsRow n0 e sz (.slice A n cap) n xs) (hS:∀ b,n0<=b->b<w'.heap.size->S b):Row S w' A n cap xs:=by
 obtain⟨f1,f2⟩:=ownsRow_fit ho
 refine⟨f1,f2,fun hx=>?_⟩
 have ho':=ho
 obtain⟨e0,h3⟩:=ho'
 rcases h3 with ⟨h3,rfl⟩ | ⟨g,cp,cur,e1,_⟩
 ·rw [Nat.zero_mul] at e0
  exact absurd (List.eq_nil_of_length_eq_zero e0) hx
 ·cases e1
  have h:=ho.lt g rfl
  exact⟨_,rfl,hS _ h.1 h.2,ho.cells rfl⟩
theorem Own.ext {Sg:Nat->Prop} {n cap e sz:Nat} {A:Option Addr} {xs:List Value} (ho:Own S w0.heap.size w l e sz A n cap xs):Row (ext Sg w0 w) w A n cap xs:=told_row ho.row fun _ h1 h2=>.inr ⟨h1,h2⟩
theorem Row.wide {S':Nat->Prop} {A:Option Addr} {n cap:Nat} {xs:List Value} (h:Row S w A n cap xs) (f:∀ b,S b->S' b):Row S' w A n cap xs:=h.fut ⟨f,fun _ _=>rfl⟩
theorem Row.ret {Sg:Nat->Prop} {A:Option Addr} {n cap:Nat} {xs:List Value} (h:Row S w A n cap xs) (hc:Ctx S0 w0 S w l) (h0:∀ b,¬ S0 b):Row (ext Sg w0 w) w A n cap xs:=
 h.wide fun b hb=>by
  rcases hc.new b hb with h | h
  ·exact (h0 b h).elim
  ·exact .inr ⟨h,hc.lt b hb⟩
theorem Row.old {Sg:Nat->Prop} {A:Option Addr} {n cap:Nat} {xs:List Value} (h:Row Sg w0 A n cap xs) (hb:Below w0.heap.size w0 w):Row (ext Sg w0 w) w A n cap xs:=
 (h.below hb).wide fun _ hb=>.inl hb
theorem CtxR.told (hc:CtxR S0 w0 S w l R) {e sz n cap:Nat} {A:Option Addr} {xs:List Value} (ho:Own S w0.heap.size w l e sz A n cap xs):
  ∃ S':Nat->Prop,(∀ b,S b->S' b)/\CtxR S0 w0 S' w l (fun x=>R x/\Row S' x A n cap xs):=by
 obtain⟨h1,h2,h3⟩:=ho.told hc.ctx
 refine⟨_,fun b hb=>.inl hb,h1,⟨hc.row,h3 ho.fit.1 ho.fit.2⟩,fun x1 x2 hx f=>⟨hc.stab x1 x2 hx.1 ⟨fun _ h=>h,fun b hb=>f.2 b (.inl hb)⟩,hx.2.fut f⟩⟩
end
end Go.Vc
namespace Go.Proofs.YtokglimimnelaaaGreatDoor
open Go.Vc Go.RowKit Go.Fl
set_option maxRecDepth 100000
theorem RepEs.old {S:Nat->Prop} {w w':World} {l:List Ent} {css:List (List Value)} (h:RepEs S w l css) (hb:Below w.heap.size w w'):RepEs (ext S w w') w' l css:=h.map (fun h=>h.old hb)
theorem row_set {n cap:Nat} {cur c:List Value} {css:List (List Value)} (hF:Flat 2 css) (hcl:c.length=2) (hcur:cur.length=cap*2) (hn:css.length=n) (hnc:n<=cap) (hct:cur.take (n*2)=css.flatten) (i:Nat) (hi:i<n):
  (putAt cur (i*2) c).take (n*2)=(css.take i++[c]++css.drop (i+1)).flatten:=by
 rw [putAt_eq _ _ _ (by rw [hcl];omega),List.flatten_append,List.flatten_append,hF.flat_take,hF.flat_drop,<-hct,List.take_take,List.drop_take,hcl]
 rw [List.take_append,List.length_append,List.length_take,hcl,show min (i*2) cur.length+2=i*2+2 by omega,List.take_of_length_le (l:=cur.take (i*2)++c) (by rw [List.length_append,List.length_take,hcl];omega)]
 rw [show (i+1)*2=i*2+2 by omega,show min (i*2) (n*2)=i*2 by omega]
 simp
def RetK (s:Stt) (B:Option Addr) (cap':Nat) (l0 l1 l2 l3 l4:Int) (S:Nat->Prop) (q:List Ent × Res) (w:World) (en:Ending) (w':World):Prop:=
 ∃ A c css,en=.returned (.tuple #[.agg #[.int .i64 s.seq,.slice A q.1.length c,.slice B s.ms.length cap',.int .i64 l0,.int .i64 l1,.int .i64 l2,.int .i64 l3,.int .i64 l4],.agg #[.int .i64 q.2.err,.int .i64 q.2.ver]])/\
  Below w.heap.size w w'/\RepEs (ext S w w') w' q.1 css/\Row (ext S w w') w' A q.1.length c css.flatten
def purgeK (l:List Ent) (i:Nat) (e:Ent) (n:Int):List Ent × Res:=
 match idxV e.vs n with
 | none=>(l,⟨6,0⟩)
 | some j=>(l.take i++(if (e.vs.take j++e.vs.drop (j+1)).length=0 then [] else [⟨e.key,e.vs.take j++e.vs.drop (j+1)⟩])++l.drop (i+1),⟨0,n⟩)
set_option maxHeartbeats 1000000 in
theorem purgeK_any (s:Stt) (A B:Option Addr) (cap cap':Nat) (l0 l1 l2 l3 l4:Int) (css:List (List Value)) (S:Nat->Prop) (w:World) (hE:RepEs S w s.l css) (hR:Row S w A s.l.length cap css.flatten) (hn:s.l.length<=1000000)
  (i:Nat) (e:Ent) (A1:Option Addr) (cap1:Nat) (hRe:Row S w A1 e.vs.length cap1 (e.vs.map verC).flatten) (hb:e.vs.length<=1000000) (n:Int) (hi:(idxV e.vs n).isSome=true->i<s.l.length):
  Calls Tryz.prog 182 #[.agg (stC s A cap B cap' l0 l1 l2 l3 l4).toArray,.int .i64 i,.agg #[.string e.key,.slice A1 e.vs.length cap1],.int .i64 n] w (RetK s B cap' l0 l1 l2 l3 l4 S (purgeK s.l i e n) w):=by
 refine vE Tryz.func182 ?_
 intro g4 w1 h1
 have hc:=((Ctx.start w no (fun _ h=>h.elim)).loc h1).1
 refine hc.n fun g6 w2 h2 hc=>?_
 refine hc.n fun g8 w3 h3 hc=>?_
 refine hc.n fun g9 w4 h4 hc=>?_
 refine hc.a 2 rfl rfl ?_
 refine⟨(purge_any e n A1 cap1 hb S w4 (hRe.below hc.below)).mono fun en w5 hq=>?_⟩
 unfold RetA purgeE at hq
 cases hj:idxV e.vs n with
 | none=>
  rw [hj] at hq
  have ek:purgeK s.l i e n=(s.l,⟨6,0⟩):=by unfold purgeK;rw [hj]
  rw [ek]
  obtain⟨e1,h5⟩:=hq
  have hc:=(hc.quiet h5).1
  refine⟨_,e1,?_⟩
  refine hc.s 2 rfl fun wS hS hc=>?_
  refine hc.a 3 rfl rfl ?_
  refine hc.s 1 rfl fun wS hS hc=>?_
  refine hc.s 0 rfl fun wS hS hc=>?_
  refine hc.a 1 rfl rfl ?_
  refine hc.a 0 rfl rfl ?_
  exact⟨A,cap,css,rfl,hc.below,hE.old hc.below,hR.old hc.below⟩
 | some j=>
  rw [hj] at hq hi
  have hi:=hi rfl
  obtain⟨A2,cap2,e1,h5,ho⟩:=hq
  simp only at e1 ho
  have ek:purgeK s.l i e n=(s.l.take i++(if (e.vs.take j++e.vs.drop (j+1)).length=0 then [] else [⟨e.key,e.vs.take j++e.vs.drop (j+1)⟩])++s.l.drop (i+1),⟨0,n⟩):=by unfold purgeK;rw [hj]
  rw [ek]
  clear ek
  generalize e.vs.take j++e.vs.drop (j+1)=vs at*
  have hcc:=(hc.call h5).1
  have hr2:Row (ext no w4 w5) w5 A2 vs.length cap2 (vs.map verC).flatten:=told_row ho fun b h1 h2=>.inr ⟨h1,h2⟩
  have hc:CtxR no w (ext no w4 w5) w5 _ (fun x=>Row (ext no w4 w5) x A2 vs.length cap2 (vs.map verC).flatten):=⟨hcc,hr2,fun _ _ h f=>h.fut f⟩
  clear hr2 ho hcc
  generalize ext no w4 w5=S1 at hc
  refine⟨_,e1,?_⟩
  refine⟨hc.may 2 rfl _ _ (Nat.le_refl 2) rfl,?_⟩
  intro w6 h6
  have hc:=(hc.set 2 rfl h6).1
  refine⟨_,hc.cell 3 rfl _ rfl,?_⟩
  refine⟨(cloneE_any A s.l.length cap css hE.flat hE.len hn S w6 (hR.below hc.below)).mono fun en w7 hq=>?_⟩
  obtain⟨A3,cap3,e3,h7,ho⟩:=hq
  obtain⟨hc,_,ho⟩:=hc.fresh h7 ho
  refine⟨_,e3,?_⟩
  refine⟨hc.may 3 rfl _ _ (nle rfl) rfl,?_⟩
  intro w8 h8
  have ho:=ho.set hc.ctx 3 rfl h8
  have hc:=(hc.set 3 rfl h8).1
  refine⟨_,hc.cell 2 rfl _ rfl,?_⟩
  by_cases h0:vs.length=0
  ·refine split_t (by show ((vs.length:Int)==0)=true;rw [h0];rfl) ?_
   refine⟨_,hc.cell 3 rfl _ rfl,?_⟩
   have hel:=hE.len
   have hM:=row_max hR
   have hd:=deleteE_any hc.ctx css hE.flat (A:=A3) (cap:=cap3) (by rw [hel];exact ho) i (by omega) (IntKind.i64.wrap ((i:Int)+1)) (by rw [wrap_add _ _ (by omega) (by omega)])
   rw [hel] at hd
   refine⟨hd.mono fun en w9 hq=>?_⟩
   obtain⟨A4,e4,hcx,hfx,ho⟩:=hq
   have hc:=hc.via hcx hfx
   refine⟨_,e4,?_⟩
   refine⟨hc.may 3 rfl _ _ (nle rfl) rfl,?_⟩
   intro w10 h10
   have ho:=ho.set hc.ctx 3 rfl h10
   have hc:=(hc.set 3 rfl h10).1
   obtain⟨S2,hs2,hc⟩:=hc.told ho
   refine hc.a 3 rfl rfl ?_
   refine hc.s 1 rfl fun wS hS hc=>?_
   refine hc.s 0 rfl fun wS hS hc=>?_
   refine hc.a 1 rfl rfl ?_
   refine hc.a 0 rfl rfl ?_
   have hlen:(s.l.take i++[]++s.l.drop (i+1)).length=s.l.length-1:=by rw [List.append_nil,List.length_append,List.length_take,List.length_drop];omega
   refine⟨A4,cap3,css.take i++css.drop (i+1),?_,hc.below,?_,?_⟩
   ·rw [if_pos h0]
    rw [hlen]
    rfl
   ·rw [if_pos h0]
    rw [List.append_nil]
    exact ((hE.take i).append (hE.drop (i+1))).old hc.below
   ·rw [if_pos h0]
    rw [hlen]
    exact hc.row.2.ret hc.ctx (fun _ h=>h)
  ·refine split_f (by show ((vs.length:Int)==0)=false;rw [beq_eq_false_iff_ne];omega) ?_
   refine⟨_,hc.cell 3 rfl _ rfl,?_⟩
   refine hc.a 2 rfl rfl ?_
   cases hA3:A3 with
   | none=>
    obtain⟨hz,_⟩:=ho.none' hA3
    omega
   | some a=>
   obtain⟨g,cur,ea,hcx,hcl,hct,hnc,hcm⟩:=ho.opened hc.ctx hA3
   rw [hA3] at ea
   cases ea
   have hc:=hc.re hcx
   refine⟨⟨by omega,by omega⟩,?_⟩
   generalize hae:((⟨g,0,none⟩:Addr).add ((i:Int).toNat*2))=ae
   rw [Addr.add_lit,Nat.zero_add,Int.toNat_natCast] at hae
   subst hae
   refine⟨hc.may 0 rfl (i*2) [.string e.key,.slice A2 vs.length cap2] (by show i*2+2<=cur.length;omega) rfl,?_⟩
   intro w10 h10
   have h10:Stored w8 ⟨g,i*2,none⟩ [.string e.key,.slice A2 vs.length cap2] w10:=h10
   have hc:=(hc.set 0 rfl h10).1
   obtain⟨hcx,ho⟩:=Ctx.closed hc.ctx 2 s.l.length cap3 hnc hcm (by rw [putAt_len,hcl])
   rw [row_set (c:=[.string e.key,.slice A2 vs.length cap2]) hE.flat rfl hcl hE.len hnc hct i hi] at ho
   have hc:=hc.re hcx
   obtain⟨S2,hs2,hc⟩:=hc.told ho
   refine hc.a 3 rfl rfl ?_
   refine hc.s 1 rfl fun wS hS hc=>?_
   refine hc.s 0 rfl fun wS hS hc=>?_
   refine hc.a 1 rfl rfl ?_
   refine hc.a 0 rfl rfl ?_
   have hlen:(s.l.take i++([⟨e.key,vs⟩]:List Ent)++s.l.drop (i+1)).length=s.l.length:=by rw [List.length_append,List.length_append,List.length_take,List.length_drop];simp;omega
   refine⟨A3,cap3,css.take i++[[.string e.key,.slice A2 vs.length cap2]]++css.drop (i+1),?_,hc.below,?_,?_⟩
   ·rw [if_neg h0]
    rw [hlen]
    rfl
   ·rw [if_neg h0]
    refine (((hE.take i).old hc.below).append ?_).append ((hE.drop (i+1)).old hc.below)
    exact⟨_,_,rfl,⟨A2,cap2,rfl,(hc.row.1.wide hs2).ret hc.ctx (fun _ h=>h)⟩,rfl⟩
   ·rw [if_neg h0]
    have hfin:=hc.row.2.ret (Sg:=S) hc.ctx (fun _ h=>h)
    rw [<-hA3] at hfin
    rw [hlen]
    exact hfin
end Go.Proofs.YtokglimimnelaaaGreatDoor
end
namespace Go.Proofs.YtokglimimnelaaaGreatDoor
open Go.Vc Go.RowKit Go.Fl
set_option maxRecDepth 100000
theorem doK_eq (l:List Ent) (seq:Int) (d:D) (has:Bool) (e:Ent) (h1:(entAt l d.key).isSome=has) (h2:(entAt l d.key).getD ⟨d.key,[]⟩=e):
  doK l seq d=if d.kind==3 then purgeK l (posK l d.key) e d.ver else if d.kind==1&&!holdsE e d.cond d.tag then (l,⟨9,0⟩) else if d.kind==2&&!has then (l,⟨6,0⟩)
   else if 12<=e.vs.length||(!has&&decide (40<=l.length)) then (l,⟨5,0⟩) else (putK l d.key has [⟨e.key,e.vs++[⟨seq,d.kind==2,d.body⟩]⟩],⟨0,seq⟩):=by
 unfold doK
 simp only [h1,h2]
 cases hk:(d.kind==3)
 ·rfl
 ·cases has with
  | true=>
   unfold purgeK putK
   cases idxV e.vs d.ver<;>rfl
  | false=>
   cases he:entAt l d.key with
   | some x=>rw [he] at h1;cases h1
   | none=>
    rw [he] at h2
    subst h2
    rfl
theorem Row.cutS {S:Nat->Prop} {w:World} {A:Option Addr} {n cap:Nat} {xs:List Value} (h:Row S w A n cap xs):Row (fun b=>S b/\b<w.heap.size) w A n cap xs:=
 ⟨h.1,h.2.1,fun hx=>by
  obtain⟨ad,e,hs,hc⟩:=h.2.2 hx
  refine⟨ad,e,⟨hs,?_⟩,hc⟩
  cases xs with
  | nil=>exact absurd rfl hx
  | cons v r=>
   have h0:=hc 0 v rfl
   have:=World.block_lt_of_cell? w _ h0
   rwa [add_block] at this⟩
theorem ext_cut {S:Nat->Prop} {w w':World}:∀ b,ext (fun b=>S b/\b<w.heap.size) w w' b->ext S w w' b:=fun b h=>by
 rcases h with h | h
 ·exact .inl h.1
 ·exact .inr h
theorem RepEs.cutS {S:Nat->Prop} {w:World} {l:List Ent} {css:List (List Value)} (h:RepEs S w l css):RepEs (fun b=>S b/\b<w.heap.size) w l css:=h.map (fun h=>Row.cutS h)
theorem RepEs.wide {S S':Nat->Prop} {w:World} {l:List Ent} {css:List (List Value)} (h:RepEs S w l css) (f:∀ b,S b->S' b):RepEs S' w l css:=h.map (fun h=>h.wide f)
theorem RepEs.fut {S S':Nat->Prop} {w w':World} {l:List Ent} {css:List (List Value)} (h:RepEs S w l css) (f:Fut S w S' w'):RepEs S' w' l css:=h.map (fun h=>h.fut f)
theorem RetK.wide {s:Stt} {B:Option Addr} {cap':Nat} {l0 l1 l2 l3 l4:Int} {S:Nat->Prop} {q:List Ent × Res} {w w':World} {en:Ending} (h:RetK s B cap' l0 l1 l2 l3 l4 (fun b=>S b/\b<w.heap.size) q w en w'):RetK s B cap' l0 l1 l2 l3 l4 S q w en w':=by
 obtain⟨A,c,css,h1,h2,h3,h4⟩:=h
 exact⟨A,c,css,h1,h2,h3.wide ext_cut,h4.wide ext_cut⟩
theorem posK_le:∀ (l:List Ent) (k:ByteArray),posK l k<=l.length
 | [],_=>Nat.le_refl _
 | e::r,k=>by
  rw [posK]
  split
  ·exact Nat.succ_le_succ (posK_le r k)
  ·exact Nat.zero_le _
theorem RepEs.stab (l:List Ent) (css:List (List Value)):Stab (fun S w=>RepEs S w l css):=fun _ _ _ _ h f=>RepEs.fut h f
def know0 (l:List Ent) (css:List (List Value)) (A:Option Addr) (cap:Nat):Kn:=fun S w=>RepEs S w l css/\Row S w A l.length cap css.flatten
theorem know0_stab (l:List Ent) (css:List (List Value)) (A:Option Addr) (cap:Nat):Stab (know0 l css A cap):=fun _ _ _ _ h f=>⟨RepEs.fut h.1 f,h.2.fut f⟩
set_option maxHeartbeats 4000000 in
theorem doK_none (s:Stt) (d:D) (A B:Option Addr) (cap cap':Nat) (l0 l1 l2 l3 l4:Int) (el:s.lows=[l0,l1,l2,l3,l4]) (css:List (List Value)) (S:Nat->Prop) (w:World) (hlt:∀ b,S b->b<w.heap.size) (hE:RepEs S w s.l css) (hR:Row S w A s.l.length cap css.flatten) (hM:Row S w B s.ms.length cap' (s.ms.map memC).flatten)
  (hn:s.l.length<=1000000) (hp:s.l.Pairwise (fun a b=>strLt a.key b.key=true)) (hok:∀ e∈s.l,e.vs.length<=1000000/\(e.vs.length≠0->(lastV e.vs).ver<s.seq)/\(nowE e).1.body.size<=maxLen) (hq:entAt s.l d.key=none):
  Calls Tryz.prog 134 #[.agg (stC s A cap B cap' l0 l1 l2 l3 l4).toArray,.agg (dC d).toArray] w (RetK s B cap' l0 l1 l2 l3 l4 S (doK s.l s.seq d) w):=by
 have hrep:RepS S w s (stC s A cap B cap' l0 l1 l2 l3 l4):=⟨A,cap,css,B,cap',by rw [el];rfl,by rw [el];rfl,hE,hR,hM⟩
 have hRm:=row_max hR
 refine vE Tryz.func134 ?_
 intro g2 w1 h1
 have hc:=((CtxF.start w S hlt (R:=know0 s.l css A cap) ⟨hE,hR⟩ (know0_stab _ _ _ _)).loc h1).1
 refine hc.n fun g3 w2 h2 hc=>?_
 refine hc.n fun g4 w3 h3 hc=>?_
 refine hc.n fun g5 w4 h4 hc=>?_
 refine hc.a 3 rfl rfl ?_
 refine⟨_,hc.cell 2 rfl _ rfl,?_⟩
 have hfind:=find_any s d.key hp hn _ S w4 (hrep.below hc.below)
 rw [hq] at hfind
 refine call_b hfind ?_
 clear hfind
 intro w5 h5
 have hc:=(hc.quiet h5).1
 refine⟨_,hc.cell 2 rfl _ rfl,?_⟩
 refine hc.n fun g8 w6 h6 hc=>?_
 refine⟨hc.may 0 rfl _ _ (Nat.le_refl 2) rfl,?_⟩
 intro w7 h7
 have hc:=(hc.set 0 rfl h7).1
 have hD:=doK_eq s.l s.seq d
 rw [hq] at hD
 obtain⟨e,he⟩:∃ e:Ent,e=⟨d.key,[]⟩:=⟨_,rfl⟩
 have hD:=hD false e rfl (by rw [he];rfl)
 have hev:e.vs=[]:=by rw [he]
 have heb:(nowE e).1.body.size<=maxLen:=by rw [he];exact Nat.zero_le _
 have hRe:Row S w none 0 0 (([]:List Ver).map verC).flatten:=⟨Nat.le_refl _,Nat.zero_le _,fun h=>absurd rfl h⟩
 obtain⟨A1,cap1,hRe,hc⟩:∃ (A1:Option Addr) (cap1:Nat),Row S w A1 e.vs.length cap1 (e.vs.map verC).flatten/\CtxF S w S w7 [(g8,50,[.string e.key,.slice A1 e.vs.length cap1]),(g5,54,[.int .i64 0,.int .i64 0]),(g4,43,(lay.ty 43).zero),(g3,32,dC d),(g2,43,stC s A cap B cap' l0 l1 l2 l3 l4)] [] (know0 s.l css A cap):=⟨none,0,by rw [hev];exact hRe,by rw [he];exact hc⟩
 have hel:e.vs.length<=1000000:=by rw [hev];exact Nat.zero_le _
 have h12:¬ 12<=e.vs.length:=by rw [hev];decide
 refine⟨_,hc.cell 0 rfl _ rfl,?_⟩
 refine split_f (decide_eq_false (show ¬ (12:Int)<=(e.vs.length:Int) by omega)) ?_
 refine⟨_,hc.cell 4 rfl _ rfl,?_⟩
 refine⟨_,hc.cell 4 rfl _ rfl,?_⟩
 refine⟨_,hc.cell 3 rfl _ rfl,?_⟩
 refine⟨_,hc.cell 3 rfl _ rfl,?_⟩
 refine hc.n fun g10 w10 h10 hc=>?_
 refine⟨hc.may 0 rfl _ _ (Nat.le_refl 3) rfl,?_⟩
 intro w11 h11
 have hc:=(hc.set 0 rfl h11).1
 refine⟨_,hc.cell 4 rfl _ rfl,?_⟩
 cases k3:(d.kind==3)
 rotate_left
 ·refine split_t k3 ?_
  rw [show doK s.l s.seq d=purgeK s.l (posK s.l d.key) e d.ver by rw [hD,k3];rfl]
  refine hc.a 5 rfl rfl ?_
  refine hc.a 1 rfl rfl ?_
  refine⟨_,hc.cell 4 rfl _ rfl,?_⟩
  refine⟨(purgeK_any s A B cap cap' l0 l1 l2 l3 l4 css S w11 (hE.below hc.below) (hR.below hc.below) hn (posK s.l d.key) e A1 cap1 (hRe.below hc.below) hel d.ver (fun h=>by rw [hev] at h;cases h)).mono fun en w12 hq=>?_⟩
  obtain⟨A5,c5,css5,e5,h12,hE5,hR5⟩:=hq
  have hc:=(hc.call h12).1.know (X:=fun S w=>RepEs S w (purgeK s.l (posK s.l d.key) e d.ver).1 css5/\Row S w A5 (purgeK s.l (posK s.l d.key) e d.ver).1.length c5 css5.flatten) ⟨hE5,hR5⟩ (fun _ _ _ _ h f=>⟨RepEs.fut h.1 f,h.2.fut f⟩)
  refine⟨_,e5,?_⟩
  refine⟨hc.may 3 rfl 0 _ (nle rfl) rfl,?_⟩
  intro w20 h20
  have hc:=(hc.set 3 rfl h20).1
  refine⟨hc.may 2 rfl 0 _ (nle rfl) rfl,?_⟩
  intro w21 h21
  have hc:=(hc.set 2 rfl h21).1
  refine hc.a 3 rfl rfl ?_
  refine hc.a 2 rfl rfl ?_
  exact⟨A5,c5,css5,rfl,hc.below,hc.out.2.1,hc.out.2.2⟩
 refine split_f k3 ?_
 refine⟨_,hc.cell 4 rfl _ rfl,?_⟩
 cases k1:(d.kind==1)
 ·refine split_f k1 ?_
  have hH:(d.kind==1&&!holdsE e d.cond d.tag)=false:=by rw [k1];rfl
  cases k2:(d.kind==2)
  ·skip
   refine⟨_,hc.cell 4 rfl _ rfl,?_⟩
   refine split_f k2 ?_
   have hN:(d.kind==2&&!false)=false:=by rw [k2];rfl
   rcases Nat.lt_or_ge s.l.length 40 with h40 | h40
   rotate_left
   ·refine split_t (decide_eq_true (show (40:Int)<=(s.l.length:Int) by omega)) ?_
    rw [show doK s.l s.seq d=(s.l,⟨5,0⟩) by rw [hD,k3,hH,hN,decide_eq_true h40,Bool.not_false,Bool.true_and,Bool.or_true];rfl]
    refine hc.a 5 rfl rfl ?_
    refine⟨hc.may 3 rfl 0 _ (nle rfl) rfl,?_⟩
    intro w20 h20
    have hc:=(hc.set 3 rfl h20).1
    refine⟨hc.may 2 rfl 0 _ (nle rfl) rfl,?_⟩
    intro w21 h21
    have hc:=(hc.set 2 rfl h21).1
    refine hc.a 3 rfl rfl ?_
    refine hc.a 2 rfl rfl ?_
    exact⟨A,cap,css,rfl,hc.below,hc.out.1,hc.out.2⟩
   refine split_f (decide_eq_false (show ¬ (40:Int)<=(s.l.length:Int) by omega)) ?_
   have ek:doK s.l s.seq d=(putK s.l d.key false [⟨e.key,e.vs++[⟨s.seq,d.kind==2,d.body⟩]⟩],⟨0,s.seq⟩):=by rw [hD,k3,hH,hN,decide_eq_false (show ¬ 40<=s.l.length by omega),decide_eq_false h12];rfl
   have hadd:addE e ⟨s.seq,d.kind==2,d.body⟩=(⟨e.key,e.vs++[⟨s.seq,d.kind==2,d.body⟩]⟩,true):=by
    rw [addE,if_neg]
    rintro (h' | h')
    ·exact absurd (by rw [hev];rfl) h'.1
    ·omega
   obtain⟨vs,hvs⟩:∃ vs:List Ver,vs=e.vs++[⟨s.seq,d.kind==2,d.body⟩]:=⟨_,rfl⟩
   rw [<-hvs] at hadd ek
   clear hvs
   rw [ek]
   clear ek
   refine hc.a 1 rfl rfl ?_
   refine hc.a 0 rfl rfl ?_
   refine⟨(add_any e ⟨s.seq,d.kind==2,d.body⟩ A1 cap1 hel S _ (hRe.below hc.below)).mono fun en w13 hq=>?_⟩
   rw [hadd] at hq
   obtain⟨A2,cap2,e1,h13,ho⟩:=hq
   simp only at e1 ho
   have hc:=hc.fresh h13 ho
   obtain⟨S1,hs1,hc⟩:=hc.told
   refine⟨_,e1,?_⟩
   refine⟨hc.may 1 rfl 0 _ (Nat.le_refl 2) rfl,?_⟩
   intro w14 h14
   have hc:=(hc.set 1 rfl h14).1
   refine⟨_,hc.cell 5 rfl _ rfl,?_⟩
   refine⟨(cloneE_any A s.l.length cap css hE.flat hE.len hn S w14 (hR.below hc.below)).mono fun en w15 hq=>?_⟩
   obtain⟨A3,cap3,e3,h15,ho⟩:=hq
   have hc:=hc.fresh h15 ho
   refine⟨_,e3,?_⟩
   refine hc.s 5 rfl fun w16 h16 hc=>?_
   refine⟨_,hc.cell 5 rfl _ rfl,?_⟩
   refine hc.a 1 rfl rfl ?_
   refine hc.n fun g17 w17 h17 hc=>?_
   have hcel:=hE.len
   obtain⟨hcx,hox⟩:=hc.others
   have hd:=insertE_any hcx css hE.flat (by rw [hcel];exact hn) (A:=A3) (cap:=cap3) (by rw [hcel];exact hox) (posK s.l d.key) (by rw [hcel];exact posK_le _ _) 0 g17 [.string e.key,.slice A2 vs.length cap2] rfl rfl rfl
   rw [hcel] at hd
   refine⟨hd.mono fun en w18 hq=>?_⟩
   obtain⟨A4,cap4,e4,hcx,hfx,hox⟩:=hq
   have hc:=hc.back (o':=⟨50,2,A4,s.l.length+1,cap4,(css.take (posK s.l d.key)).flatten++[.string e.key,.slice A2 vs.length cap2]++(css.drop (posK s.l d.key)).flatten⟩) hcx hfx hox (fun x hx=>⟨x,hx,rfl⟩)
   refine⟨_,e4,?_⟩
   refine⟨hc.may 6 rfl _ _ (nle rfl) rfl,?_⟩
   intro w19 h19
   have hc:=(hc.set 6 rfl h19).1.drop
   obtain⟨S2,hs2,hc⟩:=hc.told
   refine vD (.Q [0,1,2,3] (.n 4 (.z 5) .stop)) (fun x=>Blk x g2 43 _) (hc.blk 5 rfl) ?_
   have hc:=hc.drew
   refine⟨_,?_,fun x hx=>drop_cells hx 0 _ 0 (fun j v hj=>by simpa using hj),?_⟩
   ·rfl
   refine⟨_,fun x hx=>hx.cell 0,?_⟩
   refine⟨⟨hc.may 3 rfl 0 _ (nle rfl) rfl,?_⟩,trivial⟩
   intro w20 h20
   have hc:=(hc.set 3 rfl h20).1
   refine⟨hc.blk 5 rfl,?_⟩
   refine⟨hc.may 2 rfl 0 _ (nle rfl) rfl,?_⟩
   intro w21 h21
   have hc:=(hc.set 2 rfl h21).1
   refine hc.a 3 rfl rfl ?_
   refine hc.a 2 rfl rfl ?_
   have ho:=hc.out
   have hpe:putK s.l d.key false [⟨e.key,vs⟩]=s.l.take (posK s.l d.key)++[⟨e.key,vs⟩]++s.l.drop (posK s.l d.key):=rfl
   have hlen:(putK s.l d.key false [⟨e.key,vs⟩]).length=s.l.length+1:=by
    have:=posK_le s.l d.key
    rw [hpe,List.length_append,List.length_append,List.length_take,List.length_drop];show min (posK s.l d.key) s.l.length+1+_=_;omega
   refine⟨A4,cap4,css.take (posK s.l d.key)++[[.string e.key,.slice A2 vs.length cap2]]++css.drop (posK s.l d.key),?_,hc.below,?_,?_⟩
   ·simp only [hlen]
    rfl
   ·refine ((ho.1.1.1.take _).append ?_).append (ho.1.1.1.drop _)
    exact⟨_,_,rfl,⟨A2,cap2,rfl,ho.1.2⟩,rfl⟩
   ·simp only [hlen]
    rw [List.flatten_append,List.flatten_append,List.flatten_cons,List.flatten_nil,List.append_nil]
    exact ho.2
  ·skip
   refine⟨_,hc.cell 4 rfl _ rfl,?_⟩
   refine split_t k2 ?_
   rw [show doK s.l s.seq d=(s.l,⟨6,0⟩) by rw [hD,k3,hH,k2];rfl]
   refine hc.a 5 rfl rfl ?_
   refine⟨hc.may 3 rfl 0 _ (nle rfl) rfl,?_⟩
   intro w20 h20
   have hc:=(hc.set 3 rfl h20).1
   refine⟨hc.may 2 rfl 0 _ (nle rfl) rfl,?_⟩
   intro w21 h21
   have hc:=(hc.set 2 rfl h21).1
   refine hc.a 3 rfl rfl ?_
   refine hc.a 2 rfl rfl ?_
   exact⟨A,cap,css,rfl,hc.below,hc.out.1,hc.out.2⟩
 ·refine split_t k1 ?_
  have k2:(d.kind==2)=false:=by
   have:d.kind=1:=by simpa using k1
   rw [this];rfl
  refine hc.a 1 rfl rfl ?_
  refine⟨_,hc.cell 4 rfl _ rfl,?_⟩
  refine⟨_,hc.cell 4 rfl _ rfl,?_⟩
  refine hc.q (holds_any e d.cond d.tag A1 cap1 S w11 (hRe.below hc.below) heb) fun w12 h12w hc=>?_
  rcases Bool.eq_false_or_eq_true (holdsE e d.cond d.tag) with hh | hh
  rotate_left
  ·refine split_t (by show (!holdsE e d.cond d.tag)=true;rw [hh];rfl) ?_
   rw [show doK s.l s.seq d=(s.l,⟨9,0⟩) by rw [hD,k3,k1,hh];rfl]
   refine hc.a 5 rfl rfl ?_
   refine⟨hc.may 3 rfl 0 _ (nle rfl) rfl,?_⟩
   intro w20 h20
   have hc:=(hc.set 3 rfl h20).1
   refine⟨hc.may 2 rfl 0 _ (nle rfl) rfl,?_⟩
   intro w21 h21
   have hc:=(hc.set 2 rfl h21).1
   refine hc.a 3 rfl rfl ?_
   refine hc.a 2 rfl rfl ?_
   exact⟨A,cap,css,rfl,hc.below,hc.out.1,hc.out.2⟩
  refine split_f (by show (!holdsE e d.cond d.tag)=false;rw [hh];rfl) ?_
  have hH:(d.kind==1&&!holdsE e d.cond d.tag)=false:=by rw [hh,Bool.not_true,Bool.and_false]
  refine⟨_,hc.cell 4 rfl _ rfl,?_⟩
  refine split_f k2 ?_
  have hN:(d.kind==2&&!false)=false:=by rw [k2];rfl
  rcases Nat.lt_or_ge s.l.length 40 with h40 | h40
  rotate_left
  ·refine split_t (decide_eq_true (show (40:Int)<=(s.l.length:Int) by omega)) ?_
   rw [show doK s.l s.seq d=(s.l,⟨5,0⟩) by rw [hD,k3,hH,hN,decide_eq_true h40,Bool.not_false,Bool.true_and,Bool.or_true];rfl]
   refine hc.a 5 rfl rfl ?_
   refine⟨hc.may 3 rfl 0 _ (nle rfl) rfl,?_⟩
   intro w20 h20
   have hc:=(hc.set 3 rfl h20).1
   refine⟨hc.may 2 rfl 0 _ (nle rfl) rfl,?_⟩
   intro w21 h21
   have hc:=(hc.set 2 rfl h21).1
   refine hc.a 3 rfl rfl ?_
   refine hc.a 2 rfl rfl ?_
   exact⟨A,cap,css,rfl,hc.below,hc.out.1,hc.out.2⟩
  refine split_f (decide_eq_false (show ¬ (40:Int)<=(s.l.length:Int) by omega)) ?_
  have ek:doK s.l s.seq d=(putK s.l d.key false [⟨e.key,e.vs++[⟨s.seq,d.kind==2,d.body⟩]⟩],⟨0,s.seq⟩):=by rw [hD,k3,hH,hN,decide_eq_false (show ¬ 40<=s.l.length by omega),decide_eq_false h12];rfl
  have hadd:addE e ⟨s.seq,d.kind==2,d.body⟩=(⟨e.key,e.vs++[⟨s.seq,d.kind==2,d.body⟩]⟩,true):=by
   rw [addE,if_neg]
   rintro (h' | h')
   ·exact absurd (by rw [hev];rfl) h'.1
   ·omega
  obtain⟨vs,hvs⟩:∃ vs:List Ver,vs=e.vs++[⟨s.seq,d.kind==2,d.body⟩]:=⟨_,rfl⟩
  rw [<-hvs] at hadd ek
  clear hvs
  rw [ek]
  clear ek
  refine hc.a 1 rfl rfl ?_
  refine hc.a 0 rfl rfl ?_
  refine⟨(add_any e ⟨s.seq,d.kind==2,d.body⟩ A1 cap1 hel S _ (hRe.below hc.below)).mono fun en w13 hq=>?_⟩
  rw [hadd] at hq
  obtain⟨A2,cap2,e1,h13,ho⟩:=hq
  simp only at e1 ho
  have hc:=hc.fresh h13 ho
  obtain⟨S1,hs1,hc⟩:=hc.told
  refine⟨_,e1,?_⟩
  refine⟨hc.may 1 rfl 0 _ (Nat.le_refl 2) rfl,?_⟩
  intro w14 h14
  have hc:=(hc.set 1 rfl h14).1
  refine⟨_,hc.cell 5 rfl _ rfl,?_⟩
  refine⟨(cloneE_any A s.l.length cap css hE.flat hE.len hn S w14 (hR.below hc.below)).mono fun en w15 hq=>?_⟩
  obtain⟨A3,cap3,e3,h15,ho⟩:=hq
  have hc:=hc.fresh h15 ho
  refine⟨_,e3,?_⟩
  refine hc.s 5 rfl fun w16 h16 hc=>?_
  refine⟨_,hc.cell 5 rfl _ rfl,?_⟩
  refine hc.a 1 rfl rfl ?_
  refine hc.n fun g17 w17 h17 hc=>?_
  have hcel:=hE.len
  obtain⟨hcx,hox⟩:=hc.others
  have hd:=insertE_any hcx css hE.flat (by rw [hcel];exact hn) (A:=A3) (cap:=cap3) (by rw [hcel];exact hox) (posK s.l d.key) (by rw [hcel];exact posK_le _ _) 0 g17 [.string e.key,.slice A2 vs.length cap2] rfl rfl rfl
  rw [hcel] at hd
  refine⟨hd.mono fun en w18 hq=>?_⟩
  obtain⟨A4,cap4,e4,hcx,hfx,hox⟩:=hq
  have hc:=hc.back (o':=⟨50,2,A4,s.l.length+1,cap4,(css.take (posK s.l d.key)).flatten++[.string e.key,.slice A2 vs.length cap2]++(css.drop (posK s.l d.key)).flatten⟩) hcx hfx hox (fun x hx=>⟨x,hx,rfl⟩)
  refine⟨_,e4,?_⟩
  refine⟨hc.may 6 rfl _ _ (nle rfl) rfl,?_⟩
  intro w19 h19
  have hc:=(hc.set 6 rfl h19).1.drop
  obtain⟨S2,hs2,hc⟩:=hc.told
  refine vD (.Q [0,1,2,3] (.n 4 (.z 5) .stop)) (fun x=>Blk x g2 43 _) (hc.blk 5 rfl) ?_
  have hc:=hc.drew
  refine⟨_,?_,fun x hx=>drop_cells hx 0 _ 0 (fun j v hj=>by simpa using hj),?_⟩
  ·rfl
  refine⟨_,fun x hx=>hx.cell 0,?_⟩
  refine⟨⟨hc.may 3 rfl 0 _ (nle rfl) rfl,?_⟩,trivial⟩
  intro w20 h20
  have hc:=(hc.set 3 rfl h20).1
  refine⟨hc.blk 5 rfl,?_⟩
  refine⟨hc.may 2 rfl 0 _ (nle rfl) rfl,?_⟩
  intro w21 h21
  have hc:=(hc.set 2 rfl h21).1
  refine hc.a 3 rfl rfl ?_
  refine hc.a 2 rfl rfl ?_
  have ho:=hc.out
  have hpe:putK s.l d.key false [⟨e.key,vs⟩]=s.l.take (posK s.l d.key)++[⟨e.key,vs⟩]++s.l.drop (posK s.l d.key):=rfl
  have hlen:(putK s.l d.key false [⟨e.key,vs⟩]).length=s.l.length+1:=by
   have:=posK_le s.l d.key
   rw [hpe,List.length_append,List.length_append,List.length_take,List.length_drop];show min (posK s.l d.key) s.l.length+1+_=_;omega
  refine⟨A4,cap4,css.take (posK s.l d.key)++[[.string e.key,.slice A2 vs.length cap2]]++css.drop (posK s.l d.key),?_,hc.below,?_,?_⟩
  ·simp only [hlen]
   rfl
  ·refine ((ho.1.1.1.take _).append ?_).append (ho.1.1.1.drop _)
   exact⟨_,_,rfl,⟨A2,cap2,rfl,ho.1.2⟩,rfl⟩
  ·simp only [hlen]
   rw [List.flatten_append,List.flatten_append,List.flatten_cons,List.flatten_nil,List.append_nil]
   exact ho.2
set_option maxHeartbeats 4000000 in
theorem doK_has (s:Stt) (d:D) (A B:Option Addr) (cap cap':Nat) (l0 l1 l2 l3 l4:Int) (el:s.lows=[l0,l1,l2,l3,l4]) (css:List (List Value)) (S:Nat->Prop) (w:World) (hlt:∀ b,S b->b<w.heap.size) (hE:RepEs S w s.l css) (hR:Row S w A s.l.length cap css.flatten) (hM:Row S w B s.ms.length cap' (s.ms.map memC).flatten)
  (hn:s.l.length<=1000000) (hp:s.l.Pairwise (fun a b=>strLt a.key b.key=true)) (hok:∀ e∈s.l,e.vs.length<=1000000/\(e.vs.length≠0->(lastV e.vs).ver<s.seq)/\(nowE e).1.body.size<=maxLen) (e:Ent) (hq:entAt s.l d.key=some e):
  Calls Tryz.prog 134 #[.agg (stC s A cap B cap' l0 l1 l2 l3 l4).toArray,.agg (dC d).toArray] w (RetK s B cap' l0 l1 l2 l3 l4 S (doK s.l s.seq d) w):=by
 have hrep:RepS S w s (stC s A cap B cap' l0 l1 l2 l3 l4):=⟨A,cap,css,B,cap',by rw [el];rfl,by rw [el];rfl,hE,hR,hM⟩
 have hRm:=row_max hR
 refine vE Tryz.func134 ?_
 intro g2 w1 h1
 have hc:=((CtxF.start w S hlt (R:=know0 s.l css A cap) ⟨hE,hR⟩ (know0_stab _ _ _ _)).loc h1).1
 refine hc.n fun g3 w2 h2 hc=>?_
 refine hc.n fun g4 w3 h3 hc=>?_
 refine hc.n fun g5 w4 h4 hc=>?_
 refine hc.a 3 rfl rfl ?_
 refine⟨_,hc.cell 2 rfl _ rfl,?_⟩
 have hfind:=find_any s d.key hp hn _ S w4 (hrep.below hc.below)
 rw [hq] at hfind
 refine call_b hfind ?_
 clear hfind
 intro w5 h5
 have hc:=(hc.quiet h5).1
 refine⟨_,hc.cell 2 rfl _ rfl,?_⟩
 refine hc.n fun g8 w6 h6 hc=>?_
 refine⟨hc.may 0 rfl _ _ (Nat.le_refl 2) rfl,?_⟩
 intro w7 h7
 have hc:=(hc.set 0 rfl h7).1
 have hD:=doK_eq s.l s.seq d
 rw [hq] at hD
 have hD:=hD true e rfl rfl
 obtain⟨hg,_⟩:=entAt_some hq
 have hpl:posK s.l d.key<s.l.length:=(List.getElem?_eq_some_iff.1 hg).1
 have hge:s.l[posK s.l d.key]=e:=(List.getElem?_eq_some_iff.1 hg).2
 obtain⟨hel,hev,heb⟩:=hok e (entAt_mem hq)
 refine⟨_,hc.cell 4 rfl _ rfl,?_⟩
 obtain⟨ad,A1,cap1,e1,hcell,hRe⟩:=RowE.elem hR hE (posK s.l d.key) hpl
 have hcell:=cellsAt_later hc.below _ _ hcell
 rw [hge] at hcell hRe
 subst e1
 refine⟨⟨Int.natCast_nonneg _,Int.ofNat_lt.2 hpl⟩,?_⟩
 refine⟨[.string e.key,.slice A1 e.vs.length cap1],rfl,hcell,?_⟩
 refine⟨hc.may 0 rfl _ _ (Nat.le_refl 2) rfl,?_⟩
 intro w8 h8
 have hc:=(hc.set 0 rfl h8).1
 have hc:CtxF S w S w8 [(g8,50,[.string e.key,.slice A1 e.vs.length cap1]),(g5,54,[.int .i64 0,.int .i64 0]),(g4,43,(lay.ty 43).zero),(g3,32,dC d),(g2,43,stC s (some ad) cap B cap' l0 l1 l2 l3 l4)] [] (know0 s.l css (some ad) cap):=hc
 refine⟨_,hc.cell 0 rfl _ rfl,?_⟩
 rcases Nat.lt_or_ge e.vs.length 12 with h12' | h12
 rotate_left
 ·refine split_t (decide_eq_true (show (12:Int)<=(e.vs.length:Int) by omega)) ?_
  refine⟨_,hc.cell 4 rfl _ rfl,?_⟩
  refine⟨_,hc.cell 3 rfl _ rfl,?_⟩
  refine⟨_,hc.cell 3 rfl _ rfl,?_⟩
  refine hc.n fun g10 w10 h10 hc=>?_
  refine⟨hc.may 0 rfl _ _ (Nat.le_refl 3) rfl,?_⟩
  intro w11 h11
  have hc:=(hc.set 0 rfl h11).1
  refine⟨_,hc.cell 4 rfl _ rfl,?_⟩
  cases k3:(d.kind==3)
  rotate_left
  ·refine split_t k3 ?_
   rw [show doK s.l s.seq d=purgeK s.l (posK s.l d.key) e d.ver by rw [hD,k3];rfl]
   refine hc.a 5 rfl rfl ?_
   refine hc.a 1 rfl rfl ?_
   refine⟨_,hc.cell 4 rfl _ rfl,?_⟩
   refine⟨(purgeK_any s (some ad) B cap cap' l0 l1 l2 l3 l4 css S w11 (hE.below hc.below) (hR.below hc.below) hn (posK s.l d.key) e A1 cap1 (hRe.below hc.below) hel d.ver (fun h=>hpl)).mono fun en w12 hq=>?_⟩
   obtain⟨A5,c5,css5,e5,h12,hE5,hR5⟩:=hq
   have hc:=(hc.call h12).1.know (X:=fun S w=>RepEs S w (purgeK s.l (posK s.l d.key) e d.ver).1 css5/\Row S w A5 (purgeK s.l (posK s.l d.key) e d.ver).1.length c5 css5.flatten) ⟨hE5,hR5⟩ (fun _ _ _ _ h f=>⟨RepEs.fut h.1 f,h.2.fut f⟩)
   refine⟨_,e5,?_⟩
   refine⟨hc.may 3 rfl 0 _ (nle rfl) rfl,?_⟩
   intro w20 h20
   have hc:=(hc.set 3 rfl h20).1
   refine⟨hc.may 2 rfl 0 _ (nle rfl) rfl,?_⟩
   intro w21 h21
   have hc:=(hc.set 2 rfl h21).1
   refine hc.a 3 rfl rfl ?_
   refine hc.a 2 rfl rfl ?_
   exact⟨A5,c5,css5,rfl,hc.below,hc.out.2.1,hc.out.2.2⟩
  refine split_f k3 ?_
  refine⟨_,hc.cell 4 rfl _ rfl,?_⟩
  cases k1:(d.kind==1)
  ·refine split_f k1 ?_
   have hH:(d.kind==1&&!holdsE e d.cond d.tag)=false:=by rw [k1];rfl
   cases k2:(d.kind==2)
   ·skip
    refine⟨_,hc.cell 4 rfl _ rfl,?_⟩
    refine split_f k2 ?_
    have hN:(d.kind==2&&!true)=false:=by rw [Bool.not_true,Bool.and_false]
    rw [show doK s.l s.seq d=(s.l,⟨5,0⟩) by rw [hD,k3,hH,hN,decide_eq_true h12];rfl]
    refine hc.a 5 rfl rfl ?_
    refine⟨hc.may 3 rfl 0 _ (nle rfl) rfl,?_⟩
    intro w20 h20
    have hc:=(hc.set 3 rfl h20).1
    refine⟨hc.may 2 rfl 0 _ (nle rfl) rfl,?_⟩
    intro w21 h21
    have hc:=(hc.set 2 rfl h21).1
    refine hc.a 3 rfl rfl ?_
    refine hc.a 2 rfl rfl ?_
    exact⟨(some ad),cap,css,rfl,hc.below,hc.out.1,hc.out.2⟩
   ·skip
    refine⟨_,hc.cell 4 rfl _ rfl,?_⟩
    refine split_t k2 ?_
    have hN:(d.kind==2&&!true)=false:=by rw [Bool.not_true,Bool.and_false]
    rw [show doK s.l s.seq d=(s.l,⟨5,0⟩) by rw [hD,k3,hH,hN,decide_eq_true h12];rfl]
    refine hc.a 5 rfl rfl ?_
    refine⟨hc.may 3 rfl 0 _ (nle rfl) rfl,?_⟩
    intro w20 h20
    have hc:=(hc.set 3 rfl h20).1
    refine⟨hc.may 2 rfl 0 _ (nle rfl) rfl,?_⟩
    intro w21 h21
    have hc:=(hc.set 2 rfl h21).1
    refine hc.a 3 rfl rfl ?_
    refine hc.a 2 rfl rfl ?_
    exact⟨(some ad),cap,css,rfl,hc.below,hc.out.1,hc.out.2⟩
  ·refine split_t k1 ?_
   have k2:(d.kind==2)=false:=by
    have:d.kind=1:=by simpa using k1
    rw [this];rfl
   refine hc.a 1 rfl rfl ?_
   refine⟨_,hc.cell 4 rfl _ rfl,?_⟩
   refine⟨_,hc.cell 4 rfl _ rfl,?_⟩
   refine hc.q (holds_any e d.cond d.tag A1 cap1 S w11 (hRe.below hc.below) heb) fun w12 h12w hc=>?_
   rcases Bool.eq_false_or_eq_true (holdsE e d.cond d.tag) with hh | hh
   rotate_left
   ·refine split_t (by show (!holdsE e d.cond d.tag)=true;rw [hh];rfl) ?_
    rw [show doK s.l s.seq d=(s.l,⟨9,0⟩) by rw [hD,k3,k1,hh];rfl]
    refine hc.a 5 rfl rfl ?_
    refine⟨hc.may 3 rfl 0 _ (nle rfl) rfl,?_⟩
    intro w20 h20
    have hc:=(hc.set 3 rfl h20).1
    refine⟨hc.may 2 rfl 0 _ (nle rfl) rfl,?_⟩
    intro w21 h21
    have hc:=(hc.set 2 rfl h21).1
    refine hc.a 3 rfl rfl ?_
    refine hc.a 2 rfl rfl ?_
    exact⟨(some ad),cap,css,rfl,hc.below,hc.out.1,hc.out.2⟩
   refine split_f (by show (!holdsE e d.cond d.tag)=false;rw [hh];rfl) ?_
   have hH:(d.kind==1&&!holdsE e d.cond d.tag)=false:=by rw [hh,Bool.not_true,Bool.and_false]
   refine⟨_,hc.cell 4 rfl _ rfl,?_⟩
   refine split_f k2 ?_
   have hN:(d.kind==2&&!true)=false:=by rw [Bool.not_true,Bool.and_false]
   rw [show doK s.l s.seq d=(s.l,⟨5,0⟩) by rw [hD,k3,hH,hN,decide_eq_true h12];rfl]
   refine hc.a 5 rfl rfl ?_
   refine⟨hc.may 3 rfl 0 _ (nle rfl) rfl,?_⟩
   intro w20 h20
   have hc:=(hc.set 3 rfl h20).1
   refine⟨hc.may 2 rfl 0 _ (nle rfl) rfl,?_⟩
   intro w21 h21
   have hc:=(hc.set 2 rfl h21).1
   refine hc.a 3 rfl rfl ?_
   refine hc.a 2 rfl rfl ?_
   exact⟨(some ad),cap,css,rfl,hc.below,hc.out.1,hc.out.2⟩
 have h12:¬ 12<=e.vs.length:=by omega
 refine split_f (decide_eq_false (show ¬ (12:Int)<=(e.vs.length:Int) by omega)) ?_
 refine⟨_,hc.cell 4 rfl _ rfl,?_⟩
 refine⟨_,hc.cell 3 rfl _ rfl,?_⟩
 refine⟨_,hc.cell 3 rfl _ rfl,?_⟩
 refine hc.n fun g10 w10 h10 hc=>?_
 refine⟨hc.may 0 rfl _ _ (Nat.le_refl 3) rfl,?_⟩
 intro w11 h11
 have hc:=(hc.set 0 rfl h11).1
 refine⟨_,hc.cell 4 rfl _ rfl,?_⟩
 cases k3:(d.kind==3)
 rotate_left
 ·refine split_t k3 ?_
  rw [show doK s.l s.seq d=purgeK s.l (posK s.l d.key) e d.ver by rw [hD,k3];rfl]
  refine hc.a 5 rfl rfl ?_
  refine hc.a 1 rfl rfl ?_
  refine⟨_,hc.cell 4 rfl _ rfl,?_⟩
  refine⟨(purgeK_any s (some ad) B cap cap' l0 l1 l2 l3 l4 css S w11 (hE.below hc.below) (hR.below hc.below) hn (posK s.l d.key) e A1 cap1 (hRe.below hc.below) hel d.ver (fun h=>hpl)).mono fun en w12 hq=>?_⟩
  obtain⟨A5,c5,css5,e5,h12,hE5,hR5⟩:=hq
  have hc:=(hc.call h12).1.know (X:=fun S w=>RepEs S w (purgeK s.l (posK s.l d.key) e d.ver).1 css5/\Row S w A5 (purgeK s.l (posK s.l d.key) e d.ver).1.length c5 css5.flatten) ⟨hE5,hR5⟩ (fun _ _ _ _ h f=>⟨RepEs.fut h.1 f,h.2.fut f⟩)
  refine⟨_,e5,?_⟩
  refine⟨hc.may 3 rfl 0 _ (nle rfl) rfl,?_⟩
  intro w20 h20
  have hc:=(hc.set 3 rfl h20).1
  refine⟨hc.may 2 rfl 0 _ (nle rfl) rfl,?_⟩
  intro w21 h21
  have hc:=(hc.set 2 rfl h21).1
  refine hc.a 3 rfl rfl ?_
  refine hc.a 2 rfl rfl ?_
  exact⟨A5,c5,css5,rfl,hc.below,hc.out.2.1,hc.out.2.2⟩
 refine split_f k3 ?_
 refine⟨_,hc.cell 4 rfl _ rfl,?_⟩
 cases k1:(d.kind==1)
 ·refine split_f k1 ?_
  have hH:(d.kind==1&&!holdsE e d.cond d.tag)=false:=by rw [k1];rfl
  cases k2:(d.kind==2)
  ·skip
   refine⟨_,hc.cell 4 rfl _ rfl,?_⟩
   refine split_f k2 ?_
   have hN:(d.kind==2&&!true)=false:=by rw [Bool.not_true,Bool.and_false]
   have ek:doK s.l s.seq d=(putK s.l d.key true [⟨e.key,e.vs++[⟨s.seq,d.kind==2,d.body⟩]⟩],⟨0,s.seq⟩):=by rw [hD,k3,hH,hN,decide_eq_false h12];rfl
   have hadd:addE e ⟨s.seq,d.kind==2,d.body⟩=(⟨e.key,e.vs++[⟨s.seq,d.kind==2,d.body⟩]⟩,true):=by
    rw [addE,if_neg]
    rintro (h' | h')
    ·have:=hev h'.1;exact absurd h'.2 (by show ¬ s.seq<=(lastV e.vs).ver;omega)
    ·omega
   obtain⟨vs,hvs⟩:∃ vs:List Ver,vs=e.vs++[⟨s.seq,d.kind==2,d.body⟩]:=⟨_,rfl⟩
   rw [<-hvs] at hadd ek
   clear hvs
   rw [ek]
   clear ek
   refine hc.a 1 rfl rfl ?_
   refine hc.a 0 rfl rfl ?_
   refine⟨(add_any e ⟨s.seq,d.kind==2,d.body⟩ A1 cap1 hel S _ (hRe.below hc.below)).mono fun en w13 hq=>?_⟩
   rw [hadd] at hq
   obtain⟨A2,cap2,e1,h13,ho⟩:=hq
   simp only at e1 ho
   have hc:=hc.fresh h13 ho
   obtain⟨S1,hs1,hc⟩:=hc.told
   refine⟨_,e1,?_⟩
   refine⟨hc.may 1 rfl 0 _ (Nat.le_refl 2) rfl,?_⟩
   intro w14 h14
   have hc:=(hc.set 1 rfl h14).1
   refine⟨_,hc.cell 5 rfl _ rfl,?_⟩
   refine⟨(cloneE_any (some ad) s.l.length cap css hE.flat hE.len hn S w14 (hR.below hc.below)).mono fun en w15 hq=>?_⟩
   obtain⟨A3,cap3,e3,h15,ho⟩:=hq
   have hc:=hc.fresh h15 ho
   refine⟨_,e3,?_⟩
   refine hc.s 5 rfl fun w16 h16 hc=>?_
   refine⟨_,hc.cell 5 rfl _ rfl,?_⟩
   refine hc.a 1 rfl rfl ?_
   cases hA3:A3 with
   | none=>
    have hz:s.l.length=0:=(hc.fst.none' hA3).1
    omega
   | some a=>
   obtain⟨g,cur,ea,hc,hcl,hct,hnc,hcm⟩:=hc.opened hA3
   rw [hA3] at ea
   cases ea
   refine⟨⟨Int.natCast_nonneg _,Int.ofNat_lt.2 hpl⟩,?_⟩
   generalize hae:((⟨g,0,none⟩:Addr).add ((posK s.l d.key:Int).toNat*2))=ae
   rw [Addr.add_lit,Nat.zero_add,Int.toNat_natCast] at hae
   subst hae
   refine⟨hc.may 0 rfl (posK s.l d.key*2) [.string e.key,.slice A2 vs.length cap2] (by show posK s.l d.key*2+2<=cur.length;omega) rfl,?_⟩
   intro w17 h17
   have h17:Stored w16 ⟨g,posK s.l d.key*2,none⟩ [.string e.key,.slice A2 vs.length cap2] w17:=h17
   have hc:=(hc.set 0 rfl h17).1
   have hc:=CtxF.closed hc 2 s.l.length cap3 hnc hcm (by rw [putAt_len,hcl])
   rw [row_set (c:=[.string e.key,.slice A2 vs.length cap2]) hE.flat rfl hcl hE.len hnc hct _ hpl] at hc
   obtain⟨S2,hs2,hc⟩:=hc.told
   refine vD (.Q [0,1,2,3] (.n 4 (.z 5) .stop)) (fun x=>Blk x g2 43 _) (hc.blk 5 rfl) ?_
   have hc:=hc.drew
   refine⟨_,?_,fun x hx=>drop_cells hx 0 _ 0 (fun j v hj=>by simpa using hj),?_⟩
   ·rfl
   refine⟨_,fun x hx=>hx.cell 0,?_⟩
   refine⟨⟨hc.may 3 rfl 0 _ (nle rfl) rfl,?_⟩,trivial⟩
   intro w20 h20
   have hc:=(hc.set 3 rfl h20).1
   refine⟨hc.blk 5 rfl,?_⟩
   refine⟨hc.may 2 rfl 0 _ (nle rfl) rfl,?_⟩
   intro w21 h21
   have hc:=(hc.set 2 rfl h21).1
   refine hc.a 3 rfl rfl ?_
   refine hc.a 2 rfl rfl ?_
   have ho:=hc.out
   have hlen:(putK s.l d.key true [⟨e.key,vs⟩]).length=s.l.length:=by unfold putK;rw [if_pos rfl,List.length_append,List.length_append,List.length_take,List.length_drop];show min (posK s.l d.key) s.l.length+1+_=_;omega
   refine⟨A3,cap3,css.take (posK s.l d.key)++[[.string e.key,.slice A2 vs.length cap2]]++css.drop (posK s.l d.key+1),?_,hc.below,?_,?_⟩
   ·simp only [hlen]
    rfl
   ·refine ((ho.1.1.1.take _).append ?_).append (ho.1.1.1.drop _)
    exact⟨_,_,rfl,⟨A2,cap2,rfl,ho.1.2⟩,rfl⟩
   ·simp only [hlen]
    rw [hA3]
    exact ho.2
  ·skip
   refine⟨_,hc.cell 4 rfl _ rfl,?_⟩
   refine split_t k2 ?_
   have hN:(d.kind==2&&!true)=false:=by rw [Bool.not_true,Bool.and_false]
   have ek:doK s.l s.seq d=(putK s.l d.key true [⟨e.key,e.vs++[⟨s.seq,d.kind==2,d.body⟩]⟩],⟨0,s.seq⟩):=by rw [hD,k3,hH,hN,decide_eq_false h12];rfl
   have hadd:addE e ⟨s.seq,d.kind==2,d.body⟩=(⟨e.key,e.vs++[⟨s.seq,d.kind==2,d.body⟩]⟩,true):=by
    rw [addE,if_neg]
    rintro (h' | h')
    ·have:=hev h'.1;exact absurd h'.2 (by show ¬ s.seq<=(lastV e.vs).ver;omega)
    ·omega
   obtain⟨vs,hvs⟩:∃ vs:List Ver,vs=e.vs++[⟨s.seq,d.kind==2,d.body⟩]:=⟨_,rfl⟩
   rw [<-hvs] at hadd ek
   clear hvs
   rw [ek]
   clear ek
   refine hc.a 1 rfl rfl ?_
   refine hc.a 0 rfl rfl ?_
   refine⟨(add_any e ⟨s.seq,d.kind==2,d.body⟩ A1 cap1 hel S _ (hRe.below hc.below)).mono fun en w13 hq=>?_⟩
   rw [hadd] at hq
   obtain⟨A2,cap2,e1,h13,ho⟩:=hq
   simp only at e1 ho
   have hc:=hc.fresh h13 ho
   obtain⟨S1,hs1,hc⟩:=hc.told
   refine⟨_,e1,?_⟩
   refine⟨hc.may 1 rfl 0 _ (Nat.le_refl 2) rfl,?_⟩
   intro w14 h14
   have hc:=(hc.set 1 rfl h14).1
   refine⟨_,hc.cell 5 rfl _ rfl,?_⟩
   refine⟨(cloneE_any (some ad) s.l.length cap css hE.flat hE.len hn S w14 (hR.below hc.below)).mono fun en w15 hq=>?_⟩
   obtain⟨A3,cap3,e3,h15,ho⟩:=hq
   have hc:=hc.fresh h15 ho
   refine⟨_,e3,?_⟩
   refine hc.s 5 rfl fun w16 h16 hc=>?_
   refine⟨_,hc.cell 5 rfl _ rfl,?_⟩
   refine hc.a 1 rfl rfl ?_
   cases hA3:A3 with
   | none=>
    have hz:s.l.length=0:=(hc.fst.none' hA3).1
    omega
   | some a=>
   obtain⟨g,cur,ea,hc,hcl,hct,hnc,hcm⟩:=hc.opened hA3
   rw [hA3] at ea
   cases ea
   refine⟨⟨Int.natCast_nonneg _,Int.ofNat_lt.2 hpl⟩,?_⟩
   generalize hae:((⟨g,0,none⟩:Addr).add ((posK s.l d.key:Int).toNat*2))=ae
   rw [Addr.add_lit,Nat.zero_add,Int.toNat_natCast] at hae
   subst hae
   refine⟨hc.may 0 rfl (posK s.l d.key*2) [.string e.key,.slice A2 vs.length cap2] (by show posK s.l d.key*2+2<=cur.length;omega) rfl,?_⟩
   intro w17 h17
   have h17:Stored w16 ⟨g,posK s.l d.key*2,none⟩ [.string e.key,.slice A2 vs.length cap2] w17:=h17
   have hc:=(hc.set 0 rfl h17).1
   have hc:=CtxF.closed hc 2 s.l.length cap3 hnc hcm (by rw [putAt_len,hcl])
   rw [row_set (c:=[.string e.key,.slice A2 vs.length cap2]) hE.flat rfl hcl hE.len hnc hct _ hpl] at hc
   obtain⟨S2,hs2,hc⟩:=hc.told
   refine vD (.Q [0,1,2,3] (.n 4 (.z 5) .stop)) (fun x=>Blk x g2 43 _) (hc.blk 5 rfl) ?_
   have hc:=hc.drew
   refine⟨_,?_,fun x hx=>drop_cells hx 0 _ 0 (fun j v hj=>by simpa using hj),?_⟩
   ·rfl
   refine⟨_,fun x hx=>hx.cell 0,?_⟩
   refine⟨⟨hc.may 3 rfl 0 _ (nle rfl) rfl,?_⟩,trivial⟩
   intro w20 h20
   have hc:=(hc.set 3 rfl h20).1
   refine⟨hc.blk 5 rfl,?_⟩
   refine⟨hc.may 2 rfl 0 _ (nle rfl) rfl,?_⟩
   intro w21 h21
   have hc:=(hc.set 2 rfl h21).1
   refine hc.a 3 rfl rfl ?_
   refine hc.a 2 rfl rfl ?_
   have ho:=hc.out
   have hlen:(putK s.l d.key true [⟨e.key,vs⟩]).length=s.l.length:=by unfold putK;rw [if_pos rfl,List.length_append,List.length_append,List.length_take,List.length_drop];show min (posK s.l d.key) s.l.length+1+_=_;omega
   refine⟨A3,cap3,css.take (posK s.l d.key)++[[.string e.key,.slice A2 vs.length cap2]]++css.drop (posK s.l d.key+1),?_,hc.below,?_,?_⟩
   ·simp only [hlen]
    rfl
   ·refine ((ho.1.1.1.take _).append ?_).append (ho.1.1.1.drop _)
    exact⟨_,_,rfl,⟨A2,cap2,rfl,ho.1.2⟩,rfl⟩
   ·simp only [hlen]
    rw [hA3]
    exact ho.2
 ·refine split_t k1 ?_
  have k2:(d.kind==2)=false:=by
   have:d.kind=1:=by simpa using k1
   rw [this];rfl
  refine hc.a 1 rfl rfl ?_
  refine⟨_,hc.cell 4 rfl _ rfl,?_⟩
  refine⟨_,hc.cell 4 rfl _ rfl,?_⟩
  refine hc.q (holds_any e d.cond d.tag A1 cap1 S w11 (hRe.below hc.below) heb) fun w12 h12w hc=>?_
  rcases Bool.eq_false_or_eq_true (holdsE e d.cond d.tag) with hh | hh
  rotate_left
  ·refine split_t (by show (!holdsE e d.cond d.tag)=true;rw [hh];rfl) ?_
   rw [show doK s.l s.seq d=(s.l,⟨9,0⟩) by rw [hD,k3,k1,hh];rfl]
   refine hc.a 5 rfl rfl ?_
   refine⟨hc.may 3 rfl 0 _ (nle rfl) rfl,?_⟩
   intro w20 h20
   have hc:=(hc.set 3 rfl h20).1
   refine⟨hc.may 2 rfl 0 _ (nle rfl) rfl,?_⟩
   intro w21 h21
   have hc:=(hc.set 2 rfl h21).1
   refine hc.a 3 rfl rfl ?_
   refine hc.a 2 rfl rfl ?_
   exact⟨(some ad),cap,css,rfl,hc.below,hc.out.1,hc.out.2⟩
  refine split_f (by show (!holdsE e d.cond d.tag)=false;rw [hh];rfl) ?_
  have hH:(d.kind==1&&!holdsE e d.cond d.tag)=false:=by rw [hh,Bool.not_true,Bool.and_false]
  refine⟨_,hc.cell 4 rfl _ rfl,?_⟩
  refine split_f k2 ?_
  have hN:(d.kind==2&&!true)=false:=by rw [Bool.not_true,Bool.and_false]
  have ek:doK s.l s.seq d=(putK s.l d.key true [⟨e.key,e.vs++[⟨s.seq,d.kind==2,d.body⟩]⟩],⟨0,s.seq⟩):=by rw [hD,k3,hH,hN,decide_eq_false h12];rfl
  have hadd:addE e ⟨s.seq,d.kind==2,d.body⟩=(⟨e.key,e.vs++[⟨s.seq,d.kind==2,d.body⟩]⟩,true):=by
   rw [addE,if_neg]
   rintro (h' | h')
   ·have:=hev h'.1;exact absurd h'.2 (by show ¬ s.seq<=(lastV e.vs).ver;omega)
   ·omega
  obtain⟨vs,hvs⟩:∃ vs:List Ver,vs=e.vs++[⟨s.seq,d.kind==2,d.body⟩]:=⟨_,rfl⟩
  rw [<-hvs] at hadd ek
  clear hvs
  rw [ek]
  clear ek
  refine hc.a 1 rfl rfl ?_
  refine hc.a 0 rfl rfl ?_
  refine⟨(add_any e ⟨s.seq,d.kind==2,d.body⟩ A1 cap1 hel S _ (hRe.below hc.below)).mono fun en w13 hq=>?_⟩
  rw [hadd] at hq
  obtain⟨A2,cap2,e1,h13,ho⟩:=hq
  simp only at e1 ho
  have hc:=hc.fresh h13 ho
  obtain⟨S1,hs1,hc⟩:=hc.told
  refine⟨_,e1,?_⟩
  refine⟨hc.may 1 rfl 0 _ (Nat.le_refl 2) rfl,?_⟩
  intro w14 h14
  have hc:=(hc.set 1 rfl h14).1
  refine⟨_,hc.cell 5 rfl _ rfl,?_⟩
  refine⟨(cloneE_any (some ad) s.l.length cap css hE.flat hE.len hn S w14 (hR.below hc.below)).mono fun en w15 hq=>?_⟩
  obtain⟨A3,cap3,e3,h15,ho⟩:=hq
  have hc:=hc.fresh h15 ho
  refine⟨_,e3,?_⟩
  refine hc.s 5 rfl fun w16 h16 hc=>?_
  refine⟨_,hc.cell 5 rfl _ rfl,?_⟩
  refine hc.a 1 rfl rfl ?_
  cases hA3:A3 with
  | none=>
   have hz:s.l.length=0:=(hc.fst.none' hA3).1
   omega
  | some a=>
  obtain⟨g,cur,ea,hc,hcl,hct,hnc,hcm⟩:=hc.opened hA3
  rw [hA3] at ea
  cases ea
  refine⟨⟨Int.natCast_nonneg _,Int.ofNat_lt.2 hpl⟩,?_⟩
  generalize hae:((⟨g,0,none⟩:Addr).add ((posK s.l d.key:Int).toNat*2))=ae
  rw [Addr.add_lit,Nat.zero_add,Int.toNat_natCast] at hae
  subst hae
  refine⟨hc.may 0 rfl (posK s.l d.key*2) [.string e.key,.slice A2 vs.length cap2] (by show posK s.l d.key*2+2<=cur.length;omega) rfl,?_⟩
  intro w17 h17
  have h17:Stored w16 ⟨g,posK s.l d.key*2,none⟩ [.string e.key,.slice A2 vs.length cap2] w17:=h17
  have hc:=(hc.set 0 rfl h17).1
  have hc:=CtxF.closed hc 2 s.l.length cap3 hnc hcm (by rw [putAt_len,hcl])
  rw [row_set (c:=[.string e.key,.slice A2 vs.length cap2]) hE.flat rfl hcl hE.len hnc hct _ hpl] at hc
  obtain⟨S2,hs2,hc⟩:=hc.told
  refine vD (.Q [0,1,2,3] (.n 4 (.z 5) .stop)) (fun x=>Blk x g2 43 _) (hc.blk 5 rfl) ?_
  have hc:=hc.drew
  refine⟨_,?_,fun x hx=>drop_cells hx 0 _ 0 (fun j v hj=>by simpa using hj),?_⟩
  ·rfl
  refine⟨_,fun x hx=>hx.cell 0,?_⟩
  refine⟨⟨hc.may 3 rfl 0 _ (nle rfl) rfl,?_⟩,trivial⟩
  intro w20 h20
  have hc:=(hc.set 3 rfl h20).1
  refine⟨hc.blk 5 rfl,?_⟩
  refine⟨hc.may 2 rfl 0 _ (nle rfl) rfl,?_⟩
  intro w21 h21
  have hc:=(hc.set 2 rfl h21).1
  refine hc.a 3 rfl rfl ?_
  refine hc.a 2 rfl rfl ?_
  have ho:=hc.out
  have hlen:(putK s.l d.key true [⟨e.key,vs⟩]).length=s.l.length:=by unfold putK;rw [if_pos rfl,List.length_append,List.length_append,List.length_take,List.length_drop];show min (posK s.l d.key) s.l.length+1+_=_;omega
  refine⟨A3,cap3,css.take (posK s.l d.key)++[[.string e.key,.slice A2 vs.length cap2]]++css.drop (posK s.l d.key+1),?_,hc.below,?_,?_⟩
  ·simp only [hlen]
   rfl
  ·refine ((ho.1.1.1.take _).append ?_).append (ho.1.1.1.drop _)
   exact⟨_,_,rfl,⟨A2,cap2,rfl,ho.1.2⟩,rfl⟩
  ·simp only [hlen]
   rw [hA3]
   exact ho.2
theorem doK_any (s:Stt) (d:D) (A B:Option Addr) (cap cap':Nat) (l0 l1 l2 l3 l4:Int) (el:s.lows=[l0,l1,l2,l3,l4]) (css:List (List Value)) (S:Nat->Prop) (w:World) (hE:RepEs S w s.l css) (hR:Row S w A s.l.length cap css.flatten) (hM:Row S w B s.ms.length cap' (s.ms.map memC).flatten)
  (hn:s.l.length<=1000000) (hp:s.l.Pairwise (fun a b=>strLt a.key b.key=true)) (hok:∀ e∈s.l,e.vs.length<=1000000/\(e.vs.length≠0->(lastV e.vs).ver<s.seq)/\(nowE e).1.body.size<=maxLen):
  Calls Tryz.prog 134 #[.agg (stC s A cap B cap' l0 l1 l2 l3 l4).toArray,.agg (dC d).toArray] w (RetK s B cap' l0 l1 l2 l3 l4 S (doK s.l s.seq d) w):=by
 cases hq:entAt s.l d.key with
 | none=>exact (doK_none s d A B cap cap' l0 l1 l2 l3 l4 el css _ w (fun b h=>h.2) hE.cutS (Row.cutS hR) (Row.cutS hM) hn hp hok hq).mono fun _ _ h=>h.wide
 | some e=>exact (doK_has s d A B cap cap' l0 l1 l2 l3 l4 el css _ w (fun b h=>h.2) hE.cutS (Row.cutS hR) (Row.cutS hM) hn hp hok e hq).mono fun _ _ h=>h.wide
set_option maxRecDepth 100000
abbrev SortK (l:List Ent):Prop:=l.Pairwise (fun a b=>strLt a.key b.key=true)
abbrev SortM (l:List Mem):Prop:=l.Pairwise (fun a b=>a.req<b.req)
theorem risE_sort {seq:Int} {p:Option ByteArray} {l:List Ent} (h:risE seq p l=true):SortK l:=((risE_iff _ _ _).1 h).2.1
theorem memB_sort {lows:List Int} {seq:Int} {p:Option Int} {l:List Mem} (h:memB lows seq p l=true):SortM l:=((memB_iff _ _ _ _).1 h).2.1
theorem mem_ins {l:List Mem} (n:Nat) (m x:Mem):x∈l.take n++m::l.drop n↔x=m\/x∈l:=by
 rw [List.mem_append,List.mem_cons]
 have:x∈l↔x∈l.take n\/x∈l.drop n:=by
  rw [<-List.mem_append,List.take_append_drop]
 rw [this]
 constructor
 ·rintro (h | h | h)
  ·exact .inr (.inl h)
  ·exact .inl h
  ·exact .inr (.inr h)
 ·rintro (h | h | h)
  ·exact .inr (.inl h)
  ·exact .inl h
  ·exact .inr (.inr h)
theorem mayD_home {d:D} (h:mayD d=true):homeI d.req≠0:=by
 unfold mayD at h
 simp only [Bool.and_eq_true,Bool.not_eq_true',beq_eq_false_iff_ne,ne_eq] at h
 exact h.1.1.1.2
theorem mayD_low {d:D} (h:mayD d=true):d.low<=d.req:=by
 unfold mayD at h
 simp only [Bool.and_eq_true,Bool.not_eq_true',decide_eq_false_iff_not] at h
 have:=h.1.2
 omega
inductive Done (s:Stt) (d:D):Prop where
 | form (h:mayS s=false\/mayD d=false) (e:doS s d=(s,⟨1,0⟩))
 | top (h:maxN<=s.seq) (e:doS s d=(s,⟨5,0⟩))
 | old (hs:mayS s=true) (hd:mayD d=true) (hq:s.seq<maxN) (h:d.req<lowAt s.lows (homeI d.req)) (e:doS s d=(⟨s.seq+1,s.l,s.ms,s.lows⟩,⟨12,0⟩))
 | told (hs:mayS s=true) (hd:mayD d=true) (hq:s.seq<maxN) (h:lowAt s.lows (homeI d.req)<=d.req) (m:Mem) (hm:memAt s.ms d.req=some m) (e:doS s d=(⟨s.seq+1,s.l,s.ms,s.lows⟩,m.res))
 | full (hs:mayS s=true) (hd:mayD d=true) (hq:s.seq<maxN) (h:lowAt s.lows (homeI d.req)<=d.req) (hm:memAt s.ms d.req=none) (hf:100<=s.ms.length) (e:doS s d=(⟨s.seq+1,s.l,s.ms,s.lows⟩,⟨5,0⟩))
 | new (hs:mayS s=true) (hd:mayD d=true) (hq:s.seq<maxN) (h:lowAt s.lows (homeI d.req)<=d.req) (hm:memAt s.ms d.req=none) (hf:s.ms.length<100) (ms:List Mem) (lows:List Int)
   (hx:∀ m,m∈ms↔(m=⟨d.req,(doK s.l (s.seq+1) d).2⟩\/m∈s.ms)/\¬ (m.req<d.low/\homeI m.req=homeI d.req/\lowAt s.lows (homeI d.req)<d.low/\homeI d.low=homeI d.req))
   (hl:lows=if lowAt s.lows (homeI d.req)<d.low/\homeI d.low=homeI d.req then s.lows.set (homeI d.req-1).toNat d.low else s.lows)
   (e:doS s d=(⟨s.seq+1,(doK s.l (s.seq+1) d).1,ms,lows⟩,(doK s.l (s.seq+1) d).2))
theorem doS_done (s:Stt) (d:D):Done s d:=by
 cases hs:mayS s with
 | false=>exact .form (.inl hs) (by simp [doS,hs])
 | true=>
 cases hd:mayD d with
 | false=>exact .form (.inr hd) (by simp [doS,hd])
 | true=>
 by_cases hq:maxN<=s.seq
 ·exact .top hq (by simp [doS,hs,hd,hq])
 have hq':s.seq<maxN:=by omega
 by_cases h:d.req<lowAt s.lows (homeI d.req)
 ·exact .old hs hd hq' h (by simp [doS,hs,hd,hq,h])
 have h':lowAt s.lows (homeI d.req)<=d.req:=by omega
 cases hm:memAt s.ms d.req with
 | some m=>exact .told hs hd hq' h' m hm (by simp [doS,hs,hd,hq,h,hm])
 | none=>
 by_cases hf:100<=s.ms.length
 ·exact .full hs hd hq' h' hm hf (by simp [doS,hs,hd,hq,h,hm,hf])
 by_cases hc:lowAt s.lows (homeI d.req)<d.low/\homeI d.low=homeI d.req
 ·refine .new hs hd hq' h' hm (by omega) (keepM d.low (homeI d.req) (s.ms.take (posM s.ms d.req)++⟨d.req,(doK s.l (s.seq+1) d).2⟩::s.ms.drop (posM s.ms d.req))) _ (fun m=>?_) rfl ?_
  ·unfold keepM
   rw [List.mem_filter,mem_ins]
   refine and_congr Iff.rfl ?_
   simp only [Bool.not_eq_true',Bool.and_eq_false_iff,decide_eq_false_iff_not,beq_eq_false_iff_ne,ne_eq,hc,and_true,not_and]
   by_cases c:m.req<d.low<;>simp [c]
  ·rw [if_pos hc]
   simp only [doS,hs,hd,hq,h,hm,hf,hc,Bool.not_true,Bool.or_false,Bool.false_eq_true,if_false,and_self,if_true]
 ·refine .new hs hd hq' h' hm (by omega) (s.ms.take (posM s.ms d.req)++⟨d.req,(doK s.l (s.seq+1) d).2⟩::s.ms.drop (posM s.ms d.req)) _ (fun m=>?_) rfl ?_
  ·rw [mem_ins]
   constructor
   ·intro h;exact⟨h,fun h=>hc h.2.2⟩
   ·intro h;exact h.1
  ·rw [if_neg hc]
   simp only [doS,hs,hd,hq,h,hm,hf,hc,Bool.not_true,Bool.or_false,Bool.false_eq_true,if_false]
theorem doS_lows5 {s:Stt} (d:D) (h:s.lows.length=5):(doS s d).1.lows.length=5:=by
 cases doS_done s d with
 | form h0 e=>rw [e];exact h
 | top h0 e=>rw [e];exact h
 | old hs hd hq h0 e=>rw [e];exact h
 | told hs hd hq h0 m hm e=>rw [e];exact h
 | full hs hd hq h0 hm hf e=>rw [e];exact h
 | new hs hd hq h0 hm hf ms lows hx hl e=>
  rw [e]
  show lows.length=5
  rw [hl]
  split
  ·rw [List.length_set];exact h
  ·exact h
set_option maxRecDepth 100000
def RetDo (q:Stt × Res) (S:Nat->Prop) (w:World) (en:Ending) (w':World):Prop:=
 ∃ cs,en=.returned (.tuple #[.agg cs.toArray,.agg #[.int .i64 q.2.err,.int .i64 q.2.ver]])/\Below w.heap.size w w'/\RepS (ext S w w') w' q.1 cs
theorem RepS.mk' {S:Nat->Prop} {w:World} {seq:Int} {l:List Ent} {ms:List Mem} {lows:List Int} {A B:Option Addr} {cap cap':Nat} {l0 l1 l2 l3 l4:Int} {css:List (List Value)} (el:lows=[l0,l1,l2,l3,l4]) (hE:RepEs S w l css) (hR:Row S w A l.length cap css.flatten) (hM:Row S w B ms.length cap' (ms.map memC).flatten):
  RepS S w ⟨seq,l,ms,lows⟩ [.int .i64 seq,.slice A l.length cap,.slice B ms.length cap',.int .i64 l0,.int .i64 l1,.int .i64 l2,.int .i64 l3,.int .i64 l4]:=
 ⟨A,cap,css,B,cap',by subst el;rfl,by subst el;rfl,hE,hR,hM⟩
theorem stab_at (a:Addr) (cs:List Value):Stab (fun S w=>S a.block/\Go.Vc.cellsAt w a cs 0):=by
 have key:∀ (cs:List Value) (i:Nat) (S S':Nat->Prop) (w w':World),S a.block->Fut S w S' w'->Go.Vc.cellsAt w a cs i->Go.Vc.cellsAt w' a cs i:=by
  intro cs
  induction cs with
  | nil=>intros;trivial
  | cons v r ih=>
   intro i S S' w w' hS f h
   exact⟨(World.cell?_of_block (f.2 _ (by rw [add_block];exact hS))).trans h.1,ih _ S S' w w' hS f h.2⟩
 intro S w S' w' h f
 exact⟨f.1 _ h.1,key cs 0 S S' w w' h.1 f h.2⟩
theorem RowM.elemR {S:Nat->Prop} {w:World} {A:Option Addr} {n cap:Nat} {l:List Mem} (hR:Row S w A n cap (l.map memC).flatten) (i:Nat) (hi:i<l.length):
  ∃ ad ab ao asub,A=some ad/\ad.add (i*3)=⟨ab,ao,asub⟩/\S ab/\Go.Vc.cellsAt w ⟨ab,ao,asub⟩ (memC l[i]) 0/\Go.Vc.cellsAt w ⟨ab,ao+1,none⟩ [.int .i64 l[i].res.err,.int .i64 l[i].res.ver] 0:=by
 obtain⟨ad,e,h⟩:=RowM.elem hR i hi
 obtain⟨ad',e',hS,_⟩:=hR.2.2 (fun h=>by
  have:=(memC_flat l).len
  rw [h,List.length_map,List.length_nil] at this
  omega)
 rw [e] at e'
 cases e'
 have hb:=add_block ad (i*3)
 generalize hae:ad.add (i*3)=ae at h hb
 obtain⟨ab,ao,asub⟩:=ae
 simp only at hb
 subst hb
 refine⟨ad,ad.block,ao,asub,e,hae,hS,h,?_⟩
 obtain⟨_,h1,h2,_⟩:=h
 refine⟨?_,?_,trivial⟩
 ·have:(⟨ad.block,ao+1,none⟩:Addr).add 0=(⟨ad.block,ao,asub⟩:Addr).add (0+1):=rfl
  rw [this];exact h1
 ·have:(⟨ad.block,ao+1,none⟩:Addr).add (0+1)=(⟨ad.block,ao,asub⟩:Addr).add (0+1+1):=rfl
  rw [this];exact h2
def know1 (l:List Ent) (css:List (List Value)) (A:Option Addr) (cap:Nat) (ms:List Mem) (B:Option Addr) (cap':Nat):Kn:=fun S w=>RepEs S w l css/\Row S w A l.length cap css.flatten/\Row S w B ms.length cap' (ms.map memC).flatten
theorem know1_stab {l:List Ent} {css:List (List Value)} {A:Option Addr} {cap:Nat} {ms:List Mem} {B:Option Addr} {cap':Nat}:Stab (know1 l css A cap ms B cap'):=fun _ _ _ _ h f=>⟨RepEs.fut h.1 f,h.2.1.fut f,h.2.2.fut f⟩
theorem insC (l:List Mem) (i:Nat) (m:Mem):((l.map memC).take i).flatten++memC m++((l.map memC).drop i).flatten=((l.take i++m::l.drop i).map memC).flatten:=by simp
theorem posM_le:∀ (l:List Mem) (k:Int),posM l k<=l.length
 | [],_=>Nat.le_refl _
 | e::r,k=>by
  rw [posM]
  split
  ·exact Nat.succ_le_succ (posM_le r k)
  ·exact Nat.zero_le _
theorem lows_put (a b c:Value) (l0 l1 l2 l3 l4 x:Int) (h j:Int) (hr:1<=h/\h<=5) (hj:j=h-1):∃ m0 m1 m2 m3 m4,[l0,l1,l2,l3,l4].set (h-1).toNat x=[m0,m1,m2,m3,m4]/\
  putAt [a,b,c,.int .i64 l0,.int .i64 l1,.int .i64 l2,.int .i64 l3,.int .i64 l4] (3+j.toNat) [.int .i64 x]=[a,b,c,.int .i64 m0,.int .i64 m1,.int .i64 m2,.int .i64 m3,.int .i64 m4]:=by
 subst hj
 have:h=1\/h=2\/h=3\/h=4\/h=5:=by omega
 rcases this with rfl | rfl | rfl | rfl | rfl
 ·exact⟨x,l1,l2,l3,l4,rfl,rfl⟩
 ·exact⟨l0,x,l2,l3,l4,rfl,rfl⟩
 ·exact⟨l0,l1,x,l3,l4,rfl,rfl⟩
 ·exact⟨l0,l1,l2,x,l4,rfl,rfl⟩
 ·exact⟨l0,l1,l2,l3,x,rfl,rfl⟩
theorem mayS_ents {s:Stt} (h:mayS s=true):∀ e∈s.l,e.vs.length<=1000000/\(e.vs.length≠0->(lastV e.vs).ver<s.seq+1)/\(nowE e).1.body.size<=maxLen:=by
 intro e he
 obtain⟨_,_,hris,_⟩:=mayS_parts.1 h
 have ho:=((risE_iff _ _ _).1 hris).1 e he
 have hp:=mayE_parts.1 ho.1
 have hv:=okEnt_vers ho
 refine⟨by omega,fun h0=>?_,?_⟩
 ·have:=ho.2 _ (lastV_mem (l:=e.vs) (fun h=>h0 (by rw [h];rfl)))
  omega
 ·rw [nowE,if_neg (by omega)]
  have:=hv _ (lastV_mem (l:=e.vs) (fun h=>by rw [h] at hp;simp at hp))
  have:=(verOk_nums this).2
  simp only [maxLen]
  omega
set_option maxHeartbeats 4000000 in
theorem bdo_any (s:Stt) (d:D) (hk:∀ e∈s.l,strok e.key) (hd:d.Ok) (cs:List Value) (S:Nat->Prop) (w:World) (hlt:∀ b,S b->b<w.heap.size) (hs:RepS S w s cs):Calls Tryz.prog 86 #[.agg cs.toArray,.agg (dC d).toArray] w (RetDo (doS s d) S w):=by
 obtain⟨A,cap,css,B,cap',l0,l1,l2,l3,l4,rfl,el,hE,hR,hM⟩:=hs.shape
 refine vE Tryz.func86 ?_
 intro g2 w1 h1
 have hc:=((CtxF.start w S hlt (R:=know1 s.l css A cap s.ms B cap') ⟨hE,hR,hM⟩ know1_stab).loc h1).1
 refine hc.n fun g3 wg3 hg3 hc=>?_
 refine hc.n fun g4 wg4 hg4 hc=>?_
 refine hc.n fun g5 wg5 hg5 hc=>?_
 refine hc.a 3 rfl rfl ?_
 refine hc.q (bmay_any s hk _ S _ (hs.below hc.below)) fun wQ hQ hc=>?_
 have same:∀ (w':World) (r:Res),Below w.heap.size w w'->doS s d=(s,r)->RetDo (doS s d) S w (.returned (.tuple #[.agg (stC s A cap B cap' l0 l1 l2 l3 l4).toArray,.agg #[.int .i64 r.err,.int .i64 r.ver]])) w':=fun w' r hb e=>by
  rw [e]
  exact⟨_,rfl,hb,hs.map (fun h=>h.old hb)⟩
 rcases Bool.eq_false_or_eq_true (mayS s) with hm | hm
 rotate_left
 ·refine split_t (by show (!mayS s)=true;rw [hm];rfl) ?_
  refine hc.a 3 rfl rfl ?_
  refine hc.s 1 rfl fun wS hS hc=>?_
  refine hc.s 0 rfl fun wS hS hc=>?_
  refine hc.a 1 rfl rfl ?_
  refine hc.a 0 rfl rfl ?_
  exact same _ ⟨1,0⟩ hc.below (by simp [doS,hm])
 refine split_f (by show (!mayS s)=false;rw [hm];rfl) ?_
 refine hc.a 2 rfl rfl ?_
 refine hc.q (may_any d hd _) fun wQ hQ hc=>?_
 rcases Bool.eq_false_or_eq_true (mayD d) with hmd | hmd
 rotate_left
 ·refine split_t (by show (!mayD d)=true;rw [hmd];rfl) ?_
  refine hc.a 3 rfl rfl ?_
  refine hc.s 1 rfl fun wS hS hc=>?_
  refine hc.s 0 rfl fun wS hS hc=>?_
  refine hc.a 1 rfl rfl ?_
  refine hc.a 0 rfl rfl ?_
  exact same _ ⟨1,0⟩ hc.below (by simp [doS,hmd])
 refine split_f (by show (!mayD d)=false;rw [hmd];rfl) ?_
 refine⟨_,hc.cell 3 rfl _ rfl,?_⟩
 rcases Int.lt_or_le s.seq maxN with hq | hq
 rotate_left
 ·refine split_t (decide_eq_true (show (1099511627776:Int)<=s.seq from hq)) ?_
  refine hc.a 3 rfl rfl ?_
  refine hc.s 1 rfl fun wS hS hc=>?_
  refine hc.s 0 rfl fun wS hS hc=>?_
  refine hc.a 1 rfl rfl ?_
  refine hc.a 0 rfl rfl ?_
  exact same _ ⟨5,0⟩ hc.below (by simp [doS,hm,hmd,hq])
 have hq:s.seq<1099511627776:=hq
 refine split_f (decide_eq_false (show ¬ (1099511627776:Int)<=s.seq by omega)) ?_
 clear same
 obtain⟨⟨hq0,_⟩,⟨hl40,hm100⟩,hris,_,hmem⟩:=mayS_parts.1 hm
 have hhr:=homeI_range d.req
 have hh0:=mayD_home hmd
 have hr15:1<=homeI d.req/\homeI d.req<=5:=by omega
 refine⟨_,hc.cell 3 rfl _ rfl,?_⟩
 have hw1:IntKind.i64.wrap (s.seq+1)=s.seq+1:=wrap_add _ _ (by omega) (by omega)
 refine⟨hc.may 3 rfl _ _ (nle rfl) rfl,?_⟩
 intro w5 h5
 rw [hw1] at h5
 have hc:=(hc.set 3 rfl h5).1
 have hc:CtxF S w S w5 [(g5,54,[.int .i64 0,.int .i64 0]),(g4,43,(lay.ty 43).zero),(g3,32,dC d),(g2,43,[.int .i64 (s.seq+1),.slice A s.l.length cap,.slice B s.ms.length cap',.int .i64 l0,.int .i64 l1,.int .i64 l2,.int .i64 l3,.int .i64 l4])] [] (know1 s.l css A cap s.ms B cap'):=hc
 refine⟨_,hc.cell 2 rfl _ rfl,?_⟩
 refine hc.q (home_any d.req _) fun wQ hQ hc=>?_
 have hw2:IntKind.i64.wrap (homeI d.req-1)=homeI d.req-1:=by rw [IntWalk.i64_in _ ⟨by omega,by omega⟩]
 refine hc.n fun g6 wg6 hg6 hc=>?_
 refine⟨hc.may 0 rfl _ _ (Nat.le_refl 1) rfl,?_⟩
 intro w6 h6
 rw [hw2] at h6
 have hc:=(hc.set 0 rfl h6).1
 have hc:CtxF S w S w6 [(g6,3,[.int .i64 (homeI d.req-1)]),(g5,54,[.int .i64 0,.int .i64 0]),(g4,43,(lay.ty 43).zero),(g3,32,dC d),(g2,43,[.int .i64 (s.seq+1),.slice A s.l.length cap,.slice B s.ms.length cap',.int .i64 l0,.int .i64 l1,.int .i64 l2,.int .i64 l3,.int .i64 l4])] [] (know1 s.l css A cap s.ms B cap'):=hc
 refine hc.a 4 rfl rfl ?_
 refine⟨_,hc.cell 3 rfl _ rfl,?_⟩
 have hs1:RepS S w ⟨s.seq+1,s.l,s.ms,s.lows⟩ [.int .i64 (s.seq+1),.slice A s.l.length cap,.slice B s.ms.length cap',.int .i64 l0,.int .i64 l1,.int .i64 l2,.int .i64 l3,.int .i64 l4]:=RepS.mk' el hE hR hM
 refine hc.q (memo_any ⟨s.seq+1,s.l,s.ms,s.lows⟩ d.req (memB_sort hmem) (by show s.ms.length<=_;omega) _ S _ (hs1.below hc.below)) fun wQ hQ hc=>?_
 have same:∀ (w':World) (r:Res),Below w.heap.size w w'->doS s d=(⟨s.seq+1,s.l,s.ms,s.lows⟩,r)->RetDo (doS s d) S w (.returned (.tuple #[.agg #[.int .i64 (s.seq+1),.slice A s.l.length cap,.slice B s.ms.length cap',.int .i64 l0,.int .i64 l1,.int .i64 l2,.int .i64 l3,.int .i64 l4],.agg #[.int .i64 r.err,.int .i64 r.ver]])) w':=fun w' r hb e=>by
  rw [e]
  exact⟨_,rfl,hb,hs1.map (fun h=>h.old hb)⟩
 have hnq:¬ maxN<=s.seq:=by show ¬ 1099511627776<=s.seq;omega
 have hlc:=lows_cell (hc.blk 4 rfl) (homeI d.req) (homeI d.req-1) hr15 rfl
 rw [<-el] at hlc
 refine vD (.Q [0,1,2,3,4,5,6,7] .fin) (Keeps (fun b=>b<wQ.heap.size) wQ) (Keeps.start _ _) ?_
 refine⟨_,fun x hx=>hx.look (hc.cell 3 rfl _ rfl),?_⟩
 refine⟨_,fun x hx=>hx.look (hc.cell 0 rfl _ rfl),?_⟩
 refine⟨⟨by omega,by omega⟩,?_⟩
 generalize hae:((⟨g2,0+3,none⟩:Addr).add ((homeI d.req-1).toNat*1))=ae at hlc ⊢
 obtain⟨ab,ao,asub⟩:=ae
 refine⟨_,fun x hx=>hx.look hlc,?_⟩
 have hc:=hc.drew
 rcases Int.lt_or_le d.req (lowAt s.lows (homeI d.req)) with ho | ho
 ·refine split_t (decide_eq_true ho) ?_
  refine hc.a 4 rfl rfl ?_
  refine hc.s 2 rfl fun wS hS hc=>?_
  refine hc.s 1 rfl fun wS hS hc=>?_
  refine hc.a 2 rfl rfl ?_
  refine hc.a 1 rfl rfl ?_
  exact same _ ⟨12,0⟩ hc.below (by simp [doS,hm,hmd,hnq,ho])
 refine split_f (decide_eq_false (show ¬ d.req<lowAt s.lows (homeI d.req) by omega)) ?_
 have hno:¬ d.req<lowAt s.lows (homeI d.req):=by omega
 cases hmm:memAt s.ms d.req with
 | some m=>
  have hmi:s.ms[posM s.ms d.req]?=some m:=by
   unfold memAt at hmm
   cases e1:s.ms[posM s.ms d.req]? with
   | none=>rw [e1] at hmm;cases hmm
   | some x=>
    rw [e1] at hmm
    simp only at hmm
    split at hmm
    ·exact hmm
    ·cases hmm
  obtain⟨hlt2,hge⟩:=List.getElem?_eq_some_iff.1 hmi
  obtain⟨ad,ab,ao,asub,rfl,hae,hSb,_,hcell⟩:=RowM.elemR hM (posM s.ms d.req) hlt2
  rw [hge] at hcell
  have hc:=hc.know (hc.old (stab_at ⟨ab,ao+1,none⟩ [.int .i64 m.res.err,.int .i64 m.res.ver]) ⟨hSb,hcell⟩ hlt) (stab_at _ _)
  refine vD (.Q [0,1,2,3,4,5,6] (.n 7 (.z 8) .stop)) (fun x=>Blk x g2 43 _/\Go.Vc.cellsAt x ⟨ab,ao+1,none⟩ [.int .i64 m.res.err,.int .i64 m.res.ver] 0) ⟨hc.blk 4 rfl,hc.row.2.2⟩ ?_
  refine⟨_,?_,fun x hx=>drop_cells hx.1 0 _ 0 (fun j v hj=>by simpa using hj),?_⟩
  ·rfl
  refine⟨_,fun x hx=>hx.1.cell 2,?_⟩
  refine⟨⟨Int.natCast_nonneg _,Int.ofNat_lt.2 hlt2⟩,?_⟩
  rw [<-Int.toNat_natCast (posM s.ms d.req)] at hae
  generalize ad.add ((posM s.ms d.req:Int).toNat*3)=ae at hae ⊢
  subst hae
  refine⟨_,?_,fun x hx=>hx.2,?_⟩
  ·rfl
  have hc:=hc.drew
  refine⟨hc.s 2 rfl fun wS hS hc=>?_,trivial⟩
  refine⟨⟨hc.blk 4 rfl,hc.row.2.2⟩,?_⟩
  refine hc.s 1 rfl fun wS hS hc=>?_
  refine hc.a 2 rfl rfl ?_
  refine hc.a 1 rfl rfl ?_
  exact same _ m.res hc.below (by simp [doS,hm,hmd,hnq,hno,hmm])
 | none=>
 refine⟨_,hc.cell 4 rfl _ rfl,?_⟩
 rcases Nat.lt_or_ge s.ms.length 100 with hf | hf
 rotate_left
 ·refine split_t (decide_eq_true (show (100:Int)<=(s.ms.length:Int) by omega)) ?_
  refine hc.a 4 rfl rfl ?_
  refine hc.s 2 rfl fun wS hS hc=>?_
  refine hc.s 1 rfl fun wS hS hc=>?_
  refine hc.a 2 rfl rfl ?_
  refine hc.a 1 rfl rfl ?_
  exact same _ ⟨5,0⟩ hc.below (by simp [doS,hm,hmd,hnq,ho,hno,hmm,hf])
 refine split_f (decide_eq_false (show ¬ (100:Int)<=(s.ms.length:Int) by omega)) ?_
 have hnf:¬ 100<=s.ms.length:=by omega
 refine hc.a 4 rfl rfl ?_
 refine hc.a 3 rfl rfl ?_
 refine⟨(doK_any ⟨s.seq+1,s.l,s.ms,s.lows⟩ d A B cap cap' l0 l1 l2 l3 l4 el css S _ (hE.below hc.below) (hR.below hc.below) (hM.below hc.below) (by show s.l.length<=_;omega) (risE_sort hris) (mayS_ents hm)).mono fun en wq hq=>?_⟩
 obtain⟨A5,c5,css5,e5,h5,hE5,hR5⟩:=hq
 have hdo:doS s d=(if lowAt s.lows (homeI d.req)<d.low/\homeI d.low=homeI d.req then
   (⟨s.seq+1,(doK s.l (s.seq+1) d).1,keepM d.low (homeI d.req) (s.ms.take (posM s.ms d.req)++⟨d.req,(doK s.l (s.seq+1) d).2⟩::s.ms.drop (posM s.ms d.req)),s.lows.set (homeI d.req-1).toNat d.low⟩,(doK s.l (s.seq+1) d).2)
   else (⟨s.seq+1,(doK s.l (s.seq+1) d).1,s.ms.take (posM s.ms d.req)++⟨d.req,(doK s.l (s.seq+1) d).2⟩::s.ms.drop (posM s.ms d.req),s.lows⟩,(doK s.l (s.seq+1) d).2)):=by
  simp only [doS,hm,hmd,hnq,hno,hmm,hnf,Bool.not_true,Bool.or_false,Bool.false_eq_true,if_false]
 rw [hdo]
 clear hdo
 have hc:=(hc.call h5).1.know (X:=fun S w=>RepEs S w (doK s.l (s.seq+1) d).1 css5/\Row S w A5 (doK s.l (s.seq+1) d).1.length c5 css5.flatten) ⟨hE5,hR5⟩ (fun _ _ _ _ h f=>⟨RepEs.fut h.1 f,h.2.fut f⟩)
 generalize ext S _ wq=S5 at hc
 clear hE5 hR5
 generalize doK s.l (s.seq+1) d=q at*
 obtain⟨ql,qr⟩:=q
 refine⟨_,e5,?_⟩
 refine hc.n fun g9 wg9 hg9 hc=>?_
 refine hc.s 5 rfl fun wS hS hc=>?_
 refine hc.s 0 rfl fun wS hS hc=>?_
 obtain⟨ms,hms⟩:∃ ms,ms=s.ms.take (posM s.ms d.req)++⟨d.req,qr⟩::s.ms.drop (posM s.ms d.req):=⟨_,rfl⟩
 have hml:ms.length=s.ms.length+1:=by
  have:=posM_le s.ms d.req
  rw [hms,List.length_append,List.length_cons,List.length_take,List.length_drop]
  omega
 refine vD (.Q [0,1,3,4,5,6,7] (.n 2 (.n 8 (.n 9 (.q 10 (.z 11)) .stop) .stop) (.n 8 (.n 2 (.n 9 (.q 10 (.z 11)) .stop) .stop) .stop))) (fun x=>Blk x g2 43 _/\Blk x g3 32 (dC d)/\Blk x g9 54 _) ⟨hc.blk 5 rfl,hc.blk 4 rfl,hc.blk 0 rfl⟩ ?_
 refine⟨_,fun x hx=>hx.1.cell 2,?_⟩
 refine⟨_,fun x hx=>hx.2.1.cell 6,?_⟩
 refine⟨_,?_,fun x hx=>drop_cells hx.2.2 0 _ 0 (fun j v hj=>by simpa using hj),?_⟩
 ·rfl
 have hc:=hc.drew
 have hcel:(s.ms.map memC).length=s.ms.length:=List.length_map _
 refine⟨?_,?_,trivial⟩
 ·skip
  refine⟨(cloneM_any B s.ms.length cap' (s.ms.map memC) (memC_flat _) hcel (by omega) S _ (hM.below hc.below)).mono fun en wq hq=>?_⟩
  obtain⟨A7,cap7,e7,h7,ho⟩:=hq
  have hc:=hc.fresh h7 ho
  refine⟨_,e7,⟨hc.blk 5 rfl,hc.blk 4 rfl,hc.blk 0 rfl⟩,?_⟩
  refine⟨hc.n fun gb wgb hgb hc=>?_,trivial⟩
  refine⟨⟨hc.blk 6 rfl,hc.blk 5 rfl,hc.blk 1 rfl⟩,?_⟩
  refine⟨?_,trivial⟩
  obtain⟨hcx,hox⟩:=hc.others
  have hd:=insertM_any hcx (s.ms.map memC) (memC_flat _) (by rw [hcel];omega) (A:=A7) (cap:=cap7) (by rw [hcel];exact hox) (posM s.ms d.req) (by rw [hcel];exact posM_le _ _) 0 gb (memC ⟨d.req,qr⟩) rfl rfl rfl
  rw [hcel] at hd
  refine⟨hd.mono fun en w18 hq=>?_⟩
  obtain⟨A8,cap8,e8,hcx,hfx,hox⟩:=hq
  rw [insC,<-hms,<-hml] at hox
  rw [<-hml] at e8
  have hc:=(hc.back (o':=⟨56,3,A8,ms.length,cap8,(ms.map memC).flatten⟩) hcx hfx hox (fun x hx=>⟨x,hx,rfl⟩)).drop
  refine⟨_,e8,⟨hc.blk 5 rfl,hc.blk 4 rfl,hc.blk 0 rfl⟩,?_⟩
  refine hc.s 5 rfl fun wS hS hc=>?_
  have hc:CtxF S w _ wS [(g9,54,[.int .i64 qr.err,.int .i64 qr.ver]),(g6,3,[.int .i64 (homeI d.req-1)]),(g5,54,[.int .i64 0,.int .i64 0]),(g4,43,(lay.ty 43).zero),(g3,32,dC d),(g2,43,[.int .i64 (s.seq+1),.slice A5 ql.length c5,.slice A8 ms.length cap8,.int .i64 l0,.int .i64 l1,.int .i64 l2,.int .i64 l3,.int .i64 l4])] [⟨56,3,A8,ms.length,cap8,(ms.map memC).flatten⟩] _:=hc
  refine⟨_,hc.cell 4 rfl _ rfl,?_⟩
  refine hc.n fun g10 wg10 hg10 hc=>?_
  refine hc.s 0 rfl fun wS hS hc=>?_
  have hlc:=lows_cell (hc.blk 6 rfl) (homeI d.req) (homeI d.req-1) hr15 rfl
  rw [<-el] at hlc
  generalize hlo:lowAt s.lows (homeI d.req)=lo at hlc
  refine vD (.Q [0,1,2,3,4,5,6,7,9,10] (.n 8 (.Q [11,12] .fin) .stop)) (Keeps (fun b=>b<wS.heap.size) wS) (Keeps.start _ _) ?_
  refine⟨_,fun x hx=>hx.look (hc.cell 0 rfl _ rfl),?_⟩
  refine⟨_,fun x hx=>hx.look (hc.cell 2 rfl _ rfl),?_⟩
  refine⟨⟨by omega,by omega⟩,?_⟩
  generalize hae:((⟨g2,0+3,none⟩:Addr).add ((homeI d.req-1).toNat*1))=ae at hlc ⊢
  have hae:(⟨g2,3+(homeI d.req-1).toNat,none⟩:Addr)=ae:=by rw [<-hae,Addr.add_lit,Nat.mul_one,Nat.zero_add]
  subst hae
  refine⟨_,fun x hx=>hx.look hlc,?_⟩
  have hk1:=Keeps.start (fun b=>b<wS.heap.size) wS
  have hltS:∀ b,b<wS.heap.size->b<wS.heap.size:=fun _ h=>h
  have hwh:IntKind.i64.wrap (homeI d.req-1+1)=homeI d.req:=by rw [IntWalk.i64_in _ ⟨by omega,by omega⟩];omega
  rcases Int.lt_or_le lo d.low with hlw | hlw
  ·refine split_t (decide_eq_true hlw) ?_
   refine⟨_,fun x hx=>hx.look (hc.cell 0 rfl _ rfl),?_⟩
   refine⟨_,fun x hx=>hx.look (hc.cell 2 rfl _ rfl),?_⟩
   have hc:=hc.drew
   refine⟨hc.q (home_any d.low _) fun w20 h20 hc=>?_,trivial⟩
   refine⟨hk1.below hltS h20,?_⟩
   by_cases hhl:homeI d.low=homeI d.req
   ·refine split_t (by show (homeI d.low==IntKind.i64.wrap (homeI d.req-1+1))=true;rw [hwh,hhl];simp) ?_
    rw [if_pos ⟨hlw,hhl⟩]
    refine⟨_,hc.cell 2 rfl _ rfl,?_⟩
    refine⟨_,hc.cell 0 rfl _ rfl,?_⟩
    refine⟨⟨by omega,by omega⟩,?_⟩
    generalize hae:((⟨g2,0+3,none⟩:Addr).add ((homeI d.req-1).toNat*1))=ae
    have hae:(⟨g2,3+(homeI d.req-1).toNat,none⟩:Addr)=ae:=by rw [<-hae,Addr.add_lit,Nat.mul_one,Nat.zero_add]
    subst hae
    refine⟨hc.may 6 rfl (3+(homeI d.req-1).toNat) [.int .i64 d.low] (by show 3+(homeI d.req-1).toNat+1<=8;omega) rfl,?_⟩
    intro w21 h21
    have h21:Stored w20 ⟨g2,3+(homeI d.req-1).toNat,none⟩ [.int .i64 d.low] w21:=h21
    have hc:=(hc.set 6 rfl h21).1
    obtain⟨m0,m1,m2,m3,m4,em,ep⟩:=lows_put (.int .i64 (s.seq+1)) (.slice A5 ql.length c5) (.slice A8 ms.length cap8) l0 l1 l2 l3 l4 d.low (homeI d.req) (homeI d.req-1) hr15 rfl
    have hc:CtxF S w _ w21 [(g10,2,[.int .i64 d.low]),(g9,54,[.int .i64 qr.err,.int .i64 qr.ver]),(g6,3,[.int .i64 (homeI d.req-1)]),(g5,54,[.int .i64 0,.int .i64 0]),(g4,43,(lay.ty 43).zero),(g3,32,dC d),(g2,43,putAt [.int .i64 (s.seq+1),.slice A5 ql.length c5,.slice A8 ms.length cap8,.int .i64 l0,.int .i64 l1,.int .i64 l2,.int .i64 l3,.int .i64 l4] (3+(homeI d.req-1).toNat) [.int .i64 d.low])] [⟨56,3,A8,ms.length,cap8,(ms.map memC).flatten⟩] _:=hc
    rw [ep] at hc
    rw [el,em]
    refine⟨_,hc.cell 6 rfl _ rfl,?_⟩
    obtain⟨hcx,hox⟩:=hc.others
    have hd:=deleteFuncM_any hcx ms (by omega) hox d.low (homeI d.req-1) (by omega) (by omega) 0 2 g10 g6 2 3 rfl rfl
    rw [show homeI d.req-1+1=homeI d.req by omega] at hd
    refine⟨hd.mono fun en w22 hq=>?_⟩
    obtain⟨A9,e9,hcx,hfx,hox⟩:=hq
    have hc:=hc.back (o':=⟨56,3,A9,(keepM d.low (homeI d.req) ms).length,cap8,((keepM d.low (homeI d.req) ms).map memC).flatten⟩) hcx hfx hox (fun x hx=>⟨x,hx,rfl⟩)
    refine⟨_,e9,?_⟩
    refine hc.s 6 rfl fun wS hS hc=>?_
    obtain⟨S9,_,hc⟩:=hc.told
    refine vD (.Q [0,1] (.n 2 (.z 3) .stop)) (fun x=>Blk x g2 43 _/\Blk x g9 54 _) ⟨hc.blk 6 rfl,hc.blk 1 rfl⟩ ?_
    refine⟨_,?_,fun x hx=>drop_cells hx.1 0 _ 0 (fun j v hj=>by simpa using hj),?_⟩
    ·rfl
    refine⟨_,?_,fun x hx=>drop_cells hx.2 0 _ 0 (fun j v hj=>by simpa using hj),?_⟩
    ·rfl
    have hc:=hc.drew
    refine⟨hc.s 4 rfl fun wS hS hc=>?_,trivial⟩
    refine⟨⟨hc.blk 6 rfl,hc.blk 1 rfl⟩,?_⟩
    refine hc.s 3 rfl fun wS hS hc=>?_
    refine hc.a 4 rfl rfl ?_
    refine hc.a 3 rfl rfl ?_
    have ho:=hc.out
    subst hms
    exact⟨_,rfl,hc.below,RepS.mk' rfl ho.1.2.1 ho.1.2.2 ho.2⟩
   ·refine split_f (by show (homeI d.low==IntKind.i64.wrap (homeI d.req-1+1))=false;rw [hwh];simpa using hhl) ?_
    rw [if_neg (fun h=>hhl h.2)]
    obtain⟨S9,_,hc⟩:=hc.told
    refine vD (.Q [0,1] (.n 2 (.z 3) .stop)) (fun x=>Blk x g2 43 _/\Blk x g9 54 _) ⟨hc.blk 6 rfl,hc.blk 1 rfl⟩ ?_
    refine⟨_,?_,fun x hx=>drop_cells hx.1 0 _ 0 (fun j v hj=>by simpa using hj),?_⟩
    ·rfl
    refine⟨_,?_,fun x hx=>drop_cells hx.2 0 _ 0 (fun j v hj=>by simpa using hj),?_⟩
    ·rfl
    have hc:=hc.drew
    refine⟨hc.s 4 rfl fun wS hS hc=>?_,trivial⟩
    refine⟨⟨hc.blk 6 rfl,hc.blk 1 rfl⟩,?_⟩
    refine hc.s 3 rfl fun wS hS hc=>?_
    refine hc.a 4 rfl rfl ?_
    refine hc.a 3 rfl rfl ?_
    have ho:=hc.out
    subst hms
    exact⟨_,rfl,hc.below,RepS.mk' el ho.1.2.1 ho.1.2.2 ho.2⟩
  ·refine split_f (decide_eq_false (show ¬ lo<d.low by omega)) ?_
   refine⟨?_,trivial⟩
   have hc:=hc.drew
   rw [if_neg (fun h=>absurd h.1 (by omega))]
   obtain⟨S9,_,hc⟩:=hc.told
   refine vD (.Q [0,1] (.n 2 (.z 3) .stop)) (fun x=>Blk x g2 43 _/\Blk x g9 54 _) ⟨hc.blk 6 rfl,hc.blk 1 rfl⟩ ?_
   refine⟨_,?_,fun x hx=>drop_cells hx.1 0 _ 0 (fun j v hj=>by simpa using hj),?_⟩
   ·rfl
   refine⟨_,?_,fun x hx=>drop_cells hx.2 0 _ 0 (fun j v hj=>by simpa using hj),?_⟩
   ·rfl
   have hc:=hc.drew
   refine⟨hc.s 4 rfl fun wS hS hc=>?_,trivial⟩
   refine⟨⟨hc.blk 6 rfl,hc.blk 1 rfl⟩,?_⟩
   refine hc.s 3 rfl fun wS hS hc=>?_
   refine hc.a 4 rfl rfl ?_
   refine hc.a 3 rfl rfl ?_
   have ho:=hc.out
   subst hms
   exact⟨_,rfl,hc.below,RepS.mk' el ho.1.2.1 ho.1.2.2 ho.2⟩
 ·skip
  refine hc.n fun gb wgb hgb hc=>?_
  refine⟨⟨hc.blk 6 rfl,hc.blk 5 rfl,hc.blk 1 rfl⟩,?_⟩
  refine⟨⟨(cloneM_any B s.ms.length cap' (s.ms.map memC) (memC_flat _) hcel (by omega) S _ (hM.below hc.below)).mono fun en wq hq=>?_⟩,trivial⟩
  obtain⟨A7,cap7,e7,h7,ho⟩:=hq
  have hc:=hc.fresh h7 ho
  refine⟨_,e7,⟨hc.blk 6 rfl,hc.blk 5 rfl,hc.blk 1 rfl⟩,?_⟩
  refine⟨?_,trivial⟩
  obtain⟨hcx,hox⟩:=hc.others
  have hd:=insertM_any hcx (s.ms.map memC) (memC_flat _) (by rw [hcel];omega) (A:=A7) (cap:=cap7) (by rw [hcel];exact hox) (posM s.ms d.req) (by rw [hcel];exact posM_le _ _) 0 gb (memC ⟨d.req,qr⟩) rfl rfl rfl
  rw [hcel] at hd
  refine⟨hd.mono fun en w18 hq=>?_⟩
  obtain⟨A8,cap8,e8,hcx,hfx,hox⟩:=hq
  rw [insC,<-hms,<-hml] at hox
  rw [<-hml] at e8
  have hc:=(hc.back (o':=⟨56,3,A8,ms.length,cap8,(ms.map memC).flatten⟩) hcx hfx hox (fun x hx=>⟨x,hx,rfl⟩)).drop
  refine⟨_,e8,⟨hc.blk 5 rfl,hc.blk 4 rfl,hc.blk 0 rfl⟩,?_⟩
  refine hc.s 5 rfl fun wS hS hc=>?_
  have hc:CtxF S w _ wS [(g9,54,[.int .i64 qr.err,.int .i64 qr.ver]),(g6,3,[.int .i64 (homeI d.req-1)]),(g5,54,[.int .i64 0,.int .i64 0]),(g4,43,(lay.ty 43).zero),(g3,32,dC d),(g2,43,[.int .i64 (s.seq+1),.slice A5 ql.length c5,.slice A8 ms.length cap8,.int .i64 l0,.int .i64 l1,.int .i64 l2,.int .i64 l3,.int .i64 l4])] [⟨56,3,A8,ms.length,cap8,(ms.map memC).flatten⟩] _:=hc
  refine⟨_,hc.cell 4 rfl _ rfl,?_⟩
  refine hc.n fun g10 wg10 hg10 hc=>?_
  refine hc.s 0 rfl fun wS hS hc=>?_
  have hlc:=lows_cell (hc.blk 6 rfl) (homeI d.req) (homeI d.req-1) hr15 rfl
  rw [<-el] at hlc
  generalize hlo:lowAt s.lows (homeI d.req)=lo at hlc
  refine vD (.Q [0,1,2,3,4,5,6,7,9,10] (.n 8 (.Q [11,12] .fin) .stop)) (Keeps (fun b=>b<wS.heap.size) wS) (Keeps.start _ _) ?_
  refine⟨_,fun x hx=>hx.look (hc.cell 0 rfl _ rfl),?_⟩
  refine⟨_,fun x hx=>hx.look (hc.cell 2 rfl _ rfl),?_⟩
  refine⟨⟨by omega,by omega⟩,?_⟩
  generalize hae:((⟨g2,0+3,none⟩:Addr).add ((homeI d.req-1).toNat*1))=ae at hlc ⊢
  have hae:(⟨g2,3+(homeI d.req-1).toNat,none⟩:Addr)=ae:=by rw [<-hae,Addr.add_lit,Nat.mul_one,Nat.zero_add]
  subst hae
  refine⟨_,fun x hx=>hx.look hlc,?_⟩
  have hk1:=Keeps.start (fun b=>b<wS.heap.size) wS
  have hltS:∀ b,b<wS.heap.size->b<wS.heap.size:=fun _ h=>h
  have hwh:IntKind.i64.wrap (homeI d.req-1+1)=homeI d.req:=by rw [IntWalk.i64_in _ ⟨by omega,by omega⟩];omega
  rcases Int.lt_or_le lo d.low with hlw | hlw
  ·refine split_t (decide_eq_true hlw) ?_
   refine⟨_,fun x hx=>hx.look (hc.cell 0 rfl _ rfl),?_⟩
   refine⟨_,fun x hx=>hx.look (hc.cell 2 rfl _ rfl),?_⟩
   have hc:=hc.drew
   refine⟨hc.q (home_any d.low _) fun w20 h20 hc=>?_,trivial⟩
   refine⟨hk1.below hltS h20,?_⟩
   by_cases hhl:homeI d.low=homeI d.req
   ·refine split_t (by show (homeI d.low==IntKind.i64.wrap (homeI d.req-1+1))=true;rw [hwh,hhl];simp) ?_
    rw [if_pos ⟨hlw,hhl⟩]
    refine⟨_,hc.cell 2 rfl _ rfl,?_⟩
    refine⟨_,hc.cell 0 rfl _ rfl,?_⟩
    refine⟨⟨by omega,by omega⟩,?_⟩
    generalize hae:((⟨g2,0+3,none⟩:Addr).add ((homeI d.req-1).toNat*1))=ae
    have hae:(⟨g2,3+(homeI d.req-1).toNat,none⟩:Addr)=ae:=by rw [<-hae,Addr.add_lit,Nat.mul_one,Nat.zero_add]
    subst hae
    refine⟨hc.may 6 rfl (3+(homeI d.req-1).toNat) [.int .i64 d.low] (by show 3+(homeI d.req-1).toNat+1<=8;omega) rfl,?_⟩
    intro w21 h21
    have h21:Stored w20 ⟨g2,3+(homeI d.req-1).toNat,none⟩ [.int .i64 d.low] w21:=h21
    have hc:=(hc.set 6 rfl h21).1
    obtain⟨m0,m1,m2,m3,m4,em,ep⟩:=lows_put (.int .i64 (s.seq+1)) (.slice A5 ql.length c5) (.slice A8 ms.length cap8) l0 l1 l2 l3 l4 d.low (homeI d.req) (homeI d.req-1) hr15 rfl
    have hc:CtxF S w _ w21 [(g10,2,[.int .i64 d.low]),(g9,54,[.int .i64 qr.err,.int .i64 qr.ver]),(g6,3,[.int .i64 (homeI d.req-1)]),(g5,54,[.int .i64 0,.int .i64 0]),(g4,43,(lay.ty 43).zero),(g3,32,dC d),(g2,43,putAt [.int .i64 (s.seq+1),.slice A5 ql.length c5,.slice A8 ms.length cap8,.int .i64 l0,.int .i64 l1,.int .i64 l2,.int .i64 l3,.int .i64 l4] (3+(homeI d.req-1).toNat) [.int .i64 d.low])] [⟨56,3,A8,ms.length,cap8,(ms.map memC).flatten⟩] _:=hc
    rw [ep] at hc
    rw [el,em]
    refine⟨_,hc.cell 6 rfl _ rfl,?_⟩
    obtain⟨hcx,hox⟩:=hc.others
    have hd:=deleteFuncM_any hcx ms (by omega) hox d.low (homeI d.req-1) (by omega) (by omega) 0 2 g10 g6 2 3 rfl rfl
    rw [show homeI d.req-1+1=homeI d.req by omega] at hd
    refine⟨hd.mono fun en w22 hq=>?_⟩
    obtain⟨A9,e9,hcx,hfx,hox⟩:=hq
    have hc:=hc.back (o':=⟨56,3,A9,(keepM d.low (homeI d.req) ms).length,cap8,((keepM d.low (homeI d.req) ms).map memC).flatten⟩) hcx hfx hox (fun x hx=>⟨x,hx,rfl⟩)
    refine⟨_,e9,?_⟩
    refine hc.s 6 rfl fun wS hS hc=>?_
    obtain⟨S9,_,hc⟩:=hc.told
    refine vD (.Q [0,1] (.n 2 (.z 3) .stop)) (fun x=>Blk x g2 43 _/\Blk x g9 54 _) ⟨hc.blk 6 rfl,hc.blk 1 rfl⟩ ?_
    refine⟨_,?_,fun x hx=>drop_cells hx.1 0 _ 0 (fun j v hj=>by simpa using hj),?_⟩
    ·rfl
    refine⟨_,?_,fun x hx=>drop_cells hx.2 0 _ 0 (fun j v hj=>by simpa using hj),?_⟩
    ·rfl
    have hc:=hc.drew
    refine⟨hc.s 4 rfl fun wS hS hc=>?_,trivial⟩
    refine⟨⟨hc.blk 6 rfl,hc.blk 1 rfl⟩,?_⟩
    refine hc.s 3 rfl fun wS hS hc=>?_
    refine hc.a 4 rfl rfl ?_
    refine hc.a 3 rfl rfl ?_
    have ho:=hc.out
    subst hms
    exact⟨_,rfl,hc.below,RepS.mk' rfl ho.1.2.1 ho.1.2.2 ho.2⟩
   ·refine split_f (by show (homeI d.low==IntKind.i64.wrap (homeI d.req-1+1))=false;rw [hwh];simpa using hhl) ?_
    rw [if_neg (fun h=>hhl h.2)]
    obtain⟨S9,_,hc⟩:=hc.told
    refine vD (.Q [0,1] (.n 2 (.z 3) .stop)) (fun x=>Blk x g2 43 _/\Blk x g9 54 _) ⟨hc.blk 6 rfl,hc.blk 1 rfl⟩ ?_
    refine⟨_,?_,fun x hx=>drop_cells hx.1 0 _ 0 (fun j v hj=>by simpa using hj),?_⟩
    ·rfl
    refine⟨_,?_,fun x hx=>drop_cells hx.2 0 _ 0 (fun j v hj=>by simpa using hj),?_⟩
    ·rfl
    have hc:=hc.drew
    refine⟨hc.s 4 rfl fun wS hS hc=>?_,trivial⟩
    refine⟨⟨hc.blk 6 rfl,hc.blk 1 rfl⟩,?_⟩
    refine hc.s 3 rfl fun wS hS hc=>?_
    refine hc.a 4 rfl rfl ?_
    refine hc.a 3 rfl rfl ?_
    have ho:=hc.out
    subst hms
    exact⟨_,rfl,hc.below,RepS.mk' el ho.1.2.1 ho.1.2.2 ho.2⟩
  ·refine split_f (decide_eq_false (show ¬ lo<d.low by omega)) ?_
   refine⟨?_,trivial⟩
   have hc:=hc.drew
   rw [if_neg (fun h=>absurd h.1 (by omega))]
   obtain⟨S9,_,hc⟩:=hc.told
   refine vD (.Q [0,1] (.n 2 (.z 3) .stop)) (fun x=>Blk x g2 43 _/\Blk x g9 54 _) ⟨hc.blk 6 rfl,hc.blk 1 rfl⟩ ?_
   refine⟨_,?_,fun x hx=>drop_cells hx.1 0 _ 0 (fun j v hj=>by simpa using hj),?_⟩
   ·rfl
   refine⟨_,?_,fun x hx=>drop_cells hx.2 0 _ 0 (fun j v hj=>by simpa using hj),?_⟩
   ·rfl
   have hc:=hc.drew
   refine⟨hc.s 4 rfl fun wS hS hc=>?_,trivial⟩
   refine⟨⟨hc.blk 6 rfl,hc.blk 1 rfl⟩,?_⟩
   refine hc.s 3 rfl fun wS hS hc=>?_
   refine hc.a 4 rfl rfl ?_
   refine hc.a 3 rfl rfl ?_
   have ho:=hc.out
   subst hms
   exact⟨_,rfl,hc.below,RepS.mk' el ho.1.2.1 ho.1.2.2 ho.2⟩
end Go.Proofs.YtokglimimnelaaaGreatDoor
