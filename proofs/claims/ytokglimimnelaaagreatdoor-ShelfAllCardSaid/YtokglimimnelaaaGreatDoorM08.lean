import Derived.Test.YtokglimimnelaaaGreatDoorM07
set_option linter.unusedVariables false
set_option linter.unusedSimpArgs false
namespace Go.Proofs.YtokglimimnelaaaGreatDoor
open Go.Vc Go.RowKit Go.Fl
set_option maxRecDepth 100000
def RetR (S:Nat->Prop) (q:List Ent × Res) (w:World) (en:Ending) (w':World):Prop:=
 ∃ A c css,en=.returned (.tuple #[.slice A q.1.length c,.agg #[.int .i64 q.2.err,.int .i64 q.2.ver]])/\Below w.heap.size w w'/\RepEs (ext S w w') w' q.1 css/\Row (ext S w w') w' A q.1.length c css.flatten
theorem RetR.wide {S:Nat->Prop} {q:List Ent × Res} {w w':World} {en:Ending} (h:RetR (fun b=>S b/\b<w.heap.size) q w en w'):RetR S q w en w':=by
 obtain⟨A,c,css,h1,h2,h3,h4⟩:=h
 exact⟨A,c,css,h1,h2,h3.wide ext_cut,h4.wide ext_cut⟩
theorem mayD_kind {d:D} (h:mayD d=true):d.kind=1\/d.kind=2\/d.kind=3:=by
 by_cases h1:d.kind=1
 ·exact .inl h1
 by_cases h2:d.kind=2
 ·exact .inr (.inl h2)
 by_cases h3:d.kind=3
 ·exact .inr (.inr h3)
 simp [mayD,h1,h2,h3] at h
set_option maxHeartbeats 4000000 in
theorem res_none (s:Stt) (d:D) (hmk:d.kind=1\/d.kind=2\/d.kind=3) (A B:Option Addr) (cap cap':Nat) (l0 l1 l2 l3 l4:Int) (el:s.lows=[l0,l1,l2,l3,l4]) (css:List (List Value)) (S:Nat->Prop) (w:World) (hlt:∀ b,S b->b<w.heap.size) (hE:RepEs S w s.l css) (hR:Row S w A s.l.length cap css.flatten) (hM:Row S w B s.ms.length cap' (s.ms.map memC).flatten)
  (hn:s.l.length<=1000000) (hok:∀ e∈s.l,e.vs.length<=1000000/\(e.vs.length≠0->(lastV e.vs).ver<s.seq)/\(nowE e).1.body.size<=maxLen) (hq:entAt s.l d.key=none):
  Calls Tryz.prog 58 #[.agg (stC s A cap B cap' l0 l1 l2 l3 l4).toArray,.agg (dC d).toArray] w (RetR S (doK s.l s.seq d) w):=by
 have hrep:RepS S w s (stC s A cap B cap' l0 l1 l2 l3 l4):=⟨A,cap,css,B,cap',by rw [el];rfl,by rw [el];rfl,hE,hR,hM⟩
 have hRm:=row_max hR
 refine vE Tryz.func58 ?_
 intro g2 w1 h1
 have hc:=((CtxF.start w S hlt (R:=know0 s.l css A cap) ⟨hE,hR⟩ (know0_stab _ _ _ _)).loc h1).1
 refine hc.n fun g3 wg3 hg3 hc=>?_
 refine hc.n fun g5 wg5 hg5 hc=>?_
 refine hc.a 2 rfl rfl ?_
 refine⟨_,hc.cell 1 rfl _ rfl,?_⟩
 have hfind:=rplace_any s d.key _ S _ (hrep.below hc.below)
 rw [hq] at hfind
 refine call_b hfind ?_
 clear hfind
 intro wQ hQ
 have hc:=(hc.quiet hQ).1
 refine⟨_,hc.cell 1 rfl _ rfl,?_⟩
 refine hc.n fun g8 wg8 hg8 hc=>?_
 refine hc.s 0 rfl fun wS hS hc=>?_
 have hD:=doK_eq s.l s.seq d
 rw [hq] at hD
 obtain⟨e,he⟩:∃ e:Ent,e=⟨d.key,[]⟩:=⟨_,rfl⟩
 have hD:=hD false e rfl (by rw [he];rfl)
 have hev:e.vs=[]:=by rw [he]
 have heb:(nowE e).1.body.size<=maxLen:=by rw [he];exact Nat.zero_le _
 have hel:e.vs.length<=1000000:=by rw [hev];exact Nat.zero_le _
 refine⟨_,hc.cell 3 rfl _ rfl,?_⟩
 refine hc.n fun g9 wg9 hg9 hc=>?_
 refine hc.s 0 rfl fun wS hS hc=>?_
 have hRe:Row S w none 0 0 (([]:List Ver).map verC).flatten:=⟨Nat.le_refl _,Nat.zero_le _,fun h=>absurd rfl h⟩
 obtain⟨A1,cap1,hRe,hc⟩:∃ (A1:Option Addr) (cap1:Nat),Row S w A1 e.vs.length cap1 (e.vs.map verC).flatten/\CtxF S w S _ [(g9,54,[.int .i64 0,.int .i64 s.seq]),(g8,50,[.string e.key,.slice A1 e.vs.length cap1]),(g5,54,[.int .i64 0,.int .i64 0]),(g3,32,dC d),(g2,43,stC s A cap B cap' l0 l1 l2 l3 l4)] [] (know0 s.l css A cap):=⟨none,0,by rw [hev];exact hRe,by rw [he];exact hc⟩
 refine⟨_,hc.cell 3 rfl _ rfl,?_⟩
 cases k1:(d.kind==1)
 ·refine split_f k1 ?_
  refine⟨_,hc.cell 3 rfl _ rfl,?_⟩
  refine split_t (by show (!(d.kind==1))=true;rw [k1];rfl) ?_
  rw [show doK s.l s.seq d=(s.l,⟨6,0⟩) by (
     cases k3:(d.kind==3)
     ·have k2:(d.kind==2)=true:=by
       simp only [beq_eq_false_iff_ne,ne_eq] at k1 k3
       simp only [beq_iff_eq]
       omega
      rw [hD,k3,k1,k2];rfl
     ·rw [hD,k3];unfold purgeK;rw [hev];rfl)]
  refine⟨_,hc.cell 4 rfl _ rfl,?_⟩
  refine hc.s 2 rfl fun wS hS hc=>?_
  refine hc.a 2 rfl rfl ?_
  exact⟨A,cap,css,rfl,hc.below,hc.out.1,hc.out.2⟩
 ·refine split_t k1 ?_
  have k3:(d.kind==3)=false:=by
   have:d.kind=1:=by simpa using k1
   rw [this];rfl
  have k2:(d.kind==2)=false:=by
   have:d.kind=1:=by simpa using k1
   rw [this];rfl
  refine hc.a 1 rfl rfl ?_
  refine⟨_,hc.cell 3 rfl _ rfl,?_⟩
  refine⟨_,hc.cell 3 rfl _ rfl,?_⟩
  refine hc.q (rholds_any e d.cond d.tag A1 cap1 S _ (hRe.below hc.below) heb) fun wQ hQ hc=>?_
  rcases Bool.eq_false_or_eq_true (holdsE e d.cond d.tag) with hh | hh
  rotate_left
  ·refine split_t (by show (!holdsE e d.cond d.tag)=true;rw [hh];rfl) ?_
   rw [show doK s.l s.seq d=(s.l,⟨9,0⟩) by rw [hD,k3,k1,hh];rfl]
   refine⟨_,hc.cell 4 rfl _ rfl,?_⟩
   refine hc.s 2 rfl fun wS hS hc=>?_
   refine hc.a 2 rfl rfl ?_
   exact⟨A,cap,css,rfl,hc.below,hc.out.1,hc.out.2⟩
  refine split_f (by show (!holdsE e d.cond d.tag)=false;rw [hh];rfl) ?_
  have hH:(d.kind==1&&!holdsE e d.cond d.tag)=false:=by rw [hh,Bool.not_true,Bool.and_false]
  refine⟨_,hc.cell 3 rfl _ rfl,?_⟩
  refine split_f (by show (!(d.kind==1))=false;rw [k1];rfl) ?_
  refine⟨_,hc.cell 3 rfl _ rfl,?_⟩
  refine split_f k3 ?_
  refine hc.a 1 rfl rfl ?_
  refine⟨_,hc.cell 4 rfl _ rfl,?_⟩
  refine⟨_,hc.cell 3 rfl _ rfl,?_⟩
  refine⟨_,hc.cell 3 rfl _ rfl,?_⟩
  refine⟨(radd_any' e ⟨s.seq,d.kind==2,d.body⟩ A1 cap1 hel S _ (hRe.below hc.below)).mono fun en w13 hq=>?_⟩
  have hadd:addE e ⟨s.seq,d.kind==2,d.body⟩=(⟨e.key,e.vs++[⟨s.seq,d.kind==2,d.body⟩]⟩,true):=by
   rw [addE,if_neg]
   rintro (h' | h')
   ·exact absurd (by rw [hev];rfl) h'.1
   ·rw [hev] at h';simp at h'
  rw [hadd] at hq
  obtain⟨vs,hvs⟩:∃ vs:List Ver,vs=e.vs++[⟨s.seq,d.kind==2,d.body⟩]:=⟨_,rfl⟩
  have hvl:vs.length=e.vs.length+1:=by rw [hvs,List.length_append];rfl
  rw [<-hvs] at hq
  obtain⟨A2,cap2,e1,h13,ho⟩:=hq
  simp only at e1 ho
  have hc:=hc.fresh h13 ho
  obtain⟨S1,hs1,hc⟩:=hc.told
  refine⟨_,e1,?_⟩
  refine hc.n fun g12 wg12 hg12 hc=>?_
  refine hc.s 0 rfl fun wS hS hc=>?_
  refine⟨_,hc.cell 5 rfl _ rfl,?_⟩
  rcases Nat.lt_or_ge s.l.length 40 with h40 | h40
  rotate_left
  ·refine split_t (decide_eq_true (show (40:Int)<=(s.l.length:Int) by omega)) ?_
   have hc:=hc.now (fun h=>h.1) (know0_stab _ _ _ _)
   rw [show doK s.l s.seq d=(s.l,⟨5,0⟩) by rw [hD,k3,hH,k2,decide_eq_true h40,Bool.not_false,Bool.true_and,Bool.or_true];rfl]
   refine⟨_,hc.cell 5 rfl _ rfl,?_⟩
   refine hc.s 3 rfl fun wS hS hc=>?_
   refine hc.a 3 rfl rfl ?_
   exact⟨A,cap,css,rfl,hc.below,hc.out.1,hc.out.2⟩
  refine split_f (decide_eq_false (show ¬ (40:Int)<=(s.l.length:Int) by omega)) ?_
  have ek:doK s.l s.seq d=(putK s.l d.key false [⟨e.key,vs⟩],⟨0,s.seq⟩):=by rw [hvs,hD,k3,hH,k2,decide_eq_false (show ¬ 40<=s.l.length by omega),hev];rfl
  refine hc.a 0 rfl rfl ?_
  refine hc.s 2 rfl fun wS hS hc=>?_
  have hpl0:=posK_le s.l d.key
  have hnc:=hR.1
  have hfl:css.flatten.length=s.l.length*2:=by rw [hE.flat.len,hE.len]
  refine⟨_,hc.cell 5 rfl _ rfl,?_⟩
  refine⟨⟨Int.le_refl _,Int.natCast_nonneg _,by omega,Int.le_refl _⟩,?_⟩
  have hc:=hc.nil 50 2
  have hfr:=hR.front 2 (k:=posK s.l d.key) (by omega)
  refine app_rowF Tryz.underlying39 info_E rfl (by decide) hc (hfr.below hc.below) (by rw [List.length_take,hfl];exact Nat.min_eq_left (Nat.mul_le_mul_right _ hpl0)) (by rw [<-hE.flat.flat_take];exact (hE.flat.take _).ones) (by omega) (by decide) rfl ?_ ?_
  ·show Value.slice (if (cap:Int)=0 then A else Option.map (·.add ((0:Int).toNat*2)) A) ((posK s.l d.key:Int)-0).toNat ((cap:Int)-0).toNat=_
   rw [front_eq]
   congr 1<;>omega
  intro A6 cap6 w26 hc
  refine⟨_,hc.cell 2 rfl _ rfl,?_⟩
  refine split_t (decide_eq_true (show (0:Int)<(vs.length:Int) by omega)) ?_
  refine hc.a 2 rfl rfl ?_
  refine hc.n fun gb w27 h27 hc=>?_
  refine app_ownF Tryz.underlying39 info_E rfl (by decide) hc (ys:=[.string e.key,.slice A2 vs.length cap2]) (m:=1) rfl (hc.cells 0 rfl) rfl (by omega) (by decide) rfl rfl ?_
  intro A7 cap7 w28 hc
  have hc:=hc.drop
  refine vD (.Q [0,1,2,3,4,6] (.n 5 (.q 7 (.z 8)) .stop)) (fun x=>Blk x g2 43 (stC s A cap B cap' l0 l1 l2 l3 l4)/\Blk x g9 54 _) ⟨hc.blk 5 rfl,hc.blk 1 rfl⟩ ?_
  refine⟨_,fun x hx=>hx.1.cell 1,?_⟩
  refine⟨⟨by omega,by omega,by omega,by omega⟩,?_⟩
  refine⟨_,?_,fun x hx=>drop_cells hx.2 0 _ 0 (fun j v hj=>by simpa using hj),?_⟩
  ·rfl
  have hc:=hc.drew
  refine⟨?_,trivial⟩
  have hbk:=hR.back 2 hfl (posK s.l d.key) ((posK s.l d.key:Int)) rfl (by omega)
  refine app_rowF Tryz.underlying39 info_E rfl (by decide) hc (hbk.below hc.below) (by rw [List.length_drop,hfl,<-Nat.sub_mul]) (by rw [<-hE.flat.flat_drop];exact (hE.flat.drop _).ones) (by omega) (by decide) rfl ?_ ?_
  ·show Value.slice (if (cap:Int)=(posK s.l d.key:Int) then A else Option.map (·.add (((posK s.l d.key:Int)).toNat*2)) A) ((s.l.length:Int)-(posK s.l d.key:Int)).toNat ((cap:Int)-(posK s.l d.key:Int)).toNat=_
   congr 1<;>omega
  intro A9 cap9 w30 hc
  refine⟨⟨hc.blk 5 rfl,hc.blk 1 rfl⟩,?_⟩
  refine hc.s 3 rfl fun wS hS hc=>?_
  obtain⟨S9,_,hc⟩:=hc.told
  refine hc.a 3 rfl rfl ?_
  have ho:=hc.out
  have hpl:=posK_le s.l d.key
  rw [ek]
  have hlen:(putK s.l d.key false [⟨e.key,vs⟩]).length=0+posK s.l d.key+1+(s.l.length-(posK s.l d.key)):=by unfold putK;rw [if_neg (by decide),List.length_append,List.length_append,List.length_take,List.length_drop];show min (posK s.l d.key) s.l.length+1+_=_;omega
  refine⟨A9,cap9,css.take (posK s.l d.key)++[[.string e.key,.slice A2 vs.length cap2]]++css.drop (posK s.l d.key),?_,hc.below,?_,?_⟩
  ·simp only [hlen]
   rfl
  ·refine ((ho.1.1.1.take _).append ?_).append (ho.1.1.1.drop _)
   exact⟨_,_,rfl,⟨A2,cap2,rfl,ho.1.2⟩,rfl⟩
  ·simp only [hlen]
   rw [List.flatten_append,List.flatten_append,hE.flat.flat_take,hE.flat.flat_drop,List.flatten_cons,List.flatten_nil,List.append_nil]
   exact ho.2
set_option maxHeartbeats 4000000 in
theorem res_has (s:Stt) (d:D) (hmk:d.kind=1\/d.kind=2\/d.kind=3) (A B:Option Addr) (cap cap':Nat) (l0 l1 l2 l3 l4:Int) (el:s.lows=[l0,l1,l2,l3,l4]) (css:List (List Value)) (S:Nat->Prop) (w:World) (hlt:∀ b,S b->b<w.heap.size) (hE:RepEs S w s.l css) (hR:Row S w A s.l.length cap css.flatten) (hM:Row S w B s.ms.length cap' (s.ms.map memC).flatten)
  (hn:s.l.length<=1000000) (hok:∀ e∈s.l,e.vs.length<=1000000/\(e.vs.length≠0->(lastV e.vs).ver<s.seq)/\(nowE e).1.body.size<=maxLen) (e:Ent) (hq:entAt s.l d.key=some e):
  Calls Tryz.prog 58 #[.agg (stC s A cap B cap' l0 l1 l2 l3 l4).toArray,.agg (dC d).toArray] w (RetR S (doK s.l s.seq d) w):=by
 have hrep:RepS S w s (stC s A cap B cap' l0 l1 l2 l3 l4):=⟨A,cap,css,B,cap',by rw [el];rfl,by rw [el];rfl,hE,hR,hM⟩
 have hRm:=row_max hR
 refine vE Tryz.func58 ?_
 intro g2 w1 h1
 have hc:=((CtxF.start w S hlt (R:=know0 s.l css A cap) ⟨hE,hR⟩ (know0_stab _ _ _ _)).loc h1).1
 refine hc.n fun g3 wg3 hg3 hc=>?_
 refine hc.n fun g5 wg5 hg5 hc=>?_
 refine hc.a 2 rfl rfl ?_
 refine⟨_,hc.cell 1 rfl _ rfl,?_⟩
 have hfind:=rplace_any s d.key _ S _ (hrep.below hc.below)
 rw [hq] at hfind
 refine call_b hfind ?_
 clear hfind
 intro wQ hQ
 have hc:=(hc.quiet hQ).1
 refine⟨_,hc.cell 1 rfl _ rfl,?_⟩
 refine hc.n fun g8 wg8 hg8 hc=>?_
 refine hc.s 0 rfl fun wS hS hc=>?_
 have hD:=doK_eq s.l s.seq d
 rw [hq] at hD
 have hD:=hD true e rfl rfl
 obtain⟨hg,_⟩:=entAt_some hq
 have hpl:posK s.l d.key<s.l.length:=(List.getElem?_eq_some_iff.1 hg).1
 have hge:s.l[posK s.l d.key]=e:=(List.getElem?_eq_some_iff.1 hg).2
 obtain⟨hel,hev,heb⟩:=hok e (entAt_mem hq)
 refine⟨_,hc.cell 3 rfl _ rfl,?_⟩
 obtain⟨ad,A1,cap1,e1,hcell,hRe⟩:=RowE.elem hR hE (posK s.l d.key) hpl
 have hcell:=cellsAt_later hc.below _ _ hcell
 rw [hge] at hcell hRe
 subst e1
 refine⟨⟨Int.natCast_nonneg _,Int.ofNat_lt.2 hpl⟩,?_⟩
 refine⟨[.string e.key,.slice A1 e.vs.length cap1],rfl,hcell,?_⟩
 refine hc.s 0 rfl fun wS hS hc=>?_
 refine⟨_,hc.cell 3 rfl _ rfl,?_⟩
 refine hc.n fun g9 wg9 hg9 hc=>?_
 refine hc.s 0 rfl fun wS hS hc=>?_
 have hc:CtxF S w S _ [(g9,54,[.int .i64 0,.int .i64 s.seq]),(g8,50,[.string e.key,.slice A1 e.vs.length cap1]),(g5,54,[.int .i64 0,.int .i64 0]),(g3,32,dC d),(g2,43,stC s (some ad) cap B cap' l0 l1 l2 l3 l4)] [] (know0 s.l css (some ad) cap):=hc
 refine⟨_,hc.cell 3 rfl _ rfl,?_⟩
 cases k1:(d.kind==1)
 ·refine split_f k1 ?_
  refine⟨_,hc.cell 3 rfl _ rfl,?_⟩
  refine split_t (by show (!(d.kind==1))=true;rw [k1];rfl) ?_
  have hH:(d.kind==1&&!holdsE e d.cond d.tag)=false:=by rw [k1];rfl
  cases k3:(d.kind==3)
  ·skip
   refine⟨_,hc.cell 3 rfl _ rfl,?_⟩
   refine split_f k3 ?_
   refine hc.a 1 rfl rfl ?_
   refine⟨_,hc.cell 4 rfl _ rfl,?_⟩
   refine⟨_,hc.cell 3 rfl _ rfl,?_⟩
   refine⟨_,hc.cell 3 rfl _ rfl,?_⟩
   refine⟨(radd_any' e ⟨s.seq,d.kind==2,d.body⟩ A1 cap1 hel S _ (hRe.below hc.below)).mono fun en w13 hq=>?_⟩
   rcases Nat.lt_or_ge e.vs.length 12 with h12 | h12
   rotate_left
   ·have hadd:addE e ⟨s.seq,d.kind==2,d.body⟩=(e,false):=by rw [addE,if_pos (.inr h12)]
    rw [hadd] at hq
    obtain⟨e1,h13⟩:=hq
    have hc:=(hc.quiet h13).1
    refine⟨_,e1,?_⟩
    refine hc.n fun g12 wg12 hg12 hc=>?_
    refine hc.s 0 rfl fun wS hS hc=>?_
    rw [show doK s.l s.seq d=(s.l,⟨5,0⟩) by rw [hD,k3,hH,decide_eq_true h12,Bool.not_true,Bool.and_false];rfl]
    refine⟨_,hc.cell 5 rfl _ rfl,?_⟩
    refine hc.s 3 rfl fun wS hS hc=>?_
    refine hc.a 3 rfl rfl ?_
    exact⟨(some ad),cap,css,rfl,hc.below,hc.out.1,hc.out.2⟩
   have hadd:addE e ⟨s.seq,d.kind==2,d.body⟩=(⟨e.key,e.vs++[⟨s.seq,d.kind==2,d.body⟩]⟩,true):=by
    rw [addE,if_neg]
    rintro (h' | h')
    ·have:=hev h'.1;exact absurd h'.2 (by show ¬ s.seq<=(lastV e.vs).ver;omega)
    ·omega
   rw [hadd] at hq
   obtain⟨vs,hvs⟩:∃ vs:List Ver,vs=e.vs++[⟨s.seq,d.kind==2,d.body⟩]:=⟨_,rfl⟩
   have hvl:vs.length=e.vs.length+1:=by rw [hvs,List.length_append];rfl
   rw [<-hvs] at hq
   obtain⟨A2,cap2,e1,h13,ho⟩:=hq
   simp only at e1 ho
   have hc:=hc.fresh h13 ho
   obtain⟨S1,hs1,hc⟩:=hc.told
   refine⟨_,e1,?_⟩
   refine hc.n fun g12 wg12 hg12 hc=>?_
   refine hc.s 0 rfl fun wS hS hc=>?_
   have ek:doK s.l s.seq d=(putK s.l d.key true [⟨e.key,vs⟩],⟨0,s.seq⟩):=by rw [hvs,hD,k3,hH,decide_eq_false (show ¬ 12<=e.vs.length by omega),Bool.not_true,Bool.and_false];rfl
   refine hc.a 0 rfl rfl ?_
   refine hc.s 2 rfl fun wS hS hc=>?_
   have hpl0:=posK_le s.l d.key
   have hnc:=hR.1
   have hfl:css.flatten.length=s.l.length*2:=by rw [hE.flat.len,hE.len]
   refine⟨_,hc.cell 5 rfl _ rfl,?_⟩
   refine⟨⟨Int.le_refl _,Int.natCast_nonneg _,by omega,Int.le_refl _⟩,?_⟩
   have hc:=hc.nil 50 2
   have hfr:=hR.front 2 (k:=posK s.l d.key) (by omega)
   refine app_rowF Tryz.underlying39 info_E rfl (by decide) hc (hfr.below hc.below) (by rw [List.length_take,hfl];exact Nat.min_eq_left (Nat.mul_le_mul_right _ hpl0)) (by rw [<-hE.flat.flat_take];exact (hE.flat.take _).ones) (by omega) (by decide) rfl ?_ ?_
   ·show Value.slice (if (cap:Int)=0 then (some ad) else Option.map (·.add ((0:Int).toNat*2)) (some ad)) ((posK s.l d.key:Int)-0).toNat ((cap:Int)-0).toNat=_
    rw [front_eq]
    congr 1<;>omega
   intro A6 cap6 w26 hc
   refine⟨_,hc.cell 2 rfl _ rfl,?_⟩
   refine split_t (decide_eq_true (show (0:Int)<(vs.length:Int) by omega)) ?_
   refine hc.a 2 rfl rfl ?_
   refine hc.n fun gb w27 h27 hc=>?_
   refine app_ownF Tryz.underlying39 info_E rfl (by decide) hc (ys:=[.string e.key,.slice A2 vs.length cap2]) (m:=1) rfl (hc.cells 0 rfl) rfl (by omega) (by decide) rfl rfl ?_
   intro A7 cap7 w28 hc
   have hc:=hc.drop
   have hwk:IntKind.i64.wrap ((posK s.l d.key:Int)+1)=((posK s.l d.key+1:Nat):Int):=i_down (by omega)
   refine vD (.Q [0,1,2,3,4,6] (.n 5 (.q 7 (.z 8)) .stop)) (fun x=>Blk x g2 43 (stC s (some ad) cap B cap' l0 l1 l2 l3 l4)/\Blk x g9 54 _) ⟨hc.blk 5 rfl,hc.blk 1 rfl⟩ ?_
   refine⟨_,fun x hx=>hx.1.cell 1,?_⟩
   refine⟨⟨by rw [hwk];omega,by rw [hwk];omega,by omega,by omega⟩,?_⟩
   refine⟨_,?_,fun x hx=>drop_cells hx.2 0 _ 0 (fun j v hj=>by simpa using hj),?_⟩
   ·rfl
   have hc:=hc.drew
   refine⟨?_,trivial⟩
   have hbk:=hR.back 2 hfl (posK s.l d.key+1) (IntKind.i64.wrap ((posK s.l d.key:Int)+1)) hwk (by omega)
   refine app_rowF Tryz.underlying39 info_E rfl (by decide) hc (hbk.below hc.below) (by rw [List.length_drop,hfl,<-Nat.sub_mul]) (by rw [<-hE.flat.flat_drop];exact (hE.flat.drop _).ones) (by omega) (by decide) rfl ?_ ?_
   ·show Value.slice (if (cap:Int)=IntKind.i64.wrap ((posK s.l d.key:Int)+1) then (some ad) else Option.map (·.add ((IntKind.i64.wrap ((posK s.l d.key:Int)+1)).toNat*2)) (some ad)) ((s.l.length:Int)-IntKind.i64.wrap ((posK s.l d.key:Int)+1)).toNat ((cap:Int)-IntKind.i64.wrap ((posK s.l d.key:Int)+1)).toNat=_
    congr 1<;>(rw [hwk];omega)
   intro A9 cap9 w30 hc
   refine⟨⟨hc.blk 5 rfl,hc.blk 1 rfl⟩,?_⟩
   refine hc.s 3 rfl fun wS hS hc=>?_
   obtain⟨S9,_,hc⟩:=hc.told
   refine hc.a 3 rfl rfl ?_
   have ho:=hc.out
   have hpl:=posK_le s.l d.key
   rw [ek]
   have hlen:(putK s.l d.key true [⟨e.key,vs⟩]).length=0+posK s.l d.key+1+(s.l.length-(posK s.l d.key+1)):=by unfold putK;rw [if_pos rfl,List.length_append,List.length_append,List.length_take,List.length_drop];show min (posK s.l d.key) s.l.length+1+_=_;omega
   refine⟨A9,cap9,css.take (posK s.l d.key)++[[.string e.key,.slice A2 vs.length cap2]]++css.drop (posK s.l d.key+1),?_,hc.below,?_,?_⟩
   ·simp only [hlen]
    rfl
   ·refine ((ho.1.1.1.take _).append ?_).append (ho.1.1.1.drop _)
    exact⟨_,_,rfl,⟨A2,cap2,rfl,ho.1.2⟩,rfl⟩
   ·simp only [hlen]
    rw [List.flatten_append,List.flatten_append,hE.flat.flat_take,hE.flat.flat_drop,List.flatten_cons,List.flatten_nil,List.append_nil]
    exact ho.2
  ·skip
   refine⟨_,hc.cell 3 rfl _ rfl,?_⟩
   refine split_t k3 ?_
   refine hc.a 1 rfl rfl ?_
   refine⟨_,hc.cell 3 rfl _ rfl,?_⟩
   refine⟨(rpurge_any e d.ver A1 cap1 hel S _ (hRe.below hc.below)).mono fun en w13 hq=>?_⟩
   unfold RetA purgeE at hq
   cases hj:idxV e.vs d.ver with
   | none=>
    rw [hj] at hq
    obtain⟨e1,h13⟩:=hq
    have hc:=(hc.quiet h13).1
    refine⟨_,e1,?_⟩
    refine hc.n fun g10 wg10 hg10 hc=>?_
    refine hc.s 0 rfl fun wS hS hc=>?_
    rw [show doK s.l s.seq d=(s.l,⟨6,0⟩) by rw [hD,k3];unfold purgeK;rw [hj];rfl]
    refine⟨_,hc.cell 5 rfl _ rfl,?_⟩
    refine hc.s 3 rfl fun wS hS hc=>?_
    refine hc.a 3 rfl rfl ?_
    exact⟨(some ad),cap,css,rfl,hc.below,hc.out.1,hc.out.2⟩
   | some j=>
    rw [hj] at hq
    obtain⟨A2,cap2,e1,h13,ho⟩:=hq
    simp only at e1 ho
    have ek:doK s.l s.seq d=(putK s.l d.key true (if (e.vs.take j++e.vs.drop (j+1)).length=0 then [] else [⟨e.key,e.vs.take j++e.vs.drop (j+1)⟩]),⟨0,d.ver⟩):=by
     rw [hD,k3]
     unfold purgeK putK
     rw [hj]
     rfl
    have hvl:(e.vs.take j++e.vs.drop (j+1)).length<=e.vs.length:=by rw [List.length_append,List.length_take,List.length_drop];omega
    generalize e.vs.take j++e.vs.drop (j+1)=vs at*
    have hc:=hc.fresh h13 ho
    obtain⟨S1,hs1,hc⟩:=hc.told
    refine⟨_,e1,?_⟩
    refine hc.n fun g10 wg10 hg10 hc=>?_
    refine hc.s 0 rfl fun wS hS hc=>?_
    refine vD (.Q [0,1,2] (.n 3 (.q 4 (.z 5)) .stop)) (fun x=>Blk x g10 50 _/\Blk x g3 32 (dC d)) ⟨hc.blk 0 rfl,hc.blk 4 rfl⟩ ?_
    refine⟨_,?_,fun x hx=>drop_cells hx.1 0 _ 0 (fun j v hj=>by simpa using hj),?_⟩
    ·rfl
    refine⟨_,fun x hx=>hx.2.cell 3,?_⟩
    have hc:=hc.drew
    refine⟨hc.s 2 rfl fun wS hS hc=>?_,trivial⟩
    refine⟨⟨hc.blk 0 rfl,hc.blk 4 rfl⟩,?_⟩
    refine hc.s 1 rfl fun wS hS hc=>?_
    have hpl0:=posK_le s.l d.key
    have hnc:=hR.1
    have hfl:css.flatten.length=s.l.length*2:=by rw [hE.flat.len,hE.len]
    refine⟨_,hc.cell 5 rfl _ rfl,?_⟩
    refine⟨⟨Int.le_refl _,Int.natCast_nonneg _,by omega,Int.le_refl _⟩,?_⟩
    have hc:=hc.nil 50 2
    have hfr:=hR.front 2 (k:=posK s.l d.key) (by omega)
    refine app_rowF Tryz.underlying39 info_E rfl (by decide) hc (hfr.below hc.below) (by rw [List.length_take,hfl];exact Nat.min_eq_left (Nat.mul_le_mul_right _ hpl0)) (by rw [<-hE.flat.flat_take];exact (hE.flat.take _).ones) (by omega) (by decide) rfl ?_ ?_
    ·show Value.slice (if (cap:Int)=0 then (some ad) else Option.map (·.add ((0:Int).toNat*2)) (some ad)) ((posK s.l d.key:Int)-0).toNat ((cap:Int)-0).toNat=_
     rw [front_eq]
     congr 1<;>omega
    intro A6 cap6 w26 hc
    refine⟨_,hc.cell 2 rfl _ rfl,?_⟩
    by_cases h0:vs.length=0
    ·refine split_f (decide_eq_false (show ¬ (0:Int)<(vs.length:Int) by omega)) ?_
     rw [if_pos h0] at ek
     have hwk:IntKind.i64.wrap ((posK s.l d.key:Int)+1)=((posK s.l d.key+1:Nat):Int):=i_down (by omega)
     refine vD (.Q [0,1,2,3,4,6] (.n 5 (.q 7 (.z 8)) .stop)) (fun x=>Blk x g2 43 (stC s (some ad) cap B cap' l0 l1 l2 l3 l4)/\Blk x g9 54 _) ⟨hc.blk 5 rfl,hc.blk 1 rfl⟩ ?_
     refine⟨_,fun x hx=>hx.1.cell 1,?_⟩
     refine⟨⟨by rw [hwk];omega,by rw [hwk];omega,by omega,by omega⟩,?_⟩
     refine⟨_,?_,fun x hx=>drop_cells hx.2 0 _ 0 (fun j v hj=>by simpa using hj),?_⟩
     ·rfl
     have hc:=hc.drew
     refine⟨?_,trivial⟩
     have hbk:=hR.back 2 hfl (posK s.l d.key+1) (IntKind.i64.wrap ((posK s.l d.key:Int)+1)) hwk (by omega)
     refine app_rowF Tryz.underlying39 info_E rfl (by decide) hc (hbk.below hc.below) (by rw [List.length_drop,hfl,<-Nat.sub_mul]) (by rw [<-hE.flat.flat_drop];exact (hE.flat.drop _).ones) (by omega) (by decide) rfl ?_ ?_
     ·show Value.slice (if (cap:Int)=IntKind.i64.wrap ((posK s.l d.key:Int)+1) then (some ad) else Option.map (·.add ((IntKind.i64.wrap ((posK s.l d.key:Int)+1)).toNat*2)) (some ad)) ((s.l.length:Int)-IntKind.i64.wrap ((posK s.l d.key:Int)+1)).toNat ((cap:Int)-IntKind.i64.wrap ((posK s.l d.key:Int)+1)).toNat=_
      congr 1<;>(rw [hwk];omega)
     intro A9 cap9 w30 hc
     refine⟨⟨hc.blk 5 rfl,hc.blk 1 rfl⟩,?_⟩
     refine hc.s 3 rfl fun wS hS hc=>?_
     obtain⟨S9,_,hc⟩:=hc.told
     refine hc.a 3 rfl rfl ?_
     have ho:=hc.out
     have hpl:=posK_le s.l d.key
     rw [ek]
     have hlen:(putK s.l d.key true []).length=0+posK s.l d.key+(s.l.length-(posK s.l d.key+1)):=by unfold putK;rw [if_pos rfl,List.append_nil,List.length_append,List.length_take,List.length_drop];omega
     have hput:putK s.l d.key true []=s.l.take (posK s.l d.key)++s.l.drop (posK s.l d.key+1):=by unfold putK;rw [if_pos rfl,List.append_nil]
     refine⟨A9,cap9,css.take (posK s.l d.key)++css.drop (posK s.l d.key+1),?_,hc.below,?_,?_⟩
     ·simp only [hlen]
      rfl
     ·simp only [hput]
      exact (ho.1.1.1.take _).append (ho.1.1.1.drop _)
     ·simp only [hlen]
      rw [List.flatten_append,hE.flat.flat_take,hE.flat.flat_drop]
      exact ho.2
    ·skip
     refine split_t (decide_eq_true (show (0:Int)<(vs.length:Int) by omega)) ?_
     refine hc.a 2 rfl rfl ?_
     refine hc.n fun gb w27 h27 hc=>?_
     refine app_ownF Tryz.underlying39 info_E rfl (by decide) hc (ys:=[.string e.key,.slice A2 vs.length cap2]) (m:=1) rfl (hc.cells 0 rfl) rfl (by omega) (by decide) rfl rfl ?_
     intro A7 cap7 w28 hc
     have hc:=hc.drop
     rw [if_neg h0] at ek
     have hwk:IntKind.i64.wrap ((posK s.l d.key:Int)+1)=((posK s.l d.key+1:Nat):Int):=i_down (by omega)
     refine vD (.Q [0,1,2,3,4,6] (.n 5 (.q 7 (.z 8)) .stop)) (fun x=>Blk x g2 43 (stC s (some ad) cap B cap' l0 l1 l2 l3 l4)/\Blk x g9 54 _) ⟨hc.blk 5 rfl,hc.blk 1 rfl⟩ ?_
     refine⟨_,fun x hx=>hx.1.cell 1,?_⟩
     refine⟨⟨by rw [hwk];omega,by rw [hwk];omega,by omega,by omega⟩,?_⟩
     refine⟨_,?_,fun x hx=>drop_cells hx.2 0 _ 0 (fun j v hj=>by simpa using hj),?_⟩
     ·rfl
     have hc:=hc.drew
     refine⟨?_,trivial⟩
     have hbk:=hR.back 2 hfl (posK s.l d.key+1) (IntKind.i64.wrap ((posK s.l d.key:Int)+1)) hwk (by omega)
     refine app_rowF Tryz.underlying39 info_E rfl (by decide) hc (hbk.below hc.below) (by rw [List.length_drop,hfl,<-Nat.sub_mul]) (by rw [<-hE.flat.flat_drop];exact (hE.flat.drop _).ones) (by omega) (by decide) rfl ?_ ?_
     ·show Value.slice (if (cap:Int)=IntKind.i64.wrap ((posK s.l d.key:Int)+1) then (some ad) else Option.map (·.add ((IntKind.i64.wrap ((posK s.l d.key:Int)+1)).toNat*2)) (some ad)) ((s.l.length:Int)-IntKind.i64.wrap ((posK s.l d.key:Int)+1)).toNat ((cap:Int)-IntKind.i64.wrap ((posK s.l d.key:Int)+1)).toNat=_
      congr 1<;>(rw [hwk];omega)
     intro A9 cap9 w30 hc
     refine⟨⟨hc.blk 5 rfl,hc.blk 1 rfl⟩,?_⟩
     refine hc.s 3 rfl fun wS hS hc=>?_
     obtain⟨S9,_,hc⟩:=hc.told
     refine hc.a 3 rfl rfl ?_
     have ho:=hc.out
     have hpl:=posK_le s.l d.key
     rw [ek]
     have hlen:(putK s.l d.key true [⟨e.key,vs⟩]).length=0+posK s.l d.key+1+(s.l.length-(posK s.l d.key+1)):=by unfold putK;rw [if_pos rfl,List.length_append,List.length_append,List.length_take,List.length_drop];show min (posK s.l d.key) s.l.length+1+_=_;omega
     refine⟨A9,cap9,css.take (posK s.l d.key)++[[.string e.key,.slice A2 vs.length cap2]]++css.drop (posK s.l d.key+1),?_,hc.below,?_,?_⟩
     ·simp only [hlen]
      rfl
     ·refine ((ho.1.1.1.take _).append ?_).append (ho.1.1.1.drop _)
      exact⟨_,_,rfl,⟨A2,cap2,rfl,ho.1.2⟩,rfl⟩
     ·simp only [hlen]
      rw [List.flatten_append,List.flatten_append,hE.flat.flat_take,hE.flat.flat_drop,List.flatten_cons,List.flatten_nil,List.append_nil]
      exact ho.2
 ·refine split_t k1 ?_
  have k3:(d.kind==3)=false:=by
   have:d.kind=1:=by simpa using k1
   rw [this];rfl
  have k2:(d.kind==2)=false:=by
   have:d.kind=1:=by simpa using k1
   rw [this];rfl
  refine hc.a 1 rfl rfl ?_
  refine⟨_,hc.cell 3 rfl _ rfl,?_⟩
  refine⟨_,hc.cell 3 rfl _ rfl,?_⟩
  refine hc.q (rholds_any e d.cond d.tag A1 cap1 S _ (hRe.below hc.below) heb) fun wQ hQ hc=>?_
  rcases Bool.eq_false_or_eq_true (holdsE e d.cond d.tag) with hh | hh
  rotate_left
  ·refine split_t (by show (!holdsE e d.cond d.tag)=true;rw [hh];rfl) ?_
   rw [show doK s.l s.seq d=(s.l,⟨9,0⟩) by rw [hD,k3,k1,hh];rfl]
   refine⟨_,hc.cell 4 rfl _ rfl,?_⟩
   refine hc.s 2 rfl fun wS hS hc=>?_
   refine hc.a 2 rfl rfl ?_
   exact⟨(some ad),cap,css,rfl,hc.below,hc.out.1,hc.out.2⟩
  refine split_f (by show (!holdsE e d.cond d.tag)=false;rw [hh];rfl) ?_
  have hH:(d.kind==1&&!holdsE e d.cond d.tag)=false:=by rw [hh,Bool.not_true,Bool.and_false]
  refine⟨_,hc.cell 3 rfl _ rfl,?_⟩
  refine split_f (by show (!(d.kind==1))=false;rw [k1];rfl) ?_
  refine⟨_,hc.cell 3 rfl _ rfl,?_⟩
  refine split_f k3 ?_
  refine hc.a 1 rfl rfl ?_
  refine⟨_,hc.cell 4 rfl _ rfl,?_⟩
  refine⟨_,hc.cell 3 rfl _ rfl,?_⟩
  refine⟨_,hc.cell 3 rfl _ rfl,?_⟩
  refine⟨(radd_any' e ⟨s.seq,d.kind==2,d.body⟩ A1 cap1 hel S _ (hRe.below hc.below)).mono fun en w13 hq=>?_⟩
  rcases Nat.lt_or_ge e.vs.length 12 with h12 | h12
  rotate_left
  ·have hadd:addE e ⟨s.seq,d.kind==2,d.body⟩=(e,false):=by rw [addE,if_pos (.inr h12)]
   rw [hadd] at hq
   obtain⟨e1,h13⟩:=hq
   have hc:=(hc.quiet h13).1
   refine⟨_,e1,?_⟩
   refine hc.n fun g12 wg12 hg12 hc=>?_
   refine hc.s 0 rfl fun wS hS hc=>?_
   rw [show doK s.l s.seq d=(s.l,⟨5,0⟩) by rw [hD,k3,hH,decide_eq_true h12,Bool.not_true,Bool.and_false];rfl]
   refine⟨_,hc.cell 5 rfl _ rfl,?_⟩
   refine hc.s 3 rfl fun wS hS hc=>?_
   refine hc.a 3 rfl rfl ?_
   exact⟨(some ad),cap,css,rfl,hc.below,hc.out.1,hc.out.2⟩
  have hadd:addE e ⟨s.seq,d.kind==2,d.body⟩=(⟨e.key,e.vs++[⟨s.seq,d.kind==2,d.body⟩]⟩,true):=by
   rw [addE,if_neg]
   rintro (h' | h')
   ·have:=hev h'.1;exact absurd h'.2 (by show ¬ s.seq<=(lastV e.vs).ver;omega)
   ·omega
  rw [hadd] at hq
  obtain⟨vs,hvs⟩:∃ vs:List Ver,vs=e.vs++[⟨s.seq,d.kind==2,d.body⟩]:=⟨_,rfl⟩
  have hvl:vs.length=e.vs.length+1:=by rw [hvs,List.length_append];rfl
  rw [<-hvs] at hq
  obtain⟨A2,cap2,e1,h13,ho⟩:=hq
  simp only at e1 ho
  have hc:=hc.fresh h13 ho
  obtain⟨S1,hs1,hc⟩:=hc.told
  refine⟨_,e1,?_⟩
  refine hc.n fun g12 wg12 hg12 hc=>?_
  refine hc.s 0 rfl fun wS hS hc=>?_
  have ek:doK s.l s.seq d=(putK s.l d.key true [⟨e.key,vs⟩],⟨0,s.seq⟩):=by rw [hvs,hD,k3,hH,decide_eq_false (show ¬ 12<=e.vs.length by omega),Bool.not_true,Bool.and_false];rfl
  refine hc.a 0 rfl rfl ?_
  refine hc.s 2 rfl fun wS hS hc=>?_
  have hpl0:=posK_le s.l d.key
  have hnc:=hR.1
  have hfl:css.flatten.length=s.l.length*2:=by rw [hE.flat.len,hE.len]
  refine⟨_,hc.cell 5 rfl _ rfl,?_⟩
  refine⟨⟨Int.le_refl _,Int.natCast_nonneg _,by omega,Int.le_refl _⟩,?_⟩
  have hc:=hc.nil 50 2
  have hfr:=hR.front 2 (k:=posK s.l d.key) (by omega)
  refine app_rowF Tryz.underlying39 info_E rfl (by decide) hc (hfr.below hc.below) (by rw [List.length_take,hfl];exact Nat.min_eq_left (Nat.mul_le_mul_right _ hpl0)) (by rw [<-hE.flat.flat_take];exact (hE.flat.take _).ones) (by omega) (by decide) rfl ?_ ?_
  ·show Value.slice (if (cap:Int)=0 then (some ad) else Option.map (·.add ((0:Int).toNat*2)) (some ad)) ((posK s.l d.key:Int)-0).toNat ((cap:Int)-0).toNat=_
   rw [front_eq]
   congr 1<;>omega
  intro A6 cap6 w26 hc
  refine⟨_,hc.cell 2 rfl _ rfl,?_⟩
  refine split_t (decide_eq_true (show (0:Int)<(vs.length:Int) by omega)) ?_
  refine hc.a 2 rfl rfl ?_
  refine hc.n fun gb w27 h27 hc=>?_
  refine app_ownF Tryz.underlying39 info_E rfl (by decide) hc (ys:=[.string e.key,.slice A2 vs.length cap2]) (m:=1) rfl (hc.cells 0 rfl) rfl (by omega) (by decide) rfl rfl ?_
  intro A7 cap7 w28 hc
  have hc:=hc.drop
  have hwk:IntKind.i64.wrap ((posK s.l d.key:Int)+1)=((posK s.l d.key+1:Nat):Int):=i_down (by omega)
  refine vD (.Q [0,1,2,3,4,6] (.n 5 (.q 7 (.z 8)) .stop)) (fun x=>Blk x g2 43 (stC s (some ad) cap B cap' l0 l1 l2 l3 l4)/\Blk x g9 54 _) ⟨hc.blk 5 rfl,hc.blk 1 rfl⟩ ?_
  refine⟨_,fun x hx=>hx.1.cell 1,?_⟩
  refine⟨⟨by rw [hwk];omega,by rw [hwk];omega,by omega,by omega⟩,?_⟩
  refine⟨_,?_,fun x hx=>drop_cells hx.2 0 _ 0 (fun j v hj=>by simpa using hj),?_⟩
  ·rfl
  have hc:=hc.drew
  refine⟨?_,trivial⟩
  have hbk:=hR.back 2 hfl (posK s.l d.key+1) (IntKind.i64.wrap ((posK s.l d.key:Int)+1)) hwk (by omega)
  refine app_rowF Tryz.underlying39 info_E rfl (by decide) hc (hbk.below hc.below) (by rw [List.length_drop,hfl,<-Nat.sub_mul]) (by rw [<-hE.flat.flat_drop];exact (hE.flat.drop _).ones) (by omega) (by decide) rfl ?_ ?_
  ·show Value.slice (if (cap:Int)=IntKind.i64.wrap ((posK s.l d.key:Int)+1) then (some ad) else Option.map (·.add ((IntKind.i64.wrap ((posK s.l d.key:Int)+1)).toNat*2)) (some ad)) ((s.l.length:Int)-IntKind.i64.wrap ((posK s.l d.key:Int)+1)).toNat ((cap:Int)-IntKind.i64.wrap ((posK s.l d.key:Int)+1)).toNat=_
   congr 1<;>(rw [hwk];omega)
  intro A9 cap9 w30 hc
  refine⟨⟨hc.blk 5 rfl,hc.blk 1 rfl⟩,?_⟩
  refine hc.s 3 rfl fun wS hS hc=>?_
  obtain⟨S9,_,hc⟩:=hc.told
  refine hc.a 3 rfl rfl ?_
  have ho:=hc.out
  have hpl:=posK_le s.l d.key
  rw [ek]
  have hlen:(putK s.l d.key true [⟨e.key,vs⟩]).length=0+posK s.l d.key+1+(s.l.length-(posK s.l d.key+1)):=by unfold putK;rw [if_pos rfl,List.length_append,List.length_append,List.length_take,List.length_drop];show min (posK s.l d.key) s.l.length+1+_=_;omega
  refine⟨A9,cap9,css.take (posK s.l d.key)++[[.string e.key,.slice A2 vs.length cap2]]++css.drop (posK s.l d.key+1),?_,hc.below,?_,?_⟩
  ·simp only [hlen]
   rfl
  ·refine ((ho.1.1.1.take _).append ?_).append (ho.1.1.1.drop _)
   exact⟨_,_,rfl,⟨A2,cap2,rfl,ho.1.2⟩,rfl⟩
  ·simp only [hlen]
   rw [List.flatten_append,List.flatten_append,hE.flat.flat_take,hE.flat.flat_drop,List.flatten_cons,List.flatten_nil,List.append_nil]
   exact ho.2
theorem res_any (s:Stt) (d:D) (hmk:d.kind=1\/d.kind=2\/d.kind=3) (A B:Option Addr) (cap cap':Nat) (l0 l1 l2 l3 l4:Int) (el:s.lows=[l0,l1,l2,l3,l4]) (css:List (List Value)) (S:Nat->Prop) (w:World) (hE:RepEs S w s.l css) (hR:Row S w A s.l.length cap css.flatten) (hM:Row S w B s.ms.length cap' (s.ms.map memC).flatten)
  (hn:s.l.length<=1000000) (hok:∀ e∈s.l,e.vs.length<=1000000/\(e.vs.length≠0->(lastV e.vs).ver<s.seq)/\(nowE e).1.body.size<=maxLen):
  Calls Tryz.prog 58 #[.agg (stC s A cap B cap' l0 l1 l2 l3 l4).toArray,.agg (dC d).toArray] w (RetR S (doK s.l s.seq d) w):=by
 cases hq:entAt s.l d.key with
 | none=>exact (res_none s d hmk A B cap cap' l0 l1 l2 l3 l4 el css _ w (fun b h=>h.2) hE.cutS (Row.cutS hR) (Row.cutS hM) hn hok hq).mono fun _ _ h=>h.wide
 | some e=>exact (res_has s d hmk A B cap cap' l0 l1 l2 l3 l4 el css _ w (fun b h=>h.2) hE.cutS (Row.cutS hR) (Row.cutS hM) hn hok e hq).mono fun _ _ h=>h.wide
set_option maxRecDepth 100000
set_option maxHeartbeats 4000000 in
theorem rdo_any (s:Stt) (d:D) (hk:s.Ok) (hd:d.Ok) (cs:List Value) (S:Nat->Prop) (w:World) (hlt:∀ b,S b->b<w.heap.size) (hs:RepS S w s cs):Calls Tryz.prog 28 #[.agg cs.toArray,.agg (dC d).toArray] w (RetDo (doS s d) S w):=by
 obtain⟨A,cap,css,B,cap',l0,l1,l2,l3,l4,rfl,el,hE,hR,hM⟩:=hs.shape
 refine vE Tryz.func28 ?_
 intro g2 w1 h1
 have hc:=((CtxF.start w S hlt (R:=know1 s.l css A cap s.ms B cap') ⟨hE,hR,hM⟩ know1_stab).loc h1).1
 refine hc.n fun g3 wg3 hg3 hc=>?_
 refine hc.n fun g4 wg4 hg4 hc=>?_
 refine hc.n fun g5 wg5 hg5 hc=>?_
 refine hc.a 3 rfl rfl ?_
 refine hc.q (rmayS_any s hk _ S _ (hs.below hc.below)) fun wQ hQ hc=>?_
 have same:∀ (w':World) (r:Res),Below w.heap.size w w'->doS s d=(s,r)->RetDo (doS s d) S w (.returned (.tuple #[.agg (stC s A cap B cap' l0 l1 l2 l3 l4).toArray,.agg #[.int .i64 r.err,.int .i64 r.ver]])) w':=fun w' r hb e=>by
  rw [e]
  exact⟨_,rfl,hb,hs.map (fun h=>h.old hb)⟩
 rcases Bool.eq_false_or_eq_true (mayS s) with hm | hm
 rotate_left
 ·refine split_t (by show (!mayS s)=true;rw [hm];rfl) ?_
  refine hc.a 3 rfl rfl ?_
  refine hc.s 1 rfl fun wS hS hc=>?_
  refine hc.s 0 rfl fun wS hS hc=>?_
  refine hc.a 1 rfl rfl ?_
  refine hc.a 0 rfl rfl ?_
  exact same _ ⟨1,0⟩ hc.below (by simp [doS,hm])
 refine split_f (by show (!mayS s)=false;rw [hm];rfl) ?_
 refine hc.a 2 rfl rfl ?_
 refine hc.q (rmay_any d hd _) fun wQ hQ hc=>?_
 rcases Bool.eq_false_or_eq_true (mayD d) with hmd | hmd
 rotate_left
 ·refine split_t (by show (!mayD d)=true;rw [hmd];rfl) ?_
  refine hc.a 3 rfl rfl ?_
  refine hc.s 1 rfl fun wS hS hc=>?_
  refine hc.s 0 rfl fun wS hS hc=>?_
  refine hc.a 1 rfl rfl ?_
  refine hc.a 0 rfl rfl ?_
  exact same _ ⟨1,0⟩ hc.below (by simp [doS,hmd])
 refine split_f (by show (!mayD d)=false;rw [hmd];rfl) ?_
 refine hc.a 3 rfl rfl ?_
 refine⟨_,hc.cell 2 rfl _ rfl,?_⟩
 refine hc.q (rmemo_any s d.req _ S _ (hs.below hc.below)) fun wQ hQ hc=>?_
 refine⟨_,hc.cell 3 rfl _ rfl,?_⟩
 rcases Int.lt_or_le s.seq maxN with hq | hq
 rotate_left
 ·refine split_t (decide_eq_true (show (1099511627776:Int)<=s.seq from hq)) ?_
  refine hc.a 3 rfl rfl ?_
  refine hc.s 1 rfl fun wS hS hc=>?_
  refine hc.s 0 rfl fun wS hS hc=>?_
  refine hc.a 1 rfl rfl ?_
  refine hc.a 0 rfl rfl ?_
  exact same _ ⟨5,0⟩ hc.below (by simp [doS,hm,hmd,hq])
 have hq:s.seq<1099511627776:=hq
 refine split_f (decide_eq_false (show ¬ (1099511627776:Int)<=s.seq by omega)) ?_
 clear same
 obtain⟨⟨hq0,_⟩,⟨hl40,hm100⟩,hris,_,hmem⟩:=mayS_parts.1 hm
 have hhr:=homeI_range d.req
 have hh0:=mayD_home hmd
 have hr15:1<=homeI d.req/\homeI d.req<=5:=by omega
 refine⟨_,hc.cell 3 rfl _ rfl,?_⟩
 have hw1:IntKind.i64.wrap (s.seq+1)=s.seq+1:=wrap_add _ _ (by omega) (by omega)
 refine⟨hc.may 3 rfl _ _ (nle rfl) rfl,?_⟩
 intro w5 h5
 rw [hw1] at h5
 have hc:=(hc.set 3 rfl h5).1
 have hc:CtxF S w S w5 [(g5,54,[.int .i64 0,.int .i64 0]),(g4,43,(lay.ty 43).zero),(g3,32,dC d),(g2,43,[.int .i64 (s.seq+1),.slice A s.l.length cap,.slice B s.ms.length cap',.int .i64 l0,.int .i64 l1,.int .i64 l2,.int .i64 l3,.int .i64 l4])] [] (know1 s.l css A cap s.ms B cap'):=hc
 refine⟨_,hc.cell 2 rfl _ rfl,?_⟩
 refine hc.q (rhome_any d.req _ hd.req.1 hd.req.2) fun wQ hQ hc=>?_
 have hw2:IntKind.i64.wrap (homeI d.req-1)=homeI d.req-1:=by rw [IntWalk.i64_in _ ⟨by omega,by omega⟩]
 have hs1:RepS S w ⟨s.seq+1,s.l,s.ms,s.lows⟩ [.int .i64 (s.seq+1),.slice A s.l.length cap,.slice B s.ms.length cap',.int .i64 l0,.int .i64 l1,.int .i64 l2,.int .i64 l3,.int .i64 l4]:=RepS.mk' el hE hR hM
 have same:∀ (w':World) (r:Res),Below w.heap.size w w'->doS s d=(⟨s.seq+1,s.l,s.ms,s.lows⟩,r)->RetDo (doS s d) S w (.returned (.tuple #[.agg #[.int .i64 (s.seq+1),.slice A s.l.length cap,.slice B s.ms.length cap',.int .i64 l0,.int .i64 l1,.int .i64 l2,.int .i64 l3,.int .i64 l4],.agg #[.int .i64 r.err,.int .i64 r.ver]])) w':=fun w' r hb e=>by
  rw [e]
  exact⟨_,rfl,hb,hs1.map (fun h=>h.old hb)⟩
 have hnq:¬ maxN<=s.seq:=by show ¬ 1099511627776<=s.seq;omega
 have hlc:=lows_cell (hc.blk 3 rfl) (homeI d.req) (IntKind.i64.wrap (homeI d.req-1)) hr15 hw2
 rw [<-el] at hlc
 refine vD (.Q [0,1,2,3,4,5,6,7] .fin) (Keeps (fun b=>b<wQ.heap.size) wQ) (Keeps.start _ _) ?_
 refine⟨_,fun x hx=>hx.look (hc.cell 2 rfl _ rfl),?_⟩
 refine⟨⟨by rw [hw2];omega,by rw [hw2];omega⟩,?_⟩
 generalize hae:((⟨g2,0+3,none⟩:Addr).add ((IntKind.i64.wrap (homeI d.req-1)).toNat*1))=ae at hlc ⊢
 obtain⟨ab,ao,asub⟩:=ae
 refine⟨_,fun x hx=>hx.look hlc,?_⟩
 have hc:=hc.drew
 rcases Int.lt_or_le d.req (lowAt s.lows (homeI d.req)) with ho | ho
 ·refine split_t (decide_eq_true ho) ?_
  refine hc.a 3 rfl rfl ?_
  refine hc.s 1 rfl fun wS hS hc=>?_
  refine hc.s 0 rfl fun wS hS hc=>?_
  refine hc.a 1 rfl rfl ?_
  refine hc.a 0 rfl rfl ?_
  exact same _ ⟨12,0⟩ hc.below (by simp [doS,hm,hmd,hnq,ho])
 refine split_f (decide_eq_false (show ¬ d.req<lowAt s.lows (homeI d.req) by omega)) ?_
 have hno:¬ d.req<lowAt s.lows (homeI d.req):=by omega
 cases hmm:memAt s.ms d.req with
 | some m=>
  have hmi:s.ms[posM s.ms d.req]?=some m:=by
   unfold memAt at hmm
   cases e1:s.ms[posM s.ms d.req]? with
   | none=>rw [e1] at hmm;cases hmm
   | some x=>
    rw [e1] at hmm
    simp only at hmm
    split at hmm
    ·exact hmm
    ·cases hmm
  obtain⟨hlt2,hge⟩:=List.getElem?_eq_some_iff.1 hmi
  obtain⟨ad,ab,ao,asub,rfl,hae,hSb,_,hcell⟩:=RowM.elemR hM (posM s.ms d.req) hlt2
  rw [hge] at hcell
  have hc:=hc.know (hc.old (stab_at ⟨ab,ao+1,none⟩ [.int .i64 m.res.err,.int .i64 m.res.ver]) ⟨hSb,hcell⟩ hlt) (stab_at _ _)
  refine vD (.Q [0,1,2,3,4,5,6] (.n 7 (.z 8) .stop)) (fun x=>Blk x g2 43 _/\Go.Vc.cellsAt x ⟨ab,ao+1,none⟩ [.int .i64 m.res.err,.int .i64 m.res.ver] 0) ⟨hc.blk 3 rfl,hc.row.2.2⟩ ?_
  refine⟨_,?_,fun x hx=>drop_cells hx.1 0 _ 0 (fun j v hj=>by simpa using hj),?_⟩
  ·rfl
  refine⟨_,fun x hx=>hx.1.cell 2,?_⟩
  refine⟨⟨Int.natCast_nonneg _,Int.ofNat_lt.2 hlt2⟩,?_⟩
  rw [<-Int.toNat_natCast (posM s.ms d.req)] at hae
  generalize ad.add ((posM s.ms d.req:Int).toNat*3)=ae at hae ⊢
  subst hae
  refine⟨_,?_,fun x hx=>hx.2,?_⟩
  ·rfl
  have hc:=hc.drew
  refine⟨hc.s 1 rfl fun wS hS hc=>?_,trivial⟩
  refine⟨⟨hc.blk 3 rfl,hc.row.2.2⟩,?_⟩
  refine hc.s 0 rfl fun wS hS hc=>?_
  refine hc.a 1 rfl rfl ?_
  refine hc.a 0 rfl rfl ?_
  exact same _ m.res hc.below (by simp [doS,hm,hmd,hnq,hno,hmm])
 | none=>
 refine⟨_,hc.cell 3 rfl _ rfl,?_⟩
 rcases Nat.lt_or_ge s.ms.length 100 with hf | hf
 rotate_left
 ·refine split_t (decide_eq_true (show (100:Int)<=(s.ms.length:Int) by omega)) ?_
  refine hc.a 3 rfl rfl ?_
  refine hc.s 1 rfl fun wS hS hc=>?_
  refine hc.s 0 rfl fun wS hS hc=>?_
  refine hc.a 1 rfl rfl ?_
  refine hc.a 0 rfl rfl ?_
  exact same _ ⟨5,0⟩ hc.below (by simp [doS,hm,hmd,hnq,ho,hno,hmm,hf])
 refine split_f (decide_eq_false (show ¬ (100:Int)<=(s.ms.length:Int) by omega)) ?_
 have hnf:¬ 100<=s.ms.length:=by omega
 refine hc.a 3 rfl rfl ?_
 refine hc.a 2 rfl rfl ?_
 refine⟨(res_any ⟨s.seq+1,s.l,s.ms,s.lows⟩ d (mayD_kind hmd) A B cap cap' l0 l1 l2 l3 l4 el css S _ (hE.below hc.below) (hR.below hc.below) (hM.below hc.below) (by show s.l.length<=_;omega) (mayS_ents hm)).mono fun en wq hq=>?_⟩
 obtain⟨A5,c5,css5,e5,h5,hE5,hR5⟩:=hq
 have hdo:doS s d=(if lowAt s.lows (homeI d.req)<d.low/\homeI d.low=homeI d.req then
   (⟨s.seq+1,(doK s.l (s.seq+1) d).1,keepM d.low (homeI d.req) (s.ms.take (posM s.ms d.req)++⟨d.req,(doK s.l (s.seq+1) d).2⟩::s.ms.drop (posM s.ms d.req)),s.lows.set (homeI d.req-1).toNat d.low⟩,(doK s.l (s.seq+1) d).2)
   else (⟨s.seq+1,(doK s.l (s.seq+1) d).1,s.ms.take (posM s.ms d.req)++⟨d.req,(doK s.l (s.seq+1) d).2⟩::s.ms.drop (posM s.ms d.req),s.lows⟩,(doK s.l (s.seq+1) d).2)):=by
  simp only [doS,hm,hmd,hnq,hno,hmm,hnf,Bool.not_true,Bool.or_false,Bool.false_eq_true,if_false]
 rw [hdo]
 clear hdo
 have hc:=(hc.call h5).1.know (X:=fun S w=>RepEs S w (doK s.l (s.seq+1) d).1 css5/\Row S w A5 (doK s.l (s.seq+1) d).1.length c5 css5.flatten) ⟨hE5,hR5⟩ (fun _ _ _ _ h f=>⟨RepEs.fut h.1 f,h.2.fut f⟩)
 clear hE5 hR5
 generalize doK s.l (s.seq+1) d=q at*
 obtain⟨ql,qr⟩:=q
 refine⟨_,e5,?_⟩
 refine hc.n fun g10 wg10 hg10 hc=>?_
 refine hc.s 0 rfl fun wS hS hc=>?_
 refine hc.s 4 rfl fun wS hS hc=>?_
 obtain⟨ms,hms⟩:∃ ms,ms=s.ms.take (posM s.ms d.req)++⟨d.req,qr⟩::s.ms.drop (posM s.ms d.req):=⟨_,rfl⟩
 have hml:ms.length=s.ms.length+1:=by
  have:=posM_le s.ms d.req
  rw [hms,List.length_append,List.length_cons,List.length_take,List.length_drop]
  omega
 have hpl:=posM_le s.ms d.req
 have hnc:=hM.1
 have hfl:(s.ms.map memC).flatten.length=s.ms.length*3:=by rw [(memC_flat _).len,List.length_map]
 refine vD (.Q [0,1,2,3,5,6,7,8,11,12,13,14] (.n 4 (.n 9 (.n 10 (.n 15 (.q 16 (.z 17)) .stop) .stop) .stop) (.n 9 (.n 4 (.n 10 (.n 15 (.q 16 (.z 17)) .stop) .stop) .stop) .stop))) (fun x=>Blk x g2 43 _/\Blk x g3 32 (dC d)/\Blk x g10 54 _) ⟨hc.blk 4 rfl,hc.blk 3 rfl,hc.blk 0 rfl⟩ ?_
 refine⟨_,fun x hx=>hx.1.cell 2,?_⟩
 refine⟨⟨Int.le_refl _,Int.natCast_nonneg _,by omega,Int.le_refl _⟩,?_⟩
 refine⟨_,fun x hx=>hx.2.1.cell 6,?_⟩
 refine⟨_,?_,fun x hx=>drop_cells hx.2.2 0 _ 0 (fun j v hj=>by simpa using hj),?_⟩
 ·rfl
 refine⟨_,fun x hx=>hx.1.cell 2,?_⟩
 refine⟨⟨by omega,by omega,by omega,by omega⟩,?_⟩
 have hc:=hc.drew
 have hfr:=hM.front 3 (k:=posM s.ms d.req) (by omega)
 have hbk:=hM.back 3 hfl (posM s.ms d.req) (posM s.ms d.req:Int) rfl (by omega)
 refine⟨?_,?_,trivial⟩
 ·skip
  have hc:=hc.nil 56 3
  refine app_rowF Tryz.underlying40 info_M rfl (by decide) hc (hfr.below hc.below) (by rw [List.length_take,hfl];exact Nat.min_eq_left (Nat.mul_le_mul_right _ hpl)) (by rw [<-(memC_flat _).flat_take];exact ((memC_flat _).take _).ones) (by omega) (by decide) rfl ?_ ?_
  ·show Value.slice (if (cap':Int)=0 then B else B.map (·.add ((0:Int).toNat*3))) ((posM s.ms d.req:Int)-0).toNat ((cap':Int)-0).toNat=_
   rw [front_eq]
   congr 1<;>omega
  intro A6 cap6 w26 hc
  refine⟨⟨hc.blk 4 rfl,hc.blk 3 rfl,hc.blk 0 rfl⟩,?_⟩
  refine⟨hc.n fun gb wgb hgb hc=>?_,trivial⟩
  refine⟨⟨hc.blk 5 rfl,hc.blk 4 rfl,hc.blk 1 rfl⟩,?_⟩
  refine⟨app_ownF Tryz.underlying40 info_M rfl (by decide) hc (ys:=memC ⟨d.req,qr⟩) (m:=1) rfl (hc.cells 0 rfl) rfl (by omega) (by decide) rfl rfl ?_,trivial⟩
  intro A7 cap7 w27 hc
  have hc:=hc.drop
  refine⟨⟨hc.blk 4 rfl,hc.blk 3 rfl,hc.blk 0 rfl⟩,?_⟩
  refine⟨app_rowF Tryz.underlying40 info_M rfl (by decide) hc (hbk.below hc.below) (by rw [List.length_drop,hfl,<-Nat.sub_mul]) (by rw [<-(memC_flat _).flat_drop];exact ((memC_flat _).drop _).ones) (by omega) (by decide) rfl ?_ ?_,trivial⟩
  ·show Value.slice (if (cap':Int)=(posM s.ms d.req:Int) then B else B.map (·.add ((posM s.ms d.req:Int).toNat*3))) ((s.ms.length:Int)-(posM s.ms d.req:Int)).toNat ((cap':Int)-(posM s.ms d.req:Int)).toNat=_
   congr 1<;>omega
  intro A8 cap8 w28 hc
  have hln:0+posM s.ms d.req+1+(s.ms.length-posM s.ms d.req)=ms.length:=by omega
  rw [hln] at hc ⊢
  refine⟨⟨hc.blk 4 rfl,hc.blk 3 rfl,hc.blk 0 rfl⟩,?_⟩
  refine hc.s 4 rfl fun wS hS hc=>?_
  have hc:CtxF S w _ wS [(g10,54,[.int .i64 qr.err,.int .i64 qr.ver]),(g5,54,[.int .i64 0,.int .i64 0]),(g4,43,(lay.ty 43).zero),(g3,32,dC d),(g2,43,[.int .i64 (s.seq+1),.slice A5 ql.length c5,.slice A8 ms.length cap8,.int .i64 l0,.int .i64 l1,.int .i64 l2,.int .i64 l3,.int .i64 l4])] [⟨56,3,A8,ms.length,cap8,_⟩] _:=hc
  obtain⟨S9,_,hc⟩:=hc.told
  have exs:([]:List Value)++(s.ms.map memC).flatten.take (posM s.ms d.req*3)++memC ⟨d.req,qr⟩++(s.ms.map memC).flatten.drop (posM s.ms d.req*3)=(ms.map memC).flatten:=by
   rw [List.nil_append,<-(memC_flat _).flat_take,<-(memC_flat _).flat_drop,insC,<-hms]
  have hc:=hc.now (X:=fun S w=>RepEs S w ql css5/\Row S w A5 ql.length c5 css5.flatten/\Row S w A8 ms.length cap8 (ms.map memC).flatten) (fun h=>⟨h.1.2.1,h.1.2.2,by rw [<-exs];exact h.2⟩) (fun _ _ _ _ h f=>⟨RepEs.fut h.1 f,h.2.1.fut f,h.2.2.fut f⟩)
  have hlc:=lows_cell (hc.blk 4 rfl) (homeI d.req) (IntKind.i64.wrap (homeI d.req-1)) hr15 hw2
  rw [<-el] at hlc
  generalize hlo:lowAt s.lows (homeI d.req)=lo at hlc
  refine vD (.Q [0,1,3] (.n 2 (.Q [4,5,6,7,8,9,10,11,12,13,14] .fin) .stop)) (Keeps (fun b=>b<wS.heap.size) wS) (Keeps.start _ _) ?_
  have hcS:=hc
  refine⟨_,fun x hx=>hx.look (hcS.cell 3 rfl _ rfl),?_⟩
  have hk1:=Keeps.start (fun b=>b<wS.heap.size) wS
  have hltS:∀ b,b<wS.heap.size->b<wS.heap.size:=fun _ h=>h
  have hc:=hc.drew
  refine⟨hc.q (rhome_any d.low _ hd.low.1 hd.low.2) fun w20 h20 hc=>?_,trivial⟩
  refine⟨hk1.below hltS h20,?_⟩
  by_cases hhl:homeI d.low=homeI d.req
  rotate_left
  ·refine split_f (by show (homeI d.low==homeI d.req)=false;simpa using hhl) ?_
   rw [if_neg (show ¬ (lo<d.low/\homeI d.low=homeI d.req) from fun h=>hhl h.2)]
   refine vD (.Q [0,1] (.n 2 (.z 3) .stop)) (fun x=>Blk x g2 43 _/\Blk x g10 54 _) ⟨hc.blk 4 rfl,hc.blk 0 rfl⟩ ?_
   refine⟨_,?_,fun x hx=>drop_cells hx.1 0 _ 0 (fun j v hj=>by simpa using hj),?_⟩
   ·rfl
   refine⟨_,?_,fun x hx=>drop_cells hx.2 0 _ 0 (fun j v hj=>by simpa using hj),?_⟩
   ·rfl
   have hc:=hc.drew
   refine⟨hc.s 2 rfl fun wS hS hc=>?_,trivial⟩
   refine⟨⟨hc.blk 4 rfl,hc.blk 0 rfl⟩,?_⟩
   refine hc.s 1 rfl fun wS hS hc=>?_
   refine hc.a 2 rfl rfl ?_
   refine hc.a 1 rfl rfl ?_
   have ho:=hc.out
   subst hms
   exact⟨_,rfl,hc.below,RepS.mk' el ho.1 ho.2.1 ho.2.2⟩
  refine split_t (by show (homeI d.low==homeI d.req)=true;simpa using hhl) ?_
  refine⟨_,fun x hx=>hx.look (hcS.cell 3 rfl _ rfl),?_⟩
  refine⟨⟨by rw [hw2];omega,by rw [hw2];omega⟩,?_⟩
  generalize hae:((⟨g2,0+3,none⟩:Addr).add ((IntKind.i64.wrap (homeI d.req-1)).toNat*1))=ae at hlc ⊢
  have hae:(⟨g2,3+(homeI d.req-1).toNat,none⟩:Addr)=ae:=by rw [<-hae,Addr.add_lit,Nat.mul_one,Nat.zero_add,hw2]
  subst hae
  refine⟨_,fun x hx=>hx.look hlc,?_⟩
  rcases Int.lt_or_le lo d.low with hlw | hlw
  rotate_left
  ·refine split_f (decide_eq_false (show ¬ lo<d.low by omega)) ?_
   rw [if_neg (show ¬ (lo<d.low/\homeI d.low=homeI d.req) from fun h=>absurd h.1 (by omega))]
   refine vD (.Q [0,1] (.n 2 (.z 3) .stop)) (fun x=>Blk x g2 43 _/\Blk x g10 54 _) ⟨hc.blk 4 rfl,hc.blk 0 rfl⟩ ?_
   refine⟨_,?_,fun x hx=>drop_cells hx.1 0 _ 0 (fun j v hj=>by simpa using hj),?_⟩
   ·rfl
   refine⟨_,?_,fun x hx=>drop_cells hx.2 0 _ 0 (fun j v hj=>by simpa using hj),?_⟩
   ·rfl
   have hc:=hc.drew
   refine⟨hc.s 2 rfl fun wS hS hc=>?_,trivial⟩
   refine⟨⟨hc.blk 4 rfl,hc.blk 0 rfl⟩,?_⟩
   refine hc.s 1 rfl fun wS hS hc=>?_
   refine hc.a 2 rfl rfl ?_
   refine hc.a 1 rfl rfl ?_
   have ho:=hc.out
   subst hms
   exact⟨_,rfl,hc.below,RepS.mk' el ho.1 ho.2.1 ho.2.2⟩
  refine split_t (decide_eq_true hlw) ?_
  rw [if_pos (show lo<d.low/\homeI d.low=homeI d.req from ⟨hlw,hhl⟩)]
  refine⟨_,hc.cell 3 rfl _ rfl,?_⟩
  refine⟨⟨by rw [hw2];omega,by rw [hw2];omega⟩,?_⟩
  generalize hae:((⟨g2,0+3,none⟩:Addr).add ((IntKind.i64.wrap (homeI d.req-1)).toNat*1))=ae
  have hae:(⟨g2,3+(homeI d.req-1).toNat,none⟩:Addr)=ae:=by rw [<-hae,Addr.add_lit,Nat.mul_one,Nat.zero_add,hw2]
  subst hae
  refine⟨hc.may 4 rfl (3+(homeI d.req-1).toNat) [.int .i64 d.low] (by show 3+(homeI d.req-1).toNat+1<=8;omega) rfl,?_⟩
  intro w21 h21
  have h21:Stored w20 ⟨g2,3+(homeI d.req-1).toNat,none⟩ [.int .i64 d.low] w21:=h21
  have hc:=(hc.set 4 rfl h21).1
  obtain⟨m0,m1,m2,m3,m4,em,ep⟩:=lows_put (.int .i64 (s.seq+1)) (.slice A5 ql.length c5) (.slice A8 ms.length cap8) l0 l1 l2 l3 l4 d.low (homeI d.req) (homeI d.req-1) hr15 rfl
  have hc:CtxF S w S9 w21 [(g10,54,[.int .i64 qr.err,.int .i64 qr.ver]),(g5,54,[.int .i64 0,.int .i64 0]),(g4,43,(lay.ty 43).zero),(g3,32,dC d),(g2,43,putAt [.int .i64 (s.seq+1),.slice A5 ql.length c5,.slice A8 ms.length cap8,.int .i64 l0,.int .i64 l1,.int .i64 l2,.int .i64 l3,.int .i64 l4] (3+(homeI d.req-1).toNat) [.int .i64 d.low])] [] _:=hc
  rw [ep] at hc
  rw [el,em]
  have hc:=hc.nil 56 3
  refine⟨Nat × Option Addr × Nat,fun x=>[(2,.pointer (some ⟨g2,0,none⟩)),(3,.pointer (some ⟨g3,0,none⟩)),(4,.pointer (some ⟨g4,0,none⟩)),(5,.pointer (some ⟨g5,0,none⟩)),(8,.int .i64 (homeI d.req)),(10,.pointer (some ⟨g10,0,none⟩)),(11,.slice x.2.1 (keepM d.low (homeI d.req) (ms.take x.1)).length x.2.2),(12,.int .i64 x.1)],
   fun x w'=>x.1<=ms.length/\∃ S',CtxF S w S' w' [(g10,54,[.int .i64 qr.err,.int .i64 qr.ver]),(g5,54,[.int .i64 0,.int .i64 0]),(g4,43,(lay.ty 43).zero),(g3,32,dC d),(g2,43,[.int .i64 (s.seq+1),.slice A5 ql.length c5,.slice A8 ms.length cap8,.int .i64 m0,.int .i64 m1,.int .i64 m2,.int .i64 m3,.int .i64 m4])] [⟨56,3,x.2.1,(keepM d.low (homeI d.req) (ms.take x.1)).length,x.2.2,((keepM d.low (homeI d.req) (ms.take x.1)).map memC).flatten⟩] (fun S w=>RepEs S w ql css5/\Row S w A5 ql.length c5 css5.flatten/\Row S w A8 ms.length cap8 (ms.map memC).flatten),
   fun x _=>ms.length-x.1,(0,none,0),⟨rfl,rfl,rfl,rfl,rfl,rfl,rfl,rfl,trivial⟩,⟨Nat.zero_le _,_,hc⟩,?_⟩
  clear hc hcS hlc
  rintro⟨i,A',n'⟩ w4 u ⟨hi,S',hc⟩
  simp only at hi hc
  refine⟨_,hc.cell 4 rfl _ rfl,?_⟩
  by_cases hlt3:i<ms.length
  ·refine split_t (decide_eq_true (by first | omega | (simp only;omega))) ?_
   obtain⟨ad,rfl,hcell⟩:=RowM.elem hc.row.2.2 i hlt3
   refine⟨_,hc.cell 4 rfl _ rfl,?_⟩
   refine⟨⟨by first | omega | (simp only;omega),by first | omega | (simp only;omega)⟩,?_⟩
   have hks:=keepM_snoc d.low (homeI d.req) ms i hlt3
   have hmok:i64ok ms[i].req:=by
    have hmem':ms[i]∈s.ms.take (posM s.ms d.req)++⟨d.req,qr⟩::s.ms.drop (posM s.ms d.req):=by rw [<-hms];exact List.getElem_mem hlt3
    rcases (mem_ins _ _ _).1 hmem' with h | h
    ·rw [h];exact hd.req
    ·exact (hk.ms _ h).req
   generalize ms[i]=m at*
   refine⟨memC m,rfl,hcell,?_⟩
   refine hc.n fun g13 wg13 hg13 hc=>?_
   refine hc.s 0 rfl fun wS hS hc=>?_
   refine⟨_,hc.cell 0 rfl _ rfl,?_⟩
   refine hc.q (rhome_any m.req _ hmok.1 hmok.2) fun wQ hQ hc=>?_
   have step:∀ (wz:World) (A2:Option Addr) (c2:Nat) (S2:Nat->Prop),CtxF S w S2 wz [(g13,56,memC m),(g10,54,[.int .i64 qr.err,.int .i64 qr.ver]),(g5,54,[.int .i64 0,.int .i64 0]),(g4,43,(lay.ty 43).zero),(g3,32,dC d),(g2,43,[.int .i64 (s.seq+1),.slice A5 ql.length c5,.slice (some ad) ms.length cap8,.int .i64 m0,.int .i64 m1,.int .i64 m2,.int .i64 m3,.int .i64 m4])] [⟨56,3,A2,(keepM d.low (homeI d.req) (ms.take i)).length+1,c2,((keepM d.low (homeI d.req) (ms.take i)).map memC).flatten++memC m⟩] (fun S w=>RepEs S w ql css5/\Row S w A5 ql.length c5 css5.flatten/\Row S w (some ad) ms.length cap8 (ms.map memC).flatten)->
     (decide (m.req<d.low)&&homeI m.req==homeI d.req)=false->(keepM d.low (homeI d.req) (ms.take (i+1))).length=(keepM d.low (homeI d.req) (ms.take i)).length+1/\CtxF S w S2 wz [(g10,54,[.int .i64 qr.err,.int .i64 qr.ver]),(g5,54,[.int .i64 0,.int .i64 0]),(g4,43,(lay.ty 43).zero),(g3,32,dC d),(g2,43,[.int .i64 (s.seq+1),.slice A5 ql.length c5,.slice (some ad) ms.length cap8,.int .i64 m0,.int .i64 m1,.int .i64 m2,.int .i64 m3,.int .i64 m4])] [⟨56,3,A2,(keepM d.low (homeI d.req) (ms.take (i+1))).length,c2,((keepM d.low (homeI d.req) (ms.take (i+1))).map memC).flatten⟩] (fun S w=>RepEs S w ql css5/\Row S w A5 ql.length c5 css5.flatten/\Row S w (some ad) ms.length cap8 (ms.map memC).flatten):=by
    intro wz A2 c2 S2 h hb
    have e1:keepM d.low (homeI d.req) (ms.take (i+1))=keepM d.low (homeI d.req) (ms.take i)++[m]:=by rw [hks,hb,if_neg (by decide)]
    have e2:(keepM d.low (homeI d.req) (ms.take (i+1))).length=(keepM d.low (homeI d.req) (ms.take i)).length+1:=by rw [e1,List.length_append];rfl
    refine⟨e2,?_⟩
    have e3:((keepM d.low (homeI d.req) (ms.take (i+1))).map memC).flatten=((keepM d.low (homeI d.req) (ms.take i)).map memC).flatten++memC m:=by rw [e1,List.map_append,List.flatten_append];simp
    rw [e2,e3]
    exact h.drop
   have hkl:(keepM d.low (homeI d.req) (ms.take i)).length<=i:=Nat.le_trans (List.length_filter_le ..) (by rw [List.length_take];omega)
   by_cases hmh:homeI m.req=homeI d.req
   ·refine split_f (by show (!(homeI m.req==homeI d.req))=false;simpa using hmh) ?_
    refine⟨_,hc.cell 0 rfl _ rfl,?_⟩
    refine⟨_,hc.cell 4 rfl _ rfl,?_⟩
    rcases Int.lt_or_le m.req d.low with hml2 | hml2
    ·refine split_f (decide_eq_false (show ¬ d.low<=m.req by omega)) ?_
     have hb:(decide (m.req<d.low)&&homeI m.req==homeI d.req)=true:=by simp [hml2,hmh]
     have e1:keepM d.low (homeI d.req) (ms.take (i+1))=keepM d.low (homeI d.req) (ms.take i):=by rw [hks,hb,if_pos rfl,List.append_nil]
     have hf:=hc.drop
     exact⟨(i+1,A',n'),⟨rfl,rfl,rfl,rfl,rfl,rfl,by simp only [e1];rfl,congrArg _ (i_down (by first | omega | (simp only;omega))),trivial⟩,⟨hlt3,S',by simp only [e1];exact hf⟩,by show ms.length-(i+1)<ms.length-i;omega⟩
    ·refine split_t (decide_eq_true hml2) ?_
     refine hc.a 0 rfl rfl ?_
     refine hc.n fun gb wb hb hc=>?_
     refine app_ownF Tryz.underlying40 info_M rfl (by decide) hc (ys:=memC m) (m:=1) rfl (hc.cells 0 rfl) rfl (by omega) (by decide) rfl rfl ?_
     intro A2 c2 wz hc
     obtain⟨e2,hf⟩:=step _ _ _ _ hc.drop (by rw [decide_eq_false (show ¬ m.req<d.low by omega)];rfl)
     exact⟨(i+1,A2,c2),⟨rfl,rfl,rfl,rfl,rfl,rfl,by simp only [e2];rfl,congrArg _ (i_down (by first | omega | (simp only;omega))),trivial⟩,⟨hlt3,_,hf⟩,by show ms.length-(i+1)<ms.length-i;omega⟩
   ·refine split_t (by show (!(homeI m.req==homeI d.req))=true;simpa using hmh) ?_
    refine hc.a 0 rfl rfl ?_
    refine hc.n fun gb wb hb hc=>?_
    refine app_ownF Tryz.underlying40 info_M rfl (by decide) hc (ys:=memC m) (m:=1) rfl (hc.cells 0 rfl) rfl (by omega) (by decide) rfl rfl ?_
    intro A2 c2 wz hc
    obtain⟨e2,hf⟩:=step _ _ _ _ hc.drop (by rw [beq_eq_false_iff_ne.2 hmh,Bool.and_false])
    exact⟨(i+1,A2,c2),⟨rfl,rfl,rfl,rfl,rfl,rfl,by simp only [e2];rfl,congrArg _ (i_down (by first | omega | (simp only;omega))),trivial⟩,⟨hlt3,_,hf⟩,by show ms.length-(i+1)<ms.length-i;omega⟩
  ·refine split_f (decide_eq_false (by first | omega | (simp only;omega))) ?_
   have hi:i=ms.length:=by omega
   subst hi
   rw [List.take_length] at hc
   refine hc.s 4 rfl fun wS hS hc=>?_
   obtain⟨S10,_,hc⟩:=hc.told
   have ek:(keepM d.low (homeI d.req) ((ms.take ms.length)))=keepM d.low (homeI d.req) ms:=by rw [List.take_length]
   simp only [ek] at*
   refine vD (.Q [0,1] (.n 2 (.z 3) .stop)) (fun x=>Blk x g2 43 _/\Blk x g10 54 _) ⟨hc.blk 4 rfl,hc.blk 0 rfl⟩ ?_
   refine⟨_,?_,fun x hx=>drop_cells hx.1 0 _ 0 (fun j v hj=>by simpa using hj),?_⟩
   ·rfl
   refine⟨_,?_,fun x hx=>drop_cells hx.2 0 _ 0 (fun j v hj=>by simpa using hj),?_⟩
   ·rfl
   have hc:=hc.drew
   refine⟨hc.s 2 rfl fun wS hS hc=>?_,trivial⟩
   refine⟨⟨hc.blk 4 rfl,hc.blk 0 rfl⟩,?_⟩
   refine hc.s 1 rfl fun wS hS hc=>?_
   refine hc.a 2 rfl rfl ?_
   refine hc.a 1 rfl rfl ?_
   have ho:=hc.out
   subst hms
   exact⟨_,rfl,hc.below,RepS.mk' rfl ho.1.1 ho.1.2.1 ho.2⟩
 ·skip
  refine hc.n fun gb wgb hgb hc=>?_
  refine⟨⟨hc.blk 5 rfl,hc.blk 4 rfl,hc.blk 1 rfl⟩,?_⟩
  refine⟨?_,trivial⟩
  have hc:=hc.nil 56 3
  refine app_rowF Tryz.underlying40 info_M rfl (by decide) hc (hfr.below hc.below) (by rw [List.length_take,hfl];exact Nat.min_eq_left (Nat.mul_le_mul_right _ hpl)) (by rw [<-(memC_flat _).flat_take];exact ((memC_flat _).take _).ones) (by omega) (by decide) rfl ?_ ?_
  ·show Value.slice (if (cap':Int)=0 then B else B.map (·.add ((0:Int).toNat*3))) ((posM s.ms d.req:Int)-0).toNat ((cap':Int)-0).toNat=_
   rw [front_eq]
   congr 1<;>omega
  intro A6 cap6 w26 hc
  refine⟨⟨hc.blk 5 rfl,hc.blk 4 rfl,hc.blk 1 rfl⟩,?_⟩
  refine⟨app_ownF Tryz.underlying40 info_M rfl (by decide) hc (ys:=memC ⟨d.req,qr⟩) (m:=1) rfl (hc.cells 0 rfl) rfl (by omega) (by decide) rfl rfl ?_,trivial⟩
  intro A7 cap7 w27 hc
  have hc:=hc.drop
  refine⟨⟨hc.blk 4 rfl,hc.blk 3 rfl,hc.blk 0 rfl⟩,?_⟩
  refine⟨app_rowF Tryz.underlying40 info_M rfl (by decide) hc (hbk.below hc.below) (by rw [List.length_drop,hfl,<-Nat.sub_mul]) (by rw [<-(memC_flat _).flat_drop];exact ((memC_flat _).drop _).ones) (by omega) (by decide) rfl ?_ ?_,trivial⟩
  ·show Value.slice (if (cap':Int)=(posM s.ms d.req:Int) then B else B.map (·.add ((posM s.ms d.req:Int).toNat*3))) ((s.ms.length:Int)-(posM s.ms d.req:Int)).toNat ((cap':Int)-(posM s.ms d.req:Int)).toNat=_
   congr 1<;>omega
  intro A8 cap8 w28 hc
  have hln:0+posM s.ms d.req+1+(s.ms.length-posM s.ms d.req)=ms.length:=by omega
  rw [hln] at hc ⊢
  refine⟨⟨hc.blk 4 rfl,hc.blk 3 rfl,hc.blk 0 rfl⟩,?_⟩
  refine hc.s 4 rfl fun wS hS hc=>?_
  have hc:CtxF S w _ wS [(g10,54,[.int .i64 qr.err,.int .i64 qr.ver]),(g5,54,[.int .i64 0,.int .i64 0]),(g4,43,(lay.ty 43).zero),(g3,32,dC d),(g2,43,[.int .i64 (s.seq+1),.slice A5 ql.length c5,.slice A8 ms.length cap8,.int .i64 l0,.int .i64 l1,.int .i64 l2,.int .i64 l3,.int .i64 l4])] [⟨56,3,A8,ms.length,cap8,_⟩] _:=hc
  obtain⟨S9,_,hc⟩:=hc.told
  have exs:([]:List Value)++(s.ms.map memC).flatten.take (posM s.ms d.req*3)++memC ⟨d.req,qr⟩++(s.ms.map memC).flatten.drop (posM s.ms d.req*3)=(ms.map memC).flatten:=by
   rw [List.nil_append,<-(memC_flat _).flat_take,<-(memC_flat _).flat_drop,insC,<-hms]
  have hc:=hc.now (X:=fun S w=>RepEs S w ql css5/\Row S w A5 ql.length c5 css5.flatten/\Row S w A8 ms.length cap8 (ms.map memC).flatten) (fun h=>⟨h.1.2.1,h.1.2.2,by rw [<-exs];exact h.2⟩) (fun _ _ _ _ h f=>⟨RepEs.fut h.1 f,h.2.1.fut f,h.2.2.fut f⟩)
  have hlc:=lows_cell (hc.blk 4 rfl) (homeI d.req) (IntKind.i64.wrap (homeI d.req-1)) hr15 hw2
  rw [<-el] at hlc
  generalize hlo:lowAt s.lows (homeI d.req)=lo at hlc
  refine vD (.Q [0,1,3] (.n 2 (.Q [4,5,6,7,8,9,10,11,12,13,14] .fin) .stop)) (Keeps (fun b=>b<wS.heap.size) wS) (Keeps.start _ _) ?_
  have hcS:=hc
  refine⟨_,fun x hx=>hx.look (hcS.cell 3 rfl _ rfl),?_⟩
  have hk1:=Keeps.start (fun b=>b<wS.heap.size) wS
  have hltS:∀ b,b<wS.heap.size->b<wS.heap.size:=fun _ h=>h
  have hc:=hc.drew
  refine⟨hc.q (rhome_any d.low _ hd.low.1 hd.low.2) fun w20 h20 hc=>?_,trivial⟩
  refine⟨hk1.below hltS h20,?_⟩
  by_cases hhl:homeI d.low=homeI d.req
  rotate_left
  ·refine split_f (by show (homeI d.low==homeI d.req)=false;simpa using hhl) ?_
   rw [if_neg (show ¬ (lo<d.low/\homeI d.low=homeI d.req) from fun h=>hhl h.2)]
   refine vD (.Q [0,1] (.n 2 (.z 3) .stop)) (fun x=>Blk x g2 43 _/\Blk x g10 54 _) ⟨hc.blk 4 rfl,hc.blk 0 rfl⟩ ?_
   refine⟨_,?_,fun x hx=>drop_cells hx.1 0 _ 0 (fun j v hj=>by simpa using hj),?_⟩
   ·rfl
   refine⟨_,?_,fun x hx=>drop_cells hx.2 0 _ 0 (fun j v hj=>by simpa using hj),?_⟩
   ·rfl
   have hc:=hc.drew
   refine⟨hc.s 2 rfl fun wS hS hc=>?_,trivial⟩
   refine⟨⟨hc.blk 4 rfl,hc.blk 0 rfl⟩,?_⟩
   refine hc.s 1 rfl fun wS hS hc=>?_
   refine hc.a 2 rfl rfl ?_
   refine hc.a 1 rfl rfl ?_
   have ho:=hc.out
   subst hms
   exact⟨_,rfl,hc.below,RepS.mk' el ho.1 ho.2.1 ho.2.2⟩
  refine split_t (by show (homeI d.low==homeI d.req)=true;simpa using hhl) ?_
  refine⟨_,fun x hx=>hx.look (hcS.cell 3 rfl _ rfl),?_⟩
  refine⟨⟨by rw [hw2];omega,by rw [hw2];omega⟩,?_⟩
  generalize hae:((⟨g2,0+3,none⟩:Addr).add ((IntKind.i64.wrap (homeI d.req-1)).toNat*1))=ae at hlc ⊢
  have hae:(⟨g2,3+(homeI d.req-1).toNat,none⟩:Addr)=ae:=by rw [<-hae,Addr.add_lit,Nat.mul_one,Nat.zero_add,hw2]
  subst hae
  refine⟨_,fun x hx=>hx.look hlc,?_⟩
  rcases Int.lt_or_le lo d.low with hlw | hlw
  rotate_left
  ·refine split_f (decide_eq_false (show ¬ lo<d.low by omega)) ?_
   rw [if_neg (show ¬ (lo<d.low/\homeI d.low=homeI d.req) from fun h=>absurd h.1 (by omega))]
   refine vD (.Q [0,1] (.n 2 (.z 3) .stop)) (fun x=>Blk x g2 43 _/\Blk x g10 54 _) ⟨hc.blk 4 rfl,hc.blk 0 rfl⟩ ?_
   refine⟨_,?_,fun x hx=>drop_cells hx.1 0 _ 0 (fun j v hj=>by simpa using hj),?_⟩
   ·rfl
   refine⟨_,?_,fun x hx=>drop_cells hx.2 0 _ 0 (fun j v hj=>by simpa using hj),?_⟩
   ·rfl
   have hc:=hc.drew
   refine⟨hc.s 2 rfl fun wS hS hc=>?_,trivial⟩
   refine⟨⟨hc.blk 4 rfl,hc.blk 0 rfl⟩,?_⟩
   refine hc.s 1 rfl fun wS hS hc=>?_
   refine hc.a 2 rfl rfl ?_
   refine hc.a 1 rfl rfl ?_
   have ho:=hc.out
   subst hms
   exact⟨_,rfl,hc.below,RepS.mk' el ho.1 ho.2.1 ho.2.2⟩
  refine split_t (decide_eq_true hlw) ?_
  rw [if_pos (show lo<d.low/\homeI d.low=homeI d.req from ⟨hlw,hhl⟩)]
  refine⟨_,hc.cell 3 rfl _ rfl,?_⟩
  refine⟨⟨by rw [hw2];omega,by rw [hw2];omega⟩,?_⟩
  generalize hae:((⟨g2,0+3,none⟩:Addr).add ((IntKind.i64.wrap (homeI d.req-1)).toNat*1))=ae
  have hae:(⟨g2,3+(homeI d.req-1).toNat,none⟩:Addr)=ae:=by rw [<-hae,Addr.add_lit,Nat.mul_one,Nat.zero_add,hw2]
  subst hae
  refine⟨hc.may 4 rfl (3+(homeI d.req-1).toNat) [.int .i64 d.low] (by show 3+(homeI d.req-1).toNat+1<=8;omega) rfl,?_⟩
  intro w21 h21
  have h21:Stored w20 ⟨g2,3+(homeI d.req-1).toNat,none⟩ [.int .i64 d.low] w21:=h21
  have hc:=(hc.set 4 rfl h21).1
  obtain⟨m0,m1,m2,m3,m4,em,ep⟩:=lows_put (.int .i64 (s.seq+1)) (.slice A5 ql.length c5) (.slice A8 ms.length cap8) l0 l1 l2 l3 l4 d.low (homeI d.req) (homeI d.req-1) hr15 rfl
  have hc:CtxF S w S9 w21 [(g10,54,[.int .i64 qr.err,.int .i64 qr.ver]),(g5,54,[.int .i64 0,.int .i64 0]),(g4,43,(lay.ty 43).zero),(g3,32,dC d),(g2,43,putAt [.int .i64 (s.seq+1),.slice A5 ql.length c5,.slice A8 ms.length cap8,.int .i64 l0,.int .i64 l1,.int .i64 l2,.int .i64 l3,.int .i64 l4] (3+(homeI d.req-1).toNat) [.int .i64 d.low])] [] _:=hc
  rw [ep] at hc
  rw [el,em]
  have hc:=hc.nil 56 3
  refine⟨Nat × Option Addr × Nat,fun x=>[(2,.pointer (some ⟨g2,0,none⟩)),(3,.pointer (some ⟨g3,0,none⟩)),(4,.pointer (some ⟨g4,0,none⟩)),(5,.pointer (some ⟨g5,0,none⟩)),(8,.int .i64 (homeI d.req)),(10,.pointer (some ⟨g10,0,none⟩)),(11,.slice x.2.1 (keepM d.low (homeI d.req) (ms.take x.1)).length x.2.2),(12,.int .i64 x.1)],
   fun x w'=>x.1<=ms.length/\∃ S',CtxF S w S' w' [(g10,54,[.int .i64 qr.err,.int .i64 qr.ver]),(g5,54,[.int .i64 0,.int .i64 0]),(g4,43,(lay.ty 43).zero),(g3,32,dC d),(g2,43,[.int .i64 (s.seq+1),.slice A5 ql.length c5,.slice A8 ms.length cap8,.int .i64 m0,.int .i64 m1,.int .i64 m2,.int .i64 m3,.int .i64 m4])] [⟨56,3,x.2.1,(keepM d.low (homeI d.req) (ms.take x.1)).length,x.2.2,((keepM d.low (homeI d.req) (ms.take x.1)).map memC).flatten⟩] (fun S w=>RepEs S w ql css5/\Row S w A5 ql.length c5 css5.flatten/\Row S w A8 ms.length cap8 (ms.map memC).flatten),
   fun x _=>ms.length-x.1,(0,none,0),⟨rfl,rfl,rfl,rfl,rfl,rfl,rfl,rfl,trivial⟩,⟨Nat.zero_le _,_,hc⟩,?_⟩
  clear hc hcS hlc
  rintro⟨i,A',n'⟩ w4 u ⟨hi,S',hc⟩
  simp only at hi hc
  refine⟨_,hc.cell 4 rfl _ rfl,?_⟩
  by_cases hlt3:i<ms.length
  ·refine split_t (decide_eq_true (by first | omega | (simp only;omega))) ?_
   obtain⟨ad,rfl,hcell⟩:=RowM.elem hc.row.2.2 i hlt3
   refine⟨_,hc.cell 4 rfl _ rfl,?_⟩
   refine⟨⟨by first | omega | (simp only;omega),by first | omega | (simp only;omega)⟩,?_⟩
   have hks:=keepM_snoc d.low (homeI d.req) ms i hlt3
   have hmok:i64ok ms[i].req:=by
    have hmem':ms[i]∈s.ms.take (posM s.ms d.req)++⟨d.req,qr⟩::s.ms.drop (posM s.ms d.req):=by rw [<-hms];exact List.getElem_mem hlt3
    rcases (mem_ins _ _ _).1 hmem' with h | h
    ·rw [h];exact hd.req
    ·exact (hk.ms _ h).req
   generalize ms[i]=m at*
   refine⟨memC m,rfl,hcell,?_⟩
   refine hc.n fun g13 wg13 hg13 hc=>?_
   refine hc.s 0 rfl fun wS hS hc=>?_
   refine⟨_,hc.cell 0 rfl _ rfl,?_⟩
   refine hc.q (rhome_any m.req _ hmok.1 hmok.2) fun wQ hQ hc=>?_
   have step:∀ (wz:World) (A2:Option Addr) (c2:Nat) (S2:Nat->Prop),CtxF S w S2 wz [(g13,56,memC m),(g10,54,[.int .i64 qr.err,.int .i64 qr.ver]),(g5,54,[.int .i64 0,.int .i64 0]),(g4,43,(lay.ty 43).zero),(g3,32,dC d),(g2,43,[.int .i64 (s.seq+1),.slice A5 ql.length c5,.slice (some ad) ms.length cap8,.int .i64 m0,.int .i64 m1,.int .i64 m2,.int .i64 m3,.int .i64 m4])] [⟨56,3,A2,(keepM d.low (homeI d.req) (ms.take i)).length+1,c2,((keepM d.low (homeI d.req) (ms.take i)).map memC).flatten++memC m⟩] (fun S w=>RepEs S w ql css5/\Row S w A5 ql.length c5 css5.flatten/\Row S w (some ad) ms.length cap8 (ms.map memC).flatten)->
     (decide (m.req<d.low)&&homeI m.req==homeI d.req)=false->(keepM d.low (homeI d.req) (ms.take (i+1))).length=(keepM d.low (homeI d.req) (ms.take i)).length+1/\CtxF S w S2 wz [(g10,54,[.int .i64 qr.err,.int .i64 qr.ver]),(g5,54,[.int .i64 0,.int .i64 0]),(g4,43,(lay.ty 43).zero),(g3,32,dC d),(g2,43,[.int .i64 (s.seq+1),.slice A5 ql.length c5,.slice (some ad) ms.length cap8,.int .i64 m0,.int .i64 m1,.int .i64 m2,.int .i64 m3,.int .i64 m4])] [⟨56,3,A2,(keepM d.low (homeI d.req) (ms.take (i+1))).length,c2,((keepM d.low (homeI d.req) (ms.take (i+1))).map memC).flatten⟩] (fun S w=>RepEs S w ql css5/\Row S w A5 ql.length c5 css5.flatten/\Row S w (some ad) ms.length cap8 (ms.map memC).flatten):=by
    intro wz A2 c2 S2 h hb
    have e1:keepM d.low (homeI d.req) (ms.take (i+1))=keepM d.low (homeI d.req) (ms.take i)++[m]:=by rw [hks,hb,if_neg (by decide)]
    have e2:(keepM d.low (homeI d.req) (ms.take (i+1))).length=(keepM d.low (homeI d.req) (ms.take i)).length+1:=by rw [e1,List.length_append];rfl
    refine⟨e2,?_⟩
    have e3:((keepM d.low (homeI d.req) (ms.take (i+1))).map memC).flatten=((keepM d.low (homeI d.req) (ms.take i)).map memC).flatten++memC m:=by rw [e1,List.map_append,List.flatten_append];simp
    rw [e2,e3]
    exact h.drop
   have hkl:(keepM d.low (homeI d.req) (ms.take i)).length<=i:=Nat.le_trans (List.length_filter_le ..) (by rw [List.length_take];omega)
   by_cases hmh:homeI m.req=homeI d.req
   ·refine split_f (by show (!(homeI m.req==homeI d.req))=false;simpa using hmh) ?_
    refine⟨_,hc.cell 0 rfl _ rfl,?_⟩
    refine⟨_,hc.cell 4 rfl _ rfl,?_⟩
    rcases Int.lt_or_le m.req d.low with hml2 | hml2
    ·refine split_f (decide_eq_false (show ¬ d.low<=m.req by omega)) ?_
     have hb:(decide (m.req<d.low)&&homeI m.req==homeI d.req)=true:=by simp [hml2,hmh]
     have e1:keepM d.low (homeI d.req) (ms.take (i+1))=keepM d.low (homeI d.req) (ms.take i):=by rw [hks,hb,if_pos rfl,List.append_nil]
     have hf:=hc.drop
     exact⟨(i+1,A',n'),⟨rfl,rfl,rfl,rfl,rfl,rfl,by simp only [e1];rfl,congrArg _ (i_down (by first | omega | (simp only;omega))),trivial⟩,⟨hlt3,S',by simp only [e1];exact hf⟩,by show ms.length-(i+1)<ms.length-i;omega⟩
    ·refine split_t (decide_eq_true hml2) ?_
     refine hc.a 0 rfl rfl ?_
     refine hc.n fun gb wb hb hc=>?_
     refine app_ownF Tryz.underlying40 info_M rfl (by decide) hc (ys:=memC m) (m:=1) rfl (hc.cells 0 rfl) rfl (by omega) (by decide) rfl rfl ?_
     intro A2 c2 wz hc
     obtain⟨e2,hf⟩:=step _ _ _ _ hc.drop (by rw [decide_eq_false (show ¬ m.req<d.low by omega)];rfl)
     exact⟨(i+1,A2,c2),⟨rfl,rfl,rfl,rfl,rfl,rfl,by simp only [e2];rfl,congrArg _ (i_down (by first | omega | (simp only;omega))),trivial⟩,⟨hlt3,_,hf⟩,by show ms.length-(i+1)<ms.length-i;omega⟩
   ·refine split_t (by show (!(homeI m.req==homeI d.req))=true;simpa using hmh) ?_
    refine hc.a 0 rfl rfl ?_
    refine hc.n fun gb wb hb hc=>?_
    refine app_ownF Tryz.underlying40 info_M rfl (by decide) hc (ys:=memC m) (m:=1) rfl (hc.cells 0 rfl) rfl (by omega) (by decide) rfl rfl ?_
    intro A2 c2 wz hc
    obtain⟨e2,hf⟩:=step _ _ _ _ hc.drop (by rw [beq_eq_false_iff_ne.2 hmh,Bool.and_false])
    exact⟨(i+1,A2,c2),⟨rfl,rfl,rfl,rfl,rfl,rfl,by simp only [e2];rfl,congrArg _ (i_down (by first | omega | (simp only;omega))),trivial⟩,⟨hlt3,_,hf⟩,by show ms.length-(i+1)<ms.length-i;omega⟩
  ·refine split_f (decide_eq_false (by first | omega | (simp only;omega))) ?_
   have hi:i=ms.length:=by omega
   subst hi
   rw [List.take_length] at hc
   refine hc.s 4 rfl fun wS hS hc=>?_
   obtain⟨S10,_,hc⟩:=hc.told
   have ek:(keepM d.low (homeI d.req) ((ms.take ms.length)))=keepM d.low (homeI d.req) ms:=by rw [List.take_length]
   simp only [ek] at*
   refine vD (.Q [0,1] (.n 2 (.z 3) .stop)) (fun x=>Blk x g2 43 _/\Blk x g10 54 _) ⟨hc.blk 4 rfl,hc.blk 0 rfl⟩ ?_
   refine⟨_,?_,fun x hx=>drop_cells hx.1 0 _ 0 (fun j v hj=>by simpa using hj),?_⟩
   ·rfl
   refine⟨_,?_,fun x hx=>drop_cells hx.2 0 _ 0 (fun j v hj=>by simpa using hj),?_⟩
   ·rfl
   have hc:=hc.drew
   refine⟨hc.s 2 rfl fun wS hS hc=>?_,trivial⟩
   refine⟨⟨hc.blk 4 rfl,hc.blk 0 rfl⟩,?_⟩
   refine hc.s 1 rfl fun wS hS hc=>?_
   refine hc.a 2 rfl rfl ?_
   refine hc.a 1 rfl rfl ?_
   have ho:=hc.out
   subst hms
   exact⟨_,rfl,hc.below,RepS.mk' rfl ho.1.1 ho.1.2.1 ho.2⟩
set_option maxRecDepth 100000
theorem idxK_none' (k:ByteArray):∀ l:List Ent,(∀ j (h:j<l.length),strEq l[j].key k=false)->idxK l k=none
 | [],_=>rfl
 | m::r,h=>by
  have h0:strEq m.key k=false:=h 0 (by simp)
  rw [idxK,h0,idxK_none' k r (fun j hj=>h (j+1) (by simpa using hj))]
  rfl
theorem idxK_some' (k:ByteArray):∀ (l:List Ent) (i:Nat) (hi:i<l.length),strEq l[i].key k=true->(∀ j (h:j<l.length),j<i->strEq l[j].key k=false)->idxK l k=some i
 | m::r,0,hi,hp,_=>by
  have h0:strEq m.key k=true:=hp
  rw [idxK,h0]
  rfl
 | m::r,i+1,hi,hp,h=>by
  have h0:strEq m.key k=false:=h 0 (by simp) (by omega)
  rw [idxK,h0,idxK_some' k r i (by simpa using hi) (by simpa using hp) (fun j hj hlt=>h (j+1) (by simpa using hj) (by omega))]
  rfl
theorem idxK_mem:∀ {l:List Ent} {k:ByteArray} {i:Nat},idxK l k=some i->∃ h:i<l.length,l[i].key=k
 | [],k,i,h=>by cases h
 | m::r,k,i,h=>by
  rw [idxK] at h
  split at h
  ·rename_i hk
   cases h
   exact⟨by simp,strEq_iff.1 hk⟩
  ·cases e:idxK r k with
   | none=>rw [e] at h;cases h
   | some j=>
    rw [e] at h
    cases h
    obtain⟨h1,h2⟩:=idxK_mem e
    exact⟨by simpa using h1,by simpa using h2⟩
def getE (o:Option Ent) (n:Int):Ver × Int:=
 match o with
 | none=>(Ver0,6)
 | some e=>
  let q:Option Ver:=if n=0 then (if e.vs.length=0 then none else some (lastV e.vs)) else (idxV e.vs n).bind fun i=>e.vs[i]?
  match q with
  | none=>(Ver0,6)
  | some v=>if v.gone then (Ver0,10) else (v,0)
theorem getS_E (s:Stt) (k:ByteArray) (n:Int):getS s k n=getE ((idxK s.l k).bind fun i=>s.l[i]?) n:=rfl
theorem get1_any (k key:ByteArray) (A:Option Addr) (n cap:Nat) (a:Addr) (w:World) (ha:w.cell? a=some (.string k)):Calls Tryz.prog 146 #[.agg #[.string key,.slice A n cap],.pointer (some a)] w (RetB (.bool (strEq key k)) w):=by
 obtain⟨ab,ao,asub⟩:=a
 refine vE Tryz.func146 ?_
 intro g w1 h1
 have hc:=((Ctx.start w no (fun _ h=>h.elim)).loc h1).1
 refine⟨_,hc.cell 0 rfl _ rfl,?_⟩
 refine⟨_,cell_later hc.below ha,?_⟩
 exact⟨rfl,hc.below⟩
theorem indexFuncE_any (l:List Ent) (k:ByteArray) (a:Addr) (A:Option Addr) (cap:Nat) (css:List (List Value)) (S:Nat->Prop) (w:World) (hE:RepEs S w l css) (hR:Row S w A l.length cap css.flatten) (ha:w.cell? a=some (.string k)):
  Calls Tryz.prog 145 #[.slice A l.length cap,.func (.func 146) #[] #[.pointer (some a)]] w (RetB (.int .i64 (idxI (idxK l k))) w):=by
 refine vE Tryz.func145 ?_
 have hM:=row_max hR
 refine⟨Nat,fun i=>[(0,.slice A l.length cap),(1,.func (.func 146) #[] #[.pointer (some a)]),(7,.int .i64 l.length),(8,.int .i64 i)],
  fun i w'=>i<=l.length/\(∀ j (hj:j<l.length),j<i->strEq l[j].key k=false)/\Below w.heap.size w w',fun i _=>l.length-i,0,
  ⟨rfl,rfl,rfl,rfl,trivial⟩,⟨Nat.zero_le _,fun j hj h=>absurd h (Nat.not_lt_zero _),Below.refl _ _⟩,?_⟩
 rintro i w' u ⟨hi,he,hb⟩
 by_cases hlt:i<l.length
 ·refine split_t (decide_eq_true (by omega)) ?_
  obtain⟨ad,A1,cap1,rfl,hcell,_⟩:=RowE.elem (hR.below hb) (hE.below hb) i hlt
  refine⟨⟨by omega,by omega⟩,?_⟩
  refine⟨[.string l[i].key,.slice A1 l[i].vs.length cap1],rfl,hcell,?_⟩
  refine call_b (get1_any k l[i].key A1 _ cap1 a w' (cell_later hb ha)) ?_
  intro w2 h2
  have hb2:=hb.trans (h2.mono hb.size)
  rcases Bool.eq_false_or_eq_true (strEq l[i].key k) with hv | hv
  ·refine split_t hv ?_
   refine⟨?_,hb2⟩
   rw [idxK_some' k l i hlt hv he]
   rfl
  ·refine split_f hv ?_
   refine⟨i+1,⟨rfl,rfl,rfl,congrArg _ (i_down (by omega)),trivial⟩,⟨hlt,fun j hj h=>?_,hb2⟩,by show l.length-(i+1)<l.length-i;omega⟩
   rcases Nat.lt_succ_iff_lt_or_eq.1 h with h | h
   ·exact he j hj h
   ·subst h;exact hv
 ·refine split_f (decide_eq_false (by omega)) ?_
  refine⟨?_,hb⟩
  rw [idxK_none' k l (fun j hj=>he j hj (by omega))]
  rfl
set_option maxHeartbeats 1000000 in
theorem bget_any (s:Stt) (k:ByteArray) (n:Int) (cs:List Value) (S:Nat->Prop) (w:World) (hs:RepS S w s cs):Calls Tryz.prog 106 #[.agg cs.toArray,.string k,.int .i64 n] w (RetB (.tuple #[.agg (verC (getS s k n).1).toArray,.int .i64 (getS s k n).2]) w):=by
 obtain⟨A,cap,css,B,cap',l0,l1,l2,l3,l4,rfl,el,hE,hR,hM⟩:=hs.shape
 rw [getS_E]
 refine vE Tryz.func106 ?_
 have hc:=CtxF.start w no (fun _ h=>h.elim) (R:=fun _ _=>True) trivial Stab.true
 refine hc.n fun g3 wg3 hg3 hc=>?_
 refine hc.n fun g4 wg4 hg4 hc=>?_
 refine hc.n fun g6 wg6 hg6 hc=>?_
 refine⟨_,hc.cell 2 rfl _ rfl,?_⟩
 have hf:=indexFuncE_any s.l k ⟨g4,0,none⟩ A cap css S _ (hE.below hc.below) (hR.below hc.below) (hc.cell 1 rfl 0 rfl)
 cases hi:idxK s.l k with
 | none=>
  rw [hi,show idxI none = -1 from rfl] at hf
  refine hc.q (hf) fun wQ hQ hc=>?_
  refine hc.s 0 rfl fun wS hS hc=>?_
  refine hc.a 0 rfl rfl ?_
  exact⟨rfl,hc.below⟩
 | some i=>
  rw [hi,show idxI (some i)=(i:Int) from rfl] at hf
  refine hc.q (hf) fun wQ hQ hc=>?_
  obtain⟨hlt,_⟩:=idxK_mem hi
  have hg:((some i).bind fun i=>s.l[i]?)=some s.l[i]:=List.getElem?_eq_getElem hlt
  rw [hg]
  obtain⟨ad,A1,cap1,rfl,hcell0,hRe⟩:=RowE.elem hR hE i hlt
  generalize s.l[i]=e at*
  refine⟨_,hc.cell 2 rfl _ rfl,?_⟩
  refine⟨⟨Int.natCast_nonneg _,Int.ofNat_lt.2 hlt⟩,?_⟩
  refine⟨[.string e.key,.slice A1 e.vs.length cap1],rfl,cellsAt_later hc.below _ _ hcell0,?_⟩
  refine hc.q (at_any e n A1 cap1 S _ (hRe.below hc.below)) fun wQ hQ hc=>?_
  refine hc.n fun g9 wg9 hg9 hc=>?_
  refine hc.s 0 rfl fun wS hS hc=>?_
  have fin:∀ w' v e',Below w.heap.size w w'->getE (some e) n=(v,e')->RetB (.tuple #[.agg (verC (getE (some e) n).1).toArray,.int .i64 (getE (some e) n).2]) w (.returned (.tuple #[.agg (verC v).toArray,.int .i64 e'])) w':=fun w' v e' hb h=>by rw [h];exact⟨rfl,hb⟩
  by_cases h0:n=0
  ·refine split_t (by show (n==0)=true;rw [h0];rfl) ?_
   refine⟨_,hc.cell 3 rfl _ rfl,?_⟩
   refine⟨⟨Int.natCast_nonneg _,Int.ofNat_lt.2 hlt⟩,?_⟩
   refine⟨[.string e.key,.slice A1 e.vs.length cap1],rfl,cellsAt_later hc.below _ _ hcell0,?_⟩
   refine hc.q (now_any e A1 cap1 S _ (hRe.below hc.below)) fun wQ hQ hc=>?_
   refine hc.s 0 rfl fun wS hS hc=>?_
   refine⟨_,hc.cell 3 rfl _ rfl,?_⟩
   refine⟨⟨Int.natCast_nonneg _,Int.ofNat_lt.2 hlt⟩,?_⟩
   have hcell:=cellsAt_later hc.below _ _ hcell0
   rw [<-Int.toNat_natCast i] at hcell
   generalize ad.add ((i:Int).toNat*2)=ae at hcell ⊢
   obtain⟨ab,ao,asub⟩:=ae
   refine⟨_,hcell.2.1,?_⟩
   have hMx:=row_max hRe
   by_cases hv:e.vs.length=0
   ·have hn:nowE e=(Ver0,false):=by rw [nowE,if_pos hv]
    refine split_t (by show (!decide ((0:Int)<(e.vs.length:Int)))=true;rw [decide_eq_false (by omega)];rfl) ?_
    refine hc.s 1 rfl fun wS hS hc=>?_
    refine hc.a 1 rfl rfl ?_
    exact fin _ Ver0 6 hc.below (by simp only [getE,if_pos h0,if_pos hv])
   ·have hn:nowE e=(lastV e.vs,!(lastV e.vs).gone):=by rw [nowE,if_neg hv]
    rw [hn] at hc
    refine split_f (by show (!decide ((0:Int)<(e.vs.length:Int)))=false;rw [decide_eq_true (by omega)];rfl) ?_
    refine⟨.bool (lastV e.vs).gone,hc.cell 0 rfl 1 rfl,?_⟩
    rcases (Bool.eq_false_or_eq_true (lastV e.vs).gone).symm with hgn | hgn
    ·refine split_f hgn ?_
     refine hc.a 0 rfl rfl ?_
     refine hc.s 1 rfl fun wS hS hc=>?_
     refine hc.a 1 rfl rfl ?_
     exact fin _ (lastV e.vs) 0 hc.below (by simp [getE,h0,hv,hgn])
    ·refine split_t hgn ?_
     refine hc.s 1 rfl fun wS hS hc=>?_
     refine hc.a 1 rfl rfl ?_
     exact fin _ Ver0 10 hc.below (by simp [getE,h0,hv,hgn])
  ·refine split_f (by show (n==0)=false;simpa using h0) ?_
   cases hj:idxV e.vs n with
   | none=>
    have ha:atE e n=(Ver0,false):=by rw [atE,hj]
    refine split_t (by show (!(atE e n).2)=true;rw [ha];rfl) ?_
    refine hc.s 1 rfl fun wS hS hc=>?_
    refine hc.a 1 rfl rfl ?_
    exact fin _ Ver0 6 hc.below (by simp [getE,h0,hj])
   | some j=>
    obtain⟨hjl,_⟩:=idxV_lt hj
    have ha:atE e n=(e.vs[j],true):=by rw [atE,hj];simp only [List.getElem?_eq_getElem hjl];rfl
    rw [ha] at hc
    refine split_f (by show (!(atE e n).2)=false;rw [ha];rfl) ?_
    refine⟨.bool e.vs[j].gone,hc.cell 0 rfl 1 rfl,?_⟩
    rcases (Bool.eq_false_or_eq_true (e.vs[j]).gone).symm with hgn | hgn
    ·refine split_f hgn ?_
     refine hc.a 0 rfl rfl ?_
     refine hc.s 1 rfl fun wS hS hc=>?_
     refine hc.a 1 rfl rfl ?_
     exact fin _ e.vs[j] 0 hc.below (by simp [getE,h0,hj,hgn,hjl])
    ·refine split_t hgn ?_
     refine hc.s 1 rfl fun wS hS hc=>?_
     refine hc.a 1 rfl rfl ?_
     exact fin _ Ver0 10 hc.below (by simp [getE,h0,hj,hgn,hjl])
set_option maxRecDepth 100000
theorem bnum_any (n:Int) (w:World):Calls Tryz.prog 153 #[.int .i64 n] w (RetB (.agg #[.int .i64 1,.int .i64 n,.string ⟨#[]⟩,.slice none 0 0]) w):=by
 refine vE Tryz.func153 ?_
 have hc:=Ctx.start w no (fun _ h=>h.elim)
 refine hc.n fun gA wgA hgA hc=>?_
 refine hc.s 0 rfl fun wS hS hc=>?_
 refine hc.a 0 rfl rfl ?_
 exact⟨rfl,hc.below⟩
theorem bstr_any (s:ByteArray) (w:World):Calls Tryz.prog 155 #[.string s] w (RetB (.agg #[.int .i64 2,.int .i64 0,.string s,.slice none 0 0]) w):=by
 refine vE Tryz.func155 ?_
 have hc:=Ctx.start w no (fun _ h=>h.elim)
 refine hc.n fun gA wgA hgA hc=>?_
 refine hc.s 0 rfl fun wS hS hc=>?_
 refine hc.a 0 rfl rfl ?_
 exact⟨rfl,hc.below⟩
theorem brow_any (A:Option Addr) (n cap:Nat) (w:World):Calls Tryz.prog 152 #[.slice A n cap] w (RetB (.agg #[.int .i64 3,.int .i64 0,.string ⟨#[]⟩,.slice A n cap]) w):=by
 refine vE Tryz.func152 ?_
 have hc:=Ctx.start w no (fun _ h=>h.elim)
 refine hc.n fun gA wgA hgA hc=>?_
 refine hc.s 0 rfl fun wS hS hc=>?_
 refine hc.a 0 rfl rfl ?_
 exact⟨rfl,hc.below⟩
theorem truth_any (b:Bool) (w:World):Calls Tryz.prog 154 #[.bool b] w (RetB (.int .i64 (if b then 1 else 0)) w):=by
 refine vE Tryz.func154 ?_
 cases b
 ·exact⟨rfl,Below.refl _ _⟩
 ·exact⟨rfl,Below.refl _ _⟩
theorem stab_C (v:V) (cs:List Value):Stab (fun S w=>RepC S w v cs):=fun _ _ _ _ h f=>h.fut f
theorem stab_L (l:List V) (xs:List Value):Stab (fun S w=>RepL S w l xs):=fun _ _ _ _ h f=>h.fut f
def verVC (v:Ver):List Value:=leaf 1 v.ver ⟨#[]⟩++(leaf 1 (if v.gone then 1 else 0) ⟨#[]⟩++(leaf 2 0 v.body++[]))
theorem verVC_rep (S:Nat->Prop) (w:World) (v:Ver):RepL S w (vL (vVer v)) (verVC v):=.cons (.leaf ..) (.cons (.leaf ..) (.cons (.leaf ..) (.nil _ _)))
def memVC (m:Mem):List Value:=leaf 1 m.req ⟨#[]⟩++(leaf 1 m.res.err ⟨#[]⟩++(leaf 1 m.res.ver ⟨#[]⟩++[]))
theorem memVC_rep (S:Nat->Prop) (w:World) (m:Mem):RepL S w (vL (vMem m)) (memVC m):=.cons (.leaf ..) (.cons (.leaf ..) (.cons (.leaf ..) (.nil _ _)))
theorem put1_any (v:Ver) (w:World):Calls Tryz.prog 151 #[.agg (verC v).toArray] w (RetV (vVer v) w):=by
 refine vE Tryz.func151 ?_
 intro g1 w1 h1
 have hc:=((Ctx.start w no (fun _ h=>h.elim)).loc h1).1
 refine hc.n fun g2 w3 h3 hc=>?_
 have b1:=hc.blk 1 rfl
 have hlt:∀ b,(fun b=>b=g1) b->b<w3.heap.size:=fun b e=>by subst e;exact b1.lt
 refine vD (.Q [0,1,3,4,7,8] (.n 2 (.n 5 (.n 6 (.n 9 (.n 10 (.n 11 (.z 12) .stop) .stop) .stop) .stop) .stop) .stop)) (Keeps (fun b=>b=g1) w3) (Keeps.start _ _) ?_
 have hk:=Keeps.start (fun b=>b=g1) w3
 have hc:=hc.drew
 iterate 3 refine⟨_,fun x hx=>hx.cell b1 rfl rfl,?_⟩
 refine⟨hc.q (bnum_any v.ver _) fun wq hq hc=>?_,trivial⟩
 have hk:=hk.below hlt hq
 refine⟨hk,?_⟩
 refine⟨hc.q (truth_any v.gone _) fun wq hq hc=>?_,trivial⟩
 have hk:=hk.below hlt hq
 refine⟨hk,?_⟩
 refine⟨hc.q (bnum_any (if v.gone then 1 else 0) _) fun wq hq hc=>?_,trivial⟩
 have hk:=hk.below hlt hq
 refine⟨hk,?_⟩
 refine⟨hc.q (bstr_any v.body _) fun wq hq hc=>?_,trivial⟩
 have hk:=hk.below hlt hq
 refine⟨hk,?_⟩
 refine⟨fun g3 w4 h4=>?_,trivial⟩
 refine⟨hk.below hlt h4.below,?_⟩
 have hk:=hk.below hlt h4.below
 have hC:=hc.call h4.below
 have hc:=hC.1
 have hrow:Row (ext no _ w4) w4 (some ⟨g3,0,none⟩) 3 3 (verVC v):=(h4.row 3 (by decide)).sub fun b e=>by
  subst e
  exact .inr ⟨Nat.le_of_eq h4.1.symm,h4.blk.lt⟩
 refine⟨call_b (brow_any (some ⟨g3,0,none⟩) 3 3 _) ?_,trivial⟩
 intro w6 h6
 refine⟨hk.below hlt h6,?_⟩
 have hC:=hc.quiet h6
 have hc:=hC.1
 have hrow:=hrow.fut hC.2
 refine⟨hc.may 0 rfl 0 _ (Nat.le_refl 4) rfl,?_⟩
 intro w5 h5
 have hC:=hc.set 0 rfl h5
 have hc:=hC.1
 refine hc.a 0 rfl rfl ?_
 refine⟨3,0,⟨#[]⟩,some ⟨g3,0,none⟩,3,3,rfl,hc.below,?_⟩
 rw [vVer,vRow,RepC]
 exact⟨some ⟨g3,0,none⟩,3,verVC v,rfl,verVC_rep _ _ v,(hrow.fut hC.2).fut hc.out⟩
theorem put3_any (m:Mem) (w:World):Calls Tryz.prog 158 #[.agg (memC m).toArray] w (RetV (vMem m) w):=by
 refine vE Tryz.func158 ?_
 intro g1 w1 h1
 have hc:=((Ctx.start w no (fun _ h=>h.elim)).loc h1).1
 refine hc.n fun g2 w3 h3 hc=>?_
 have b1:=hc.blk 1 rfl
 have hlt:∀ b,(fun b=>b=g1) b->b<w3.heap.size:=fun b e=>by subst e;exact b1.lt
 refine vD (.Q [0,1,3,4,5,7,8,9] (.n 2 (.n 6 (.n 10 (.n 11 (.n 12 (.z 13) .stop) .stop) .stop) .stop) .stop)) (Keeps (fun b=>b=g1) w3) (Keeps.start _ _) ?_
 have hk:=Keeps.start (fun b=>b=g1) w3
 have hc:=hc.drew
 iterate 3 refine⟨_,fun x hx=>hx.cell b1 rfl rfl,?_⟩
 refine⟨hc.q (bnum_any m.req _) fun wq hq hc=>?_,trivial⟩
 have hk:=hk.below hlt hq
 refine⟨hk,?_⟩
 refine⟨hc.q (bnum_any m.res.err _) fun wq hq hc=>?_,trivial⟩
 have hk:=hk.below hlt hq
 refine⟨hk,?_⟩
 refine⟨hc.q (bnum_any m.res.ver _) fun wq hq hc=>?_,trivial⟩
 have hk:=hk.below hlt hq
 refine⟨hk,?_⟩
 refine⟨fun g3 w4 h4=>?_,trivial⟩
 refine⟨hk.below hlt h4.below,?_⟩
 have hk:=hk.below hlt h4.below
 have hC:=hc.call h4.below
 have hc:=hC.1
 have hrow:Row (ext no _ w4) w4 (some ⟨g3,0,none⟩) 3 3 (memVC m):=(h4.row 3 (by decide)).sub fun b e=>by
  subst e
  exact .inr ⟨Nat.le_of_eq h4.1.symm,h4.blk.lt⟩
 refine⟨call_b (brow_any (some ⟨g3,0,none⟩) 3 3 _) ?_,trivial⟩
 intro w6 h6
 refine⟨hk.below hlt h6,?_⟩
 have hC:=hc.quiet h6
 have hc:=hC.1
 have hrow:=hrow.fut hC.2
 refine⟨hc.may 0 rfl 0 _ (Nat.le_refl 4) rfl,?_⟩
 intro w5 h5
 have hC:=hc.set 0 rfl h5
 have hc:=hC.1
 refine hc.a 0 rfl rfl ?_
 refine⟨3,0,⟨#[]⟩,some ⟨g3,0,none⟩,3,3,rfl,hc.below,?_⟩
 rw [vMem,vRow,RepC]
 exact⟨some ⟨g3,0,none⟩,3,memVC m,rfl,memVC_rep _ _ m,(hrow.fut hC.2).fut hc.out⟩
set_option maxHeartbeats 1000000 in
theorem listVer_any (l:List Ver) (A:Option Addr) (cap:Nat) (S0:Nat->Prop) (w:World)  (hR:Row S0 w A l.length cap ((l.map verC).flatten)) (hn:l.length<=1000000):
  Calls Tryz.prog 157 #[.slice A l.length cap,.func (.func 151) #[] #[]] w (RetV (vRow (l.map vVer)) w):=by
 refine vE Tryz.func157 ?_
 intro g4 w1 h1
 have hc:=((CtxF.start w no (fun _ h=>h.elim) (R:=fun S w=>RepL S w [] []) (.nil _ _) (stab_L _ _)).loc h1).1
 refine hc.n fun g5 w2 h2 hc=>?_
 refine⟨hc.may 0 rfl 0 _ (Nat.le_refl 4) rfl,?_⟩
 intro w3 h3
 have hc:=(hc.set 0 rfl h3).1
 have hc:=hc.nil 108 4
 refine⟨Nat,fun i=>[(1,.func (.func 151) #[] #[]),(4,.pointer (some ⟨g4,0,none⟩)),(5,.pointer (some ⟨g5,0,none⟩)),(9,.slice A l.length cap),(10,.int .i64 l.length),(11,.int .i64 i)],
  fun i w'=>i<=l.length/\∃ S A' cap' xs,CtxF no w S w' [(g5,108,[.int .i64 3,.int .i64 0,.string ⟨#[]⟩,.slice A' i cap']),(g4,108,(lay.ty 108).zero)] [⟨108,4,A',i,cap',xs⟩] (fun S w=>RepL S w ((l.take i).map vVer) xs),
  fun i _=>l.length-i,0,⟨rfl,rfl,rfl,rfl,rfl,rfl,trivial⟩,⟨Nat.zero_le _,no,none,0,[],hc⟩,?_⟩
 clear hc
 rintro i w4 u ⟨hi,S,A',cap',xs,hc⟩
 by_cases hlt:i<l.length
 ·refine split_t (decide_eq_true (by omega)) ?_
  obtain⟨ad,rfl,hcell⟩:=RowV.elem (hR.below hc.below) i hlt
  refine⟨⟨by omega,by omega⟩,?_⟩
  refine⟨verC l[i],rfl,hcell,?_⟩
  generalize hx:l[i]=x at*
  refine hc.n fun g7 w7 h7 hc=>?_
  refine⟨hc.may 0 rfl 0 _ (nle rfl) rfl,?_⟩
  intro w8 h8
  have hc:=(hc.set 0 rfl h8).1
  have hc:=hc.drew
  refine vD (.Q [0,1,2,3] (.n 4 (.n 5 (.n 6 (.q 7 (.z 8)) .stop) .stop) .stop)) (fun z=>Blk z g5 108 [.int .i64 3,.int .i64 0,.string ⟨#[]⟩,.slice A' i cap']/\Blk z g7 52 (verC x)) ⟨hc.blk 1 rfl,hc.blk 0 rfl⟩ ?_
  refine⟨_,fun x hx=>hx.1.cell 3,?_⟩
  refine⟨(verC x),rfl,fun x hx=>drop_cells hx.2 0 _ 0 (fun j v hj=>by simpa using hj),?_⟩
  refine⟨⟨(put1_any x _).mono fun en w9 hq=>?_⟩,trivial⟩
  obtain⟨k,n,s,A1,ln,c1,e1,h9,hrep⟩:=hq
  have hc:=(hc.call h9).1.know (hrep.sub fun b h=>h.elim (fun h=>h.elim) .inr) (stab_C _ _)
  refine⟨_,e1,⟨hc.blk 1 rfl,hc.blk 0 rfl⟩,?_⟩
  refine⟨hc.n fun g20 w10 h10 hc=>?_,trivial⟩
  refine⟨⟨hc.blk 2 rfl,hc.blk 1 rfl⟩,?_⟩
  refine⟨app_ownF Tryz.underlying106 info_val rfl (by decide) hc (ys:=[.int .i64 k,.int .i64 n,.string s,.slice A1 ln c1]) (m:=1) rfl (hc.cells 0 rfl) rfl (by omega) (by decide) rfl rfl ?_,trivial⟩
  intro A2 cap2 w11 hc
  refine⟨⟨hc.blk 2 rfl,hc.blk 1 rfl⟩,?_⟩
  refine⟨hc.may 2 rfl 3 _ (Nat.le_refl 4) rfl,?_⟩
  intro w12 h12
  have hc:=(hc.set 2 rfl h12).1
  have et:(l.take (i+1)).map vVer=(l.take i).map vVer++[vVer x]:=by rw [List.take_add_one,List.getElem?_eq_getElem hlt,hx];simp
  have hf:=hc.drop.drop.now (X:=fun S w=>RepL S w ((l.take i).map vVer++[vVer x]) (xs++[.int .i64 k,.int .i64 n,.string s,.slice A1 ln c1])) (fun h=>RepL.snoc h.2 h.1) (stab_L _ _)
  rw [<-et] at hf
  exact⟨i+1,⟨rfl,rfl,rfl,rfl,rfl,congrArg _ (i_down (by omega)),trivial⟩,⟨hlt,_,A2,cap2,_,hf⟩,by show l.length-(i+1)<l.length-i;omega⟩
 ·refine split_f (decide_eq_false (by omega)) ?_
  have hi:i=l.length:=by omega
  subst hi
  rw [List.take_length] at hc
  refine hc.a 0 rfl rfl ?_
  refine⟨hc.may 1 rfl 0 _ (Nat.le_refl 4) rfl,?_⟩
  intro w5 h5
  have hc:=(hc.set 1 rfl h5).1
  obtain⟨S2,_,hc⟩:=hc.told
  refine hc.a 1 rfl rfl ?_
  refine⟨3,0,⟨#[]⟩,A',l.length,cap',rfl,hc.below,?_⟩
  rw [vRow,RepC]
  have ho:=hc.out
  exact⟨A',cap',xs,by rw [List.length_map],ho.1,by rw [List.length_map];exact ho.2⟩
theorem put2_any (e:Ent) (A:Option Addr) (cap:Nat) (S0:Nat->Prop) (w:World) (hR:Row S0 w A e.vs.length cap (e.vs.map verC).flatten) (hn:e.vs.length<=1000000) (a:Addr) (ha:w.cell? a=some (.func (.func 151) #[] #[])):
  Calls Tryz.prog 156 #[.agg #[.string e.key,.slice A e.vs.length cap],.pointer (some a)] w (RetV (vEnt e) w):=by
 obtain⟨ab,ao,asub⟩:=a
 refine vE Tryz.func156 ?_
 intro g2 w1 h1
 have hc:=((CtxF.start w no (fun _ h=>h.elim) (R:=fun _ _=>True) trivial Stab.true).loc h1).1
 refine hc.n fun g3 w3 h3 hc=>?_
 have hlt:∀ b,b<w3.heap.size->b<w3.heap.size:=fun _ h=>h
 have ha:=cell_later hc.below ha
 refine vD (.Q [0,1,3,4,5] (.n 2 (.n 6 (.n 7 (.n 8 (.z 9) .stop) .stop) .stop) .stop)) (Keeps (fun b=>b<w3.heap.size) w3) (Keeps.start _ _) ?_
 have hk:=Keeps.start (fun b=>b<w3.heap.size) w3
 refine⟨_,fun x hx=>hx.look (hc.cell 1 rfl _ rfl),?_⟩
 refine⟨_,fun x hx=>hx.look (hc.cell 1 rfl _ rfl),?_⟩
 refine⟨_,fun x hx=>hx.look ha,?_⟩
 have hc:=hc.drew
 refine⟨call_b (bstr_any e.key _) ?_,trivial⟩
 intro w4 h4
 have hc:=(hc.quiet h4).1.know (RepC.leaf _ _ 2 0 e.key) (stab_C _ _)
 have hk:=hk.below hlt h4
 refine⟨hk,?_⟩
 refine⟨⟨(listVer_any e.vs A cap S0 _ (hR.below hc.below) hn).mono fun en w5 hq=>?_⟩,trivial⟩
 obtain⟨k,n,s,A1,ln,c1,e1,h5,hrep⟩:=hq
 have hc:=(hc.call h5).1.know (hrep.sub fun b h=>h.elim (fun h=>h.elim) .inr) (stab_C _ _)
 have hk:=hk.below hlt h5
 refine⟨_,e1,hk,?_⟩
 refine⟨fun g6 w6 h6=>?_,trivial⟩
 have hc:=hc.made h6 4 2 rfl (by decide)
 have hk:=hk.below hlt h6.below
 refine⟨hk,?_⟩
 refine⟨hc.q (brow_any (some ⟨g6,0,none⟩) 2 2 _) fun w7 h7 hc=>?_,trivial⟩
 have hk:=hk.below hlt h7
 refine⟨hk,?_⟩
 refine⟨hc.may 0 rfl 0 _ (Nat.le_refl 4) rfl,?_⟩
 intro w8 h8
 have hc:=(hc.set 0 rfl h8).1
 obtain⟨S2,_,hc⟩:=hc.told
 refine hc.a 0 rfl rfl ?_
 refine⟨3,0,⟨#[]⟩,some ⟨g6,0,none⟩,2,2,rfl,hc.below,?_⟩
 have ho:=hc.out
 rw [vEnt,vRow,RepC]
 exact⟨some ⟨g6,0,none⟩,2,_,rfl,.cons ho.1.1.2 (.cons ho.1.2 (.nil _ _)),ho.2⟩
set_option maxHeartbeats 1000000 in
theorem listEnt_any (l:List Ent) (css:List (List Value)) (A:Option Addr) (cap:Nat) (S0:Nat->Prop) (w:World) (a:Addr) (ha:w.cell? a=some (.func (.func 151) #[] #[])) (hE:RepEs S0 w l css) (hv:∀ e∈l,e.vs.length<=1000000) (hR:Row S0 w A l.length cap (css.flatten)) (hn:l.length<=1000000):
  Calls Tryz.prog 159 #[.slice A l.length cap,.func (.func 156) #[] #[.pointer (some a)]] w (RetV (vRow (l.map vEnt)) w):=by
 refine vE Tryz.func159 ?_
 intro g4 w1 h1
 have hc:=((CtxF.start w no (fun _ h=>h.elim) (R:=fun S w=>RepL S w [] []) (.nil _ _) (stab_L _ _)).loc h1).1
 refine hc.n fun g5 w2 h2 hc=>?_
 refine⟨hc.may 0 rfl 0 _ (Nat.le_refl 4) rfl,?_⟩
 intro w3 h3
 have hc:=(hc.set 0 rfl h3).1
 have hc:=hc.nil 108 4
 refine⟨Nat,fun i=>[(1,.func (.func 156) #[] #[.pointer (some a)]),(4,.pointer (some ⟨g4,0,none⟩)),(5,.pointer (some ⟨g5,0,none⟩)),(9,.slice A l.length cap),(10,.int .i64 l.length),(11,.int .i64 i)],
  fun i w'=>i<=l.length/\∃ S A' cap' xs,CtxF no w S w' [(g5,108,[.int .i64 3,.int .i64 0,.string ⟨#[]⟩,.slice A' i cap']),(g4,108,(lay.ty 108).zero)] [⟨108,4,A',i,cap',xs⟩] (fun S w=>RepL S w ((l.take i).map vEnt) xs),
  fun i _=>l.length-i,0,⟨rfl,rfl,rfl,rfl,rfl,rfl,trivial⟩,⟨Nat.zero_le _,no,none,0,[],hc⟩,?_⟩
 clear hc
 rintro i w4 u ⟨hi,S,A',cap',xs,hc⟩
 by_cases hlt:i<l.length
 ·refine split_t (decide_eq_true (by omega)) ?_
  have hv':=hv l[i] (List.getElem_mem hlt)
  obtain⟨ad,A0,cap0,rfl,hcell,hRe⟩:=RowE.elem hR hE i hlt
  have hcell:=cellsAt_later hc.below _ _ hcell
  refine⟨⟨by omega,by omega⟩,?_⟩
  refine⟨[.string l[i].key,.slice A0 l[i].vs.length cap0],rfl,hcell,?_⟩
  generalize hx:l[i]=x at*
  refine hc.n fun g7 w7 h7 hc=>?_
  refine⟨hc.may 0 rfl 0 _ (nle rfl) rfl,?_⟩
  intro w8 h8
  have hc:=(hc.set 0 rfl h8).1
  have hc:=hc.drew
  refine vD (.Q [0,1,2,3] (.n 4 (.n 5 (.n 6 (.q 7 (.z 8)) .stop) .stop) .stop)) (fun z=>Blk z g5 108 [.int .i64 3,.int .i64 0,.string ⟨#[]⟩,.slice A' i cap']/\Blk z g7 50 [.string x.key,.slice A0 x.vs.length cap0]) ⟨hc.blk 1 rfl,hc.blk 0 rfl⟩ ?_
  refine⟨_,fun x hx=>hx.1.cell 3,?_⟩
  refine⟨[.string x.key,.slice A0 x.vs.length cap0],rfl,fun x hx=>drop_cells hx.2 0 _ 0 (fun j v hj=>by simpa using hj),?_⟩
  refine⟨⟨(put2_any x A0 cap0 S0 _ (hRe.below hc.below) hv' a (cell_later hc.below ha)).mono fun en w9 hq=>?_⟩,trivial⟩
  obtain⟨k,n,s,A1,ln,c1,e1,h9,hrep⟩:=hq
  have hc:=(hc.call h9).1.know (hrep.sub fun b h=>h.elim (fun h=>h.elim) .inr) (stab_C _ _)
  refine⟨_,e1,⟨hc.blk 1 rfl,hc.blk 0 rfl⟩,?_⟩
  refine⟨hc.n fun g20 w10 h10 hc=>?_,trivial⟩
  refine⟨⟨hc.blk 2 rfl,hc.blk 1 rfl⟩,?_⟩
  refine⟨app_ownF Tryz.underlying106 info_val rfl (by decide) hc (ys:=[.int .i64 k,.int .i64 n,.string s,.slice A1 ln c1]) (m:=1) rfl (hc.cells 0 rfl) rfl (by omega) (by decide) rfl rfl ?_,trivial⟩
  intro A2 cap2 w11 hc
  refine⟨⟨hc.blk 2 rfl,hc.blk 1 rfl⟩,?_⟩
  refine⟨hc.may 2 rfl 3 _ (Nat.le_refl 4) rfl,?_⟩
  intro w12 h12
  have hc:=(hc.set 2 rfl h12).1
  have et:(l.take (i+1)).map vEnt=(l.take i).map vEnt++[vEnt x]:=by rw [List.take_add_one,List.getElem?_eq_getElem hlt,hx];simp
  have hf:=hc.drop.drop.now (X:=fun S w=>RepL S w ((l.take i).map vEnt++[vEnt x]) (xs++[.int .i64 k,.int .i64 n,.string s,.slice A1 ln c1])) (fun h=>RepL.snoc h.2 h.1) (stab_L _ _)
  rw [<-et] at hf
  exact⟨i+1,⟨rfl,rfl,rfl,rfl,rfl,congrArg _ (i_down (by omega)),trivial⟩,⟨hlt,_,A2,cap2,_,hf⟩,by show l.length-(i+1)<l.length-i;omega⟩
 ·refine split_f (decide_eq_false (by omega)) ?_
  have hi:i=l.length:=by omega
  subst hi
  rw [List.take_length] at hc
  refine hc.a 0 rfl rfl ?_
  refine⟨hc.may 1 rfl 0 _ (Nat.le_refl 4) rfl,?_⟩
  intro w5 h5
  have hc:=(hc.set 1 rfl h5).1
  obtain⟨S2,_,hc⟩:=hc.told
  refine hc.a 1 rfl rfl ?_
  refine⟨3,0,⟨#[]⟩,A',l.length,cap',rfl,hc.below,?_⟩
  rw [vRow,RepC]
  have ho:=hc.out
  exact⟨A',cap',xs,by rw [List.length_map],ho.1,by rw [List.length_map];exact ho.2⟩
set_option maxHeartbeats 1000000 in
theorem listMem_any (l:List Mem) (A:Option Addr) (cap:Nat) (S0:Nat->Prop) (w:World)  (hR:Row S0 w A l.length cap ((l.map memC).flatten)) (hn:l.length<=1000000):
  Calls Tryz.prog 160 #[.slice A l.length cap,.func (.func 158) #[] #[]] w (RetV (vRow (l.map vMem)) w):=by
 refine vE Tryz.func160 ?_
 intro g4 w1 h1
 have hc:=((CtxF.start w no (fun _ h=>h.elim) (R:=fun S w=>RepL S w [] []) (.nil _ _) (stab_L _ _)).loc h1).1
 refine hc.n fun g5 w2 h2 hc=>?_
 refine⟨hc.may 0 rfl 0 _ (Nat.le_refl 4) rfl,?_⟩
 intro w3 h3
 have hc:=(hc.set 0 rfl h3).1
 have hc:=hc.nil 108 4
 refine⟨Nat,fun i=>[(1,.func (.func 158) #[] #[]),(4,.pointer (some ⟨g4,0,none⟩)),(5,.pointer (some ⟨g5,0,none⟩)),(9,.slice A l.length cap),(10,.int .i64 l.length),(11,.int .i64 i)],
  fun i w'=>i<=l.length/\∃ S A' cap' xs,CtxF no w S w' [(g5,108,[.int .i64 3,.int .i64 0,.string ⟨#[]⟩,.slice A' i cap']),(g4,108,(lay.ty 108).zero)] [⟨108,4,A',i,cap',xs⟩] (fun S w=>RepL S w ((l.take i).map vMem) xs),
  fun i _=>l.length-i,0,⟨rfl,rfl,rfl,rfl,rfl,rfl,trivial⟩,⟨Nat.zero_le _,no,none,0,[],hc⟩,?_⟩
 clear hc
 rintro i w4 u ⟨hi,S,A',cap',xs,hc⟩
 by_cases hlt:i<l.length
 ·refine split_t (decide_eq_true (by omega)) ?_
  obtain⟨ad,rfl,hcell⟩:=RowM.elem (hR.below hc.below) i hlt
  refine⟨⟨by omega,by omega⟩,?_⟩
  refine⟨memC l[i],rfl,hcell,?_⟩
  generalize hx:l[i]=x at*
  refine hc.n fun g7 w7 h7 hc=>?_
  refine⟨hc.may 0 rfl 0 _ (nle rfl) rfl,?_⟩
  intro w8 h8
  have hc:=(hc.set 0 rfl h8).1
  have hc:=hc.drew
  refine vD (.Q [0,1,2,3] (.n 4 (.n 5 (.n 6 (.q 7 (.z 8)) .stop) .stop) .stop)) (fun z=>Blk z g5 108 [.int .i64 3,.int .i64 0,.string ⟨#[]⟩,.slice A' i cap']/\Blk z g7 56 (memC x)) ⟨hc.blk 1 rfl,hc.blk 0 rfl⟩ ?_
  refine⟨_,fun x hx=>hx.1.cell 3,?_⟩
  refine⟨(memC x),rfl,fun x hx=>drop_cells hx.2 0 _ 0 (fun j v hj=>by simpa using hj),?_⟩
  refine⟨⟨(put3_any x _).mono fun en w9 hq=>?_⟩,trivial⟩
  obtain⟨k,n,s,A1,ln,c1,e1,h9,hrep⟩:=hq
  have hc:=(hc.call h9).1.know (hrep.sub fun b h=>h.elim (fun h=>h.elim) .inr) (stab_C _ _)
  refine⟨_,e1,⟨hc.blk 1 rfl,hc.blk 0 rfl⟩,?_⟩
  refine⟨hc.n fun g20 w10 h10 hc=>?_,trivial⟩
  refine⟨⟨hc.blk 2 rfl,hc.blk 1 rfl⟩,?_⟩
  refine⟨app_ownF Tryz.underlying106 info_val rfl (by decide) hc (ys:=[.int .i64 k,.int .i64 n,.string s,.slice A1 ln c1]) (m:=1) rfl (hc.cells 0 rfl) rfl (by omega) (by decide) rfl rfl ?_,trivial⟩
  intro A2 cap2 w11 hc
  refine⟨⟨hc.blk 2 rfl,hc.blk 1 rfl⟩,?_⟩
  refine⟨hc.may 2 rfl 3 _ (Nat.le_refl 4) rfl,?_⟩
  intro w12 h12
  have hc:=(hc.set 2 rfl h12).1
  have et:(l.take (i+1)).map vMem=(l.take i).map vMem++[vMem x]:=by rw [List.take_add_one,List.getElem?_eq_getElem hlt,hx];simp
  have hf:=hc.drop.drop.now (X:=fun S w=>RepL S w ((l.take i).map vMem++[vMem x]) (xs++[.int .i64 k,.int .i64 n,.string s,.slice A1 ln c1])) (fun h=>RepL.snoc h.2 h.1) (stab_L _ _)
  rw [<-et] at hf
  exact⟨i+1,⟨rfl,rfl,rfl,rfl,rfl,congrArg _ (i_down (by omega)),trivial⟩,⟨hlt,_,A2,cap2,_,hf⟩,by show l.length-(i+1)<l.length-i;omega⟩
 ·refine split_f (decide_eq_false (by omega)) ?_
  have hi:i=l.length:=by omega
  subst hi
  rw [List.take_length] at hc
  refine hc.a 0 rfl rfl ?_
  refine⟨hc.may 1 rfl 0 _ (Nat.le_refl 4) rfl,?_⟩
  intro w5 h5
  have hc:=(hc.set 1 rfl h5).1
  obtain⟨S2,_,hc⟩:=hc.told
  refine hc.a 1 rfl rfl ?_
  refine⟨3,0,⟨#[]⟩,A',l.length,cap',rfl,hc.below,?_⟩
  rw [vRow,RepC]
  have ho:=hc.out
  exact⟨A',cap',xs,by rw [List.length_map],ho.1,by rw [List.length_map];exact ho.2⟩
set_option maxHeartbeats 1000000 in
theorem listInt_any (l:List Int) (A:Option Addr) (cap:Nat) (S0:Nat->Prop) (w:World)  (hR:Row S0 w A l.length cap (l.map lowC)) (hn:l.length<=1000000):
  Calls Tryz.prog 161 #[.slice A l.length cap,.func (.func 153) #[] #[]] w (RetV (vRow (l.map vNum)) w):=by
 refine vE Tryz.func161 ?_
 intro g4 w1 h1
 have hc:=((CtxF.start w no (fun _ h=>h.elim) (R:=fun S w=>RepL S w [] []) (.nil _ _) (stab_L _ _)).loc h1).1
 refine hc.n fun g5 w2 h2 hc=>?_
 refine⟨hc.may 0 rfl 0 _ (Nat.le_refl 4) rfl,?_⟩
 intro w3 h3
 have hc:=(hc.set 0 rfl h3).1
 have hc:=hc.nil 108 4
 refine⟨Nat,fun i=>[(1,.func (.func 153) #[] #[]),(4,.pointer (some ⟨g4,0,none⟩)),(5,.pointer (some ⟨g5,0,none⟩)),(9,.slice A l.length cap),(10,.int .i64 l.length),(11,.int .i64 i)],
  fun i w'=>i<=l.length/\∃ S A' cap' xs,CtxF no w S w' [(g5,108,[.int .i64 3,.int .i64 0,.string ⟨#[]⟩,.slice A' i cap']),(g4,108,(lay.ty 108).zero)] [⟨108,4,A',i,cap',xs⟩] (fun S w=>RepL S w ((l.take i).map vNum) xs),
  fun i _=>l.length-i,0,⟨rfl,rfl,rfl,rfl,rfl,rfl,trivial⟩,⟨Nat.zero_le _,no,none,0,[],hc⟩,?_⟩
 clear hc
 rintro i w4 u ⟨hi,S,A',cap',xs,hc⟩
 by_cases hlt:i<l.length
 ·refine split_t (decide_eq_true (by omega)) ?_
  obtain⟨ad,rfl,hcell⟩:=Row.at (hR.below hc.below) (i:=i) (v:=lowC l[i]) (by rw [List.getElem?_map,List.getElem?_eq_getElem hlt];rfl)
  refine⟨⟨by omega,by omega⟩,?_⟩
  refine⟨lowC l[i],by rw [Int.toNat_natCast,Nat.mul_one];exact hcell,?_⟩
  generalize hx:l[i]=x at*
  have hc:=hc.drew
  refine vD (.Q [0,1,2,3] (.n 4 (.n 5 (.n 6 (.q 7 (.z 8)) .stop) .stop) .stop)) (fun x=>Blk x g5 108 [.int .i64 3,.int .i64 0,.string ⟨#[]⟩,.slice A' i cap']) (hc.blk 0 rfl) ?_
  refine⟨_,fun x hx=>hx.cell 3,?_⟩
  refine⟨hc.q (bnum_any x _) fun w9 h9 hc=>?_,trivial⟩
  refine⟨hc.blk 0 rfl,?_⟩
  have hc:=hc.know (X:=fun S w=>RepC S w (vNum x) [.int .i64 1,.int .i64 x,.string ⟨#[]⟩,.slice none 0 0]) (RepC.leaf _ _ 1 x ⟨#[]⟩) (stab_C _ _)
  refine⟨hc.n fun g20 w10 h10 hc=>?_,trivial⟩
  refine⟨hc.blk 1 rfl,?_⟩
  refine⟨app_ownF Tryz.underlying106 info_val rfl (by decide) hc (ys:=[.int .i64 1,.int .i64 x,.string ⟨#[]⟩,.slice none 0 0]) (m:=1) rfl (hc.cells 0 rfl) rfl (by omega) (by decide) rfl rfl ?_,trivial⟩
  intro A2 cap2 w11 hc
  refine⟨hc.blk 1 rfl,?_⟩
  refine⟨hc.may 1 rfl 3 _ (Nat.le_refl 4) rfl,?_⟩
  intro w12 h12
  have hc:=(hc.set 1 rfl h12).1
  have et:(l.take (i+1)).map vNum=(l.take i).map vNum++[vNum x]:=by rw [List.take_add_one,List.getElem?_eq_getElem hlt,hx];simp
  have hf:=hc.drop.now (X:=fun S w=>RepL S w ((l.take i).map vNum++[vNum x]) (xs++[.int .i64 1,.int .i64 x,.string ⟨#[]⟩,.slice none 0 0])) (fun h=>RepL.snoc h.2 h.1) (stab_L _ _)
  rw [<-et] at hf
  exact⟨i+1,⟨rfl,rfl,rfl,rfl,rfl,congrArg _ (i_down (by omega)),trivial⟩,⟨hlt,_,A2,cap2,_,hf⟩,by show l.length-(i+1)<l.length-i;omega⟩
 ·refine split_f (decide_eq_false (by omega)) ?_
  have hi:i=l.length:=by omega
  subst hi
  rw [List.take_length] at hc
  refine hc.a 0 rfl rfl ?_
  refine⟨hc.may 1 rfl 0 _ (Nat.le_refl 4) rfl,?_⟩
  intro w5 h5
  have hc:=(hc.set 1 rfl h5).1
  obtain⟨S2,_,hc⟩:=hc.told
  refine hc.a 1 rfl rfl ?_
  refine⟨3,0,⟨#[]⟩,A',l.length,cap',rfl,hc.below,?_⟩
  rw [vRow,RepC]
  have ho:=hc.out
  exact⟨A',cap',xs,by rw [List.length_map],ho.1,by rw [List.length_map];exact ho.2⟩
end Go.Proofs.YtokglimimnelaaaGreatDoor
