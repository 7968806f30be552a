import Derived.Test.YtfekddndgakneaaGreatDoorM06
set_option maxRecDepth 100000
set_option maxHeartbeats 40000000
set_option linter.unusedVariables false
set_option linter.unusedSimpArgs false
namespace Go.Proofs.YtfekddndgakneaaGreatDoor
open Go.Vc Go.RowKit Go.Fl
theorem B5I (l:List Ent) (seq:Int) (d:D) (has:Bool) (e:Ent) (h1:(J1 l d.key).isSome=has) (h2:(J1 l d.key).getD ⟨d.key,[]⟩=e):
  doK l seq d=if d.kind==3 then Q4 l (I3 l d.key) e d.ver else if d.kind==1&&!N6 e d.cond d.tag then (l,⟨9,0⟩) else if d.kind==2&&!has then (l,⟨6,0⟩)
   else if 12<=e.vs.length||(!has&&decide (40<=l.length)) then (l,⟨5,0⟩) else (A3L l d.key has [⟨e.key,e.vs++[⟨seq,d.kind==2,d.body⟩]⟩],⟨0,seq⟩):=by
 unfold doK
 simp only [h1,h2]
 cases hk:(d.kind==3)
 ·rfl
 ·cases has with
  | true=>
   unfold Q4 A3L
   cases A13 e.vs d.ver<;>rfl
  | false=>
   cases he:J1 l d.key with
   | some x=>rw [he] at h1;cases h1
   | none=>
    rw [he] at h2
    subst h2
    rfl
theorem Row.cutS {S:Nat->Prop} {w:World} {A:Option Addr} {n cap:Nat} {xs:List Value} (h:Row S w A n cap xs):Row (fun b=>S b/\b<w.heap.size) w A n cap xs:=
 ⟨h.1,h.2.1,fun hx=>by
  obtain⟨ad,e,hs,hc⟩:=h.2.2 hx
  refine⟨ad,e,⟨hs,?_⟩,hc⟩
  cases xs with
  | nil=>exact absurd rfl hx
  | cons v r=>
   have h0:=hc 0 v rfl
   have:=World.block_lt_of_cell? w _ h0
   rwa [P6] at this⟩
theorem B1o {S:Nat->Prop} {w w':World}:∀ b,ext (fun b=>S b/\b<w.heap.size) w w' b->ext S w w' b:=fun b h=>by
 rcases h with h | h
 ·exact .inl h.1
 ·exact .inr h
theorem RepEs.cutS {S:Nat->Prop} {w:World} {l:List Ent} {css:List (List Value)} (h:RepEs S w l css):RepEs (fun b=>S b/\b<w.heap.size) w l css:=h.map (fun h=>Row.cutS h)
theorem RepEs.wide {S S':Nat->Prop} {w:World} {l:List Ent} {css:List (List Value)} (h:RepEs S w l css) (f:∀ b,S b->S' b):RepEs S' w l css:=h.map (fun h=>h.wide f)
theorem RepEs.fut {S S':Nat->Prop} {w w':World} {l:List Ent} {css:List (List Value)} (h:RepEs S w l css) (f:Fut S w S' w'):RepEs S' w' l css:=h.map (fun h=>h.fut f)
theorem RetK.wide {s:Stt} {B:Option Addr} {cap':Nat} {l0 l1 l2 l3 l4:Int} {S:Nat->Prop} {q:List Ent × Res} {w w':World} {en:Ending} (h:RetK s B cap' l0 l1 l2 l3 l4 (fun b=>S b/\b<w.heap.size) q w en w'):RetK s B cap' l0 l1 l2 l3 l4 S q w en w':=by
 obtain⟨A,c,css,h1,h2,h3,h4⟩:=h
 exact⟨A,c,css,h1,h2,h3.wide B1o,h4.wide B1o⟩
theorem A3Z:∀ (l:List Ent) (k:ByteArray),I3 l k<=l.length
 | [],_=>Nat.le_refl _
 | e::r,k=>by
  rw [I3]
  split
  ·exact Nat.succ_le_succ (A3Z r k)
  ·exact Nat.zero_le _
theorem RepEs.stab (l:List Ent) (css:List (List Value)):Stab (fun S w=>RepEs S w l css):=fun _ _ _ _ h f=>RepEs.fut h f
def B1p (l:List Ent) (css:List (List Value)) (A:Option Addr) (cap:Nat):Kn:=fun S w=>RepEs S w l css/\Row S w A l.length cap css.flatten
theorem A4W (l:List Ent) (css:List (List Value)) (A:Option Addr) (cap:Nat):Stab (B1p l css A cap):=fun _ _ _ _ h f=>⟨RepEs.fut h.1 f,h.2.fut f⟩
theorem B36 (s:Stt) (d:D) (A B:Option Addr) (cap cap':Nat) (l0 l1 l2 l3 l4:Int) (el:s.lows=[l0,l1,l2,l3,l4]) (css:List (List Value)) (S:Nat->Prop) (w:World) (hlt:∀ b,S b->b<w.heap.size) (hE:RepEs S w s.l css) (hR:Row S w A s.l.length cap css.flatten) (hM:Row S w B s.ms.length cap' (s.ms.map F5).flatten)
  (hn:s.l.length<=1000000) (hp:s.l.Pairwise (fun a b=>D9 a.key b.key=true)) (hok:∀ e∈s.l,e.vs.length<=1000000/\(e.vs.length≠0->(H7 e.vs).ver<s.seq)/\(A2X e).1.body.size<=maxLen) (hq:J1 s.l d.key=none):
  Calls Tryz.prog 211 #[.agg (stC s A cap B cap' l0 l1 l2 l3 l4).toArray,.agg (dC d).toArray] w (RetK s B cap' l0 l1 l2 l3 l4 S (doK s.l s.seq d) w):=by
 have hrep:RepS S w s (stC s A cap B cap' l0 l1 l2 l3 l4):=⟨A,cap,css,B,cap',by rw [el];rfl,by rw [el];rfl,hE,hR,hM⟩
 have hRm:=C9 hR
 refine vE Tryz.func211 ?_
 intro g2 w1 h1
 have hc:=((CtxF.start w S hlt (R:=B1p s.l css A cap) ⟨hE,hR⟩ (A4W _ _ _ _)).loc h1).1
 refine hc.n fun g3 w2 h2 hc=>?_
 refine hc.n fun g4 w3 h3 hc=>?_
 refine hc.n fun g5 w4 h4 hc=>?_
 refine hc.a 3 rfl rfl ?_
 refine hc.c 2 rfl rfl ?_
 have hfind:=A8r s d.key hp hn _ S w4 (hrep.below hc.below)
 rw [hq] at hfind
 refine C2 hfind ?_
 clear hfind
 intro w5 h5
 have hc:=(hc.quiet h5).1
 refine hc.c 2 rfl rfl ?_
 refine hc.n fun g8 w6 h6 hc=>?_
 refine⟨hc.may 0 rfl _ _ (Nat.le_refl 2) rfl,?_⟩
 intro w7 h7
 have hc:=(hc.set 0 rfl h7).1
 have hD:=B5I s.l s.seq d
 rw [hq] at hD
 obtain⟨e,he⟩:∃ e:Ent,e=⟨d.key,[]⟩:=⟨_,rfl⟩
 have hD:=hD false e rfl (by rw [he];rfl)
 have hev:e.vs=[]:=by rw [he]
 have heb:(A2X e).1.body.size<=maxLen:=by rw [he];exact Nat.zero_le _
 have hRe:Row S w none 0 0 (([]:List Ver).map F3).flatten:=⟨Nat.le_refl _,Nat.zero_le _,fun h=>absurd rfl h⟩
 obtain⟨A1,cap1,hRe,hc⟩:∃ (A1:Option Addr) (cap1:Nat),Row S w A1 e.vs.length cap1 (e.vs.map F3).flatten/\CtxF S w S w7 [(g8,90,[.string e.key,.slice A1 e.vs.length cap1]),(g5,24,[.int .i64 0,.int .i64 0]),(g4,33,(lay.ty 33).zero),(g3,60,dC d),(g2,33,stC s A cap B cap' l0 l1 l2 l3 l4)] [] (B1p s.l css A cap):=⟨none,0,by rw [hev];exact hRe,by rw [he];exact hc⟩
 have hel:e.vs.length<=1000000:=by rw [hev];exact Nat.zero_le _
 have h12:¬ 12<=e.vs.length:=by rw [hev];decide
 refine hc.c 0 rfl rfl ?_
 refine df (show ¬ (12:Int)<=(e.vs.length:Int) by omega) ?_
 refine hc.c 4 rfl rfl ?_
 refine hc.c 4 rfl rfl ?_
 refine hc.c 3 rfl rfl ?_
 refine hc.c 3 rfl rfl ?_
 refine hc.n fun g10 w10 h10 hc=>?_
 refine⟨hc.may 0 rfl _ _ (Nat.le_refl 3) rfl,?_⟩
 intro w11 h11
 have hc:=(hc.set 0 rfl h11).1
 refine hc.c 4 rfl rfl ?_
 cases k3:(d.kind==3)
 rotate_left
 ·refine B6 k3 ?_
  rw [show doK s.l s.seq d=Q4 s.l (I3 s.l d.key) e d.ver by rw [hD,k3];rfl]
  refine hc.a 5 rfl rfl ?_
  refine hc.a 1 rfl rfl ?_
  refine hc.c 4 rfl rfl ?_
  refine⟨(A2D s A B cap cap' l0 l1 l2 l3 l4 css S w11 (hE.below hc.below) (hR.below hc.below) hn (I3 s.l d.key) e A1 cap1 (hRe.below hc.below) hel d.ver (fun h=>by rw [hev] at h;cases h)).mono fun en w12 hq=>?_⟩
  obtain⟨A5,c5,css5,e5,h12,hE5,hR5⟩:=hq
  have hc:=(hc.call h12).1.know (X:=fun S w=>RepEs S w (Q4 s.l (I3 s.l d.key) e d.ver).1 css5/\Row S w A5 (Q4 s.l (I3 s.l d.key) e d.ver).1.length c5 css5.flatten) ⟨hE5,hR5⟩ (fun _ _ _ _ h f=>⟨RepEs.fut h.1 f,h.2.fut f⟩)
  refine⟨_,e5,?_⟩
  refine⟨hc.may 3 rfl 0 _ (nle rfl) rfl,?_⟩
  intro w20 h20
  have hc:=(hc.set 3 rfl h20).1
  refine⟨hc.may 2 rfl 0 _ (nle rfl) rfl,?_⟩
  intro w21 h21
  have hc:=(hc.set 2 rfl h21).1
  refine hc.a 3 rfl rfl ?_
  refine hc.a 2 rfl rfl ?_
  exact⟨A5,c5,css5,rfl,hc.below,hc.out.2.1,hc.out.2.2⟩
 refine B4 k3 ?_
 refine hc.c 4 rfl rfl ?_
 cases k1:(d.kind==1)
 ·refine B4 k1 ?_
  have hH:(d.kind==1&&!N6 e d.cond d.tag)=false:=by rw [k1];rfl
  cases k2:(d.kind==2)
  ·skip
   refine hc.c 4 rfl rfl ?_
   refine B4 k2 ?_
   have hN:(d.kind==2&&!false)=false:=by rw [k2];rfl
   rcases Nat.lt_or_ge s.l.length 40 with h40 | h40
   rotate_left
   ·refine dt (show (40:Int)<=(s.l.length:Int) by omega) ?_
    rw [show doK s.l s.seq d=(s.l,⟨5,0⟩) by rw [hD,k3,hH,hN,decide_eq_true h40,Bool.not_false,Bool.true_and,Bool.or_true];rfl]
    refine hc.a 5 rfl rfl ?_
    refine⟨hc.may 3 rfl 0 _ (nle rfl) rfl,?_⟩
    intro w20 h20
    have hc:=(hc.set 3 rfl h20).1
    refine⟨hc.may 2 rfl 0 _ (nle rfl) rfl,?_⟩
    intro w21 h21
    have hc:=(hc.set 2 rfl h21).1
    refine hc.a 3 rfl rfl ?_
    refine hc.a 2 rfl rfl ?_
    exact⟨A,cap,css,rfl,hc.below,hc.out.1,hc.out.2⟩
   refine df (show ¬ (40:Int)<=(s.l.length:Int) by omega) ?_
   have ek:doK s.l s.seq d=(A3L s.l d.key false [⟨e.key,e.vs++[⟨s.seq,d.kind==2,d.body⟩]⟩],⟨0,s.seq⟩):=by rw [hD,k3,hH,hN,decide_eq_false (show ¬ 40<=s.l.length by omega),decide_eq_false h12];rfl
   have hadd:A7a e ⟨s.seq,d.kind==2,d.body⟩=(⟨e.key,e.vs++[⟨s.seq,d.kind==2,d.body⟩]⟩,true):=by
    rw [A7a,if_neg]
    rintro (h' | h')
    ·exact absurd (by rw [hev];rfl) h'.1
    ·omega
   obtain⟨vs,hvs⟩:∃ vs:List Ver,vs=e.vs++[⟨s.seq,d.kind==2,d.body⟩]:=⟨_,rfl⟩
   rw [<-hvs] at hadd ek
   clear hvs
   rw [ek]
   clear ek
   refine hc.a 1 rfl rfl ?_
   refine hc.a 0 rfl rfl ?_
   refine⟨(A3V e ⟨s.seq,d.kind==2,d.body⟩ A1 cap1 hel S _ (hRe.below hc.below)).mono fun en w13 hq=>?_⟩
   rw [hadd] at hq
   obtain⟨A2,cap2,e1,h13,ho⟩:=hq
   simp only at e1 ho
   have hc:=hc.fresh h13 ho
   obtain⟨S1,hs1,hc⟩:=hc.told
   refine⟨_,e1,?_⟩
   refine⟨hc.may 1 rfl 0 _ (Nat.le_refl 2) rfl,?_⟩
   intro w14 h14
   have hc:=(hc.set 1 rfl h14).1
   refine hc.c 5 rfl rfl ?_
   refine⟨(K6 A s.l.length cap css hE.flat hE.len hn S w14 (hR.below hc.below)).mono fun en w15 hq=>?_⟩
   obtain⟨A3,cap3,e3,h15,ho⟩:=hq
   have hc:=hc.fresh h15 ho
   refine⟨_,e3,?_⟩
   refine hc.s 5 rfl fun w16 h16 hc=>?_
   refine hc.c 5 rfl rfl ?_
   refine hc.a 1 rfl rfl ?_
   refine hc.n fun g17 w17 h17 hc=>?_
   have hcel:=hE.len
   obtain⟨hcx,hox⟩:=hc.others
   have hd:=A3X hcx css hE.flat (by rw [hcel];exact hn) (A:=A3) (cap:=cap3) (by rw [hcel];exact hox) (I3 s.l d.key) (by rw [hcel];exact A3Z _ _) 0 g17 [.string e.key,.slice A2 vs.length cap2] rfl rfl rfl
   rw [hcel] at hd
   refine⟨hd.mono fun en w18 hq=>?_⟩
   obtain⟨A4,cap4,e4,hcx,hfx,hox⟩:=hq
   have hc:=hc.back (o':=⟨90,2,A4,s.l.length+1,cap4,(css.take (I3 s.l d.key)).flatten++[.string e.key,.slice A2 vs.length cap2]++(css.drop (I3 s.l d.key)).flatten⟩) hcx hfx hox (fun x hx=>⟨x,hx,rfl⟩)
   refine⟨_,e4,?_⟩
   refine⟨hc.may 6 rfl _ _ (nle rfl) rfl,?_⟩
   intro w19 h19
   have hc:=(hc.set 6 rfl h19).1.drop
   obtain⟨S2,hs2,hc⟩:=hc.told
   refine vD (.Q [0,1,2,3] (.n 4 (.z 5) .stop)) (fun x=>Blk x g2 33 _) (hc.blk 5 rfl) ?_
   have hc:=hc.drew
   refine⟨_,?_,fun x hx=>C3 hx 0 _ 0 (fun j v hj=>by simpa using hj),?_⟩
   ·rfl
   refine⟨_,fun x hx=>hx.cell 0,?_⟩
   refine⟨⟨hc.may 3 rfl 0 _ (nle rfl) rfl,?_⟩,trivial⟩
   intro w20 h20
   have hc:=(hc.set 3 rfl h20).1
   refine⟨hc.blk 5 rfl,?_⟩
   refine⟨hc.may 2 rfl 0 _ (nle rfl) rfl,?_⟩
   intro w21 h21
   have hc:=(hc.set 2 rfl h21).1
   refine hc.a 3 rfl rfl ?_
   refine hc.a 2 rfl rfl ?_
   have ho:=hc.out
   have hpe:A3L s.l d.key false [⟨e.key,vs⟩]=s.l.take (I3 s.l d.key)++[⟨e.key,vs⟩]++s.l.drop (I3 s.l d.key):=rfl
   have hlen:(A3L s.l d.key false [⟨e.key,vs⟩]).length=s.l.length+1:=by
    have:=A3Z s.l d.key
    rw [hpe,List.length_append,List.length_append,List.length_take,List.length_drop];show min (I3 s.l d.key) s.l.length+1+_=_;omega
   refine⟨A4,cap4,css.take (I3 s.l d.key)++[[.string e.key,.slice A2 vs.length cap2]]++css.drop (I3 s.l d.key),?_,hc.below,?_,?_⟩
   ·simp only [hlen]
    rfl
   ·refine ((ho.1.1.1.take _).append ?_).append (ho.1.1.1.drop _)
    exact⟨_,_,rfl,⟨A2,cap2,rfl,ho.1.2⟩,rfl⟩
   ·simp only [hlen]
    rw [List.flatten_append,List.flatten_append,List.flatten_cons,List.flatten_nil,List.append_nil]
    exact ho.2
  ·skip
   refine hc.c 4 rfl rfl ?_
   refine B6 k2 ?_
   rw [show doK s.l s.seq d=(s.l,⟨6,0⟩) by rw [hD,k3,hH,k2];rfl]
   refine hc.a 5 rfl rfl ?_
   refine⟨hc.may 3 rfl 0 _ (nle rfl) rfl,?_⟩
   intro w20 h20
   have hc:=(hc.set 3 rfl h20).1
   refine⟨hc.may 2 rfl 0 _ (nle rfl) rfl,?_⟩
   intro w21 h21
   have hc:=(hc.set 2 rfl h21).1
   refine hc.a 3 rfl rfl ?_
   refine hc.a 2 rfl rfl ?_
   exact⟨A,cap,css,rfl,hc.below,hc.out.1,hc.out.2⟩
 ·refine B6 k1 ?_
  have k2:(d.kind==2)=false:=by
   have:d.kind=1:=by simpa using k1
   rw [this];rfl
  refine hc.a 1 rfl rfl ?_
  refine hc.c 4 rfl rfl ?_
  refine hc.c 4 rfl rfl ?_
  refine hc.q (A3U e d.cond d.tag A1 cap1 S w11 (hRe.below hc.below) heb) fun w12 h12w hc=>?_
  rcases Bool.eq_false_or_eq_true (N6 e d.cond d.tag) with hh | hh
  rotate_left
  ·refine B6 (by show (!N6 e d.cond d.tag)=true;rw [hh];rfl) ?_
   rw [show doK s.l s.seq d=(s.l,⟨9,0⟩) by rw [hD,k3,k1,hh];rfl]
   refine hc.a 5 rfl rfl ?_
   refine⟨hc.may 3 rfl 0 _ (nle rfl) rfl,?_⟩
   intro w20 h20
   have hc:=(hc.set 3 rfl h20).1
   refine⟨hc.may 2 rfl 0 _ (nle rfl) rfl,?_⟩
   intro w21 h21
   have hc:=(hc.set 2 rfl h21).1
   refine hc.a 3 rfl rfl ?_
   refine hc.a 2 rfl rfl ?_
   exact⟨A,cap,css,rfl,hc.below,hc.out.1,hc.out.2⟩
  refine B4 (by show (!N6 e d.cond d.tag)=false;rw [hh];rfl) ?_
  have hH:(d.kind==1&&!N6 e d.cond d.tag)=false:=by rw [hh,Bool.not_true,Bool.and_false]
  refine hc.c 4 rfl rfl ?_
  refine B4 k2 ?_
  have hN:(d.kind==2&&!false)=false:=by rw [k2];rfl
  rcases Nat.lt_or_ge s.l.length 40 with h40 | h40
  rotate_left
  ·refine dt (show (40:Int)<=(s.l.length:Int) by omega) ?_
   rw [show doK s.l s.seq d=(s.l,⟨5,0⟩) by rw [hD,k3,hH,hN,decide_eq_true h40,Bool.not_false,Bool.true_and,Bool.or_true];rfl]
   refine hc.a 5 rfl rfl ?_
   refine⟨hc.may 3 rfl 0 _ (nle rfl) rfl,?_⟩
   intro w20 h20
   have hc:=(hc.set 3 rfl h20).1
   refine⟨hc.may 2 rfl 0 _ (nle rfl) rfl,?_⟩
   intro w21 h21
   have hc:=(hc.set 2 rfl h21).1
   refine hc.a 3 rfl rfl ?_
   refine hc.a 2 rfl rfl ?_
   exact⟨A,cap,css,rfl,hc.below,hc.out.1,hc.out.2⟩
  refine df (show ¬ (40:Int)<=(s.l.length:Int) by omega) ?_
  have ek:doK s.l s.seq d=(A3L s.l d.key false [⟨e.key,e.vs++[⟨s.seq,d.kind==2,d.body⟩]⟩],⟨0,s.seq⟩):=by rw [hD,k3,hH,hN,decide_eq_false (show ¬ 40<=s.l.length by omega),decide_eq_false h12];rfl
  have hadd:A7a e ⟨s.seq,d.kind==2,d.body⟩=(⟨e.key,e.vs++[⟨s.seq,d.kind==2,d.body⟩]⟩,true):=by
   rw [A7a,if_neg]
   rintro (h' | h')
   ·exact absurd (by rw [hev];rfl) h'.1
   ·omega
  obtain⟨vs,hvs⟩:∃ vs:List Ver,vs=e.vs++[⟨s.seq,d.kind==2,d.body⟩]:=⟨_,rfl⟩
  rw [<-hvs] at hadd ek
  clear hvs
  rw [ek]
  clear ek
  refine hc.a 1 rfl rfl ?_
  refine hc.a 0 rfl rfl ?_
  refine⟨(A3V e ⟨s.seq,d.kind==2,d.body⟩ A1 cap1 hel S _ (hRe.below hc.below)).mono fun en w13 hq=>?_⟩
  rw [hadd] at hq
  obtain⟨A2,cap2,e1,h13,ho⟩:=hq
  simp only at e1 ho
  have hc:=hc.fresh h13 ho
  obtain⟨S1,hs1,hc⟩:=hc.told
  refine⟨_,e1,?_⟩
  refine⟨hc.may 1 rfl 0 _ (Nat.le_refl 2) rfl,?_⟩
  intro w14 h14
  have hc:=(hc.set 1 rfl h14).1
  refine hc.c 5 rfl rfl ?_
  refine⟨(K6 A s.l.length cap css hE.flat hE.len hn S w14 (hR.below hc.below)).mono fun en w15 hq=>?_⟩
  obtain⟨A3,cap3,e3,h15,ho⟩:=hq
  have hc:=hc.fresh h15 ho
  refine⟨_,e3,?_⟩
  refine hc.s 5 rfl fun w16 h16 hc=>?_
  refine hc.c 5 rfl rfl ?_
  refine hc.a 1 rfl rfl ?_
  refine hc.n fun g17 w17 h17 hc=>?_
  have hcel:=hE.len
  obtain⟨hcx,hox⟩:=hc.others
  have hd:=A3X hcx css hE.flat (by rw [hcel];exact hn) (A:=A3) (cap:=cap3) (by rw [hcel];exact hox) (I3 s.l d.key) (by rw [hcel];exact A3Z _ _) 0 g17 [.string e.key,.slice A2 vs.length cap2] rfl rfl rfl
  rw [hcel] at hd
  refine⟨hd.mono fun en w18 hq=>?_⟩
  obtain⟨A4,cap4,e4,hcx,hfx,hox⟩:=hq
  have hc:=hc.back (o':=⟨90,2,A4,s.l.length+1,cap4,(css.take (I3 s.l d.key)).flatten++[.string e.key,.slice A2 vs.length cap2]++(css.drop (I3 s.l d.key)).flatten⟩) hcx hfx hox (fun x hx=>⟨x,hx,rfl⟩)
  refine⟨_,e4,?_⟩
  refine⟨hc.may 6 rfl _ _ (nle rfl) rfl,?_⟩
  intro w19 h19
  have hc:=(hc.set 6 rfl h19).1.drop
  obtain⟨S2,hs2,hc⟩:=hc.told
  refine vD (.Q [0,1,2,3] (.n 4 (.z 5) .stop)) (fun x=>Blk x g2 33 _) (hc.blk 5 rfl) ?_
  have hc:=hc.drew
  refine⟨_,?_,fun x hx=>C3 hx 0 _ 0 (fun j v hj=>by simpa using hj),?_⟩
  ·rfl
  refine⟨_,fun x hx=>hx.cell 0,?_⟩
  refine⟨⟨hc.may 3 rfl 0 _ (nle rfl) rfl,?_⟩,trivial⟩
  intro w20 h20
  have hc:=(hc.set 3 rfl h20).1
  refine⟨hc.blk 5 rfl,?_⟩
  refine⟨hc.may 2 rfl 0 _ (nle rfl) rfl,?_⟩
  intro w21 h21
  have hc:=(hc.set 2 rfl h21).1
  refine hc.a 3 rfl rfl ?_
  refine hc.a 2 rfl rfl ?_
  have ho:=hc.out
  have hpe:A3L s.l d.key false [⟨e.key,vs⟩]=s.l.take (I3 s.l d.key)++[⟨e.key,vs⟩]++s.l.drop (I3 s.l d.key):=rfl
  have hlen:(A3L s.l d.key false [⟨e.key,vs⟩]).length=s.l.length+1:=by
   have:=A3Z s.l d.key
   rw [hpe,List.length_append,List.length_append,List.length_take,List.length_drop];show min (I3 s.l d.key) s.l.length+1+_=_;omega
  refine⟨A4,cap4,css.take (I3 s.l d.key)++[[.string e.key,.slice A2 vs.length cap2]]++css.drop (I3 s.l d.key),?_,hc.below,?_,?_⟩
  ·simp only [hlen]
   rfl
  ·refine ((ho.1.1.1.take _).append ?_).append (ho.1.1.1.drop _)
   exact⟨_,_,rfl,⟨A2,cap2,rfl,ho.1.2⟩,rfl⟩
  ·simp only [hlen]
   rw [List.flatten_append,List.flatten_append,List.flatten_cons,List.flatten_nil,List.append_nil]
   exact ho.2
theorem B59 (s:Stt) (d:D) (A B:Option Addr) (cap cap':Nat) (l0 l1 l2 l3 l4:Int) (el:s.lows=[l0,l1,l2,l3,l4]) (css:List (List Value)) (S:Nat->Prop) (w:World) (hlt:∀ b,S b->b<w.heap.size) (hE:RepEs S w s.l css) (hR:Row S w A s.l.length cap css.flatten) (hM:Row S w B s.ms.length cap' (s.ms.map F5).flatten)
  (hn:s.l.length<=1000000) (hp:s.l.Pairwise (fun a b=>D9 a.key b.key=true)) (hok:∀ e∈s.l,e.vs.length<=1000000/\(e.vs.length≠0->(H7 e.vs).ver<s.seq)/\(A2X e).1.body.size<=maxLen) (e:Ent) (hq:J1 s.l d.key=some e):
  Calls Tryz.prog 211 #[.agg (stC s A cap B cap' l0 l1 l2 l3 l4).toArray,.agg (dC d).toArray] w (RetK s B cap' l0 l1 l2 l3 l4 S (doK s.l s.seq d) w):=by
 have hrep:RepS S w s (stC s A cap B cap' l0 l1 l2 l3 l4):=⟨A,cap,css,B,cap',by rw [el];rfl,by rw [el];rfl,hE,hR,hM⟩
 have hRm:=C9 hR
 refine vE Tryz.func211 ?_
 intro g2 w1 h1
 have hc:=((CtxF.start w S hlt (R:=B1p s.l css A cap) ⟨hE,hR⟩ (A4W _ _ _ _)).loc h1).1
 refine hc.n fun g3 w2 h2 hc=>?_
 refine hc.n fun g4 w3 h3 hc=>?_
 refine hc.n fun g5 w4 h4 hc=>?_
 refine hc.a 3 rfl rfl ?_
 refine hc.c 2 rfl rfl ?_
 have hfind:=A8r s d.key hp hn _ S w4 (hrep.below hc.below)
 rw [hq] at hfind
 refine C2 hfind ?_
 clear hfind
 intro w5 h5
 have hc:=(hc.quiet h5).1
 refine hc.c 2 rfl rfl ?_
 refine hc.n fun g8 w6 h6 hc=>?_
 refine⟨hc.may 0 rfl _ _ (Nat.le_refl 2) rfl,?_⟩
 intro w7 h7
 have hc:=(hc.set 0 rfl h7).1
 have hD:=B5I s.l s.seq d
 rw [hq] at hD
 have hD:=hD true e rfl rfl
 obtain⟨hg,_⟩:=W3 hq
 have hpl:I3 s.l d.key<s.l.length:=(List.getElem?_eq_some_iff.1 hg).1
 have hge:s.l[I3 s.l d.key]=e:=(List.getElem?_eq_some_iff.1 hg).2
 obtain⟨hel,hev,heb⟩:=hok e (A6Z hq)
 refine hc.c 4 rfl rfl ?_
 obtain⟨ad,A1,cap1,e1,hcell,hRe⟩:=RowE.elem hR hE (I3 s.l d.key) hpl
 have hcell:=cellsAt_later hc.below _ _ hcell
 rw [hge] at hcell hRe
 subst e1
 refine⟨⟨Int.natCast_nonneg _,Int.ofNat_lt.2 hpl⟩,?_⟩
 refine⟨[.string e.key,.slice A1 e.vs.length cap1],rfl,hcell,?_⟩
 refine⟨hc.may 0 rfl _ _ (Nat.le_refl 2) rfl,?_⟩
 intro w8 h8
 have hc:=(hc.set 0 rfl h8).1
 have hc:CtxF S w S w8 [(g8,90,[.string e.key,.slice A1 e.vs.length cap1]),(g5,24,[.int .i64 0,.int .i64 0]),(g4,33,(lay.ty 33).zero),(g3,60,dC d),(g2,33,stC s (some ad) cap B cap' l0 l1 l2 l3 l4)] [] (B1p s.l css (some ad) cap):=hc
 refine hc.c 0 rfl rfl ?_
 rcases Nat.lt_or_ge e.vs.length 12 with h12' | h12
 rotate_left
 ·refine dt (show (12:Int)<=(e.vs.length:Int) by omega) ?_
  refine hc.c 4 rfl rfl ?_
  refine hc.c 3 rfl rfl ?_
  refine hc.c 3 rfl rfl ?_
  refine hc.n fun g10 w10 h10 hc=>?_
  refine⟨hc.may 0 rfl _ _ (Nat.le_refl 3) rfl,?_⟩
  intro w11 h11
  have hc:=(hc.set 0 rfl h11).1
  refine hc.c 4 rfl rfl ?_
  cases k3:(d.kind==3)
  rotate_left
  ·refine B6 k3 ?_
   rw [show doK s.l s.seq d=Q4 s.l (I3 s.l d.key) e d.ver by rw [hD,k3];rfl]
   refine hc.a 5 rfl rfl ?_
   refine hc.a 1 rfl rfl ?_
   refine hc.c 4 rfl rfl ?_
   refine⟨(A2D s (some ad) B cap cap' l0 l1 l2 l3 l4 css S w11 (hE.below hc.below) (hR.below hc.below) hn (I3 s.l d.key) e A1 cap1 (hRe.below hc.below) hel d.ver (fun h=>hpl)).mono fun en w12 hq=>?_⟩
   obtain⟨A5,c5,css5,e5,h12,hE5,hR5⟩:=hq
   have hc:=(hc.call h12).1.know (X:=fun S w=>RepEs S w (Q4 s.l (I3 s.l d.key) e d.ver).1 css5/\Row S w A5 (Q4 s.l (I3 s.l d.key) e d.ver).1.length c5 css5.flatten) ⟨hE5,hR5⟩ (fun _ _ _ _ h f=>⟨RepEs.fut h.1 f,h.2.fut f⟩)
   refine⟨_,e5,?_⟩
   refine⟨hc.may 3 rfl 0 _ (nle rfl) rfl,?_⟩
   intro w20 h20
   have hc:=(hc.set 3 rfl h20).1
   refine⟨hc.may 2 rfl 0 _ (nle rfl) rfl,?_⟩
   intro w21 h21
   have hc:=(hc.set 2 rfl h21).1
   refine hc.a 3 rfl rfl ?_
   refine hc.a 2 rfl rfl ?_
   exact⟨A5,c5,css5,rfl,hc.below,hc.out.2.1,hc.out.2.2⟩
  refine B4 k3 ?_
  refine hc.c 4 rfl rfl ?_
  cases k1:(d.kind==1)
  ·refine B4 k1 ?_
   have hH:(d.kind==1&&!N6 e d.cond d.tag)=false:=by rw [k1];rfl
   cases k2:(d.kind==2)
   ·skip
    refine hc.c 4 rfl rfl ?_
    refine B4 k2 ?_
    have hN:(d.kind==2&&!true)=false:=by rw [Bool.not_true,Bool.and_false]
    rw [show doK s.l s.seq d=(s.l,⟨5,0⟩) by rw [hD,k3,hH,hN,decide_eq_true h12];rfl]
    refine hc.a 5 rfl rfl ?_
    refine⟨hc.may 3 rfl 0 _ (nle rfl) rfl,?_⟩
    intro w20 h20
    have hc:=(hc.set 3 rfl h20).1
    refine⟨hc.may 2 rfl 0 _ (nle rfl) rfl,?_⟩
    intro w21 h21
    have hc:=(hc.set 2 rfl h21).1
    refine hc.a 3 rfl rfl ?_
    refine hc.a 2 rfl rfl ?_
    exact⟨(some ad),cap,css,rfl,hc.below,hc.out.1,hc.out.2⟩
   ·skip
    refine hc.c 4 rfl rfl ?_
    refine B6 k2 ?_
    have hN:(d.kind==2&&!true)=false:=by rw [Bool.not_true,Bool.and_false]
    rw [show doK s.l s.seq d=(s.l,⟨5,0⟩) by rw [hD,k3,hH,hN,decide_eq_true h12];rfl]
    refine hc.a 5 rfl rfl ?_
    refine⟨hc.may 3 rfl 0 _ (nle rfl) rfl,?_⟩
    intro w20 h20
    have hc:=(hc.set 3 rfl h20).1
    refine⟨hc.may 2 rfl 0 _ (nle rfl) rfl,?_⟩
    intro w21 h21
    have hc:=(hc.set 2 rfl h21).1
    refine hc.a 3 rfl rfl ?_
    refine hc.a 2 rfl rfl ?_
    exact⟨(some ad),cap,css,rfl,hc.below,hc.out.1,hc.out.2⟩
  ·refine B6 k1 ?_
   have k2:(d.kind==2)=false:=by
    have:d.kind=1:=by simpa using k1
    rw [this];rfl
   refine hc.a 1 rfl rfl ?_
   refine hc.c 4 rfl rfl ?_
   refine hc.c 4 rfl rfl ?_
   refine hc.q (A3U e d.cond d.tag A1 cap1 S w11 (hRe.below hc.below) heb) fun w12 h12w hc=>?_
   rcases Bool.eq_false_or_eq_true (N6 e d.cond d.tag) with hh | hh
   rotate_left
   ·refine B6 (by show (!N6 e d.cond d.tag)=true;rw [hh];rfl) ?_
    rw [show doK s.l s.seq d=(s.l,⟨9,0⟩) by rw [hD,k3,k1,hh];rfl]
    refine hc.a 5 rfl rfl ?_
    refine⟨hc.may 3 rfl 0 _ (nle rfl) rfl,?_⟩
    intro w20 h20
    have hc:=(hc.set 3 rfl h20).1
    refine⟨hc.may 2 rfl 0 _ (nle rfl) rfl,?_⟩
    intro w21 h21
    have hc:=(hc.set 2 rfl h21).1
    refine hc.a 3 rfl rfl ?_
    refine hc.a 2 rfl rfl ?_
    exact⟨(some ad),cap,css,rfl,hc.below,hc.out.1,hc.out.2⟩
   refine B4 (by show (!N6 e d.cond d.tag)=false;rw [hh];rfl) ?_
   have hH:(d.kind==1&&!N6 e d.cond d.tag)=false:=by rw [hh,Bool.not_true,Bool.and_false]
   refine hc.c 4 rfl rfl ?_
   refine B4 k2 ?_
   have hN:(d.kind==2&&!true)=false:=by rw [Bool.not_true,Bool.and_false]
   rw [show doK s.l s.seq d=(s.l,⟨5,0⟩) by rw [hD,k3,hH,hN,decide_eq_true h12];rfl]
   refine hc.a 5 rfl rfl ?_
   refine⟨hc.may 3 rfl 0 _ (nle rfl) rfl,?_⟩
   intro w20 h20
   have hc:=(hc.set 3 rfl h20).1
   refine⟨hc.may 2 rfl 0 _ (nle rfl) rfl,?_⟩
   intro w21 h21
   have hc:=(hc.set 2 rfl h21).1
   refine hc.a 3 rfl rfl ?_
   refine hc.a 2 rfl rfl ?_
   exact⟨(some ad),cap,css,rfl,hc.below,hc.out.1,hc.out.2⟩
 have h12:¬ 12<=e.vs.length:=by omega
 refine df (show ¬ (12:Int)<=(e.vs.length:Int) by omega) ?_
 refine hc.c 4 rfl rfl ?_
 refine hc.c 3 rfl rfl ?_
 refine hc.c 3 rfl rfl ?_
 refine hc.n fun g10 w10 h10 hc=>?_
 refine⟨hc.may 0 rfl _ _ (Nat.le_refl 3) rfl,?_⟩
 intro w11 h11
 have hc:=(hc.set 0 rfl h11).1
 refine hc.c 4 rfl rfl ?_
 cases k3:(d.kind==3)
 rotate_left
 ·refine B6 k3 ?_
  rw [show doK s.l s.seq d=Q4 s.l (I3 s.l d.key) e d.ver by rw [hD,k3];rfl]
  refine hc.a 5 rfl rfl ?_
  refine hc.a 1 rfl rfl ?_
  refine hc.c 4 rfl rfl ?_
  refine⟨(A2D s (some ad) B cap cap' l0 l1 l2 l3 l4 css S w11 (hE.below hc.below) (hR.below hc.below) hn (I3 s.l d.key) e A1 cap1 (hRe.below hc.below) hel d.ver (fun h=>hpl)).mono fun en w12 hq=>?_⟩
  obtain⟨A5,c5,css5,e5,h12,hE5,hR5⟩:=hq
  have hc:=(hc.call h12).1.know (X:=fun S w=>RepEs S w (Q4 s.l (I3 s.l d.key) e d.ver).1 css5/\Row S w A5 (Q4 s.l (I3 s.l d.key) e d.ver).1.length c5 css5.flatten) ⟨hE5,hR5⟩ (fun _ _ _ _ h f=>⟨RepEs.fut h.1 f,h.2.fut f⟩)
  refine⟨_,e5,?_⟩
  refine⟨hc.may 3 rfl 0 _ (nle rfl) rfl,?_⟩
  intro w20 h20
  have hc:=(hc.set 3 rfl h20).1
  refine⟨hc.may 2 rfl 0 _ (nle rfl) rfl,?_⟩
  intro w21 h21
  have hc:=(hc.set 2 rfl h21).1
  refine hc.a 3 rfl rfl ?_
  refine hc.a 2 rfl rfl ?_
  exact⟨A5,c5,css5,rfl,hc.below,hc.out.2.1,hc.out.2.2⟩
 refine B4 k3 ?_
 refine hc.c 4 rfl rfl ?_
 cases k1:(d.kind==1)
 ·refine B4 k1 ?_
  have hH:(d.kind==1&&!N6 e d.cond d.tag)=false:=by rw [k1];rfl
  cases k2:(d.kind==2)
  ·skip
   refine hc.c 4 rfl rfl ?_
   refine B4 k2 ?_
   have hN:(d.kind==2&&!true)=false:=by rw [Bool.not_true,Bool.and_false]
   have ek:doK s.l s.seq d=(A3L s.l d.key true [⟨e.key,e.vs++[⟨s.seq,d.kind==2,d.body⟩]⟩],⟨0,s.seq⟩):=by rw [hD,k3,hH,hN,decide_eq_false h12];rfl
   have hadd:A7a e ⟨s.seq,d.kind==2,d.body⟩=(⟨e.key,e.vs++[⟨s.seq,d.kind==2,d.body⟩]⟩,true):=by
    rw [A7a,if_neg]
    rintro (h' | h')
    ·have:=hev h'.1;exact absurd h'.2 (by show ¬ s.seq<=(H7 e.vs).ver;omega)
    ·omega
   obtain⟨vs,hvs⟩:∃ vs:List Ver,vs=e.vs++[⟨s.seq,d.kind==2,d.body⟩]:=⟨_,rfl⟩
   rw [<-hvs] at hadd ek
   clear hvs
   rw [ek]
   clear ek
   refine hc.a 1 rfl rfl ?_
   refine hc.a 0 rfl rfl ?_
   refine⟨(A3V e ⟨s.seq,d.kind==2,d.body⟩ A1 cap1 hel S _ (hRe.below hc.below)).mono fun en w13 hq=>?_⟩
   rw [hadd] at hq
   obtain⟨A2,cap2,e1,h13,ho⟩:=hq
   simp only at e1 ho
   have hc:=hc.fresh h13 ho
   obtain⟨S1,hs1,hc⟩:=hc.told
   refine⟨_,e1,?_⟩
   refine⟨hc.may 1 rfl 0 _ (Nat.le_refl 2) rfl,?_⟩
   intro w14 h14
   have hc:=(hc.set 1 rfl h14).1
   refine hc.c 5 rfl rfl ?_
   refine⟨(K6 (some ad) s.l.length cap css hE.flat hE.len hn S w14 (hR.below hc.below)).mono fun en w15 hq=>?_⟩
   obtain⟨A3,cap3,e3,h15,ho⟩:=hq
   have hc:=hc.fresh h15 ho
   refine⟨_,e3,?_⟩
   refine hc.s 5 rfl fun w16 h16 hc=>?_
   refine hc.c 5 rfl rfl ?_
   refine hc.a 1 rfl rfl ?_
   cases hA3:A3 with
   | none=>
    have hz:s.l.length=0:=(hc.fst.none' hA3).1
    omega
   | some a=>
   obtain⟨g,cur,ea,hc,hcl,hct,hnc,hcm⟩:=hc.opened hA3
   rw [hA3] at ea
   cases ea
   refine⟨⟨Int.natCast_nonneg _,Int.ofNat_lt.2 hpl⟩,?_⟩
   generalize hae:((⟨g,0,none⟩:Addr).add ((I3 s.l d.key:Int).toNat*2))=ae
   rw [Addr.add_lit,Nat.zero_add,Int.toNat_natCast] at hae
   subst hae
   refine⟨hc.may 0 rfl (I3 s.l d.key*2) [.string e.key,.slice A2 vs.length cap2] (by show I3 s.l d.key*2+2<=cur.length;omega) rfl,?_⟩
   intro w17 h17
   have h17:E2 w16 ⟨g,I3 s.l d.key*2,none⟩ [.string e.key,.slice A2 vs.length cap2] w17:=h17
   have hc:=(hc.set 0 rfl h17).1
   have hc:=CtxF.closed hc 2 s.l.length cap3 hnc hcm (by rw [D4,hcl])
   rw [A5O (c:=[.string e.key,.slice A2 vs.length cap2]) hE.flat rfl hcl hE.len hnc hct _ hpl] at hc
   obtain⟨S2,hs2,hc⟩:=hc.told
   refine vD (.Q [0,1,2,3] (.n 4 (.z 5) .stop)) (fun x=>Blk x g2 33 _) (hc.blk 5 rfl) ?_
   have hc:=hc.drew
   refine⟨_,?_,fun x hx=>C3 hx 0 _ 0 (fun j v hj=>by simpa using hj),?_⟩
   ·rfl
   refine⟨_,fun x hx=>hx.cell 0,?_⟩
   refine⟨⟨hc.may 3 rfl 0 _ (nle rfl) rfl,?_⟩,trivial⟩
   intro w20 h20
   have hc:=(hc.set 3 rfl h20).1
   refine⟨hc.blk 5 rfl,?_⟩
   refine⟨hc.may 2 rfl 0 _ (nle rfl) rfl,?_⟩
   intro w21 h21
   have hc:=(hc.set 2 rfl h21).1
   refine hc.a 3 rfl rfl ?_
   refine hc.a 2 rfl rfl ?_
   have ho:=hc.out
   have hlen:(A3L s.l d.key true [⟨e.key,vs⟩]).length=s.l.length:=by unfold A3L;rw [if_pos rfl,List.length_append,List.length_append,List.length_take,List.length_drop];show min (I3 s.l d.key) s.l.length+1+_=_;omega
   refine⟨A3,cap3,css.take (I3 s.l d.key)++[[.string e.key,.slice A2 vs.length cap2]]++css.drop (I3 s.l d.key+1),?_,hc.below,?_,?_⟩
   ·simp only [hlen]
    rfl
   ·refine ((ho.1.1.1.take _).append ?_).append (ho.1.1.1.drop _)
    exact⟨_,_,rfl,⟨A2,cap2,rfl,ho.1.2⟩,rfl⟩
   ·simp only [hlen]
    rw [hA3]
    exact ho.2
  ·skip
   refine hc.c 4 rfl rfl ?_
   refine B6 k2 ?_
   have hN:(d.kind==2&&!true)=false:=by rw [Bool.not_true,Bool.and_false]
   have ek:doK s.l s.seq d=(A3L s.l d.key true [⟨e.key,e.vs++[⟨s.seq,d.kind==2,d.body⟩]⟩],⟨0,s.seq⟩):=by rw [hD,k3,hH,hN,decide_eq_false h12];rfl
   have hadd:A7a e ⟨s.seq,d.kind==2,d.body⟩=(⟨e.key,e.vs++[⟨s.seq,d.kind==2,d.body⟩]⟩,true):=by
    rw [A7a,if_neg]
    rintro (h' | h')
    ·have:=hev h'.1;exact absurd h'.2 (by show ¬ s.seq<=(H7 e.vs).ver;omega)
    ·omega
   obtain⟨vs,hvs⟩:∃ vs:List Ver,vs=e.vs++[⟨s.seq,d.kind==2,d.body⟩]:=⟨_,rfl⟩
   rw [<-hvs] at hadd ek
   clear hvs
   rw [ek]
   clear ek
   refine hc.a 1 rfl rfl ?_
   refine hc.a 0 rfl rfl ?_
   refine⟨(A3V e ⟨s.seq,d.kind==2,d.body⟩ A1 cap1 hel S _ (hRe.below hc.below)).mono fun en w13 hq=>?_⟩
   rw [hadd] at hq
   obtain⟨A2,cap2,e1,h13,ho⟩:=hq
   simp only at e1 ho
   have hc:=hc.fresh h13 ho
   obtain⟨S1,hs1,hc⟩:=hc.told
   refine⟨_,e1,?_⟩
   refine⟨hc.may 1 rfl 0 _ (Nat.le_refl 2) rfl,?_⟩
   intro w14 h14
   have hc:=(hc.set 1 rfl h14).1
   refine hc.c 5 rfl rfl ?_
   refine⟨(K6 (some ad) s.l.length cap css hE.flat hE.len hn S w14 (hR.below hc.below)).mono fun en w15 hq=>?_⟩
   obtain⟨A3,cap3,e3,h15,ho⟩:=hq
   have hc:=hc.fresh h15 ho
   refine⟨_,e3,?_⟩
   refine hc.s 5 rfl fun w16 h16 hc=>?_
   refine hc.c 5 rfl rfl ?_
   refine hc.a 1 rfl rfl ?_
   cases hA3:A3 with
   | none=>
    have hz:s.l.length=0:=(hc.fst.none' hA3).1
    omega
   | some a=>
   obtain⟨g,cur,ea,hc,hcl,hct,hnc,hcm⟩:=hc.opened hA3
   rw [hA3] at ea
   cases ea
   refine⟨⟨Int.natCast_nonneg _,Int.ofNat_lt.2 hpl⟩,?_⟩
   generalize hae:((⟨g,0,none⟩:Addr).add ((I3 s.l d.key:Int).toNat*2))=ae
   rw [Addr.add_lit,Nat.zero_add,Int.toNat_natCast] at hae
   subst hae
   refine⟨hc.may 0 rfl (I3 s.l d.key*2) [.string e.key,.slice A2 vs.length cap2] (by show I3 s.l d.key*2+2<=cur.length;omega) rfl,?_⟩
   intro w17 h17
   have h17:E2 w16 ⟨g,I3 s.l d.key*2,none⟩ [.string e.key,.slice A2 vs.length cap2] w17:=h17
   have hc:=(hc.set 0 rfl h17).1
   have hc:=CtxF.closed hc 2 s.l.length cap3 hnc hcm (by rw [D4,hcl])
   rw [A5O (c:=[.string e.key,.slice A2 vs.length cap2]) hE.flat rfl hcl hE.len hnc hct _ hpl] at hc
   obtain⟨S2,hs2,hc⟩:=hc.told
   refine vD (.Q [0,1,2,3] (.n 4 (.z 5) .stop)) (fun x=>Blk x g2 33 _) (hc.blk 5 rfl) ?_
   have hc:=hc.drew
   refine⟨_,?_,fun x hx=>C3 hx 0 _ 0 (fun j v hj=>by simpa using hj),?_⟩
   ·rfl
   refine⟨_,fun x hx=>hx.cell 0,?_⟩
   refine⟨⟨hc.may 3 rfl 0 _ (nle rfl) rfl,?_⟩,trivial⟩
   intro w20 h20
   have hc:=(hc.set 3 rfl h20).1
   refine⟨hc.blk 5 rfl,?_⟩
   refine⟨hc.may 2 rfl 0 _ (nle rfl) rfl,?_⟩
   intro w21 h21
   have hc:=(hc.set 2 rfl h21).1
   refine hc.a 3 rfl rfl ?_
   refine hc.a 2 rfl rfl ?_
   have ho:=hc.out
   have hlen:(A3L s.l d.key true [⟨e.key,vs⟩]).length=s.l.length:=by unfold A3L;rw [if_pos rfl,List.length_append,List.length_append,List.length_take,List.length_drop];show min (I3 s.l d.key) s.l.length+1+_=_;omega
   refine⟨A3,cap3,css.take (I3 s.l d.key)++[[.string e.key,.slice A2 vs.length cap2]]++css.drop (I3 s.l d.key+1),?_,hc.below,?_,?_⟩
   ·simp only [hlen]
    rfl
   ·refine ((ho.1.1.1.take _).append ?_).append (ho.1.1.1.drop _)
    exact⟨_,_,rfl,⟨A2,cap2,rfl,ho.1.2⟩,rfl⟩
   ·simp only [hlen]
    rw [hA3]
    exact ho.2
 ·refine B6 k1 ?_
  have k2:(d.kind==2)=false:=by
   have:d.kind=1:=by simpa using k1
   rw [this];rfl
  refine hc.a 1 rfl rfl ?_
  refine hc.c 4 rfl rfl ?_
  refine hc.c 4 rfl rfl ?_
  refine hc.q (A3U e d.cond d.tag A1 cap1 S w11 (hRe.below hc.below) heb) fun w12 h12w hc=>?_
  rcases Bool.eq_false_or_eq_true (N6 e d.cond d.tag) with hh | hh
  rotate_left
  ·refine B6 (by show (!N6 e d.cond d.tag)=true;rw [hh];rfl) ?_
   rw [show doK s.l s.seq d=(s.l,⟨9,0⟩) by rw [hD,k3,k1,hh];rfl]
   refine hc.a 5 rfl rfl ?_
   refine⟨hc.may 3 rfl 0 _ (nle rfl) rfl,?_⟩
   intro w20 h20
   have hc:=(hc.set 3 rfl h20).1
   refine⟨hc.may 2 rfl 0 _ (nle rfl) rfl,?_⟩
   intro w21 h21
   have hc:=(hc.set 2 rfl h21).1
   refine hc.a 3 rfl rfl ?_
   refine hc.a 2 rfl rfl ?_
   exact⟨(some ad),cap,css,rfl,hc.below,hc.out.1,hc.out.2⟩
  refine B4 (by show (!N6 e d.cond d.tag)=false;rw [hh];rfl) ?_
  have hH:(d.kind==1&&!N6 e d.cond d.tag)=false:=by rw [hh,Bool.not_true,Bool.and_false]
  refine hc.c 4 rfl rfl ?_
  refine B4 k2 ?_
  have hN:(d.kind==2&&!true)=false:=by rw [Bool.not_true,Bool.and_false]
  have ek:doK s.l s.seq d=(A3L s.l d.key true [⟨e.key,e.vs++[⟨s.seq,d.kind==2,d.body⟩]⟩],⟨0,s.seq⟩):=by rw [hD,k3,hH,hN,decide_eq_false h12];rfl
  have hadd:A7a e ⟨s.seq,d.kind==2,d.body⟩=(⟨e.key,e.vs++[⟨s.seq,d.kind==2,d.body⟩]⟩,true):=by
   rw [A7a,if_neg]
   rintro (h' | h')
   ·have:=hev h'.1;exact absurd h'.2 (by show ¬ s.seq<=(H7 e.vs).ver;omega)
   ·omega
  obtain⟨vs,hvs⟩:∃ vs:List Ver,vs=e.vs++[⟨s.seq,d.kind==2,d.body⟩]:=⟨_,rfl⟩
  rw [<-hvs] at hadd ek
  clear hvs
  rw [ek]
  clear ek
  refine hc.a 1 rfl rfl ?_
  refine hc.a 0 rfl rfl ?_
  refine⟨(A3V e ⟨s.seq,d.kind==2,d.body⟩ A1 cap1 hel S _ (hRe.below hc.below)).mono fun en w13 hq=>?_⟩
  rw [hadd] at hq
  obtain⟨A2,cap2,e1,h13,ho⟩:=hq
  simp only at e1 ho
  have hc:=hc.fresh h13 ho
  obtain⟨S1,hs1,hc⟩:=hc.told
  refine⟨_,e1,?_⟩
  refine⟨hc.may 1 rfl 0 _ (Nat.le_refl 2) rfl,?_⟩
  intro w14 h14
  have hc:=(hc.set 1 rfl h14).1
  refine hc.c 5 rfl rfl ?_
  refine⟨(K6 (some ad) s.l.length cap css hE.flat hE.len hn S w14 (hR.below hc.below)).mono fun en w15 hq=>?_⟩
  obtain⟨A3,cap3,e3,h15,ho⟩:=hq
  have hc:=hc.fresh h15 ho
  refine⟨_,e3,?_⟩
  refine hc.s 5 rfl fun w16 h16 hc=>?_
  refine hc.c 5 rfl rfl ?_
  refine hc.a 1 rfl rfl ?_
  cases hA3:A3 with
  | none=>
   have hz:s.l.length=0:=(hc.fst.none' hA3).1
   omega
  | some a=>
  obtain⟨g,cur,ea,hc,hcl,hct,hnc,hcm⟩:=hc.opened hA3
  rw [hA3] at ea
  cases ea
  refine⟨⟨Int.natCast_nonneg _,Int.ofNat_lt.2 hpl⟩,?_⟩
  generalize hae:((⟨g,0,none⟩:Addr).add ((I3 s.l d.key:Int).toNat*2))=ae
  rw [Addr.add_lit,Nat.zero_add,Int.toNat_natCast] at hae
  subst hae
  refine⟨hc.may 0 rfl (I3 s.l d.key*2) [.string e.key,.slice A2 vs.length cap2] (by show I3 s.l d.key*2+2<=cur.length;omega) rfl,?_⟩
  intro w17 h17
  have h17:E2 w16 ⟨g,I3 s.l d.key*2,none⟩ [.string e.key,.slice A2 vs.length cap2] w17:=h17
  have hc:=(hc.set 0 rfl h17).1
  have hc:=CtxF.closed hc 2 s.l.length cap3 hnc hcm (by rw [D4,hcl])
  rw [A5O (c:=[.string e.key,.slice A2 vs.length cap2]) hE.flat rfl hcl hE.len hnc hct _ hpl] at hc
  obtain⟨S2,hs2,hc⟩:=hc.told
  refine vD (.Q [0,1,2,3] (.n 4 (.z 5) .stop)) (fun x=>Blk x g2 33 _) (hc.blk 5 rfl) ?_
  have hc:=hc.drew
  refine⟨_,?_,fun x hx=>C3 hx 0 _ 0 (fun j v hj=>by simpa using hj),?_⟩
  ·rfl
  refine⟨_,fun x hx=>hx.cell 0,?_⟩
  refine⟨⟨hc.may 3 rfl 0 _ (nle rfl) rfl,?_⟩,trivial⟩
  intro w20 h20
  have hc:=(hc.set 3 rfl h20).1
  refine⟨hc.blk 5 rfl,?_⟩
  refine⟨hc.may 2 rfl 0 _ (nle rfl) rfl,?_⟩
  intro w21 h21
  have hc:=(hc.set 2 rfl h21).1
  refine hc.a 3 rfl rfl ?_
  refine hc.a 2 rfl rfl ?_
  have ho:=hc.out
  have hlen:(A3L s.l d.key true [⟨e.key,vs⟩]).length=s.l.length:=by unfold A3L;rw [if_pos rfl,List.length_append,List.length_append,List.length_take,List.length_drop];show min (I3 s.l d.key) s.l.length+1+_=_;omega
  refine⟨A3,cap3,css.take (I3 s.l d.key)++[[.string e.key,.slice A2 vs.length cap2]]++css.drop (I3 s.l d.key+1),?_,hc.below,?_,?_⟩
  ·simp only [hlen]
   rfl
  ·refine ((ho.1.1.1.take _).append ?_).append (ho.1.1.1.drop _)
   exact⟨_,_,rfl,⟨A2,cap2,rfl,ho.1.2⟩,rfl⟩
  ·simp only [hlen]
   rw [hA3]
   exact ho.2
theorem B6A (s:Stt) (d:D) (A B:Option Addr) (cap cap':Nat) (l0 l1 l2 l3 l4:Int) (el:s.lows=[l0,l1,l2,l3,l4]) (css:List (List Value)) (S:Nat->Prop) (w:World) (hE:RepEs S w s.l css) (hR:Row S w A s.l.length cap css.flatten) (hM:Row S w B s.ms.length cap' (s.ms.map F5).flatten)
  (hn:s.l.length<=1000000) (hp:s.l.Pairwise (fun a b=>D9 a.key b.key=true)) (hok:∀ e∈s.l,e.vs.length<=1000000/\(e.vs.length≠0->(H7 e.vs).ver<s.seq)/\(A2X e).1.body.size<=maxLen):
  Calls Tryz.prog 211 #[.agg (stC s A cap B cap' l0 l1 l2 l3 l4).toArray,.agg (dC d).toArray] w (RetK s B cap' l0 l1 l2 l3 l4 S (doK s.l s.seq d) w):=by
 cases hq:J1 s.l d.key with
 | none=>exact (B36 s d A B cap cap' l0 l1 l2 l3 l4 el css _ w (fun b h=>h.2) hE.cutS (Row.cutS hR) (Row.cutS hM) hn hp hok hq).mono fun _ _ h=>h.wide
 | some e=>exact (B59 s d A B cap cap' l0 l1 l2 l3 l4 el css _ w (fun b h=>h.2) hE.cutS (Row.cutS hR) (Row.cutS hM) hn hp hok e hq).mono fun _ _ h=>h.wide
abbrev B8r (l:List Ent):Prop:=l.Pairwise (fun a b=>D9 a.key b.key=true)
abbrev B8s (l:List Mem):Prop:=l.Pairwise (fun a b=>a.req<b.req)
theorem B1q {seq:Int} {p:Option ByteArray} {l:List Ent} (h:A14 seq p l=true):B8r l:=((L8 _ _ _).1 h).2.1
theorem B1r {lows:List Int} {seq:Int} {p:Option Int} {l:List Mem} (h:A1X lows seq p l=true):B8s l:=((U3 _ _ _ _).1 h).2.1
theorem B1s {l:List Mem} (n:Nat) (m x:Mem):x∈l.take n++m::l.drop n↔x=m\/x∈l:=by
 rw [List.mem_append,List.mem_cons]
 have:x∈l↔x∈l.take n\/x∈l.drop n:=by
  rw [<-List.mem_append,List.take_append_drop]
 rw [this]
 constructor
 ·rintro (h | h | h)
  ·exact .inr (.inl h)
  ·exact .inl h
  ·exact .inr (.inr h)
 ·rintro (h | h | h)
  ·exact .inr (.inl h)
  ·exact .inl h
  ·exact .inr (.inr h)
theorem A6j {d:D} (h:J4 d=true):C0 d.req≠0:=by
 unfold J4 at h
 simp only [Bool.and_eq_true,Bool.not_eq_true',beq_eq_false_iff_ne,ne_eq] at h
 exact h.1.1.1.2
theorem B37 {d:D} (h:J4 d=true):d.low<=d.req:=by
 unfold J4 at h
 simp only [Bool.and_eq_true,Bool.not_eq_true',decide_eq_false_iff_not] at h
 have:=h.1.2
 omega
inductive Done (s:Stt) (d:D):Prop where
 | form (h:Q1 s=false\/J4 d=false) (e:doS s d=(s,⟨1,0⟩))
 | top (h:J9<=s.seq) (e:doS s d=(s,⟨5,0⟩))
 | old (hs:Q1 s=true) (hd:J4 d=true) (hq:s.seq<J9) (h:d.req<M1 s.lows (C0 d.req)) (e:doS s d=(⟨s.seq+1,s.l,s.ms,s.lows⟩,⟨12,0⟩))
 | told (hs:Q1 s=true) (hd:J4 d=true) (hq:s.seq<J9) (h:M1 s.lows (C0 d.req)<=d.req) (m:Mem) (hm:A0N s.ms d.req=some m) (e:doS s d=(⟨s.seq+1,s.l,s.ms,s.lows⟩,m.res))
 | full (hs:Q1 s=true) (hd:J4 d=true) (hq:s.seq<J9) (h:M1 s.lows (C0 d.req)<=d.req) (hm:A0N s.ms d.req=none) (hf:100<=s.ms.length) (e:doS s d=(⟨s.seq+1,s.l,s.ms,s.lows⟩,⟨5,0⟩))
 | new (hs:Q1 s=true) (hd:J4 d=true) (hq:s.seq<J9) (h:M1 s.lows (C0 d.req)<=d.req) (hm:A0N s.ms d.req=none) (hf:s.ms.length<100) (ms:List Mem) (lows:List Int)
   (hx:∀ m,m∈ms↔(m=⟨d.req,(doK s.l (s.seq+1) d).2⟩\/m∈s.ms)/\¬ (m.req<d.low/\C0 m.req=C0 d.req/\M1 s.lows (C0 d.req)<d.low/\C0 d.low=C0 d.req))
   (hl:lows=if M1 s.lows (C0 d.req)<d.low/\C0 d.low=C0 d.req then s.lows.set (C0 d.req-1).toNat d.low else s.lows)
   (e:doS s d=(⟨s.seq+1,(doK s.l (s.seq+1) d).1,ms,lows⟩,(doK s.l (s.seq+1) d).2))
theorem A8t (s:Stt) (d:D):Done s d:=by
 cases hs:Q1 s with
 | false=>exact .form (.inl hs) (by simp [doS,hs])
 | true=>
 cases hd:J4 d with
 | false=>exact .form (.inr hd) (by simp [doS,hd])
 | true=>
 by_cases hq:J9<=s.seq
 ·exact .top hq (by simp [doS,hs,hd,hq])
 have hq':s.seq<J9:=by omega
 by_cases h:d.req<M1 s.lows (C0 d.req)
 ·exact .old hs hd hq' h (by simp [doS,hs,hd,hq,h])
 have h':M1 s.lows (C0 d.req)<=d.req:=by omega
 cases hm:A0N s.ms d.req with
 | some m=>exact .told hs hd hq' h' m hm (by simp [doS,hs,hd,hq,h,hm])
 | none=>
 by_cases hf:100<=s.ms.length
 ·exact .full hs hd hq' h' hm hf (by simp [doS,hs,hd,hq,h,hm,hf])
 by_cases hc:M1 s.lows (C0 d.req)<d.low/\C0 d.low=C0 d.req
 ·refine .new hs hd hq' h' hm (by omega) (T9 d.low (C0 d.req) (s.ms.take (R8 s.ms d.req)++⟨d.req,(doK s.l (s.seq+1) d).2⟩::s.ms.drop (R8 s.ms d.req))) _ (fun m=>?_) rfl ?_
  ·unfold T9
   rw [List.mem_filter,B1s]
   refine and_congr Iff.rfl ?_
   simp only [Bool.not_eq_true',Bool.and_eq_false_iff,decide_eq_false_iff_not,beq_eq_false_iff_ne,ne_eq,hc,and_true,not_and]
   by_cases c:m.req<d.low<;>simp [c]
  ·rw [if_pos hc]
   simp only [doS,hs,hd,hq,h,hm,hf,hc,Bool.not_true,Bool.or_false,Bool.false_eq_true,if_false,and_self,if_true]
 ·refine .new hs hd hq' h' hm (by omega) (s.ms.take (R8 s.ms d.req)++⟨d.req,(doK s.l (s.seq+1) d).2⟩::s.ms.drop (R8 s.ms d.req)) _ (fun m=>?_) rfl ?_
  ·rw [B1s]
   constructor
   ·intro h;exact⟨h,fun h=>hc h.2.2⟩
   ·intro h;exact h.1
  ·rw [if_neg hc]
   simp only [doS,hs,hd,hq,h,hm,hf,hc,Bool.not_true,Bool.or_false,Bool.false_eq_true,if_false]
theorem A6k {s:Stt} (d:D) (h:s.lows.length=5):(doS s d).1.lows.length=5:=by
 cases A8t s d with
 | form h0 e=>rw [e];exact h
 | top h0 e=>rw [e];exact h
 | old hs hd hq h0 e=>rw [e];exact h
 | told hs hd hq h0 m hm e=>rw [e];exact h
 | full hs hd hq h0 hm hf e=>rw [e];exact h
 | new hs hd hq h0 hm hf ms lows hx hl e=>
  rw [e]
  show lows.length=5
  rw [hl]
  split
  ·rw [List.length_set];exact h
  ·exact h
def B6B (q:Stt × Res) (S:Nat->Prop) (w:World) (en:Ending) (w':World):Prop:=
 ∃ cs,en=.returned (.tuple #[.agg cs.toArray,.agg #[.int .i64 q.2.err,.int .i64 q.2.ver]])/\Below w.heap.size w w'/\RepS (ext S w w') w' q.1 cs
theorem RepS.mk' {S:Nat->Prop} {w:World} {seq:Int} {l:List Ent} {ms:List Mem} {lows:List Int} {A B:Option Addr} {cap cap':Nat} {l0 l1 l2 l3 l4:Int} {css:List (List Value)} (el:lows=[l0,l1,l2,l3,l4]) (hE:RepEs S w l css) (hR:Row S w A l.length cap css.flatten) (hM:Row S w B ms.length cap' (ms.map F5).flatten):
  RepS S w ⟨seq,l,ms,lows⟩ [.int .i64 seq,.slice A l.length cap,.slice B ms.length cap',.int .i64 l0,.int .i64 l1,.int .i64 l2,.int .i64 l3,.int .i64 l4]:=
 ⟨A,cap,css,B,cap',by subst el;rfl,by subst el;rfl,hE,hR,hM⟩
theorem B1t (a:Addr) (cs:List Value):Stab (fun S w=>S a.block/\Go.Vc.cellsAt w a cs 0):=by
 have key:∀ (cs:List Value) (i:Nat) (S S':Nat->Prop) (w w':World),S a.block->Fut S w S' w'->Go.Vc.cellsAt w a cs i->Go.Vc.cellsAt w' a cs i:=by
  intro cs
  induction cs with
  | nil=>intros;trivial
  | cons v r ih=>
   intro i S S' w w' hS f h
   exact⟨(World.cell?_of_block (f.2 _ (by rw [P6];exact hS))).trans h.1,ih _ S S' w w' hS f h.2⟩
 intro S w S' w' h f
 exact⟨f.1 _ h.1,key cs 0 S S' w w' h.1 f h.2⟩
theorem RowM.elemR {S:Nat->Prop} {w:World} {A:Option Addr} {n cap:Nat} {l:List Mem} (hR:Row S w A n cap (l.map F5).flatten) (i:Nat) (hi:i<l.length):
  ∃ ad ab ao asub,A=some ad/\ad.add (i*3)=⟨ab,ao,asub⟩/\S ab/\Go.Vc.cellsAt w ⟨ab,ao,asub⟩ (F5 l[i]) 0/\Go.Vc.cellsAt w ⟨ab,ao+1,none⟩ [.int .i64 l[i].res.err,.int .i64 l[i].res.ver] 0:=by
 obtain⟨ad,e,h⟩:=RowM.elem hR i hi
 obtain⟨ad',e',hS,_⟩:=hR.2.2 (fun h=>by
  have:=(H8 l).len
  rw [h,List.length_map,List.length_nil] at this
  omega)
 rw [e] at e'
 cases e'
 have hb:=P6 ad (i*3)
 generalize hae:ad.add (i*3)=ae at h hb
 obtain⟨ab,ao,asub⟩:=ae
 simp only at hb
 subst hb
 refine⟨ad,ad.block,ao,asub,e,hae,hS,h,?_⟩
 obtain⟨_,h1,h2,_⟩:=h
 refine⟨?_,?_,trivial⟩
 ·have:(⟨ad.block,ao+1,none⟩:Addr).add 0=(⟨ad.block,ao,asub⟩:Addr).add (0+1):=rfl
  rw [this];exact h1
 ·have:(⟨ad.block,ao+1,none⟩:Addr).add (0+1)=(⟨ad.block,ao,asub⟩:Addr).add (0+1+1):=rfl
  rw [this];exact h2
def B38 (l:List Ent) (css:List (List Value)) (A:Option Addr) (cap:Nat) (ms:List Mem) (B:Option Addr) (cap':Nat):Kn:=fun S w=>RepEs S w l css/\Row S w A l.length cap css.flatten/\Row S w B ms.length cap' (ms.map F5).flatten
theorem A9f {l:List Ent} {css:List (List Value)} {A:Option Addr} {cap:Nat} {ms:List Mem} {B:Option Addr} {cap':Nat}:Stab (B38 l css A cap ms B cap'):=fun _ _ _ _ h f=>⟨RepEs.fut h.1 f,h.2.1.fut f,h.2.2.fut f⟩
theorem B9C (l:List Mem) (i:Nat) (m:Mem):((l.map F5).take i).flatten++F5 m++((l.map F5).drop i).flatten=((l.take i++m::l.drop i).map F5).flatten:=by simp
theorem A5P:∀ (l:List Mem) (k:Int),R8 l k<=l.length
 | [],_=>Nat.le_refl _
 | e::r,k=>by
  rw [R8]
  split
  ·exact Nat.succ_le_succ (A5P r k)
  ·exact Nat.zero_le _
theorem A8u (a b c:Value) (l0 l1 l2 l3 l4 x:Int) (h j:Int) (hr:1<=h/\h<=5) (hj:j=h-1):∃ m0 m1 m2 m3 m4,[l0,l1,l2,l3,l4].set (h-1).toNat x=[m0,m1,m2,m3,m4]/\
  D3 [a,b,c,.int .i64 l0,.int .i64 l1,.int .i64 l2,.int .i64 l3,.int .i64 l4] (3+j.toNat) [.int .i64 x]=[a,b,c,.int .i64 m0,.int .i64 m1,.int .i64 m2,.int .i64 m3,.int .i64 m4]:=by
 subst hj
 have:h=1\/h=2\/h=3\/h=4\/h=5:=by omega
 rcases this with rfl | rfl | rfl | rfl | rfl
 ·exact⟨x,l1,l2,l3,l4,rfl,rfl⟩
 ·exact⟨l0,x,l2,l3,l4,rfl,rfl⟩
 ·exact⟨l0,l1,x,l3,l4,rfl,rfl⟩
 ·exact⟨l0,l1,l2,x,l4,rfl,rfl⟩
 ·exact⟨l0,l1,l2,l3,x,rfl,rfl⟩
theorem B1u {s:Stt} (h:Q1 s=true):∀ e∈s.l,e.vs.length<=1000000/\(e.vs.length≠0->(H7 e.vs).ver<s.seq+1)/\(A2X e).1.body.size<=maxLen:=by
 intro e he
 obtain⟨_,_,hris,_⟩:=E5.1 h
 have ho:=((L8 _ _ _).1 hris).1 e he
 have hp:=F4.1 ho.1
 have hv:=A0j ho
 refine⟨by omega,fun h0=>?_,?_⟩
 ·have:=ho.2 _ (A3O (l:=e.vs) (fun h=>h0 (by rw [h];rfl)))
  omega
 ·rw [A2X,if_neg (by omega)]
  have:=hv _ (A3O (l:=e.vs) (fun h=>by rw [h] at hp;simp at hp))
  have:=(A0i this).2
  simp only [maxLen]
  omega
theorem A5Q (s:Stt) (d:D) (hk:∀ e∈s.l,G7 e.key) (hd:d.Ok) (cs:List Value) (S:Nat->Prop) (w:World) (hlt:∀ b,S b->b<w.heap.size) (hs:RepS S w s cs):Calls Tryz.prog 180 #[.agg cs.toArray,.agg (dC d).toArray] w (B6B (doS s d) S w):=by
 obtain⟨A,cap,css,B,cap',l0,l1,l2,l3,l4,rfl,el,hE,hR,hM⟩:=hs.shape
 refine vE Tryz.func180 ?_
 intro g2 w1 h1
 have hc:=((CtxF.start w S hlt (R:=B38 s.l css A cap s.ms B cap') ⟨hE,hR,hM⟩ A9f).loc h1).1
 refine hc.n fun g3 wg3 hg3 hc=>?_
 refine hc.n fun g4 wg4 hg4 hc=>?_
 refine hc.n fun g5 wg5 hg5 hc=>?_
 refine hc.a 3 rfl rfl ?_
 refine hc.q (A1c s hk _ S _ (hs.below hc.below)) fun wQ hQ hc=>?_
 have same:∀ (w':World) (r:Res),Below w.heap.size w w'->doS s d=(s,r)->B6B (doS s d) S w (.returned (.tuple #[.agg (stC s A cap B cap' l0 l1 l2 l3 l4).toArray,.agg #[.int .i64 r.err,.int .i64 r.ver]])) w':=fun w' r hb e=>by
  rw [e]
  exact⟨_,rfl,hb,hs.map (fun h=>h.old hb)⟩
 rcases Bool.eq_false_or_eq_true (Q1 s) with hm | hm
 rotate_left
 ·refine B6 (by show (!Q1 s)=true;rw [hm];rfl) ?_
  refine hc.a 3 rfl rfl ?_
  refine hc.s 1 rfl fun wS hS hc=>?_
  refine hc.s 0 rfl fun wS hS hc=>?_
  refine hc.a 1 rfl rfl ?_
  refine hc.a 0 rfl rfl ?_
  exact same _ ⟨1,0⟩ hc.below (by simp [doS,hm])
 refine B4 (by show (!Q1 s)=false;rw [hm];rfl) ?_
 refine hc.a 2 rfl rfl ?_
 refine hc.q (A0J d hd _) fun wQ hQ hc=>?_
 rcases Bool.eq_false_or_eq_true (J4 d) with hmd | hmd
 rotate_left
 ·refine B6 (by show (!J4 d)=true;rw [hmd];rfl) ?_
  refine hc.a 3 rfl rfl ?_
  refine hc.s 1 rfl fun wS hS hc=>?_
  refine hc.s 0 rfl fun wS hS hc=>?_
  refine hc.a 1 rfl rfl ?_
  refine hc.a 0 rfl rfl ?_
  exact same _ ⟨1,0⟩ hc.below (by simp [doS,hmd])
 refine B4 (by show (!J4 d)=false;rw [hmd];rfl) ?_
 refine hc.c 3 rfl rfl ?_
 rcases Int.lt_or_le s.seq J9 with hq | hq
 rotate_left
 ·refine dt (show (1099511627776:Int)<=s.seq from hq) ?_
  refine hc.a 3 rfl rfl ?_
  refine hc.s 1 rfl fun wS hS hc=>?_
  refine hc.s 0 rfl fun wS hS hc=>?_
  refine hc.a 1 rfl rfl ?_
  refine hc.a 0 rfl rfl ?_
  exact same _ ⟨5,0⟩ hc.below (by simp [doS,hm,hmd,hq])
 have hq:s.seq<1099511627776:=hq
 refine df (show ¬ (1099511627776:Int)<=s.seq by omega) ?_
 clear same
 obtain⟨⟨hq0,_⟩,⟨hl40,hm100⟩,hris,_,hmem⟩:=E5.1 hm
 have hhr:=S6 d.req
 have hh0:=A6j hmd
 have hr15:1<=C0 d.req/\C0 d.req<=5:=by omega
 refine hc.c 3 rfl rfl ?_
 have hw1:IntKind.i64.wrap (s.seq+1)=s.seq+1:=F1 _ _ (by omega) (by omega)
 refine⟨hc.may 3 rfl _ _ (nle rfl) rfl,?_⟩
 intro w5 h5
 rw [hw1] at h5
 have hc:=(hc.set 3 rfl h5).1
 have hc:CtxF S w S w5 [(g5,24,[.int .i64 0,.int .i64 0]),(g4,33,(lay.ty 33).zero),(g3,60,dC d),(g2,33,[.int .i64 (s.seq+1),.slice A s.l.length cap,.slice B s.ms.length cap',.int .i64 l0,.int .i64 l1,.int .i64 l2,.int .i64 l3,.int .i64 l4])] [] (B38 s.l css A cap s.ms B cap'):=hc
 refine hc.c 2 rfl rfl ?_
 refine hc.q (U2 d.req _) fun wQ hQ hc=>?_
 have hw2:IntKind.i64.wrap (C0 d.req-1)=C0 d.req-1:=by rw [IntWalk.i64_in _ ⟨by omega,by omega⟩]
 refine hc.n fun g6 wg6 hg6 hc=>?_
 refine⟨hc.may 0 rfl _ _ (Nat.le_refl 1) rfl,?_⟩
 intro w6 h6
 rw [hw2] at h6
 have hc:=(hc.set 0 rfl h6).1
 have hc:CtxF S w S w6 [(g6,3,[.int .i64 (C0 d.req-1)]),(g5,24,[.int .i64 0,.int .i64 0]),(g4,33,(lay.ty 33).zero),(g3,60,dC d),(g2,33,[.int .i64 (s.seq+1),.slice A s.l.length cap,.slice B s.ms.length cap',.int .i64 l0,.int .i64 l1,.int .i64 l2,.int .i64 l3,.int .i64 l4])] [] (B38 s.l css A cap s.ms B cap'):=hc
 refine hc.a 4 rfl rfl ?_
 refine hc.c 3 rfl rfl ?_
 have hs1:RepS S w ⟨s.seq+1,s.l,s.ms,s.lows⟩ [.int .i64 (s.seq+1),.slice A s.l.length cap,.slice B s.ms.length cap',.int .i64 l0,.int .i64 l1,.int .i64 l2,.int .i64 l3,.int .i64 l4]:=RepS.mk' el hE hR hM
 refine hc.q (B35 ⟨s.seq+1,s.l,s.ms,s.lows⟩ d.req (B1r hmem) (by show s.ms.length<=_;omega) _ S _ (hs1.below hc.below)) fun wQ hQ hc=>?_
 have same:∀ (w':World) (r:Res),Below w.heap.size w w'->doS s d=(⟨s.seq+1,s.l,s.ms,s.lows⟩,r)->B6B (doS s d) S w (.returned (.tuple #[.agg #[.int .i64 (s.seq+1),.slice A s.l.length cap,.slice B s.ms.length cap',.int .i64 l0,.int .i64 l1,.int .i64 l2,.int .i64 l3,.int .i64 l4],.agg #[.int .i64 r.err,.int .i64 r.ver]])) w':=fun w' r hb e=>by
  rw [e]
  exact⟨_,rfl,hb,hs1.map (fun h=>h.old hb)⟩
 have hnq:¬ J9<=s.seq:=by show ¬ 1099511627776<=s.seq;omega
 have hlc:=A0T (hc.blk 4 rfl) (C0 d.req) (C0 d.req-1) hr15 rfl
 rw [<-el] at hlc
 refine vD (.Q [0,1,2,3,4,5,6,7] .fin) (Keeps (fun b=>b<wQ.heap.size) wQ) (Keeps.start _ _) ?_
 refine⟨_,fun x hx=>hx.look (hc.cell 3 rfl _ rfl),?_⟩
 refine⟨_,fun x hx=>hx.look (hc.cell 0 rfl _ rfl),?_⟩
 refine⟨⟨by omega,by omega⟩,?_⟩
 generalize hae:((⟨g2,0+3,none⟩:Addr).add ((C0 d.req-1).toNat*1))=ae at hlc ⊢
 obtain⟨ab,ao,asub⟩:=ae
 refine⟨_,fun x hx=>hx.look hlc,?_⟩
 have hc:=hc.drew
 rcases Int.lt_or_le d.req (M1 s.lows (C0 d.req)) with ho | ho
 ·refine dt ho ?_
  refine hc.a 4 rfl rfl ?_
  refine hc.s 2 rfl fun wS hS hc=>?_
  refine hc.s 1 rfl fun wS hS hc=>?_
  refine hc.a 2 rfl rfl ?_
  refine hc.a 1 rfl rfl ?_
  exact same _ ⟨12,0⟩ hc.below (by simp [doS,hm,hmd,hnq,ho])
 refine df (show ¬ d.req<M1 s.lows (C0 d.req) by omega) ?_
 have hno:¬ d.req<M1 s.lows (C0 d.req):=by omega
 cases hmm:A0N s.ms d.req with
 | some m=>
  have hmi:s.ms[R8 s.ms d.req]?=some m:=by
   unfold A0N at hmm
   cases e1:s.ms[R8 s.ms d.req]? with
   | none=>rw [e1] at hmm;cases hmm
   | some x=>
    rw [e1] at hmm
    simp only at hmm
    split at hmm
    ·exact hmm
    ·cases hmm
  obtain⟨hlt2,hge⟩:=List.getElem?_eq_some_iff.1 hmi
  obtain⟨ad,ab,ao,asub,rfl,hae,hSb,_,hcell⟩:=RowM.elemR hM (R8 s.ms d.req) hlt2
  rw [hge] at hcell
  have hc:=hc.know (hc.old (B1t ⟨ab,ao+1,none⟩ [.int .i64 m.res.err,.int .i64 m.res.ver]) ⟨hSb,hcell⟩ hlt) (B1t _ _)
  refine vD (.Q [0,1,2,3,4,5,6] (.n 7 (.z 8) .stop)) (fun x=>Blk x g2 33 _/\Go.Vc.cellsAt x ⟨ab,ao+1,none⟩ [.int .i64 m.res.err,.int .i64 m.res.ver] 0) ⟨hc.blk 4 rfl,hc.row.2.2⟩ ?_
  refine⟨_,?_,fun x hx=>C3 hx.1 0 _ 0 (fun j v hj=>by simpa using hj),?_⟩
  ·rfl
  refine⟨_,fun x hx=>hx.1.cell 2,?_⟩
  refine⟨⟨Int.natCast_nonneg _,Int.ofNat_lt.2 hlt2⟩,?_⟩
  rw [<-Int.toNat_natCast (R8 s.ms d.req)] at hae
  generalize ad.add ((R8 s.ms d.req:Int).toNat*3)=ae at hae ⊢
  subst hae
  refine⟨_,?_,fun x hx=>hx.2,?_⟩
  ·rfl
  have hc:=hc.drew
  refine⟨hc.s 2 rfl fun wS hS hc=>?_,trivial⟩
  refine⟨⟨hc.blk 4 rfl,hc.row.2.2⟩,?_⟩
  refine hc.s 1 rfl fun wS hS hc=>?_
  refine hc.a 2 rfl rfl ?_
  refine hc.a 1 rfl rfl ?_
  exact same _ m.res hc.below (by simp [doS,hm,hmd,hnq,hno,hmm])
 | none=>
 refine hc.c 4 rfl rfl ?_
 rcases Nat.lt_or_ge s.ms.length 100 with hf | hf
 rotate_left
 ·refine dt (show (100:Int)<=(s.ms.length:Int) by omega) ?_
  refine hc.a 4 rfl rfl ?_
  refine hc.s 2 rfl fun wS hS hc=>?_
  refine hc.s 1 rfl fun wS hS hc=>?_
  refine hc.a 2 rfl rfl ?_
  refine hc.a 1 rfl rfl ?_
  exact same _ ⟨5,0⟩ hc.below (by simp [doS,hm,hmd,hnq,ho,hno,hmm,hf])
 refine df (show ¬ (100:Int)<=(s.ms.length:Int) by omega) ?_
 have hnf:¬ 100<=s.ms.length:=by omega
 refine hc.a 4 rfl rfl ?_
 refine hc.a 3 rfl rfl ?_
 refine⟨(B6A ⟨s.seq+1,s.l,s.ms,s.lows⟩ d A B cap cap' l0 l1 l2 l3 l4 el css S _ (hE.below hc.below) (hR.below hc.below) (hM.below hc.below) (by show s.l.length<=_;omega) (B1q hris) (B1u hm)).mono fun en wq hq=>?_⟩
 obtain⟨A5,c5,css5,e5,h5,hE5,hR5⟩:=hq
 have hdo:doS s d=(if M1 s.lows (C0 d.req)<d.low/\C0 d.low=C0 d.req then
   (⟨s.seq+1,(doK s.l (s.seq+1) d).1,T9 d.low (C0 d.req) (s.ms.take (R8 s.ms d.req)++⟨d.req,(doK s.l (s.seq+1) d).2⟩::s.ms.drop (R8 s.ms d.req)),s.lows.set (C0 d.req-1).toNat d.low⟩,(doK s.l (s.seq+1) d).2)
   else (⟨s.seq+1,(doK s.l (s.seq+1) d).1,s.ms.take (R8 s.ms d.req)++⟨d.req,(doK s.l (s.seq+1) d).2⟩::s.ms.drop (R8 s.ms d.req),s.lows⟩,(doK s.l (s.seq+1) d).2)):=by
  simp only [doS,hm,hmd,hnq,hno,hmm,hnf,Bool.not_true,Bool.or_false,Bool.false_eq_true,if_false]
 rw [hdo]
 clear hdo
 have hc:=(hc.call h5).1.know (X:=fun S w=>RepEs S w (doK s.l (s.seq+1) d).1 css5/\Row S w A5 (doK s.l (s.seq+1) d).1.length c5 css5.flatten) ⟨hE5,hR5⟩ (fun _ _ _ _ h f=>⟨RepEs.fut h.1 f,h.2.fut f⟩)
 generalize ext S _ wq=S5 at hc
 clear hE5 hR5
 generalize doK s.l (s.seq+1) d=q at*
 obtain⟨ql,qr⟩:=q
 refine⟨_,e5,?_⟩
 refine hc.n fun g9 wg9 hg9 hc=>?_
 refine hc.s 5 rfl fun wS hS hc=>?_
 refine hc.s 0 rfl fun wS hS hc=>?_
 obtain⟨ms,hms⟩:∃ ms,ms=s.ms.take (R8 s.ms d.req)++⟨d.req,qr⟩::s.ms.drop (R8 s.ms d.req):=⟨_,rfl⟩
 have hml:ms.length=s.ms.length+1:=by
  have:=A5P s.ms d.req
  rw [hms,List.length_append,List.length_cons,List.length_take,List.length_drop]
  omega
 refine vD (.Q [0,1,3,4,5,6,7] (.n 2 (.n 8 (.n 9 (.q 10 (.z 11)) .stop) .stop) (.n 8 (.n 2 (.n 9 (.q 10 (.z 11)) .stop) .stop) .stop))) (fun x=>Blk x g2 33 _/\Blk x g3 60 (dC d)/\Blk x g9 24 _) ⟨hc.blk 5 rfl,hc.blk 4 rfl,hc.blk 0 rfl⟩ ?_
 refine⟨_,fun x hx=>hx.1.cell 2,?_⟩
 refine⟨_,fun x hx=>hx.2.1.cell 6,?_⟩
 refine⟨_,?_,fun x hx=>C3 hx.2.2 0 _ 0 (fun j v hj=>by simpa using hj),?_⟩
 ·rfl
 have hc:=hc.drew
 have hcel:(s.ms.map F5).length=s.ms.length:=List.length_map _
 refine⟨?_,?_,trivial⟩
 ·skip
  refine⟨(W4 B s.ms.length cap' (s.ms.map F5) (H8 _) hcel (by omega) S _ (hM.below hc.below)).mono fun en wq hq=>?_⟩
  obtain⟨A7,cap7,e7,h7,ho⟩:=hq
  have hc:=hc.fresh h7 ho
  refine⟨_,e7,⟨hc.blk 5 rfl,hc.blk 4 rfl,hc.blk 0 rfl⟩,?_⟩
  refine⟨hc.n fun gb wgb hgb hc=>?_,trivial⟩
  refine⟨⟨hc.blk 6 rfl,hc.blk 5 rfl,hc.blk 1 rfl⟩,?_⟩
  refine⟨?_,trivial⟩
  obtain⟨hcx,hox⟩:=hc.others
  have hd:=A3W hcx (s.ms.map F5) (H8 _) (by rw [hcel];omega) (A:=A7) (cap:=cap7) (by rw [hcel];exact hox) (R8 s.ms d.req) (by rw [hcel];exact A5P _ _) 0 gb (F5 ⟨d.req,qr⟩) rfl rfl rfl
  rw [hcel] at hd
  refine⟨hd.mono fun en w18 hq=>?_⟩
  obtain⟨A8,cap8,e8,hcx,hfx,hox⟩:=hq
  rw [B9C,<-hms,<-hml] at hox
  rw [<-hml] at e8
  have hc:=(hc.back (o':=⟨104,3,A8,ms.length,cap8,(ms.map F5).flatten⟩) hcx hfx hox (fun x hx=>⟨x,hx,rfl⟩)).drop
  refine⟨_,e8,⟨hc.blk 5 rfl,hc.blk 4 rfl,hc.blk 0 rfl⟩,?_⟩
  refine hc.s 5 rfl fun wS hS hc=>?_
  have hc:CtxF S w _ wS [(g9,24,[.int .i64 qr.err,.int .i64 qr.ver]),(g6,3,[.int .i64 (C0 d.req-1)]),(g5,24,[.int .i64 0,.int .i64 0]),(g4,33,(lay.ty 33).zero),(g3,60,dC d),(g2,33,[.int .i64 (s.seq+1),.slice A5 ql.length c5,.slice A8 ms.length cap8,.int .i64 l0,.int .i64 l1,.int .i64 l2,.int .i64 l3,.int .i64 l4])] [⟨104,3,A8,ms.length,cap8,(ms.map F5).flatten⟩] _:=hc
  refine hc.c 4 rfl rfl ?_
  refine hc.n fun g10 wg10 hg10 hc=>?_
  refine hc.s 0 rfl fun wS hS hc=>?_
  have hlc:=A0T (hc.blk 6 rfl) (C0 d.req) (C0 d.req-1) hr15 rfl
  rw [<-el] at hlc
  generalize hlo:M1 s.lows (C0 d.req)=lo at hlc
  refine vD (.Q [0,1,2,3,4,5,6,7,9,10] (.n 8 (.Q [11,12] .fin) .stop)) (Keeps (fun b=>b<wS.heap.size) wS) (Keeps.start _ _) ?_
  refine⟨_,fun x hx=>hx.look (hc.cell 0 rfl _ rfl),?_⟩
  refine⟨_,fun x hx=>hx.look (hc.cell 2 rfl _ rfl),?_⟩
  refine⟨⟨by omega,by omega⟩,?_⟩
  generalize hae:((⟨g2,0+3,none⟩:Addr).add ((C0 d.req-1).toNat*1))=ae at hlc ⊢
  have hae:(⟨g2,3+(C0 d.req-1).toNat,none⟩:Addr)=ae:=by rw [<-hae,Addr.add_lit,Nat.mul_one,Nat.zero_add]
  subst hae
  refine⟨_,fun x hx=>hx.look hlc,?_⟩
  have hk1:=Keeps.start (fun b=>b<wS.heap.size) wS
  have hltS:∀ b,b<wS.heap.size->b<wS.heap.size:=fun _ h=>h
  have hwh:IntKind.i64.wrap (C0 d.req-1+1)=C0 d.req:=by rw [IntWalk.i64_in _ ⟨by omega,by omega⟩];omega
  rcases Int.lt_or_le lo d.low with hlw | hlw
  ·refine dt hlw ?_
   refine⟨_,fun x hx=>hx.look (hc.cell 0 rfl _ rfl),?_⟩
   refine⟨_,fun x hx=>hx.look (hc.cell 2 rfl _ rfl),?_⟩
   have hc:=hc.drew
   refine⟨hc.q (U2 d.low _) fun w20 h20 hc=>?_,trivial⟩
   refine⟨hk1.below hltS h20,?_⟩
   by_cases hhl:C0 d.low=C0 d.req
   ·refine B6 (by show (C0 d.low==IntKind.i64.wrap (C0 d.req-1+1))=true;rw [hwh,hhl];simp) ?_
    rw [if_pos ⟨hlw,hhl⟩]
    refine hc.c 2 rfl rfl ?_
    refine hc.c 0 rfl rfl ?_
    refine⟨⟨by omega,by omega⟩,?_⟩
    generalize hae:((⟨g2,0+3,none⟩:Addr).add ((C0 d.req-1).toNat*1))=ae
    have hae:(⟨g2,3+(C0 d.req-1).toNat,none⟩:Addr)=ae:=by rw [<-hae,Addr.add_lit,Nat.mul_one,Nat.zero_add]
    subst hae
    refine⟨hc.may 6 rfl (3+(C0 d.req-1).toNat) [.int .i64 d.low] (by show 3+(C0 d.req-1).toNat+1<=8;omega) rfl,?_⟩
    intro w21 h21
    have h21:E2 w20 ⟨g2,3+(C0 d.req-1).toNat,none⟩ [.int .i64 d.low] w21:=h21
    have hc:=(hc.set 6 rfl h21).1
    obtain⟨m0,m1,m2,m3,m4,em,ep⟩:=A8u (.int .i64 (s.seq+1)) (.slice A5 ql.length c5) (.slice A8 ms.length cap8) l0 l1 l2 l3 l4 d.low (C0 d.req) (C0 d.req-1) hr15 rfl
    have hc:CtxF S w _ w21 [(g10,2,[.int .i64 d.low]),(g9,24,[.int .i64 qr.err,.int .i64 qr.ver]),(g6,3,[.int .i64 (C0 d.req-1)]),(g5,24,[.int .i64 0,.int .i64 0]),(g4,33,(lay.ty 33).zero),(g3,60,dC d),(g2,33,D3 [.int .i64 (s.seq+1),.slice A5 ql.length c5,.slice A8 ms.length cap8,.int .i64 l0,.int .i64 l1,.int .i64 l2,.int .i64 l3,.int .i64 l4] (3+(C0 d.req-1).toNat) [.int .i64 d.low])] [⟨104,3,A8,ms.length,cap8,(ms.map F5).flatten⟩] _:=hc
    rw [ep] at hc
    rw [el,em]
    refine hc.c 6 rfl rfl ?_
    obtain⟨hcx,hox⟩:=hc.others
    have hd:=A0U hcx ms (by omega) hox d.low (C0 d.req-1) (by omega) (by omega) 0 2 g10 g6 2 3 rfl rfl
    rw [show C0 d.req-1+1=C0 d.req by omega] at hd
    refine⟨hd.mono fun en w22 hq=>?_⟩
    obtain⟨A9,e9,hcx,hfx,hox⟩:=hq
    have hc:=hc.back (o':=⟨104,3,A9,(T9 d.low (C0 d.req) ms).length,cap8,((T9 d.low (C0 d.req) ms).map F5).flatten⟩) hcx hfx hox (fun x hx=>⟨x,hx,rfl⟩)
    refine⟨_,e9,?_⟩
    refine hc.s 6 rfl fun wS hS hc=>?_
    obtain⟨S9,_,hc⟩:=hc.told
    refine vD (.Q [0,1] (.n 2 (.z 3) .stop)) (fun x=>Blk x g2 33 _/\Blk x g9 24 _) ⟨hc.blk 6 rfl,hc.blk 1 rfl⟩ ?_
    refine⟨_,?_,fun x hx=>C3 hx.1 0 _ 0 (fun j v hj=>by simpa using hj),?_⟩
    ·rfl
    refine⟨_,?_,fun x hx=>C3 hx.2 0 _ 0 (fun j v hj=>by simpa using hj),?_⟩
    ·rfl
    have hc:=hc.drew
    refine⟨hc.s 4 rfl fun wS hS hc=>?_,trivial⟩
    refine⟨⟨hc.blk 6 rfl,hc.blk 1 rfl⟩,?_⟩
    refine hc.s 3 rfl fun wS hS hc=>?_
    refine hc.a 4 rfl rfl ?_
    refine hc.a 3 rfl rfl ?_
    have ho:=hc.out
    subst hms
    exact⟨_,rfl,hc.below,RepS.mk' rfl ho.1.2.1 ho.1.2.2 ho.2⟩
   ·refine B4 (by show (C0 d.low==IntKind.i64.wrap (C0 d.req-1+1))=false;rw [hwh];simpa using hhl) ?_
    rw [if_neg (fun h=>hhl h.2)]
    obtain⟨S9,_,hc⟩:=hc.told
    refine vD (.Q [0,1] (.n 2 (.z 3) .stop)) (fun x=>Blk x g2 33 _/\Blk x g9 24 _) ⟨hc.blk 6 rfl,hc.blk 1 rfl⟩ ?_
    refine⟨_,?_,fun x hx=>C3 hx.1 0 _ 0 (fun j v hj=>by simpa using hj),?_⟩
    ·rfl
    refine⟨_,?_,fun x hx=>C3 hx.2 0 _ 0 (fun j v hj=>by simpa using hj),?_⟩
    ·rfl
    have hc:=hc.drew
    refine⟨hc.s 4 rfl fun wS hS hc=>?_,trivial⟩
    refine⟨⟨hc.blk 6 rfl,hc.blk 1 rfl⟩,?_⟩
    refine hc.s 3 rfl fun wS hS hc=>?_
    refine hc.a 4 rfl rfl ?_
    refine hc.a 3 rfl rfl ?_
    have ho:=hc.out
    subst hms
    exact⟨_,rfl,hc.below,RepS.mk' el ho.1.2.1 ho.1.2.2 ho.2⟩
  ·refine df (show ¬ lo<d.low by omega) ?_
   refine⟨?_,trivial⟩
   have hc:=hc.drew
   rw [if_neg (fun h=>absurd h.1 (by omega))]
   obtain⟨S9,_,hc⟩:=hc.told
   refine vD (.Q [0,1] (.n 2 (.z 3) .stop)) (fun x=>Blk x g2 33 _/\Blk x g9 24 _) ⟨hc.blk 6 rfl,hc.blk 1 rfl⟩ ?_
   refine⟨_,?_,fun x hx=>C3 hx.1 0 _ 0 (fun j v hj=>by simpa using hj),?_⟩
   ·rfl
   refine⟨_,?_,fun x hx=>C3 hx.2 0 _ 0 (fun j v hj=>by simpa using hj),?_⟩
   ·rfl
   have hc:=hc.drew
   refine⟨hc.s 4 rfl fun wS hS hc=>?_,trivial⟩
   refine⟨⟨hc.blk 6 rfl,hc.blk 1 rfl⟩,?_⟩
   refine hc.s 3 rfl fun wS hS hc=>?_
   refine hc.a 4 rfl rfl ?_
   refine hc.a 3 rfl rfl ?_
   have ho:=hc.out
   subst hms
   exact⟨_,rfl,hc.below,RepS.mk' el ho.1.2.1 ho.1.2.2 ho.2⟩
 ·skip
  refine hc.n fun gb wgb hgb hc=>?_
  refine⟨⟨hc.blk 6 rfl,hc.blk 5 rfl,hc.blk 1 rfl⟩,?_⟩
  refine⟨⟨(W4 B s.ms.length cap' (s.ms.map F5) (H8 _) hcel (by omega) S _ (hM.below hc.below)).mono fun en wq hq=>?_⟩,trivial⟩
  obtain⟨A7,cap7,e7,h7,ho⟩:=hq
  have hc:=hc.fresh h7 ho
  refine⟨_,e7,⟨hc.blk 6 rfl,hc.blk 5 rfl,hc.blk 1 rfl⟩,?_⟩
  refine⟨?_,trivial⟩
  obtain⟨hcx,hox⟩:=hc.others
  have hd:=A3W hcx (s.ms.map F5) (H8 _) (by rw [hcel];omega) (A:=A7) (cap:=cap7) (by rw [hcel];exact hox) (R8 s.ms d.req) (by rw [hcel];exact A5P _ _) 0 gb (F5 ⟨d.req,qr⟩) rfl rfl rfl
  rw [hcel] at hd
  refine⟨hd.mono fun en w18 hq=>?_⟩
  obtain⟨A8,cap8,e8,hcx,hfx,hox⟩:=hq
  rw [B9C,<-hms,<-hml] at hox
  rw [<-hml] at e8
  have hc:=(hc.back (o':=⟨104,3,A8,ms.length,cap8,(ms.map F5).flatten⟩) hcx hfx hox (fun x hx=>⟨x,hx,rfl⟩)).drop
  refine⟨_,e8,⟨hc.blk 5 rfl,hc.blk 4 rfl,hc.blk 0 rfl⟩,?_⟩
  refine hc.s 5 rfl fun wS hS hc=>?_
  have hc:CtxF S w _ wS [(g9,24,[.int .i64 qr.err,.int .i64 qr.ver]),(g6,3,[.int .i64 (C0 d.req-1)]),(g5,24,[.int .i64 0,.int .i64 0]),(g4,33,(lay.ty 33).zero),(g3,60,dC d),(g2,33,[.int .i64 (s.seq+1),.slice A5 ql.length c5,.slice A8 ms.length cap8,.int .i64 l0,.int .i64 l1,.int .i64 l2,.int .i64 l3,.int .i64 l4])] [⟨104,3,A8,ms.length,cap8,(ms.map F5).flatten⟩] _:=hc
  refine hc.c 4 rfl rfl ?_
  refine hc.n fun g10 wg10 hg10 hc=>?_
  refine hc.s 0 rfl fun wS hS hc=>?_
  have hlc:=A0T (hc.blk 6 rfl) (C0 d.req) (C0 d.req-1) hr15 rfl
  rw [<-el] at hlc
  generalize hlo:M1 s.lows (C0 d.req)=lo at hlc
  refine vD (.Q [0,1,2,3,4,5,6,7,9,10] (.n 8 (.Q [11,12] .fin) .stop)) (Keeps (fun b=>b<wS.heap.size) wS) (Keeps.start _ _) ?_
  refine⟨_,fun x hx=>hx.look (hc.cell 0 rfl _ rfl),?_⟩
  refine⟨_,fun x hx=>hx.look (hc.cell 2 rfl _ rfl),?_⟩
  refine⟨⟨by omega,by omega⟩,?_⟩
  generalize hae:((⟨g2,0+3,none⟩:Addr).add ((C0 d.req-1).toNat*1))=ae at hlc ⊢
  have hae:(⟨g2,3+(C0 d.req-1).toNat,none⟩:Addr)=ae:=by rw [<-hae,Addr.add_lit,Nat.mul_one,Nat.zero_add]
  subst hae
  refine⟨_,fun x hx=>hx.look hlc,?_⟩
  have hk1:=Keeps.start (fun b=>b<wS.heap.size) wS
  have hltS:∀ b,b<wS.heap.size->b<wS.heap.size:=fun _ h=>h
  have hwh:IntKind.i64.wrap (C0 d.req-1+1)=C0 d.req:=by rw [IntWalk.i64_in _ ⟨by omega,by omega⟩];omega
  rcases Int.lt_or_le lo d.low with hlw | hlw
  ·refine dt hlw ?_
   refine⟨_,fun x hx=>hx.look (hc.cell 0 rfl _ rfl),?_⟩
   refine⟨_,fun x hx=>hx.look (hc.cell 2 rfl _ rfl),?_⟩
   have hc:=hc.drew
   refine⟨hc.q (U2 d.low _) fun w20 h20 hc=>?_,trivial⟩
   refine⟨hk1.below hltS h20,?_⟩
   by_cases hhl:C0 d.low=C0 d.req
   ·refine B6 (by show (C0 d.low==IntKind.i64.wrap (C0 d.req-1+1))=true;rw [hwh,hhl];simp) ?_
    rw [if_pos ⟨hlw,hhl⟩]
    refine hc.c 2 rfl rfl ?_
    refine hc.c 0 rfl rfl ?_
    refine⟨⟨by omega,by omega⟩,?_⟩
    generalize hae:((⟨g2,0+3,none⟩:Addr).add ((C0 d.req-1).toNat*1))=ae
    have hae:(⟨g2,3+(C0 d.req-1).toNat,none⟩:Addr)=ae:=by rw [<-hae,Addr.add_lit,Nat.mul_one,Nat.zero_add]
    subst hae
    refine⟨hc.may 6 rfl (3+(C0 d.req-1).toNat) [.int .i64 d.low] (by show 3+(C0 d.req-1).toNat+1<=8;omega) rfl,?_⟩
    intro w21 h21
    have h21:E2 w20 ⟨g2,3+(C0 d.req-1).toNat,none⟩ [.int .i64 d.low] w21:=h21
    have hc:=(hc.set 6 rfl h21).1
    obtain⟨m0,m1,m2,m3,m4,em,ep⟩:=A8u (.int .i64 (s.seq+1)) (.slice A5 ql.length c5) (.slice A8 ms.length cap8) l0 l1 l2 l3 l4 d.low (C0 d.req) (C0 d.req-1) hr15 rfl
    have hc:CtxF S w _ w21 [(g10,2,[.int .i64 d.low]),(g9,24,[.int .i64 qr.err,.int .i64 qr.ver]),(g6,3,[.int .i64 (C0 d.req-1)]),(g5,24,[.int .i64 0,.int .i64 0]),(g4,33,(lay.ty 33).zero),(g3,60,dC d),(g2,33,D3 [.int .i64 (s.seq+1),.slice A5 ql.length c5,.slice A8 ms.length cap8,.int .i64 l0,.int .i64 l1,.int .i64 l2,.int .i64 l3,.int .i64 l4] (3+(C0 d.req-1).toNat) [.int .i64 d.low])] [⟨104,3,A8,ms.length,cap8,(ms.map F5).flatten⟩] _:=hc
    rw [ep] at hc
    rw [el,em]
    refine hc.c 6 rfl rfl ?_
    obtain⟨hcx,hox⟩:=hc.others
    have hd:=A0U hcx ms (by omega) hox d.low (C0 d.req-1) (by omega) (by omega) 0 2 g10 g6 2 3 rfl rfl
    rw [show C0 d.req-1+1=C0 d.req by omega] at hd
    refine⟨hd.mono fun en w22 hq=>?_⟩
    obtain⟨A9,e9,hcx,hfx,hox⟩:=hq
    have hc:=hc.back (o':=⟨104,3,A9,(T9 d.low (C0 d.req) ms).length,cap8,((T9 d.low (C0 d.req) ms).map F5).flatten⟩) hcx hfx hox (fun x hx=>⟨x,hx,rfl⟩)
    refine⟨_,e9,?_⟩
    refine hc.s 6 rfl fun wS hS hc=>?_
    obtain⟨S9,_,hc⟩:=hc.told
    refine vD (.Q [0,1] (.n 2 (.z 3) .stop)) (fun x=>Blk x g2 33 _/\Blk x g9 24 _) ⟨hc.blk 6 rfl,hc.blk 1 rfl⟩ ?_
    refine⟨_,?_,fun x hx=>C3 hx.1 0 _ 0 (fun j v hj=>by simpa using hj),?_⟩
    ·rfl
    refine⟨_,?_,fun x hx=>C3 hx.2 0 _ 0 (fun j v hj=>by simpa using hj),?_⟩
    ·rfl
    have hc:=hc.drew
    refine⟨hc.s 4 rfl fun wS hS hc=>?_,trivial⟩
    refine⟨⟨hc.blk 6 rfl,hc.blk 1 rfl⟩,?_⟩
    refine hc.s 3 rfl fun wS hS hc=>?_
    refine hc.a 4 rfl rfl ?_
    refine hc.a 3 rfl rfl ?_
    have ho:=hc.out
    subst hms
    exact⟨_,rfl,hc.below,RepS.mk' rfl ho.1.2.1 ho.1.2.2 ho.2⟩
   ·refine B4 (by show (C0 d.low==IntKind.i64.wrap (C0 d.req-1+1))=false;rw [hwh];simpa using hhl) ?_
    rw [if_neg (fun h=>hhl h.2)]
    obtain⟨S9,_,hc⟩:=hc.told
    refine vD (.Q [0,1] (.n 2 (.z 3) .stop)) (fun x=>Blk x g2 33 _/\Blk x g9 24 _) ⟨hc.blk 6 rfl,hc.blk 1 rfl⟩ ?_
    refine⟨_,?_,fun x hx=>C3 hx.1 0 _ 0 (fun j v hj=>by simpa using hj),?_⟩
    ·rfl
    refine⟨_,?_,fun x hx=>C3 hx.2 0 _ 0 (fun j v hj=>by simpa using hj),?_⟩
    ·rfl
    have hc:=hc.drew
    refine⟨hc.s 4 rfl fun wS hS hc=>?_,trivial⟩
    refine⟨⟨hc.blk 6 rfl,hc.blk 1 rfl⟩,?_⟩
    refine hc.s 3 rfl fun wS hS hc=>?_
    refine hc.a 4 rfl rfl ?_
    refine hc.a 3 rfl rfl ?_
    have ho:=hc.out
    subst hms
    exact⟨_,rfl,hc.below,RepS.mk' el ho.1.2.1 ho.1.2.2 ho.2⟩
  ·refine df (show ¬ lo<d.low by omega) ?_
   refine⟨?_,trivial⟩
   have hc:=hc.drew
   rw [if_neg (fun h=>absurd h.1 (by omega))]
   obtain⟨S9,_,hc⟩:=hc.told
   refine vD (.Q [0,1] (.n 2 (.z 3) .stop)) (fun x=>Blk x g2 33 _/\Blk x g9 24 _) ⟨hc.blk 6 rfl,hc.blk 1 rfl⟩ ?_
   refine⟨_,?_,fun x hx=>C3 hx.1 0 _ 0 (fun j v hj=>by simpa using hj),?_⟩
   ·rfl
   refine⟨_,?_,fun x hx=>C3 hx.2 0 _ 0 (fun j v hj=>by simpa using hj),?_⟩
   ·rfl
   have hc:=hc.drew
   refine⟨hc.s 4 rfl fun wS hS hc=>?_,trivial⟩
   refine⟨⟨hc.blk 6 rfl,hc.blk 1 rfl⟩,?_⟩
   refine hc.s 3 rfl fun wS hS hc=>?_
   refine hc.a 4 rfl rfl ?_
   refine hc.a 3 rfl rfl ?_
   have ho:=hc.out
   subst hms
   exact⟨_,rfl,hc.below,RepS.mk' el ho.1.2.1 ho.1.2.2 ho.2⟩
theorem B1v {d:D} (h:J4 d=true):d.kind=1\/d.kind=2\/d.kind=3:=by
 by_cases h1:d.kind=1
 ·exact .inl h1
 by_cases h2:d.kind=2
 ·exact .inr (.inl h2)
 by_cases h3:d.kind=3
 ·exact .inr (.inr h3)
 simp [J4,h1,h2,h3] at h
theorem A4X (k:ByteArray):∀ l:List Ent,(∀ j (h:j<l.length),C8 l[j].key k=false)->A9V l k=none
 | [],_=>rfl
 | m::r,h=>by
  have h0:C8 m.key k=false:=h 0 (by simp)
  rw [A9V,h0,A4X k r (fun j hj=>h (j+1) (by simpa using hj))]
  rfl
theorem A4Y (k:ByteArray):∀ (l:List Ent) (i:Nat) (hi:i<l.length),C8 l[i].key k=true->(∀ j (h:j<l.length),j<i->C8 l[j].key k=false)->A9V l k=some i
 | m::r,0,hi,hp,_=>by
  have h0:C8 m.key k=true:=hp
  rw [A9V,h0]
  rfl
 | m::r,i+1,hi,hp,h=>by
  have h0:C8 m.key k=false:=h 0 (by simp) (by omega)
  rw [A9V,h0,A4Y k r i (by simpa using hi) (by simpa using hp) (fun j hj hlt=>h (j+1) (by simpa using hj) (by omega))]
  rfl
theorem A8v:∀ {l:List Ent} {k:ByteArray} {i:Nat},A9V l k=some i->∃ h:i<l.length,l[i].key=k
 | [],k,i,h=>by cases h
 | m::r,k,i,h=>by
  rw [A9V] at h
  split at h
  ·rename_i hk
   cases h
   exact⟨by simp,C5.1 hk⟩
  ·cases e:A9V r k with
   | none=>rw [e] at h;cases h
   | some j=>
    rw [e] at h
    cases h
    obtain⟨h1,h2⟩:=A8v e
    exact⟨by simpa using h1,by simpa using h2⟩
def B3T (o:Option Ent) (n:Int):Ver × Int:=
 match o with
 | none=>(A55,6)
 | some e=>
  let q:Option Ver:=if n=0 then (if e.vs.length=0 then none else some (H7 e.vs)) else (A13 e.vs n).bind fun i=>e.vs[i]?
  match q with
  | none=>(A55,6)
  | some v=>if v.gone then (A55,10) else (v,0)
theorem B7a (s:Stt) (k:ByteArray) (n:Int):B7W s k n=B3T ((A9V s.l k).bind fun i=>s.l[i]?) n:=rfl
theorem B39 (k key:ByteArray) (A:Option Addr) (n cap:Nat) (a:Addr) (w:World) (ha:w.cell? a=some (.string k)):Calls Tryz.prog 217 #[.agg #[.string key,.slice A n cap],.pointer (some a)] w (C7 (.bool (C8 key k)) w):=by
 obtain⟨ab,ao,asub⟩:=a
 refine vE Tryz.func217 ?_
 intro g w1 h1
 have hc:=((Ctx.start w no (fun _ h=>h.elim)).loc h1).1
 refine hc.c 0 rfl rfl ?_
 refine⟨_,cell_later hc.below ha,?_⟩
 exact⟨rfl,hc.below⟩
theorem A4B (l:List Ent) (k:ByteArray) (a:Addr) (A:Option Addr) (cap:Nat) (css:List (List Value)) (S:Nat->Prop) (w:World) (hE:RepEs S w l css) (hR:Row S w A l.length cap css.flatten) (ha:w.cell? a=some (.string k)):
  Calls Tryz.prog 216 #[.slice A l.length cap,.func (.func 217) #[] #[.pointer (some a)]] w (C7 (.int .i64 (B3Q (A9V l k))) w):=by
 refine vE Tryz.func216 ?_
 have hM:=C9 hR
 refine⟨Nat,fun i=>[(0,.slice A l.length cap),(1,.func (.func 217) #[] #[.pointer (some a)]),(7,.int .i64 l.length),(8,.int .i64 i)],
  fun i w'=>i<=l.length/\(∀ j (hj:j<l.length),j<i->C8 l[j].key k=false)/\Below w.heap.size w w',fun i _=>l.length-i,0,
  ⟨rfl,rfl,rfl,rfl,trivial⟩,⟨Nat.zero_le _,fun j hj h=>absurd h (Nat.not_lt_zero _),Below.refl _ _⟩,?_⟩
 rintro i w' u ⟨hi,he,hb⟩
 by_cases hlt:i<l.length
 ·refine dt (by omega) ?_
  obtain⟨ad,A1,cap1,rfl,hcell,_⟩:=RowE.elem (hR.below hb) (hE.below hb) i hlt
  refine⟨⟨by omega,by omega⟩,?_⟩
  refine⟨[.string l[i].key,.slice A1 l[i].vs.length cap1],rfl,hcell,?_⟩
  refine C2 (B39 k l[i].key A1 _ cap1 a w' (cell_later hb ha)) ?_
  intro w2 h2
  have hb2:=hb.trans (h2.mono hb.size)
  rcases Bool.eq_false_or_eq_true (C8 l[i].key k) with hv | hv
  ·refine B6 hv ?_
   refine⟨?_,hb2⟩
   rw [A4Y k l i hlt hv he]
   rfl
  ·refine B4 hv ?_
   refine⟨i+1,⟨rfl,rfl,rfl,congrArg _ (C1 (by omega)),trivial⟩,⟨hlt,fun j hj h=>?_,hb2⟩,by show l.length-(i+1)<l.length-i;omega⟩
   rcases Nat.lt_succ_iff_lt_or_eq.1 h with h | h
   ·exact he j hj h
   ·subst h;exact hv
 ·refine df (by omega) ?_
  refine⟨?_,hb⟩
  rw [A4X k l (fun j hj=>he j hj (by omega))]
  rfl
theorem A8w (s:Stt) (k:ByteArray) (n:Int) (cs:List Value) (S:Nat->Prop) (w:World) (hs:RepS S w s cs):Calls Tryz.prog 188 #[.agg cs.toArray,.string k,.int .i64 n] w (C7 (.tuple #[.agg (F3 (B7W s k n).1).toArray,.int .i64 (B7W s k n).2]) w):=by
 obtain⟨A,cap,css,B,cap',l0,l1,l2,l3,l4,rfl,el,hE,hR,hM⟩:=hs.shape
 rw [B7a]
 refine vE Tryz.func188 ?_
 have hc:=CtxF.start w no (fun _ h=>h.elim) (R:=fun _ _=>True) trivial Stab.true
 refine hc.n fun g3 wg3 hg3 hc=>?_
 refine hc.n fun g4 wg4 hg4 hc=>?_
 refine hc.n fun g6 wg6 hg6 hc=>?_
 refine hc.c 2 rfl rfl ?_
 have hf:=A4B s.l k ⟨g4,0,none⟩ A cap css S _ (hE.below hc.below) (hR.below hc.below) (hc.cell 1 rfl 0 rfl)
 cases hi:A9V s.l k with
 | none=>
  rw [hi,show B3Q none = -1 from rfl] at hf
  refine hc.q (hf) fun wQ hQ hc=>?_
  refine hc.s 0 rfl fun wS hS hc=>?_
  refine hc.a 0 rfl rfl ?_
  exact⟨rfl,hc.below⟩
 | some i=>
  rw [hi,show B3Q (some i)=(i:Int) from rfl] at hf
  refine hc.q (hf) fun wQ hQ hc=>?_
  obtain⟨hlt,_⟩:=A8v hi
  have hg:((some i).bind fun i=>s.l[i]?)=some s.l[i]:=List.getElem?_eq_getElem hlt
  rw [hg]
  obtain⟨ad,A1,cap1,rfl,hcell0,hRe⟩:=RowE.elem hR hE i hlt
  generalize s.l[i]=e at*
  refine hc.c 2 rfl rfl ?_
  refine⟨⟨Int.natCast_nonneg _,Int.ofNat_lt.2 hlt⟩,?_⟩
  refine⟨[.string e.key,.slice A1 e.vs.length cap1],rfl,cellsAt_later hc.below _ _ hcell0,?_⟩
  refine hc.q (B7Y e n A1 cap1 S _ (hRe.below hc.below)) fun wQ hQ hc=>?_
  refine hc.n fun g9 wg9 hg9 hc=>?_
  refine hc.s 0 rfl fun wS hS hc=>?_
  have fin:∀ w' v e',Below w.heap.size w w'->B3T (some e) n=(v,e')->C7 (.tuple #[.agg (F3 (B3T (some e) n).1).toArray,.int .i64 (B3T (some e) n).2]) w (.returned (.tuple #[.agg (F3 v).toArray,.int .i64 e'])) w':=fun w' v e' hb h=>by rw [h];exact⟨rfl,hb⟩
  by_cases h0:n=0
  ·refine B6 (by show (n==0)=true;rw [h0];rfl) ?_
   refine hc.c 3 rfl rfl ?_
   refine⟨⟨Int.natCast_nonneg _,Int.ofNat_lt.2 hlt⟩,?_⟩
   refine⟨[.string e.key,.slice A1 e.vs.length cap1],rfl,cellsAt_later hc.below _ _ hcell0,?_⟩
   refine hc.q (A5M e A1 cap1 S _ (hRe.below hc.below)) fun wQ hQ hc=>?_
   refine hc.s 0 rfl fun wS hS hc=>?_
   refine hc.c 3 rfl rfl ?_
   refine⟨⟨Int.natCast_nonneg _,Int.ofNat_lt.2 hlt⟩,?_⟩
   have hcell:=cellsAt_later hc.below _ _ hcell0
   rw [<-Int.toNat_natCast i] at hcell
   generalize ad.add ((i:Int).toNat*2)=ae at hcell ⊢
   obtain⟨ab,ao,asub⟩:=ae
   refine⟨_,hcell.2.1,?_⟩
   have hMx:=C9 hRe
   by_cases hv:e.vs.length=0
   ·have hn:A2X e=(A55,false):=by rw [A2X,if_pos hv]
    refine B6 (by show (!decide ((0:Int)<(e.vs.length:Int)))=true;rw [decide_eq_false (by omega)];rfl) ?_
    refine hc.s 1 rfl fun wS hS hc=>?_
    refine hc.a 1 rfl rfl ?_
    exact fin _ A55 6 hc.below (by simp only [B3T,if_pos h0,if_pos hv])
   ·have hn:A2X e=(H7 e.vs,!(H7 e.vs).gone):=by rw [A2X,if_neg hv]
    rw [hn] at hc
    refine B4 (by show (!decide ((0:Int)<(e.vs.length:Int)))=false;rw [decide_eq_true (by omega)];rfl) ?_
    refine⟨.bool (H7 e.vs).gone,hc.cell 0 rfl 1 rfl,?_⟩
    rcases (Bool.eq_false_or_eq_true (H7 e.vs).gone).symm with hgn | hgn
    ·refine B4 hgn ?_
     refine hc.a 0 rfl rfl ?_
     refine hc.s 1 rfl fun wS hS hc=>?_
     refine hc.a 1 rfl rfl ?_
     exact fin _ (H7 e.vs) 0 hc.below (by simp [B3T,h0,hv,hgn])
    ·refine B6 hgn ?_
     refine hc.s 1 rfl fun wS hS hc=>?_
     refine hc.a 1 rfl rfl ?_
     exact fin _ A55 10 hc.below (by simp [B3T,h0,hv,hgn])
  ·refine B4 (by show (n==0)=false;simpa using h0) ?_
   cases hj:A13 e.vs n with
   | none=>
    have ha:atE e n=(A55,false):=by rw [atE,hj]
    refine B6 (by show (!(atE e n).2)=true;rw [ha];rfl) ?_
    refine hc.s 1 rfl fun wS hS hc=>?_
    refine hc.a 1 rfl rfl ?_
    exact fin _ A55 6 hc.below (by simp [B3T,h0,hj])
   | some j=>
    obtain⟨hjl,_⟩:=A3P hj
    have ha:atE e n=(e.vs[j],true):=by rw [atE,hj];simp only [List.getElem?_eq_getElem hjl];rfl
    rw [ha] at hc
    refine B4 (by show (!(atE e n).2)=false;rw [ha];rfl) ?_
    refine⟨.bool e.vs[j].gone,hc.cell 0 rfl 1 rfl,?_⟩
    rcases (Bool.eq_false_or_eq_true (e.vs[j]).gone).symm with hgn | hgn
    ·refine B4 hgn ?_
     refine hc.a 0 rfl rfl ?_
     refine hc.s 1 rfl fun wS hS hc=>?_
     refine hc.a 1 rfl rfl ?_
     exact fin _ e.vs[j] 0 hc.below (by simp [B3T,h0,hj,hgn,hjl])
    ·refine B6 hgn ?_
     refine hc.s 1 rfl fun wS hS hc=>?_
     refine hc.a 1 rfl rfl ?_
     exact fin _ A55 10 hc.below (by simp [B3T,h0,hj,hgn,hjl])
theorem Y2 (n:Int) (w:World):Calls Tryz.prog 114 #[.int .i64 n] w (C7 (.agg #[.int .i64 1,.int .i64 n,.string ⟨#[]⟩,.slice none 0 0]) w):=by
 refine vE Tryz.func114 ?_
 have hc:=Ctx.start w no (fun _ h=>h.elim)
 refine hc.n fun gA wgA hgA hc=>?_
 refine hc.s 0 rfl fun wS hS hc=>?_
 refine hc.a 0 rfl rfl ?_
 exact⟨rfl,hc.below⟩
theorem A8x (s:ByteArray) (w:World):Calls Tryz.prog 116 #[.string s] w (C7 (.agg #[.int .i64 2,.int .i64 0,.string s,.slice none 0 0]) w):=by
 refine vE Tryz.func116 ?_
 have hc:=Ctx.start w no (fun _ h=>h.elim)
 refine hc.n fun gA wgA hgA hc=>?_
 refine hc.s 0 rfl fun wS hS hc=>?_
 refine hc.a 0 rfl rfl ?_
 exact⟨rfl,hc.below⟩
theorem A2t (A:Option Addr) (n cap:Nat) (w:World):Calls Tryz.prog 113 #[.slice A n cap] w (C7 (.agg #[.int .i64 3,.int .i64 0,.string ⟨#[]⟩,.slice A n cap]) w):=by
 refine vE Tryz.func113 ?_
 have hc:=Ctx.start w no (fun _ h=>h.elim)
 refine hc.n fun gA wgA hgA hc=>?_
 refine hc.s 0 rfl fun wS hS hc=>?_
 refine hc.a 0 rfl rfl ?_
 exact⟨rfl,hc.below⟩
theorem B1w (b:Bool) (w:World):Calls Tryz.prog 115 #[.bool b] w (C7 (.int .i64 (if b then 1 else 0)) w):=by
 refine vE Tryz.func115 ?_
 cases b
 ·exact⟨rfl,Below.refl _ _⟩
 ·exact⟨rfl,Below.refl _ _⟩
theorem E8 (v:V) (cs:List Value):Stab (fun S w=>RepC S w v cs):=fun _ _ _ _ h f=>h.fut f
theorem W6 (l:List V) (xs:List Value):Stab (fun S w=>RepL S w l xs):=fun _ _ _ _ h f=>h.fut f
def B6C (v:Ver):List Value:=leaf 1 v.ver ⟨#[]⟩++(leaf 1 (if v.gone then 1 else 0) ⟨#[]⟩++(leaf 2 0 v.body++[]))
theorem B1x (S:Nat->Prop) (w:World) (v:Ver):RepL S w (vL (A35 v)) (B6C v):=.cons (.leaf ..) (.cons (.leaf ..) (.cons (.leaf ..) (.nil _ _)))
def B6D (m:Mem):List Value:=leaf 1 m.req ⟨#[]⟩++(leaf 1 m.res.err ⟨#[]⟩++(leaf 1 m.res.ver ⟨#[]⟩++[]))
theorem B1y (S:Nat->Prop) (w:World) (m:Mem):RepL S w (vL (A37 m)) (B6D m):=.cons (.leaf ..) (.cons (.leaf ..) (.cons (.leaf ..) (.nil _ _)))
theorem B4A (v:Ver) (w:World):Calls Tryz.prog 112 #[.agg (F3 v).toArray] w (B5F (A35 v) w):=by
 refine vE Tryz.func112 ?_
 intro g1 w1 h1
 have hc:=((Ctx.start w no (fun _ h=>h.elim)).loc h1).1
 refine hc.n fun g2 w3 h3 hc=>?_
 have b1:=hc.blk 1 rfl
 have hlt:∀ b,(fun b=>b=g1) b->b<w3.heap.size:=fun b e=>by subst e;exact b1.lt
 refine vD (.Q [0,1,3,4,7,8] (.n 2 (.n 5 (.n 6 (.n 9 (.n 10 (.n 11 (.z 12) .stop) .stop) .stop) .stop) .stop) .stop)) (Keeps (fun b=>b=g1) w3) (Keeps.start _ _) ?_
 have hk:=Keeps.start (fun b=>b=g1) w3
 have hc:=hc.drew
 iterate 3 refine⟨_,fun x hx=>hx.cell b1 rfl rfl,?_⟩
 refine⟨hc.q (Y2 v.ver _) fun wq hq hc=>?_,trivial⟩
 have hk:=hk.below hlt hq
 refine⟨hk,?_⟩
 refine⟨hc.q (B1w v.gone _) fun wq hq hc=>?_,trivial⟩
 have hk:=hk.below hlt hq
 refine⟨hk,?_⟩
 refine⟨hc.q (Y2 (if v.gone then 1 else 0) _) fun wq hq hc=>?_,trivial⟩
 have hk:=hk.below hlt hq
 refine⟨hk,?_⟩
 refine⟨hc.q (A8x v.body _) fun wq hq hc=>?_,trivial⟩
 have hk:=hk.below hlt hq
 refine⟨hk,?_⟩
 refine⟨fun g3 w4 h4=>?_,trivial⟩
 refine⟨hk.below hlt h4.below,?_⟩
 have hk:=hk.below hlt h4.below
 have hC:=hc.call h4.below
 have hc:=hC.1
 have hrow:Row (ext no _ w4) w4 (some ⟨g3,0,none⟩) 3 3 (B6C v):=(h4.row 3 (by decide)).sub fun b e=>by
  subst e
  exact .inr ⟨Nat.le_of_eq h4.1.symm,h4.blk.lt⟩
 refine⟨C2 (A2t (some ⟨g3,0,none⟩) 3 3 _) ?_,trivial⟩
 intro w6 h6
 refine⟨hk.below hlt h6,?_⟩
 have hC:=hc.quiet h6
 have hc:=hC.1
 have hrow:=hrow.fut hC.2
 refine⟨hc.may 0 rfl 0 _ (Nat.le_refl 4) rfl,?_⟩
 intro w5 h5
 have hC:=hc.set 0 rfl h5
 have hc:=hC.1
 refine hc.a 0 rfl rfl ?_
 refine⟨3,0,⟨#[]⟩,some ⟨g3,0,none⟩,3,3,rfl,hc.below,?_⟩
 rw [A35,J3,RepC]
 exact⟨some ⟨g3,0,none⟩,3,B6C v,rfl,B1x _ _ v,(hrow.fut hC.2).fut hc.out⟩
theorem B4B (m:Mem) (w:World):Calls Tryz.prog 119 #[.agg (F5 m).toArray] w (B5F (A37 m) w):=by
 refine vE Tryz.func119 ?_
 intro g1 w1 h1
 have hc:=((Ctx.start w no (fun _ h=>h.elim)).loc h1).1
 refine hc.n fun g2 w3 h3 hc=>?_
 have b1:=hc.blk 1 rfl
 have hlt:∀ b,(fun b=>b=g1) b->b<w3.heap.size:=fun b e=>by subst e;exact b1.lt
 refine vD (.Q [0,1,3,4,5,7,8,9] (.n 2 (.n 6 (.n 10 (.n 11 (.n 12 (.z 13) .stop) .stop) .stop) .stop) .stop)) (Keeps (fun b=>b=g1) w3) (Keeps.start _ _) ?_
 have hk:=Keeps.start (fun b=>b=g1) w3
 have hc:=hc.drew
 iterate 3 refine⟨_,fun x hx=>hx.cell b1 rfl rfl,?_⟩
 refine⟨hc.q (Y2 m.req _) fun wq hq hc=>?_,trivial⟩
 have hk:=hk.below hlt hq
 refine⟨hk,?_⟩
 refine⟨hc.q (Y2 m.res.err _) fun wq hq hc=>?_,trivial⟩
 have hk:=hk.below hlt hq
 refine⟨hk,?_⟩
 refine⟨hc.q (Y2 m.res.ver _) fun wq hq hc=>?_,trivial⟩
 have hk:=hk.below hlt hq
 refine⟨hk,?_⟩
 refine⟨fun g3 w4 h4=>?_,trivial⟩
 refine⟨hk.below hlt h4.below,?_⟩
 have hk:=hk.below hlt h4.below
 have hC:=hc.call h4.below
 have hc:=hC.1
 have hrow:Row (ext no _ w4) w4 (some ⟨g3,0,none⟩) 3 3 (B6D m):=(h4.row 3 (by decide)).sub fun b e=>by
  subst e
  exact .inr ⟨Nat.le_of_eq h4.1.symm,h4.blk.lt⟩
 refine⟨C2 (A2t (some ⟨g3,0,none⟩) 3 3 _) ?_,trivial⟩
 intro w6 h6
 refine⟨hk.below hlt h6,?_⟩
 have hC:=hc.quiet h6
 have hc:=hC.1
 have hrow:=hrow.fut hC.2
 refine⟨hc.may 0 rfl 0 _ (Nat.le_refl 4) rfl,?_⟩
 intro w5 h5
 have hC:=hc.set 0 rfl h5
 have hc:=hC.1
 refine hc.a 0 rfl rfl ?_
 refine⟨3,0,⟨#[]⟩,some ⟨g3,0,none⟩,3,3,rfl,hc.below,?_⟩
 rw [A37,J3,RepC]
 exact⟨some ⟨g3,0,none⟩,3,B6D m,rfl,B1y _ _ m,(hrow.fut hC.2).fut hc.out⟩
theorem A7j (l:List Ver) (A:Option Addr) (cap:Nat) (S0:Nat->Prop) (w:World)  (hR:Row S0 w A l.length cap ((l.map F3).flatten)) (hn:l.length<=1000000):
  Calls Tryz.prog 118 #[.slice A l.length cap,.func (.func 112) #[] #[]] w (B5F (J3 (l.map A35)) w):=by
 refine vE Tryz.func118 ?_
 intro g4 w1 h1
 have hc:=((CtxF.start w no (fun _ h=>h.elim) (R:=fun S w=>RepL S w [] []) (.nil _ _) (W6 _ _)).loc h1).1
 refine hc.n fun g5 w2 h2 hc=>?_
 refine⟨hc.may 0 rfl 0 _ (Nat.le_refl 4) rfl,?_⟩
 intro w3 h3
 have hc:=(hc.set 0 rfl h3).1
 have hc:=hc.nil 79 4
 refine⟨Nat,fun i=>[(1,.func (.func 112) #[] #[]),(4,.pointer (some ⟨g4,0,none⟩)),(5,.pointer (some ⟨g5,0,none⟩)),(9,.slice A l.length cap),(10,.int .i64 l.length),(11,.int .i64 i)],
  fun i w'=>i<=l.length/\∃ S A' cap' xs,CtxF no w S w' [(g5,79,[.int .i64 3,.int .i64 0,.string ⟨#[]⟩,.slice A' i cap']),(g4,79,(lay.ty 79).zero)] [⟨79,4,A',i,cap',xs⟩] (fun S w=>RepL S w ((l.take i).map A35) xs),
  fun i _=>l.length-i,0,⟨rfl,rfl,rfl,rfl,rfl,rfl,trivial⟩,⟨Nat.zero_le _,no,none,0,[],hc⟩,?_⟩
 clear hc
 rintro i w4 u ⟨hi,S,A',cap',xs,hc⟩
 by_cases hlt:i<l.length
 ·refine dt (by omega) ?_
  obtain⟨ad,rfl,hcell⟩:=RowV.elem (hR.below hc.below) i hlt
  refine⟨⟨by omega,by omega⟩,?_⟩
  refine⟨F3 l[i],rfl,hcell,?_⟩
  generalize hx:l[i]=x at*
  refine hc.n fun g7 w7 h7 hc=>?_
  refine⟨hc.may 0 rfl 0 _ (nle rfl) rfl,?_⟩
  intro w8 h8
  have hc:=(hc.set 0 rfl h8).1
  have hc:=hc.drew
  refine vD (.Q [0,1,2,3] (.n 4 (.n 5 (.n 6 (.q 7 (.z 8)) .stop) .stop) .stop)) (fun z=>Blk z g5 79 [.int .i64 3,.int .i64 0,.string ⟨#[]⟩,.slice A' i cap']/\Blk z g7 102 (F3 x)) ⟨hc.blk 1 rfl,hc.blk 0 rfl⟩ ?_
  refine⟨_,fun x hx=>hx.1.cell 3,?_⟩
  refine⟨(F3 x),rfl,fun x hx=>C3 hx.2 0 _ 0 (fun j v hj=>by simpa using hj),?_⟩
  refine⟨⟨(B4A x _).mono fun en w9 hq=>?_⟩,trivial⟩
  obtain⟨k,n,s,A1,ln,c1,e1,h9,hrep⟩:=hq
  have hc:=(hc.call h9).1.know (hrep.sub fun b h=>h.elim (fun h=>h.elim) .inr) (E8 _ _)
  refine⟨_,e1,⟨hc.blk 1 rfl,hc.blk 0 rfl⟩,?_⟩
  refine⟨hc.n fun g20 w10 h10 hc=>?_,trivial⟩
  refine⟨⟨hc.blk 2 rfl,hc.blk 1 rfl⟩,?_⟩
  refine⟨D1 Tryz.underlying77 P2 rfl (by decide) hc (ys:=[.int .i64 k,.int .i64 n,.string s,.slice A1 ln c1]) (m:=1) rfl (hc.cells 0 rfl) rfl (by omega) (by decide) rfl rfl ?_,trivial⟩
  intro A2 cap2 w11 hc
  refine⟨⟨hc.blk 2 rfl,hc.blk 1 rfl⟩,?_⟩
  refine⟨hc.may 2 rfl 3 _ (Nat.le_refl 4) rfl,?_⟩
  intro w12 h12
  have hc:=(hc.set 2 rfl h12).1
  have et:(l.take (i+1)).map A35=(l.take i).map A35++[A35 x]:=by rw [List.take_add_one,List.getElem?_eq_getElem hlt,hx];simp
  have hf:=hc.drop.drop.now (X:=fun S w=>RepL S w ((l.take i).map A35++[A35 x]) (xs++[.int .i64 k,.int .i64 n,.string s,.slice A1 ln c1])) (fun h=>RepL.snoc h.2 h.1) (W6 _ _)
  rw [<-et] at hf
  exact⟨i+1,⟨rfl,rfl,rfl,rfl,rfl,congrArg _ (C1 (by omega)),trivial⟩,⟨hlt,_,A2,cap2,_,hf⟩,by show l.length-(i+1)<l.length-i;omega⟩
 ·refine df (by omega) ?_
  have hi:i=l.length:=by omega
  subst hi
  rw [List.take_length] at hc
  refine hc.a 0 rfl rfl ?_
  refine⟨hc.may 1 rfl 0 _ (Nat.le_refl 4) rfl,?_⟩
  intro w5 h5
  have hc:=(hc.set 1 rfl h5).1
  obtain⟨S2,_,hc⟩:=hc.told
  refine hc.a 1 rfl rfl ?_
  refine⟨3,0,⟨#[]⟩,A',l.length,cap',rfl,hc.below,?_⟩
  rw [J3,RepC]
  have ho:=hc.out
  exact⟨A',cap',xs,by rw [List.length_map],ho.1,by rw [List.length_map];exact ho.2⟩
theorem B4C (e:Ent) (A:Option Addr) (cap:Nat) (S0:Nat->Prop) (w:World) (hR:Row S0 w A e.vs.length cap (e.vs.map F3).flatten) (hn:e.vs.length<=1000000) (a:Addr) (ha:w.cell? a=some (.func (.func 112) #[] #[])):
  Calls Tryz.prog 117 #[.agg #[.string e.key,.slice A e.vs.length cap],.pointer (some a)] w (B5F (A36 e) w):=by
 obtain⟨ab,ao,asub⟩:=a
 refine vE Tryz.func117 ?_
 intro g2 w1 h1
 have hc:=((CtxF.start w no (fun _ h=>h.elim) (R:=fun _ _=>True) trivial Stab.true).loc h1).1
 refine hc.n fun g3 w3 h3 hc=>?_
 have hlt:∀ b,b<w3.heap.size->b<w3.heap.size:=fun _ h=>h
 have ha:=cell_later hc.below ha
 refine vD (.Q [0,1,3,4,5] (.n 2 (.n 6 (.n 7 (.n 8 (.z 9) .stop) .stop) .stop) .stop)) (Keeps (fun b=>b<w3.heap.size) w3) (Keeps.start _ _) ?_
 have hk:=Keeps.start (fun b=>b<w3.heap.size) w3
 refine⟨_,fun x hx=>hx.look (hc.cell 1 rfl _ rfl),?_⟩
 refine⟨_,fun x hx=>hx.look (hc.cell 1 rfl _ rfl),?_⟩
 refine⟨_,fun x hx=>hx.look ha,?_⟩
 have hc:=hc.drew
 refine⟨C2 (A8x e.key _) ?_,trivial⟩
 intro w4 h4
 have hc:=(hc.quiet h4).1.know (RepC.leaf _ _ 2 0 e.key) (E8 _ _)
 have hk:=hk.below hlt h4
 refine⟨hk,?_⟩
 refine⟨⟨(A7j e.vs A cap S0 _ (hR.below hc.below) hn).mono fun en w5 hq=>?_⟩,trivial⟩
 obtain⟨k,n,s,A1,ln,c1,e1,h5,hrep⟩:=hq
 have hc:=(hc.call h5).1.know (hrep.sub fun b h=>h.elim (fun h=>h.elim) .inr) (E8 _ _)
 have hk:=hk.below hlt h5
 refine⟨_,e1,hk,?_⟩
 refine⟨fun g6 w6 h6=>?_,trivial⟩
 have hc:=hc.made h6 4 2 rfl (by decide)
 have hk:=hk.below hlt h6.below
 refine⟨hk,?_⟩
 refine⟨hc.q (A2t (some ⟨g6,0,none⟩) 2 2 _) fun w7 h7 hc=>?_,trivial⟩
 have hk:=hk.below hlt h7
 refine⟨hk,?_⟩
 refine⟨hc.may 0 rfl 0 _ (Nat.le_refl 4) rfl,?_⟩
 intro w8 h8
 have hc:=(hc.set 0 rfl h8).1
 obtain⟨S2,_,hc⟩:=hc.told
 refine hc.a 0 rfl rfl ?_
 refine⟨3,0,⟨#[]⟩,some ⟨g6,0,none⟩,2,2,rfl,hc.below,?_⟩
 have ho:=hc.out
 rw [A36,J3,RepC]
 exact⟨some ⟨g6,0,none⟩,2,_,rfl,.cons ho.1.1.2 (.cons ho.1.2 (.nil _ _)),ho.2⟩
theorem A7k (l:List Ent) (css:List (List Value)) (A:Option Addr) (cap:Nat) (S0:Nat->Prop) (w:World) (a:Addr) (ha:w.cell? a=some (.func (.func 112) #[] #[])) (hE:RepEs S0 w l css) (hv:∀ e∈l,e.vs.length<=1000000) (hR:Row S0 w A l.length cap (css.flatten)) (hn:l.length<=1000000):
  Calls Tryz.prog 120 #[.slice A l.length cap,.func (.func 117) #[] #[.pointer (some a)]] w (B5F (J3 (l.map A36)) w):=by
 refine vE Tryz.func120 ?_
 intro g4 w1 h1
 have hc:=((CtxF.start w no (fun _ h=>h.elim) (R:=fun S w=>RepL S w [] []) (.nil _ _) (W6 _ _)).loc h1).1
 refine hc.n fun g5 w2 h2 hc=>?_
 refine⟨hc.may 0 rfl 0 _ (Nat.le_refl 4) rfl,?_⟩
 intro w3 h3
 have hc:=(hc.set 0 rfl h3).1
 have hc:=hc.nil 79 4
 refine⟨Nat,fun i=>[(1,.func (.func 117) #[] #[.pointer (some a)]),(4,.pointer (some ⟨g4,0,none⟩)),(5,.pointer (some ⟨g5,0,none⟩)),(9,.slice A l.length cap),(10,.int .i64 l.length),(11,.int .i64 i)],
  fun i w'=>i<=l.length/\∃ S A' cap' xs,CtxF no w S w' [(g5,79,[.int .i64 3,.int .i64 0,.string ⟨#[]⟩,.slice A' i cap']),(g4,79,(lay.ty 79).zero)] [⟨79,4,A',i,cap',xs⟩] (fun S w=>RepL S w ((l.take i).map A36) xs),
  fun i _=>l.length-i,0,⟨rfl,rfl,rfl,rfl,rfl,rfl,trivial⟩,⟨Nat.zero_le _,no,none,0,[],hc⟩,?_⟩
 clear hc
 rintro i w4 u ⟨hi,S,A',cap',xs,hc⟩
 by_cases hlt:i<l.length
 ·refine dt (by omega) ?_
  have hv':=hv l[i] (List.getElem_mem hlt)
  obtain⟨ad,A0,cap0,rfl,hcell,hRe⟩:=RowE.elem hR hE i hlt
  have hcell:=cellsAt_later hc.below _ _ hcell
  refine⟨⟨by omega,by omega⟩,?_⟩
  refine⟨[.string l[i].key,.slice A0 l[i].vs.length cap0],rfl,hcell,?_⟩
  generalize hx:l[i]=x at*
  refine hc.n fun g7 w7 h7 hc=>?_
  refine⟨hc.may 0 rfl 0 _ (nle rfl) rfl,?_⟩
  intro w8 h8
  have hc:=(hc.set 0 rfl h8).1
  have hc:=hc.drew
  refine vD (.Q [0,1,2,3] (.n 4 (.n 5 (.n 6 (.q 7 (.z 8)) .stop) .stop) .stop)) (fun z=>Blk z g5 79 [.int .i64 3,.int .i64 0,.string ⟨#[]⟩,.slice A' i cap']/\Blk z g7 90 [.string x.key,.slice A0 x.vs.length cap0]) ⟨hc.blk 1 rfl,hc.blk 0 rfl⟩ ?_
  refine⟨_,fun x hx=>hx.1.cell 3,?_⟩
  refine⟨[.string x.key,.slice A0 x.vs.length cap0],rfl,fun x hx=>C3 hx.2 0 _ 0 (fun j v hj=>by simpa using hj),?_⟩
  refine⟨⟨(B4C x A0 cap0 S0 _ (hRe.below hc.below) hv' a (cell_later hc.below ha)).mono fun en w9 hq=>?_⟩,trivial⟩
  obtain⟨k,n,s,A1,ln,c1,e1,h9,hrep⟩:=hq
  have hc:=(hc.call h9).1.know (hrep.sub fun b h=>h.elim (fun h=>h.elim) .inr) (E8 _ _)
  refine⟨_,e1,⟨hc.blk 1 rfl,hc.blk 0 rfl⟩,?_⟩
  refine⟨hc.n fun g20 w10 h10 hc=>?_,trivial⟩
  refine⟨⟨hc.blk 2 rfl,hc.blk 1 rfl⟩,?_⟩
  refine⟨D1 Tryz.underlying77 P2 rfl (by decide) hc (ys:=[.int .i64 k,.int .i64 n,.string s,.slice A1 ln c1]) (m:=1) rfl (hc.cells 0 rfl) rfl (by omega) (by decide) rfl rfl ?_,trivial⟩
  intro A2 cap2 w11 hc
  refine⟨⟨hc.blk 2 rfl,hc.blk 1 rfl⟩,?_⟩
  refine⟨hc.may 2 rfl 3 _ (Nat.le_refl 4) rfl,?_⟩
  intro w12 h12
  have hc:=(hc.set 2 rfl h12).1
  have et:(l.take (i+1)).map A36=(l.take i).map A36++[A36 x]:=by rw [List.take_add_one,List.getElem?_eq_getElem hlt,hx];simp
  have hf:=hc.drop.drop.now (X:=fun S w=>RepL S w ((l.take i).map A36++[A36 x]) (xs++[.int .i64 k,.int .i64 n,.string s,.slice A1 ln c1])) (fun h=>RepL.snoc h.2 h.1) (W6 _ _)
  rw [<-et] at hf
  exact⟨i+1,⟨rfl,rfl,rfl,rfl,rfl,congrArg _ (C1 (by omega)),trivial⟩,⟨hlt,_,A2,cap2,_,hf⟩,by show l.length-(i+1)<l.length-i;omega⟩
 ·refine df (by omega) ?_
  have hi:i=l.length:=by omega
  subst hi
  rw [List.take_length] at hc
  refine hc.a 0 rfl rfl ?_
  refine⟨hc.may 1 rfl 0 _ (Nat.le_refl 4) rfl,?_⟩
  intro w5 h5
  have hc:=(hc.set 1 rfl h5).1
  obtain⟨S2,_,hc⟩:=hc.told
  refine hc.a 1 rfl rfl ?_
  refine⟨3,0,⟨#[]⟩,A',l.length,cap',rfl,hc.below,?_⟩
  rw [J3,RepC]
  have ho:=hc.out
  exact⟨A',cap',xs,by rw [List.length_map],ho.1,by rw [List.length_map];exact ho.2⟩
theorem A7l (l:List Mem) (A:Option Addr) (cap:Nat) (S0:Nat->Prop) (w:World)  (hR:Row S0 w A l.length cap ((l.map F5).flatten)) (hn:l.length<=1000000):
  Calls Tryz.prog 121 #[.slice A l.length cap,.func (.func 119) #[] #[]] w (B5F (J3 (l.map A37)) w):=by
 refine vE Tryz.func121 ?_
 intro g4 w1 h1
 have hc:=((CtxF.start w no (fun _ h=>h.elim) (R:=fun S w=>RepL S w [] []) (.nil _ _) (W6 _ _)).loc h1).1
 refine hc.n fun g5 w2 h2 hc=>?_
 refine⟨hc.may 0 rfl 0 _ (Nat.le_refl 4) rfl,?_⟩
 intro w3 h3
 have hc:=(hc.set 0 rfl h3).1
 have hc:=hc.nil 79 4
 refine⟨Nat,fun i=>[(1,.func (.func 119) #[] #[]),(4,.pointer (some ⟨g4,0,none⟩)),(5,.pointer (some ⟨g5,0,none⟩)),(9,.slice A l.length cap),(10,.int .i64 l.length),(11,.int .i64 i)],
  fun i w'=>i<=l.length/\∃ S A' cap' xs,CtxF no w S w' [(g5,79,[.int .i64 3,.int .i64 0,.string ⟨#[]⟩,.slice A' i cap']),(g4,79,(lay.ty 79).zero)] [⟨79,4,A',i,cap',xs⟩] (fun S w=>RepL S w ((l.take i).map A37) xs),
  fun i _=>l.length-i,0,⟨rfl,rfl,rfl,rfl,rfl,rfl,trivial⟩,⟨Nat.zero_le _,no,none,0,[],hc⟩,?_⟩
 clear hc
 rintro i w4 u ⟨hi,S,A',cap',xs,hc⟩
 by_cases hlt:i<l.length
 ·refine dt (by omega) ?_
  obtain⟨ad,rfl,hcell⟩:=RowM.elem (hR.below hc.below) i hlt
  refine⟨⟨by omega,by omega⟩,?_⟩
  refine⟨F5 l[i],rfl,hcell,?_⟩
  generalize hx:l[i]=x at*
  refine hc.n fun g7 w7 h7 hc=>?_
  refine⟨hc.may 0 rfl 0 _ (nle rfl) rfl,?_⟩
  intro w8 h8
  have hc:=(hc.set 0 rfl h8).1
  have hc:=hc.drew
  refine vD (.Q [0,1,2,3] (.n 4 (.n 5 (.n 6 (.q 7 (.z 8)) .stop) .stop) .stop)) (fun z=>Blk z g5 79 [.int .i64 3,.int .i64 0,.string ⟨#[]⟩,.slice A' i cap']/\Blk z g7 104 (F5 x)) ⟨hc.blk 1 rfl,hc.blk 0 rfl⟩ ?_
  refine⟨_,fun x hx=>hx.1.cell 3,?_⟩
  refine⟨(F5 x),rfl,fun x hx=>C3 hx.2 0 _ 0 (fun j v hj=>by simpa using hj),?_⟩
  refine⟨⟨(B4B x _).mono fun en w9 hq=>?_⟩,trivial⟩
  obtain⟨k,n,s,A1,ln,c1,e1,h9,hrep⟩:=hq
  have hc:=(hc.call h9).1.know (hrep.sub fun b h=>h.elim (fun h=>h.elim) .inr) (E8 _ _)
  refine⟨_,e1,⟨hc.blk 1 rfl,hc.blk 0 rfl⟩,?_⟩
  refine⟨hc.n fun g20 w10 h10 hc=>?_,trivial⟩
  refine⟨⟨hc.blk 2 rfl,hc.blk 1 rfl⟩,?_⟩
  refine⟨D1 Tryz.underlying77 P2 rfl (by decide) hc (ys:=[.int .i64 k,.int .i64 n,.string s,.slice A1 ln c1]) (m:=1) rfl (hc.cells 0 rfl) rfl (by omega) (by decide) rfl rfl ?_,trivial⟩
  intro A2 cap2 w11 hc
  refine⟨⟨hc.blk 2 rfl,hc.blk 1 rfl⟩,?_⟩
  refine⟨hc.may 2 rfl 3 _ (Nat.le_refl 4) rfl,?_⟩
  intro w12 h12
  have hc:=(hc.set 2 rfl h12).1
  have et:(l.take (i+1)).map A37=(l.take i).map A37++[A37 x]:=by rw [List.take_add_one,List.getElem?_eq_getElem hlt,hx];simp
  have hf:=hc.drop.drop.now (X:=fun S w=>RepL S w ((l.take i).map A37++[A37 x]) (xs++[.int .i64 k,.int .i64 n,.string s,.slice A1 ln c1])) (fun h=>RepL.snoc h.2 h.1) (W6 _ _)
  rw [<-et] at hf
  exact⟨i+1,⟨rfl,rfl,rfl,rfl,rfl,congrArg _ (C1 (by omega)),trivial⟩,⟨hlt,_,A2,cap2,_,hf⟩,by show l.length-(i+1)<l.length-i;omega⟩
 ·refine df (by omega) ?_
  have hi:i=l.length:=by omega
  subst hi
  rw [List.take_length] at hc
  refine hc.a 0 rfl rfl ?_
  refine⟨hc.may 1 rfl 0 _ (Nat.le_refl 4) rfl,?_⟩
  intro w5 h5
  have hc:=(hc.set 1 rfl h5).1
  obtain⟨S2,_,hc⟩:=hc.told
  refine hc.a 1 rfl rfl ?_
  refine⟨3,0,⟨#[]⟩,A',l.length,cap',rfl,hc.below,?_⟩
  rw [J3,RepC]
  have ho:=hc.out
  exact⟨A',cap',xs,by rw [List.length_map],ho.1,by rw [List.length_map];exact ho.2⟩
theorem A7m (l:List Int) (A:Option Addr) (cap:Nat) (S0:Nat->Prop) (w:World)  (hR:Row S0 w A l.length cap (l.map B8b)) (hn:l.length<=1000000):
  Calls Tryz.prog 122 #[.slice A l.length cap,.func (.func 114) #[] #[]] w (B5F (J3 (l.map I4)) w):=by
 refine vE Tryz.func122 ?_
 intro g4 w1 h1
 have hc:=((CtxF.start w no (fun _ h=>h.elim) (R:=fun S w=>RepL S w [] []) (.nil _ _) (W6 _ _)).loc h1).1
 refine hc.n fun g5 w2 h2 hc=>?_
 refine⟨hc.may 0 rfl 0 _ (Nat.le_refl 4) rfl,?_⟩
 intro w3 h3
 have hc:=(hc.set 0 rfl h3).1
 have hc:=hc.nil 79 4
 refine⟨Nat,fun i=>[(1,.func (.func 114) #[] #[]),(4,.pointer (some ⟨g4,0,none⟩)),(5,.pointer (some ⟨g5,0,none⟩)),(9,.slice A l.length cap),(10,.int .i64 l.length),(11,.int .i64 i)],
  fun i w'=>i<=l.length/\∃ S A' cap' xs,CtxF no w S w' [(g5,79,[.int .i64 3,.int .i64 0,.string ⟨#[]⟩,.slice A' i cap']),(g4,79,(lay.ty 79).zero)] [⟨79,4,A',i,cap',xs⟩] (fun S w=>RepL S w ((l.take i).map I4) xs),
  fun i _=>l.length-i,0,⟨rfl,rfl,rfl,rfl,rfl,rfl,trivial⟩,⟨Nat.zero_le _,no,none,0,[],hc⟩,?_⟩
 clear hc
 rintro i w4 u ⟨hi,S,A',cap',xs,hc⟩
 by_cases hlt:i<l.length
 ·refine dt (by omega) ?_
  obtain⟨ad,rfl,hcell⟩:=Row.at (hR.below hc.below) (i:=i) (v:=B8b l[i]) (by rw [List.getElem?_map,List.getElem?_eq_getElem hlt];rfl)
  refine⟨⟨by omega,by omega⟩,?_⟩
  refine⟨B8b l[i],by rw [Int.toNat_natCast,Nat.mul_one];exact hcell,?_⟩
  generalize hx:l[i]=x at*
  have hc:=hc.drew
  refine vD (.Q [0,1,2,3] (.n 4 (.n 5 (.n 6 (.q 7 (.z 8)) .stop) .stop) .stop)) (fun x=>Blk x g5 79 [.int .i64 3,.int .i64 0,.string ⟨#[]⟩,.slice A' i cap']) (hc.blk 0 rfl) ?_
  refine⟨_,fun x hx=>hx.cell 3,?_⟩
  refine⟨hc.q (Y2 x _) fun w9 h9 hc=>?_,trivial⟩
  refine⟨hc.blk 0 rfl,?_⟩
  have hc:=hc.know (X:=fun S w=>RepC S w (I4 x) [.int .i64 1,.int .i64 x,.string ⟨#[]⟩,.slice none 0 0]) (RepC.leaf _ _ 1 x ⟨#[]⟩) (E8 _ _)
  refine⟨hc.n fun g20 w10 h10 hc=>?_,trivial⟩
  refine⟨hc.blk 1 rfl,?_⟩
  refine⟨D1 Tryz.underlying77 P2 rfl (by decide) hc (ys:=[.int .i64 1,.int .i64 x,.string ⟨#[]⟩,.slice none 0 0]) (m:=1) rfl (hc.cells 0 rfl) rfl (by omega) (by decide) rfl rfl ?_,trivial⟩
  intro A2 cap2 w11 hc
  refine⟨hc.blk 1 rfl,?_⟩
  refine⟨hc.may 1 rfl 3 _ (Nat.le_refl 4) rfl,?_⟩
  intro w12 h12
  have hc:=(hc.set 1 rfl h12).1
  have et:(l.take (i+1)).map I4=(l.take i).map I4++[I4 x]:=by rw [List.take_add_one,List.getElem?_eq_getElem hlt,hx];simp
  have hf:=hc.drop.now (X:=fun S w=>RepL S w ((l.take i).map I4++[I4 x]) (xs++[.int .i64 1,.int .i64 x,.string ⟨#[]⟩,.slice none 0 0])) (fun h=>RepL.snoc h.2 h.1) (W6 _ _)
  rw [<-et] at hf
  exact⟨i+1,⟨rfl,rfl,rfl,rfl,rfl,congrArg _ (C1 (by omega)),trivial⟩,⟨hlt,_,A2,cap2,_,hf⟩,by show l.length-(i+1)<l.length-i;omega⟩
 ·refine df (by omega) ?_
  have hi:i=l.length:=by omega
  subst hi
  rw [List.take_length] at hc
  refine hc.a 0 rfl rfl ?_
  refine⟨hc.may 1 rfl 0 _ (Nat.le_refl 4) rfl,?_⟩
  intro w5 h5
  have hc:=(hc.set 1 rfl h5).1
  obtain⟨S2,_,hc⟩:=hc.told
  refine hc.a 1 rfl rfl ?_
  refine⟨3,0,⟨#[]⟩,A',l.length,cap',rfl,hc.below,?_⟩
  rw [J3,RepC]
  have ho:=hc.out
  exact⟨A',cap',xs,by rw [List.length_map],ho.1,by rw [List.length_map];exact ho.2⟩
end Go.Proofs.YtfekddndgakneaaGreatDoor
