import Derived.Test.YtokglimimnelaaaGreatDoorM12
import Derived.Test.YtokglimimnelaaaGreatDoorSLearn8
set_option linter.unusedVariables false
set_option linter.unusedSimpArgs false
/- The card of armariumlaw8.ShelfLearn. By program (gen_card.py). -/
namespace Go.Proofs.YtokglimimnelaaaGreatDoor.shelfLearn
open Go.Vc Go.RowKit Go.Fl Go.ChangeShapes Go.WideShapes Go.ChangeAt
set_option maxRecDepth 100000
set_option maxHeartbeats 40000000
set_option maxRecDepth 100000 in
theorem contract (H:Type) (enc:TypeId × Value->H) (W:World) (base:Nat) (args:Array Value) (ds gs:List (DataW H)) (before:List MemPlace)
  (hval:∀ (j:Nat) t v,Tryz.f10.params[j]?=some t->args[j]?=some v->Value.okWide Tryz.prog W .any base t v)
  (hW:DataW.Whole enc Tryz.prog Tryz.f10.params.toList Rows.shelfLearnSpec.vars false W args.toList ds gs before) (hL:laidMetH Tryz.prog Rows.shelfLearnRow.laid W):
  Calls Tryz.prog 10 args W fun e W'=>∃ v,e=.returned v/\Rows.shelfLearnSpec.post enc Tryz.prog Tryz.f10 false true false false W args v W':=by
 have hw:Env W:=env_laid hL
 have hW':=hW
 obtain⟨p,q,hA0,hV,hbf,hfz,hnd⟩:=hW
 have hA:DataW.TrodAll enc Tryz.prog W 0 (fun _=>true) true Tryz.f10.params.toList args.toList ds p:=hA0
 rw [Tryz.params10] at hA hval
 obtain⟨v0,vs0,d0,ds0,p0,q0,hargs0,hds0,-,h0,r0⟩:=trodAll_cons hA
 obtain⟨v1,vs1,d1,ds1,p1,q1,hargs1,hds1,-,h1,r1⟩:=trodAll_cons r0
 obtain⟨v2,vs2,d2,ds2,p2,q2,hargs2,hds2,-,h2,r2⟩:=trodAll_cons r1
 obtain⟨v3,vs3,d3,ds3,p3,q3,hargs3,hds3,-,h3,r3⟩:=trodAll_cons r2
 obtain⟨hz,hz2,-⟩:=trodAll_nil r3
 obtain rfl:args=#[v0,v1,v2,v3]:=by cases args;simp_all
 obtain rfl:ds=[d0,d1,d2,d3]:=by rw [hds0,hds1,hds2,hds3,hz2]
 refine (shelfLearn_ct enc W hw v0 d0 p0 h0 (hval 0 _ _ rfl rfl) v1 d1 p1 h1 (hval 1 _ _ rfl rfl) v2 d2 p2 h2 (hval 2 _ _ rfl rfl) v3 d3 p3 h3 (hval 3 _ _ rfl rfl)).mono fun e W1 ⟨he,hb⟩=>?_
 exact⟨_,he,post_true rfl rfl (by kernel_rfl) (fun h=>by subst h;rfl) hW' hb⟩
theorem reads (os:Os) {H:Type} (enc:TypeId × Value->H):∃ places,DataW.whole enc Tryz.prog ((World.laidAll Tryz.prog os laid5).forCall (fun _ _=>0) ⟨#[],#[.slice none 0 0,.agg #[.int .i64 0,.slice none 0 0,.slice none 0 0,.int .i64 0,.int .i64 0,.int .i64 0,.int .i64 0,.int .i64 0],.slice none 0 0,.int .i64 0],[]⟩).memory Tryz.f10.params.toList Rows.shelfLearnSpec.vars false (#[.slice none 0 0,.agg #[.int .i64 0,.slice none 0 0,.slice none 0 0,.int .i64 0,.int .i64 0,.int .i64 0,.int .i64 0,.int .i64 0],.slice none 0 0,.int .i64 0]:Array Value).toList 8=some ([.nil,.agg [.lit (.int .i64 0),.nil,.nil,.agg [.lit (.int .i64 0),.lit (.int .i64 0),.lit (.int .i64 0),.lit (.int .i64 0),.lit (.int .i64 0)]],.nil,.lit (.int .i64 0)],[],places):=
 ⟨[],by kernel_rfl⟩
set_option maxRecDepth 100000 in
theorem lifted (os:Os) (started:os.Started) (H:Type) (enc:TypeId × Value->H) (F:Stop.Interp):
  ReturnsInHanded {} Tryz.checked os 10 .any ((OpenSpec.ofChange Rows.shelfLearnSpec).preRow enc Tryz.prog Tryz.f10 Rows.shelfLearnRow.domain false Rows.shelfLearnRow.laid) (((OpenSpec.ofChange Rows.shelfLearnSpec).at F).post enc Tryz.prog Tryz.f10 false true false false):=by
 obtain⟨places,hx⟩:=reads os enc
 refine returnsInHanded_of_row (C:=Tryz.checked) (s:=OpenSpec.ofChange Rows.shelfLearnSpec) ownK started (by kernel_rfl) Tryz.func10
  (witness_row_atRef (enc:=enc) (C:=Tryz.checked) false (World.laidAll Tryz.prog os laid5) #[.slice none 0 0,.agg #[.int .i64 0,.slice none 0 0,.slice none 0 0,.int .i64 0,.int .i64 0,.int .i64 0,.int .i64 0,.int .i64 0],.slice none 0 0,.int .i64 0] rfl (by kernel_rfl) (by kernel_rfl) (by kernel_rfl)
   (OpenSpec.preRow_of_cond 8 hx (by kernel_rfl) (fun k hk=>by cases hk) (by kernel_rfl) (laid_met os _))) ?_
 intro W base args ds gs before hval hW _ _ _ hL _ _
 exact contract H enc W base args ds gs before hval hW hL
set_option maxRecDepth 100000 in
theorem closed:joinedFacts Tryz.prog 10 Tryz.f10 (OpenSpec.ofChange Rows.shelfLearnSpec).bare Rows.shelfLearnRow=true:=by
 unfold joinedFacts
 repeat' with_reducible refine and2 ?_ ?_
 all_goals first
  | with_reducible exact lay5
  | with_reducible exact factRowed
  | with_reducible exact factHeard
  | with_reducible exact factEnter
  | (with_reducible refine factKeys' _ ?_;rfl)
  | (with_reducible refine factLifted' _ ?_;rfl)
  | (with_reducible refine factMake' _ ?_;rfl)
  | as_aux_lemma=>kernel_rfl
theorem named:Tryz.pinned.checked.prog.funcNamed Rows.shelfLearnRow.func=some 10:=by kernel_rfl
theorem inst:Tryz.f10.isInstance Tryz.pinned.checked.prog Rows.shelfLearnRow.origin Rows.shelfLearnRow.targs:=of_decide_eq_true (by kernel_rfl)
set_option maxRecDepth 100000 in
theorem said:Rows.ShelfLearnSaid:=
 OpenClaim.holds_of_cond 10 Tryz.f10 rfl rfl rfl rfl rfl rfl rfl ⟨rfl,rfl,rfl,rfl,rfl⟩ rfl rfl rfl rfl rfl named Tryz.func10 closed
  inst (by unfold Func.isWrapper;first | (rw [if_pos (by decide +kernel)];kernel_rfl) | (rw [if_neg (by decide +kernel)];exact⟨rfl,rfl⟩))
  (fun os started H enc _ F=>by rw [OpenClaim.pre_eq_preRow];exact lifted os started H enc F)
theorem noStand:Tryz.f10.params.all (fun t=>!(Tryz.prog.wantsStandIn t))=true:=by kernel_rfl
theorem plain (f:FuncId) (fn:Func) (hf:Tryz.pinned.checked.prog.funcNamed "armarium/armariumlaw8.ShelfLearn"=some f) (hfn:Tryz.pinned.checked.prog.funcs[f]?=some fn):
  true=Tryz.pinned.checked.prog.looks []/\∀ (j:Nat) t,fn.params[j]?=some t->Tryz.pinned.checked.prog.wantsStandIn t=false:=by
 obtain rfl:f=10:=Option.some.inj ((show Tryz.prog.funcNamed "armarium/armariumlaw8.ShelfLearn"=some 10 by kernel_rfl).symm.trans hf) |>.symm
 obtain rfl:fn=Tryz.f10:=(Option.some.inj (Tryz.func10.symm.trans hfn)).symm
 refine⟨by kernel_rfl,fun j t ht=>?_⟩
 have h:=noStand
 rw [Array.all_eq_true] at h
 obtain⟨hj,rfl⟩:=Array.getElem?_eq_some_iff.1 ht
 have:=h j hj
 rw [Bool.not_eq_true'] at this
 exact this
theorem byText:OpenClaim.wfByText (OpenSpec.ofChange Rows.shelfLearnSpec) Rows.shelfLearnRow=true:=by kernel_rfl
theorem mainIs:Tryz.pinned.checked.prog.mainIs=some ((true, "b5a683c7744cefbc7a6405390a336907d3bff5d0b303fe2c7607c4c7fe0bcbbd").1,(true, "b5a683c7744cefbc7a6405390a336907d3bff5d0b303fe2c7607c4c7fe0bcbbd").2.toList):=by kernel_rfl
theorem goes:false=Rows.shelfLearnRow.goesBy Tryz.pinned.checked.prog:=by kernel_rfl
end Go.Proofs.YtokglimimnelaaaGreatDoor.shelfLearn
namespace Go.Proofs.YtokglimimnelaaaGreatDoor
set_option maxHeartbeats 40000000
theorem shelfLearn_card:Rows.ShelfLearnCardSaid:=
 Claim7.holds_tied_plain_at .later [] _ _ _ _ shelfLearn.said (fun _ h=>by cases h) shelfLearn.byText (fun _ h=>by cases h) shelfLearn_row_tie rfl ⟨rfl,rfl⟩ shelfLearn.mainIs rfl shelfLearn.plain shelfLearn.goes
end Go.Proofs.YtokglimimnelaaaGreatDoor
