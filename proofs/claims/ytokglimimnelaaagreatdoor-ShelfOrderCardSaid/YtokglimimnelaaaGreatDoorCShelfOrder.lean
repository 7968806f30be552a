import Derived.Test.YtokglimimnelaaaGreatDoorM13
import Derived.Test.YtokglimimnelaaaGreatDoorSOrder
set_option linter.unusedVariables false
set_option linter.unusedSimpArgs false
/- The card of armariumlaw8.ShelfOrder. By program (gen_card.py). -/
namespace Go.Proofs.YtokglimimnelaaaGreatDoor.shelfOrder
open Go.Vc Go.RowKit Go.Fl Go.ChangeShapes Go.WideShapes Go.ChangeAt
set_option maxRecDepth 100000
set_option maxHeartbeats 40000000
set_option maxRecDepth 100000 in
theorem contract (H:Type) (enc:TypeId × Value->H) (W:World) (base:Nat) (args:Array Value) (ds gs:List (DataW H)) (before:List MemPlace)
  (hval:∀ (j:Nat) t v,Tryz.f7.params[j]?=some t->args[j]?=some v->Value.okWide Tryz.prog W .any base t v)
  (hW:DataW.Whole enc Tryz.prog Tryz.f7.params.toList Rows.shelfOrderSpec.vars false W args.toList ds gs before) (hL:laidMetH Tryz.prog Rows.shelfOrderRow.laid W):
  Calls Tryz.prog 7 args W fun e W'=>∃ v,e=.returned v/\Rows.shelfOrderSpec.post enc Tryz.prog Tryz.f7 false true false false W args v W':=by
 have hw:Env W:=env_laid hL
 have hW':=hW
 obtain⟨p,q,hA0,hV,hbf,hfz,hnd⟩:=hW
 have hA:DataW.TrodAll enc Tryz.prog W 0 (fun _=>true) true Tryz.f7.params.toList args.toList ds p:=hA0
 rw [Tryz.params7] at hA hval
 obtain⟨v0,vs0,d0,ds0,p0,q0,hargs0,hds0,-,h0,r0⟩:=trodAll_cons hA
 obtain⟨v1,vs1,d1,ds1,p1,q1,hargs1,hds1,-,h1,r1⟩:=trodAll_cons r0
 obtain⟨hz,hz2,-⟩:=trodAll_nil r1
 obtain rfl:args=#[v0,v1]:=by cases args;simp_all
 obtain rfl:ds=[d0,d1]:=by rw [hds0,hds1,hz2]
 refine (shelfOrder_ct enc W hw v0 d0 p0 h0 (hval 0 _ _ rfl rfl) v1 d1 p1 h1 (hval 1 _ _ rfl rfl)).mono fun e W1 ⟨he,hb⟩=>?_
 exact⟨_,he,post_true rfl rfl (by kernel_rfl) (fun h=>by subst h;rfl) hW' hb⟩
theorem reads (os:Os) {H:Type} (enc:TypeId × Value->H):∃ places,DataW.whole enc Tryz.prog ((World.laidAll Tryz.prog os laid5).forCall (fun _ _=>0) ⟨#[],#[.slice none 0 0,.slice none 0 0],[]⟩).memory Tryz.f7.params.toList Rows.shelfOrderSpec.vars false (#[.slice none 0 0,.slice none 0 0]:Array Value).toList 8=some ([.nil,.nil],[],places):=
 ⟨[],by kernel_rfl⟩
set_option maxRecDepth 100000 in
theorem lifted (os:Os) (started:os.Started) (H:Type) (enc:TypeId × Value->H) (F:Stop.Interp):
  ReturnsInHanded {} Tryz.checked os 7 .any ((OpenSpec.ofChange Rows.shelfOrderSpec).preRow enc Tryz.prog Tryz.f7 Rows.shelfOrderRow.domain false Rows.shelfOrderRow.laid) (((OpenSpec.ofChange Rows.shelfOrderSpec).at F).post enc Tryz.prog Tryz.f7 false true false false):=by
 obtain⟨places,hx⟩:=reads os enc
 refine returnsInHanded_of_row (C:=Tryz.checked) (s:=OpenSpec.ofChange Rows.shelfOrderSpec) ownK started (by kernel_rfl) Tryz.func7
  (witness_row_atRef (enc:=enc) (C:=Tryz.checked) false (World.laidAll Tryz.prog os laid5) #[.slice none 0 0,.slice none 0 0] rfl (by kernel_rfl) (by kernel_rfl) (by kernel_rfl)
   (OpenSpec.preRow_of_cond 8 hx (by kernel_rfl) (fun k hk=>by cases hk) (by kernel_rfl) (laid_met os _))) ?_
 intro W base args ds gs before hval hW _ _ _ hL _ _
 exact contract H enc W base args ds gs before hval hW hL
set_option maxRecDepth 100000 in
theorem closed:joinedFacts Tryz.prog 7 Tryz.f7 (OpenSpec.ofChange Rows.shelfOrderSpec).bare Rows.shelfOrderRow=true:=by
 unfold joinedFacts
 repeat' with_reducible refine and2 ?_ ?_
 all_goals first
  | with_reducible exact lay5
  | with_reducible exact factRowed
  | with_reducible exact factHeard
  | with_reducible exact factEnter
  | (with_reducible refine factKeys' _ ?_;rfl)
  | (with_reducible refine factLifted' _ ?_;rfl)
  | (with_reducible refine factMake' _ ?_;rfl)
  | as_aux_lemma=>kernel_rfl
theorem named:Tryz.pinned.checked.prog.funcNamed Rows.shelfOrderRow.func=some 7:=by kernel_rfl
theorem inst:Tryz.f7.isInstance Tryz.pinned.checked.prog Rows.shelfOrderRow.origin Rows.shelfOrderRow.targs:=of_decide_eq_true (by kernel_rfl)
set_option maxRecDepth 100000 in
theorem said:Rows.ShelfOrderSaid:=
 OpenClaim.holds_of_cond 7 Tryz.f7 rfl rfl rfl rfl rfl rfl rfl ⟨rfl,rfl,rfl,rfl,rfl⟩ rfl rfl rfl rfl rfl named Tryz.func7 closed
  inst (by unfold Func.isWrapper;first | (rw [if_pos (by decide +kernel)];kernel_rfl) | (rw [if_neg (by decide +kernel)];exact⟨rfl,rfl⟩))
  (fun os started H enc _ F=>by rw [OpenClaim.pre_eq_preRow];exact lifted os started H enc F)
theorem noStand:Tryz.f7.params.all (fun t=>!(Tryz.prog.wantsStandIn t))=true:=by kernel_rfl
theorem plain (f:FuncId) (fn:Func) (hf:Tryz.pinned.checked.prog.funcNamed "armarium/armariumlaw8.ShelfOrder"=some f) (hfn:Tryz.pinned.checked.prog.funcs[f]?=some fn):
  true=Tryz.pinned.checked.prog.looks []/\∀ (j:Nat) t,fn.params[j]?=some t->Tryz.pinned.checked.prog.wantsStandIn t=false:=by
 obtain rfl:f=7:=Option.some.inj ((show Tryz.prog.funcNamed "armarium/armariumlaw8.ShelfOrder"=some 7 by kernel_rfl).symm.trans hf) |>.symm
 obtain rfl:fn=Tryz.f7:=(Option.some.inj (Tryz.func7.symm.trans hfn)).symm
 refine⟨by kernel_rfl,fun j t ht=>?_⟩
 have h:=noStand
 rw [Array.all_eq_true] at h
 obtain⟨hj,rfl⟩:=Array.getElem?_eq_some_iff.1 ht
 have:=h j hj
 rw [Bool.not_eq_true'] at this
 exact this
theorem byText:OpenClaim.wfByText (OpenSpec.ofChange Rows.shelfOrderSpec) Rows.shelfOrderRow=true:=by kernel_rfl
theorem mainIs:Tryz.pinned.checked.prog.mainIs=some ((true, "b5a683c7744cefbc7a6405390a336907d3bff5d0b303fe2c7607c4c7fe0bcbbd").1,(true, "b5a683c7744cefbc7a6405390a336907d3bff5d0b303fe2c7607c4c7fe0bcbbd").2.toList):=by kernel_rfl
theorem goes:false=Rows.shelfOrderRow.goesBy Tryz.pinned.checked.prog:=by kernel_rfl
end Go.Proofs.YtokglimimnelaaaGreatDoor.shelfOrder
namespace Go.Proofs.YtokglimimnelaaaGreatDoor
set_option maxHeartbeats 40000000
theorem shelfOrder_card:Rows.ShelfOrderCardSaid:=
 Claim7.holds_tied_plain_at .later [] _ _ _ _ shelfOrder.said (fun _ h=>by cases h) shelfOrder.byText (fun _ h=>by cases h) shelfOrder_row_tie rfl ⟨rfl,rfl⟩ shelfOrder.mainIs rfl shelfOrder.plain shelfOrder.goes
end Go.Proofs.YtokglimimnelaaaGreatDoor
