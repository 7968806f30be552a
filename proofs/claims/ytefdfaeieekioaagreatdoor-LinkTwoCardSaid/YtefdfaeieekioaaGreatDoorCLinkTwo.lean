import Derived.Test.YtefdfaeieekioaaGreatDoorZ06
import Derived.Test.YtefdfaeieekioaaGreatDoorSLTwo
set_option maxRecDepth 100000
set_option maxHeartbeats 40000000
set_option linter.unusedVariables false
set_option linter.unusedSimpArgs false
/- The card of armariumlaw13.LinkTwo. By program (gen_card.py). -/
namespace Go.Proofs.YtefdfaeieekioaaGreatDoor.linkTwo
open Go.Vc Go.RowKit Go.Fl Go.ChangeShapes Go.WideShapes Go.ChangeAt
theorem B2D (H:Type) (enc:TypeId × Value->H) (W:World) (base:Nat) (args:Array Value) (ds gs:List (DataW H)) (before:List MemPlace)
  (A2k:∀ (j:Nat) t v,Tryz.f3.params[j]?=some t->args[j]?=some v->Value.okWide Tryz.prog W .any base t v)
  (hW:DataW.Whole enc Tryz.prog Tryz.f3.params.toList Rows.linkTwoSpec.vars false W args.toList ds gs before) (hL:laidMetH Tryz.prog Rows.linkTwoRow.laid W):
  Calls Tryz.prog 3 args W fun e W'=>∃ v,e=.returned v/\Rows.linkTwoSpec.post enc Tryz.prog Tryz.f3 false true false false W args v W':=by
 have hw:Env W:=B2o hL;have hW':=hW;obtain⟨p,q,hA0,hV,hbf,hfz,hnd⟩:=hW;have hA:DataW.TrodAll enc Tryz.prog W 0 (fun _=>true) true Tryz.f3.params.toList args.toList ds p:=hA0;rw [Tryz.params3] at hA A2k;obtain⟨v0,vs0,d0,ds0,p0,q0,hargs0,hds0,-,h0,r0⟩:=trodAll_cons hA;obtain⟨v1,vs1,d1,ds1,p1,q1,hargs1,hds1,-,h1,r1⟩:=trodAll_cons r0;obtain⟨hz,hz2,-⟩:=trodAll_nil r1;obtain rfl:args=#[v0,v1]:=by cases args;simp_all
 obtain rfl:ds=[d0,d1]:=by rw [hds0,hds1,hz2]
 refine (C4n enc W hw v0 d0 p0 h0 (A2k 0 _ _ rfl rfl) v1 d1 p1 h1 (A2k 1 _ _ rfl rfl)).mono fun e W1 ⟨he,hb⟩=>?_;exact⟨_,he,B0W rfl rfl (by kernel_rfl) (fun h=>by subst h;rfl) hW' hb⟩
theorem B72 (os:Os) {H:Type} (enc:TypeId × Value->H):∃ places,DataW.whole enc Tryz.prog ((World.laidAll Tryz.prog os B0U).forCall (fun _ _=>0) ⟨#[],#[.slice none 0 0,.slice none 0 0],[]⟩).memory Tryz.f3.params.toList Rows.linkTwoSpec.vars false (#[.slice none 0 0,.slice none 0 0]:Array Value).toList 8=some ([.nil,.nil],[],places):=
 ⟨[],by kernel_rfl⟩
theorem lifted (os:Os) (started:os.Started) (H:Type) (enc:TypeId × Value->H) (F:Stop.Interp):
  ReturnsInHanded {} Tryz.checked os 3 .any ((OpenSpec.ofChange Rows.linkTwoSpec).preRow enc Tryz.prog Tryz.f3 Rows.linkTwoRow.domain false Rows.linkTwoRow.laid) (((OpenSpec.ofChange Rows.linkTwoSpec).at F).post enc Tryz.prog Tryz.f3 false true false false):=by
 obtain⟨places,hx⟩:=B72 os enc;refine returnsInHanded_of_row (C:=Tryz.checked) (s:=OpenSpec.ofChange Rows.linkTwoSpec) B9B started (by kernel_rfl) Tryz.func3
  (witness_row_atRef (enc:=enc) (C:=Tryz.checked) false (World.laidAll Tryz.prog os B0U) #[.slice none 0 0,.slice none 0 0] rfl (by kernel_rfl) (by kernel_rfl) (by kernel_rfl)
   (OpenSpec.preRow_of_cond 8 hx (by kernel_rfl) (fun k hk=>by cases hk) (by kernel_rfl) (B2p os _))) ?_
 intro W base args ds gs before A2k hW _ _ _ hL _ _;exact B2D H enc W base args ds gs before A2k hW hL
theorem closed:joinedFacts Tryz.prog 3 Tryz.f3 (OpenSpec.ofChange Rows.linkTwoSpec).bare Rows.linkTwoRow=true:=by
 unfold joinedFacts
 repeat' with_reducible refine B9F ?_ ?_
 all_goals first
  | with_reducible exact B8u
  | with_reducible exact B0X
  | with_reducible exact B0Y
  | with_reducible exact B0Z
  | (with_reducible refine B0a _ ?_;rfl)
  | (with_reducible refine A6O _ ?_;rfl)
  | (with_reducible refine B0b _ ?_;rfl)
  | as_aux_lemma=>kernel_rfl
theorem B73:Tryz.pinned.checked.prog.funcNamed Rows.linkTwoRow.func=some 3:=by kernel_rfl
theorem B85:Tryz.f3.isInstance Tryz.pinned.checked.prog Rows.linkTwoRow.origin Rows.linkTwoRow.targs:=of_decide_eq_true (by kernel_rfl)
theorem said:Rows.LinkTwoSaid:=
 OpenClaim.holds_of_cond 3 Tryz.f3 rfl rfl rfl rfl rfl rfl rfl ⟨rfl,rfl,rfl,rfl,rfl⟩ rfl rfl rfl rfl rfl B73 Tryz.func3 closed
  B85 (by unfold Func.isWrapper;first | (rw [y6 (by decide +kernel)];kernel_rfl) | (rw [y7 (by decide +kernel)];exact⟨rfl,rfl⟩))
  (fun os started H enc _ F=>by rw [OpenClaim.pre_eq_preRow];exact lifted os started H enc F)
theorem B4l:Tryz.f3.params.all (fun t=>!(Tryz.prog.wantsStandIn t))=true:=by kernel_rfl
theorem plain (f:FuncId) (fn:Func) (hf:Tryz.pinned.checked.prog.funcNamed "armarium/armariumlaw13.LinkTwo"=some f) (hfn:Tryz.pinned.checked.prog.funcs[f]?=some fn):
  true=Tryz.pinned.checked.prog.looks []/\∀ (j:Nat) t,fn.params[j]?=some t->Tryz.pinned.checked.prog.wantsStandIn t=false:=by
 obtain rfl:f=3:=Option.some.inj ((show Tryz.prog.funcNamed "armarium/armariumlaw13.LinkTwo"=some 3 by kernel_rfl).symm.trans hf) |>.symm
 obtain rfl:fn=Tryz.f3:=(Option.some.inj (Tryz.func3.symm.trans hfn)).symm;refine⟨by kernel_rfl,fun j t ht=>?_⟩;have h:=B4l;rw [Array.all_eq_true] at h;obtain⟨hj,rfl⟩:=Array.getElem?_eq_some_iff.1 ht;have:=h j hj;rw [Bool.not_eq_true'] at this;exact this
theorem byText:OpenClaim.wfByText (OpenSpec.ofChange Rows.linkTwoSpec) Rows.linkTwoRow=true:=by kernel_rfl
theorem mainIs:Tryz.pinned.checked.prog.mainIs=some ((true, "903c1bef413ad3524c8807e68f16538d761045b1eb3b9220f4b98bcec6d94d70").1,(true, "903c1bef413ad3524c8807e68f16538d761045b1eb3b9220f4b98bcec6d94d70").2.toList):=by kernel_rfl
theorem goes:false=Rows.linkTwoRow.goesBy Tryz.pinned.checked.prog:=by kernel_rfl
end Go.Proofs.YtefdfaeieekioaaGreatDoor.linkTwo
namespace Go.Proofs.YtefdfaeieekioaaGreatDoor
theorem linkTwo_card:Rows.LinkTwoCardSaid:=
 Claim7.holds_tied_plain_at .later [] _ _ _ _ linkTwo.said (fun _ h=>by cases h) linkTwo.byText (fun _ h=>by cases h) linkTwo_row_tie rfl ⟨rfl,rfl⟩ linkTwo.mainIs rfl linkTwo.plain linkTwo.goes
end Go.Proofs.YtefdfaeieekioaaGreatDoor
