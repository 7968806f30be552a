import Derived.Test.YtefdfaeieekioaaGreatDoorM03
import Derived.Test.YtefdfaeieekioaaGreatDoorSLNone
set_option maxRecDepth 100000
set_option maxHeartbeats 40000000
set_option linter.unusedVariables false
set_option linter.unusedSimpArgs false
/- The card of armariumlaw13.LinkNone. By program (gen_card.py). -/
namespace Go.Proofs.YtefdfaeieekioaaGreatDoor.linkNone
open Go.Vc Go.RowKit Go.Fl Go.ChangeShapes Go.WideShapes Go.ChangeAt
theorem contract (H:Type) (enc:TypeId × Value->H) (W:World) (base:Nat) (args:Array Value) (ds gs:List (DataW H)) (before:List MemPlace)
  (hval:∀ (j:Nat) t v,Tryz.f13.params[j]?=some t->args[j]?=some v->Value.okWide Tryz.prog W .any base t v)
  (hW:DataW.Whole enc Tryz.prog Tryz.f13.params.toList Rows.linkNoneSpec.vars false W args.toList ds gs before) (hL:laidMetH Tryz.prog Rows.linkNoneRow.laid W):
  Calls Tryz.prog 13 args W fun e W'=>∃ v,e=.returned v/\Rows.linkNoneSpec.post enc Tryz.prog Tryz.f13 false true false false W args v W':=by
 have hw:Env W:=env_laid hL
 have hW':=hW
 obtain⟨p,q,hA0,hV,hbf,hfz,hnd⟩:=hW
 have hA:DataW.TrodAll enc Tryz.prog W 0 (fun _=>true) true Tryz.f13.params.toList args.toList ds p:=hA0
 rw [Tryz.params13] at hA hval
 obtain⟨hz,hz2,-⟩:=trodAll_nil hA
 obtain rfl:args=#[]:=by cases args;simp_all
 obtain rfl:ds=[]:=hz2
 refine (linkNone_ct enc W hw ).mono fun e W1 ⟨he,hb⟩=>?_
 exact⟨_,he,post_true rfl rfl (by kernel_rfl) (fun h=>by subst h;rfl) hW' hb⟩
theorem reads (os:Os) {H:Type} (enc:TypeId × Value->H):∃ places,DataW.whole enc Tryz.prog ((World.laidAll Tryz.prog os laid5).forCall (fun _ _=>0) ⟨#[],#[],[]⟩).memory Tryz.f13.params.toList Rows.linkNoneSpec.vars false (#[]:Array Value).toList 8=some ([],[],places):=
 ⟨[],by kernel_rfl⟩
theorem lifted (os:Os) (started:os.Started) (H:Type) (enc:TypeId × Value->H) (F:Stop.Interp):
  ReturnsInHanded {} Tryz.checked os 13 .any ((OpenSpec.ofChange Rows.linkNoneSpec).preRow enc Tryz.prog Tryz.f13 Rows.linkNoneRow.domain false Rows.linkNoneRow.laid) (((OpenSpec.ofChange Rows.linkNoneSpec).at F).post enc Tryz.prog Tryz.f13 false true false false):=by
 obtain⟨places,hx⟩:=reads os enc
 refine returnsInHanded_of_row (C:=Tryz.checked) (s:=OpenSpec.ofChange Rows.linkNoneSpec) ownK started (by kernel_rfl) Tryz.func13
  (witness_row_atRef (enc:=enc) (C:=Tryz.checked) false (World.laidAll Tryz.prog os laid5) #[] rfl (by kernel_rfl) (by kernel_rfl) (by kernel_rfl)
   (OpenSpec.preRow_of_cond 8 hx (by kernel_rfl) (fun k hk=>by cases hk) (by kernel_rfl) (laid_met os _))) ?_
 intro W base args ds gs before hval hW _ _ _ hL _ _
 exact contract H enc W base args ds gs before hval hW hL
theorem closed:joinedFacts Tryz.prog 13 Tryz.f13 (OpenSpec.ofChange Rows.linkNoneSpec).bare Rows.linkNoneRow=true:=by
 unfold joinedFacts
 repeat' with_reducible refine and2 ?_ ?_
 all_goals first
  | with_reducible exact lay5
  | with_reducible exact factRowed
  | with_reducible exact factHeard
  | with_reducible exact factEnter
  | (with_reducible refine factKeys' _ ?_;rfl)
  | (with_reducible refine factLifted' _ ?_;rfl)
  | (with_reducible refine factMake' _ ?_;rfl)
  | as_aux_lemma=>kernel_rfl
theorem named:Tryz.pinned.checked.prog.funcNamed Rows.linkNoneRow.func=some 13:=by kernel_rfl
theorem inst:Tryz.f13.isInstance Tryz.pinned.checked.prog Rows.linkNoneRow.origin Rows.linkNoneRow.targs:=of_decide_eq_true (by kernel_rfl)
theorem said:Rows.LinkNoneSaid:=
 OpenClaim.holds_of_cond 13 Tryz.f13 rfl rfl rfl rfl rfl rfl rfl ⟨rfl,rfl,rfl,rfl,rfl⟩ rfl rfl rfl rfl rfl named Tryz.func13 closed
  inst (by unfold Func.isWrapper;first | (rw [if_pos (by decide +kernel)];kernel_rfl) | (rw [if_neg (by decide +kernel)];exact⟨rfl,rfl⟩))
  (fun os started H enc _ F=>by rw [OpenClaim.pre_eq_preRow];exact lifted os started H enc F)
theorem noStand:Tryz.f13.params.all (fun t=>!(Tryz.prog.wantsStandIn t))=true:=by kernel_rfl
theorem plain (f:FuncId) (fn:Func) (hf:Tryz.pinned.checked.prog.funcNamed "armarium/armariumlaw13.LinkNone"=some f) (hfn:Tryz.pinned.checked.prog.funcs[f]?=some fn):
  true=Tryz.pinned.checked.prog.looks []/\∀ (j:Nat) t,fn.params[j]?=some t->Tryz.pinned.checked.prog.wantsStandIn t=false:=by
 obtain rfl:f=13:=Option.some.inj ((show Tryz.prog.funcNamed "armarium/armariumlaw13.LinkNone"=some 13 by kernel_rfl).symm.trans hf) |>.symm
 obtain rfl:fn=Tryz.f13:=(Option.some.inj (Tryz.func13.symm.trans hfn)).symm
 refine⟨by kernel_rfl,fun j t ht=>?_⟩
 have h:=noStand
 rw [Array.all_eq_true] at h
 obtain⟨hj,rfl⟩:=Array.getElem?_eq_some_iff.1 ht
 have:=h j hj
 rw [Bool.not_eq_true'] at this
 exact this
theorem byText:OpenClaim.wfByText (OpenSpec.ofChange Rows.linkNoneSpec) Rows.linkNoneRow=true:=by kernel_rfl
theorem mainIs:Tryz.pinned.checked.prog.mainIs=some ((true, "903c1bef413ad3524c8807e68f16538d761045b1eb3b9220f4b98bcec6d94d70").1,(true, "903c1bef413ad3524c8807e68f16538d761045b1eb3b9220f4b98bcec6d94d70").2.toList):=by kernel_rfl
theorem goes:false=Rows.linkNoneRow.goesBy Tryz.pinned.checked.prog:=by kernel_rfl
end Go.Proofs.YtefdfaeieekioaaGreatDoor.linkNone
namespace Go.Proofs.YtefdfaeieekioaaGreatDoor
theorem linkNone_card:Rows.LinkNoneCardSaid:=
 Claim7.holds_tied_plain_at .later [] _ _ _ _ linkNone.said (fun _ h=>by cases h) linkNone.byText (fun _ h=>by cases h) linkNone_row_tie rfl ⟨rfl,rfl⟩ linkNone.mainIs rfl linkNone.plain linkNone.goes
end Go.Proofs.YtefdfaeieekioaaGreatDoor
