import Derived.Test.YtefdfaeieekioaaGreatDoorQ07
import Derived.Test.YtefdfaeieekioaaGreatDoorSLLearns
set_option maxRecDepth 100000
set_option maxHeartbeats 40000000
set_option linter.unusedVariables false
set_option linter.unusedSimpArgs false
/- The card of armariumlaw13.LinkLearns. By program (gen_card.py). -/
namespace Go.Proofs.YtefdfaeieekioaaGreatDoor.linkLearns
open Go.Vc Go.RowKit Go.Fl Go.ChangeShapes Go.WideShapes Go.ChangeAt
theorem B4o (H:Type) (enc:TypeId × Value->H) (W:World) (base:Nat) (args:Array Value) (ds gs:List (DataW H)) (before:List MemPlace)
  (A36:∀ (j:Nat) t v,Tryz.f4.params[j]?=some t->args[j]?=some v->Value.okWide Tryz.prog W .any base t v)
  (hW:DataW.Whole enc Tryz.prog Tryz.f4.params.toList Rows.linkLearnsSpec.vars false W args.toList ds gs before) (hL:laidMetH Tryz.prog Rows.linkLearnsRow.laid W):
  Calls Tryz.prog 4 args W fun e W'=>∃ v,e=.returned v/\Rows.linkLearnsSpec.post enc Tryz.prog Tryz.f4 false true false false W args v W':=by
 have hw:Env W:=B5U hL;have hW':=hW;obtain⟨p,q,hA0,hV,hbf,hfz,hnd⟩:=hW;have hA:DataW.TrodAll enc Tryz.prog W 0 (fun _=>true) true Tryz.f4.params.toList args.toList ds p:=hA0;rw [Tryz.params4] at hA A36;obtain⟨v0,vs0,d0,ds0,p0,q0,hargs0,hds0,-,h0,r0⟩:=trodAll_cons hA;obtain⟨v1,vs1,d1,ds1,p1,q1,hargs1,hds1,-,h1,r1⟩:=trodAll_cons r0;obtain⟨v2,vs2,d2,ds2,p2,q2,hargs2,hds2,-,h2,r2⟩:=trodAll_cons r1;obtain⟨hz,hz2,-⟩:=trodAll_nil r2;obtain rfl:args=#[v0,v1,v2]:=by cases args;simp_all
 obtain rfl:ds=[d0,d1,d2]:=by rw [hds0,hds1,hds2,hz2]
 refine (A6A enc W hw v0 d0 p0 h0 (A36 0 _ _ rfl rfl) v1 d1 p1 h1 (A36 1 _ _ rfl rfl) v2 d2 p2 h2 (A36 2 _ _ rfl rfl)).mono fun e W1 ⟨he,hb⟩=>?_;exact⟨_,he,B2u rfl rfl (by kernel_rfl) (fun h=>by subst h;rfl) hW' hb⟩
theorem C0y (os:Os) {H:Type} (enc:TypeId × Value->H):∃ places,DataW.whole enc Tryz.prog ((World.laidAll Tryz.prog os B2s).forCall (fun _ _=>0) ⟨#[],#[.slice none 0 0,.slice none 0 0,.int .i64 0],[]⟩).memory Tryz.f4.params.toList Rows.linkLearnsSpec.vars false (#[.slice none 0 0,.slice none 0 0,.int .i64 0]:Array Value).toList 8=some ([.nil,.nil,.lit (.int .i64 0)],[],places):=
 ⟨[],by kernel_rfl⟩
theorem lifted (os:Os) (started:os.Started) (H:Type) (enc:TypeId × Value->H) (F:Stop.Interp):
  ReturnsInHanded {} Tryz.checked os 4 .any ((OpenSpec.ofChange Rows.linkLearnsSpec).preRow enc Tryz.prog Tryz.f4 Rows.linkLearnsRow.domain false Rows.linkLearnsRow.laid) (((OpenSpec.ofChange Rows.linkLearnsSpec).at F).post enc Tryz.prog Tryz.f4 false true false false):=by
 obtain⟨places,hx⟩:=C0y os enc;refine returnsInHanded_of_row (C:=Tryz.checked) (s:=OpenSpec.ofChange Rows.linkLearnsSpec) C15 started (by kernel_rfl) Tryz.func4
  (witness_row_atRef (enc:=enc) (C:=Tryz.checked) false (World.laidAll Tryz.prog os B2s) #[.slice none 0 0,.slice none 0 0,.int .i64 0] rfl (by kernel_rfl) (by kernel_rfl) (by kernel_rfl)
   (OpenSpec.preRow_of_cond 8 hx (by kernel_rfl) (fun k hk=>by cases hk) (by kernel_rfl) (B5V os _))) ?_
 intro W base args ds gs before A36 hW _ _ _ hL _ _;exact B4o H enc W base args ds gs before A36 hW hL
theorem closed:joinedFacts Tryz.prog 4 Tryz.f4 (OpenSpec.ofChange Rows.linkLearnsSpec).bare Rows.linkLearnsRow=true:=by
 unfold joinedFacts
 repeat' with_reducible refine C19 ?_ ?_
 all_goals first
  | with_reducible exact C1s
  | with_reducible exact B2v
  | with_reducible exact B2w
  | with_reducible exact B2x
  | (with_reducible refine B2y _ ?_;rfl)
  | (with_reducible refine A8H _ ?_;rfl)
  | (with_reducible refine B2z _ ?_;rfl)
  | as_aux_lemma=>kernel_rfl
theorem C0z:Tryz.pinned.checked.prog.funcNamed Rows.linkLearnsRow.func=some 4:=by kernel_rfl
theorem C10:Tryz.f4.isInstance Tryz.pinned.checked.prog Rows.linkLearnsRow.origin Rows.linkLearnsRow.targs:=of_decide_eq_true (by kernel_rfl)
theorem said:Rows.LinkLearnsSaid:=
 OpenClaim.holds_of_cond 4 Tryz.f4 rfl rfl rfl rfl rfl rfl rfl ⟨rfl,rfl,rfl,rfl,rfl⟩ rfl rfl rfl rfl rfl C0z Tryz.func4 closed
  C10 (by unfold Func.isWrapper;first | (rw [yn (by decide +kernel)];kernel_rfl) | (rw [yo (by decide +kernel)];exact⟨rfl,rfl⟩))
  (fun os started H enc _ F=>by rw [OpenClaim.pre_eq_preRow];exact lifted os started H enc F)
theorem B7V:Tryz.f4.params.all (fun t=>!(Tryz.prog.wantsStandIn t))=true:=by kernel_rfl
theorem plain (f:FuncId) (fn:Func) (hf:Tryz.pinned.checked.prog.funcNamed "armarium/armariumlaw13.LinkLearns"=some f) (hfn:Tryz.pinned.checked.prog.funcs[f]?=some fn):
  true=Tryz.pinned.checked.prog.looks []/\∀ (j:Nat) t,fn.params[j]?=some t->Tryz.pinned.checked.prog.wantsStandIn t=false:=by
 obtain rfl:f=4:=Option.some.inj ((show Tryz.prog.funcNamed "armarium/armariumlaw13.LinkLearns"=some 4 by kernel_rfl).symm.trans hf) |>.symm
 obtain rfl:fn=Tryz.f4:=(Option.some.inj (Tryz.func4.symm.trans hfn)).symm;refine⟨by kernel_rfl,fun j t ht=>?_⟩;have h:=B7V;rw [Array.all_eq_true] at h;obtain⟨hj,rfl⟩:=Array.getElem?_eq_some_iff.1 ht;have:=h j hj;rw [Bool.not_eq_true'] at this;exact this
theorem byText:OpenClaim.wfByText (OpenSpec.ofChange Rows.linkLearnsSpec) Rows.linkLearnsRow=true:=by kernel_rfl
theorem mainIs:Tryz.pinned.checked.prog.mainIs=some ((true, "903c1bef413ad3524c8807e68f16538d761045b1eb3b9220f4b98bcec6d94d70").1,(true, "903c1bef413ad3524c8807e68f16538d761045b1eb3b9220f4b98bcec6d94d70").2.toList):=by kernel_rfl
theorem goes:false=Rows.linkLearnsRow.goesBy Tryz.pinned.checked.prog:=by kernel_rfl
end Go.Proofs.YtefdfaeieekioaaGreatDoor.linkLearns
namespace Go.Proofs.YtefdfaeieekioaaGreatDoor
theorem linkLearns_card:Rows.LinkLearnsCardSaid:=
 Claim7.holds_tied_plain_at .later [] _ _ _ _ linkLearns.said (fun _ h=>by cases h) linkLearns.byText (fun _ h=>by cases h) linkLearns_row_tie rfl ⟨rfl,rfl⟩ linkLearns.mainIs rfl linkLearns.plain linkLearns.goes
end Go.Proofs.YtefdfaeieekioaaGreatDoor
