import Derived.Test.YtfekddndgakneaaGreatDoorM12
import Derived.Test.YtfekddndgakneaaGreatDoorSFAll
set_option maxRecDepth 100000
set_option maxHeartbeats 40000000
set_option linter.unusedVariables false
set_option linter.unusedSimpArgs false
/- The card of armariumlaw11.FlockAll. By program (gen_card.py). -/
namespace Go.Proofs.YtfekddndgakneaaGreatDoor.flockAll
open Go.Vc Go.RowKit Go.Fl Go.ChangeShapes Go.WideShapes Go.ChangeAt
theorem contract (H:Type) (enc:TypeId × Value->H) (W:World) (base:Nat) (args:Array Value) (ds gs:List (DataW H)) (before:List MemPlace)
  (J0:∀ (j:Nat) t v,Tryz.f6.params[j]?=some t->args[j]?=some v->Value.okWide Tryz.prog W .any base t v)
  (hW:DataW.Whole enc Tryz.prog Tryz.f6.params.toList Rows.flockAllSpec.vars false W args.toList ds gs before) (hL:laidMetH Tryz.prog Rows.flockAllRow.laid W):
  Calls Tryz.prog 6 args W fun e W'=>∃ v,e=.returned v/\Rows.flockAllSpec.post enc Tryz.prog Tryz.f6 false true false false W args v W':=by
 have hw:Env W:=Y3 hL
 have hW':=hW
 obtain⟨p,q,hA0,hV,hbf,hfz,hnd⟩:=hW
 have hA:DataW.TrodAll enc Tryz.prog W 0 (fun _=>true) true Tryz.f6.params.toList args.toList ds p:=hA0
 rw [Tryz.params6] at hA J0
 obtain⟨v0,vs0,d0,ds0,p0,q0,hargs0,hds0,-,h0,r0⟩:=trodAll_cons hA
 obtain⟨hz,hz2,-⟩:=trodAll_nil r0
 obtain rfl:args=#[v0]:=by cases args;simp_all
 obtain rfl:ds=[d0]:=by rw [hds0,hz2]
 refine (A8F enc W hw v0 d0 p0 h0 (J0 0 _ _ rfl rfl)).mono fun e W1 ⟨he,hb⟩=>?_
 exact⟨_,he,S7 rfl rfl (by kernel_rfl) (fun h=>by subst h;rfl) hW' hb⟩
theorem reads (os:Os) {H:Type} (enc:TypeId × Value->H):∃ places,DataW.whole enc Tryz.prog ((World.laidAll Tryz.prog os A0V).forCall (fun _ _=>0) ⟨#[],#[.slice none 0 0],[]⟩).memory Tryz.f6.params.toList Rows.flockAllSpec.vars false (#[.slice none 0 0]:Array Value).toList 8=some ([.nil],[],places):=
 ⟨[],by kernel_rfl⟩
theorem lifted (os:Os) (started:os.Started) (H:Type) (enc:TypeId × Value->H) (F:Stop.Interp):
  ReturnsInHanded {} Tryz.checked os 6 .any ((OpenSpec.ofChange Rows.flockAllSpec).preRow enc Tryz.prog Tryz.f6 Rows.flockAllRow.domain false Rows.flockAllRow.laid) (((OpenSpec.ofChange Rows.flockAllSpec).at F).post enc Tryz.prog Tryz.f6 false true false false):=by
 obtain⟨places,hx⟩:=reads os enc
 refine returnsInHanded_of_row (C:=Tryz.checked) (s:=OpenSpec.ofChange Rows.flockAllSpec) B6L started (by kernel_rfl) Tryz.func6
  (witness_row_atRef (enc:=enc) (C:=Tryz.checked) false (World.laidAll Tryz.prog os A0V) #[.slice none 0 0] rfl (by kernel_rfl) (by kernel_rfl) (by kernel_rfl)
   (OpenSpec.preRow_of_cond 8 hx (by kernel_rfl) (fun k hk=>by cases hk) (by kernel_rfl) (Y4 os _))) ?_
 intro W base args ds gs before J0 hW _ _ _ hL _ _
 exact contract H enc W base args ds gs before J0 hW hL
theorem closed:joinedFacts Tryz.prog 6 Tryz.f6 (OpenSpec.ofChange Rows.flockAllSpec).bare Rows.flockAllRow=true:=by
 unfold joinedFacts
 repeat' with_reducible refine B6M ?_ ?_
 all_goals first
  | with_reducible exact B5K
  | with_reducible exact T0
  | with_reducible exact T1
  | with_reducible exact T2
  | (with_reducible refine T3 _ ?_;rfl)
  | (with_reducible refine M3 _ ?_;rfl)
  | (with_reducible refine T4 _ ?_;rfl)
  | as_aux_lemma=>kernel_rfl
theorem named:Tryz.pinned.checked.prog.funcNamed Rows.flockAllRow.func=some 6:=by kernel_rfl
theorem inst:Tryz.f6.isInstance Tryz.pinned.checked.prog Rows.flockAllRow.origin Rows.flockAllRow.targs:=of_decide_eq_true (by kernel_rfl)
theorem said:Rows.FlockAllSaid:=
 OpenClaim.holds_of_cond 6 Tryz.f6 rfl rfl rfl rfl rfl rfl rfl ⟨rfl,rfl,rfl,rfl,rfl⟩ rfl rfl rfl rfl rfl named Tryz.func6 closed
  inst (by unfold Func.isWrapper;first | (rw [if_pos (by decide +kernel)];kernel_rfl) | (rw [if_neg (by decide +kernel)];exact⟨rfl,rfl⟩))
  (fun os started H enc _ F=>by rw [OpenClaim.pre_eq_preRow];exact lifted os started H enc F)
theorem noStand:Tryz.f6.params.all (fun t=>!(Tryz.prog.wantsStandIn t))=true:=by kernel_rfl
theorem plain (f:FuncId) (fn:Func) (hf:Tryz.pinned.checked.prog.funcNamed "armarium/armariumlaw11.FlockAll"=some f) (hfn:Tryz.pinned.checked.prog.funcs[f]?=some fn):
  true=Tryz.pinned.checked.prog.looks []/\∀ (j:Nat) t,fn.params[j]?=some t->Tryz.pinned.checked.prog.wantsStandIn t=false:=by
 obtain rfl:f=6:=Option.some.inj ((show Tryz.prog.funcNamed "armarium/armariumlaw11.FlockAll"=some 6 by kernel_rfl).symm.trans hf) |>.symm
 obtain rfl:fn=Tryz.f6:=(Option.some.inj (Tryz.func6.symm.trans hfn)).symm
 refine⟨by kernel_rfl,fun j t ht=>?_⟩
 have h:=noStand
 rw [Array.all_eq_true] at h
 obtain⟨hj,rfl⟩:=Array.getElem?_eq_some_iff.1 ht
 have:=h j hj
 rw [Bool.not_eq_true'] at this
 exact this
theorem byText:OpenClaim.wfByText (OpenSpec.ofChange Rows.flockAllSpec) Rows.flockAllRow=true:=by kernel_rfl
theorem mainIs:Tryz.pinned.checked.prog.mainIs=some ((true, "a0344ac5038f4f6ccc904b20bf2aa210bba6d08134c48900a1ee97ed9c9061dd").1,(true, "a0344ac5038f4f6ccc904b20bf2aa210bba6d08134c48900a1ee97ed9c9061dd").2.toList):=by kernel_rfl
theorem goes:false=Rows.flockAllRow.goesBy Tryz.pinned.checked.prog:=by kernel_rfl
end Go.Proofs.YtfekddndgakneaaGreatDoor.flockAll
namespace Go.Proofs.YtfekddndgakneaaGreatDoor
theorem flockAll_card:Rows.FlockAllCardSaid:=
 Claim7.holds_tied_plain_at .later [] _ _ _ _ flockAll.said (fun _ h=>by cases h) flockAll.byText (fun _ h=>by cases h) flockAll_row_tie rfl ⟨rfl,rfl⟩ flockAll.mainIs rfl flockAll.plain flockAll.goes
end Go.Proofs.YtfekddndgakneaaGreatDoor
