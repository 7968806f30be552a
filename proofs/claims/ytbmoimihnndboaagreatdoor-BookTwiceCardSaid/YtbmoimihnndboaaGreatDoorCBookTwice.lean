import Derived.Test.YtbmoimihnndboaaGreatDoorM12
import Derived.Test.YtbmoimihnndboaaGreatDoorSBTwice
set_option linter.unusedVariables false
set_option linter.unusedSimpArgs false
/- The card of armariumlaw5.BookTwice. By program (gen_card.py). -/
namespace Go.Proofs.YtbmoimihnndboaaGreatDoor.bookTwice
open Go.Vc Go.RowKit Go.Fl Go.ChangeShapes Go.WideShapes Go.ChangeAt
set_option maxHeartbeats 40000000
set_option maxRecDepth 100000 in
theorem contract (H : Type) (enc : TypeId × Value → H) (W : World) (base : Nat) (args : Array Value) (ds gs : List (DataW H)) (before : List MemPlace)
    (hval : ∀ (j : Nat) t v, Tryz.f11.params[j]? = some t → args[j]? = some v → Value.okWide Tryz.prog W .any base t v)
    (hW : DataW.Whole enc Tryz.prog Tryz.f11.params.toList Rows.bookTwiceSpec.vars false W args.toList ds gs before) (hL : laidMetH Tryz.prog Rows.bookTwiceRow.laid W)
    (hsz : (DataW.weightsEach Tryz.prog (Tryz.f11.params.toList ++ (OpenSpec.ofChange Rows.bookTwiceSpec).bare.plain.varTypes Tryz.prog) (ds ++ gs)).all (· ≤ reachBytes) = true) :
    Calls Tryz.prog 11 args W fun e W' => ∃ v, e = .returned v ∧ Rows.bookTwiceSpec.post enc Tryz.prog Tryz.f11 false true false false W args v W' := by
  have hw : Env W := env_laid hL
  have hW' := hW
  obtain ⟨p, q, hA0, hV, hbf, hfz, hnd⟩ := hW
  have hA : DataW.TrodAll enc Tryz.prog W 0 (fun _ => true) true Tryz.f11.params.toList args.toList ds p := hA0
  rw [Tryz.params11] at hA hval hsz
  obtain ⟨v0, vs0, d0, ds0, p0, q0, hargs0, hds0, -, h0, r0⟩ := trodAll_cons hA
  obtain ⟨v1, vs1, d1, ds1, p1, q1, hargs1, hds1, -, h1, r1⟩ := trodAll_cons r0
  obtain ⟨v2, vs2, d2, ds2, p2, q2, hargs2, hds2, -, h2, r2⟩ := trodAll_cons r1
  obtain ⟨hz, hz2, -⟩ := trodAll_nil r2
  obtain rfl : args = #[v0, v1, v2] := by cases args; simp_all
  obtain rfl : ds = [d0, d1, d2] := by rw [hds0, hds1, hds2, hz2]
  refine (bookTwice_ct enc W hw v0 d0 p0 h0 (hval 0 _ _ rfl rfl) v1 d1 p1 h1 (hval 1 _ _ rfl rfl) v2 d2 p2 h2 (hval 2 _ _ rfl rfl) _ _ hsz).mono fun e W1 ⟨he, hb⟩ => ?_
  exact ⟨_, he, post_true rfl rfl (by kernel_rfl) (fun h => by subst h; rfl) hW' hb⟩
theorem reads (os : Os) {H : Type} (enc : TypeId × Value → H) : ∃ places, DataW.whole enc Tryz.prog ((World.laidAll Tryz.prog os laid5).forCall (fun _ _ => 0) ⟨#[], #[.slice none 0 0, .int .i64 0, .int .i64 0], []⟩).memory Tryz.f11.params.toList Rows.bookTwiceSpec.vars false (#[.slice none 0 0, .int .i64 0, .int .i64 0] : Array Value).toList 8 = some ([.nil, .lit (.int .i64 0), .lit (.int .i64 0)], [], places) :=
  ⟨[], by kernel_rfl⟩
set_option maxRecDepth 100000 in
theorem lifted (os : Os) (started : os.Started) (H : Type) (enc : TypeId × Value → H) (F : Stop.Interp) :
    ReturnsInHanded {} Tryz.checked os 11 .any ((OpenSpec.ofChange Rows.bookTwiceSpec).preRow enc Tryz.prog Tryz.f11 Rows.bookTwiceRow.domain false Rows.bookTwiceRow.laid) (((OpenSpec.ofChange Rows.bookTwiceSpec).at F).post enc Tryz.prog Tryz.f11 false true false false) := by
  obtain ⟨places, hx⟩ := reads os enc
  refine returnsInHanded_of_row (C := Tryz.checked) (s := OpenSpec.ofChange Rows.bookTwiceSpec) ownK started (by kernel_rfl) Tryz.func11
    (witness_row_atRef (enc := enc) (C := Tryz.checked) false (World.laidAll Tryz.prog os laid5) #[.slice none 0 0, .int .i64 0, .int .i64 0] rfl (by kernel_rfl) (by kernel_rfl) (by kernel_rfl)
      (OpenSpec.preRow_of_cond 8 hx (by kernel_rfl) (fun k hk => by cases hk) (by kernel_rfl) (laid_met os _))) ?_
  intro W base args ds gs before hval hW _ _ hsz hL _ _
  exact contract H enc W base args ds gs before hval hW hL hsz
set_option maxRecDepth 100000 in
theorem closed : joinedFacts Tryz.prog 11 Tryz.f11 (OpenSpec.ofChange Rows.bookTwiceSpec).bare Rows.bookTwiceRow = true := by
  unfold joinedFacts
  repeat' with_reducible refine and2 ?_ ?_
  all_goals first
    | with_reducible exact lay5
    | with_reducible exact factRowed
    | with_reducible exact factHeard
    | with_reducible exact factEnter
    | (with_reducible refine factKeys' _ ?_; rfl)
    | (with_reducible refine factLifted' _ ?_; rfl)
    | (with_reducible refine factMake' _ ?_; rfl)
    | as_aux_lemma => kernel_rfl
theorem named : Tryz.pinned.checked.prog.funcNamed Rows.bookTwiceRow.func = some 11 := by kernel_rfl
theorem inst : Tryz.f11.isInstance Tryz.pinned.checked.prog Rows.bookTwiceRow.origin Rows.bookTwiceRow.targs := of_decide_eq_true (by kernel_rfl)
set_option maxRecDepth 100000 in
theorem said : Rows.BookTwiceSaid :=
  OpenClaim.holds_of_cond 11 Tryz.f11 rfl rfl rfl rfl rfl rfl rfl ⟨rfl, rfl, rfl, rfl, rfl⟩ rfl rfl rfl rfl rfl named Tryz.func11 closed
    inst (by unfold Func.isWrapper; first | (rw [if_pos (by decide +kernel)]; kernel_rfl) | (rw [if_neg (by decide +kernel)]; exact ⟨rfl, rfl⟩))
    (fun os started H enc _ F => by rw [OpenClaim.pre_eq_preRow]; exact lifted os started H enc F)
theorem noStand : Tryz.f11.params.all (fun t => !(Tryz.prog.wantsStandIn t)) = true := by kernel_rfl
theorem plain (f : FuncId) (fn : Func) (hf : Tryz.pinned.checked.prog.funcNamed "armarium/armariumlaw5.BookTwice" = some f) (hfn : Tryz.pinned.checked.prog.funcs[f]? = some fn) :
    true = Tryz.pinned.checked.prog.looks [] ∧ ∀ (j : Nat) t, fn.params[j]? = some t → Tryz.pinned.checked.prog.wantsStandIn t = false := by
  obtain rfl : f = 11 := Option.some.inj ((show Tryz.prog.funcNamed "armarium/armariumlaw5.BookTwice" = some 11 by kernel_rfl).symm.trans hf) |>.symm
  obtain rfl : fn = Tryz.f11 := (Option.some.inj (Tryz.func11.symm.trans hfn)).symm
  refine ⟨by kernel_rfl, fun j t ht => ?_⟩
  have h := noStand
  rw [Array.all_eq_true] at h
  obtain ⟨hj, rfl⟩ := Array.getElem?_eq_some_iff.1 ht
  have := h j hj
  rw [Bool.not_eq_true'] at this
  exact this
theorem byText : OpenClaim.wfByText (OpenSpec.ofChange Rows.bookTwiceSpec) Rows.bookTwiceRow = true := by kernel_rfl
theorem mainIs : Tryz.pinned.checked.prog.mainIs = some ((true, "627852208b516639445f7e4977d9c5c4f9ef28552c62c954775479b14c35836f").1, (true, "627852208b516639445f7e4977d9c5c4f9ef28552c62c954775479b14c35836f").2.toList) := by kernel_rfl
theorem goes : false = Rows.bookTwiceRow.goesBy Tryz.pinned.checked.prog := by kernel_rfl
end Go.Proofs.YtbmoimihnndboaaGreatDoor.bookTwice
namespace Go.Proofs.YtbmoimihnndboaaGreatDoor
set_option maxHeartbeats 40000000
theorem bookTwice_card : Rows.BookTwiceCardSaid :=
  Claim7.holds_tied_plain_at .later [] _ _ _ _ bookTwice.said (fun _ h => by cases h) bookTwice.byText (fun _ h => by cases h) bookTwice_row_tie rfl ⟨rfl, rfl⟩ bookTwice.mainIs rfl bookTwice.plain bookTwice.goes
end Go.Proofs.YtbmoimihnndboaaGreatDoor
