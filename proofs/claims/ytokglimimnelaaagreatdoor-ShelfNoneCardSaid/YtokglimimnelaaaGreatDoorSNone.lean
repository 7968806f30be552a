import Derived.Test.YtokglimimnelaaaGreatDoorM12
set_option linter.unusedVariables false
set_option linter.unusedSimpArgs false
/- Walk: armariumlaw8.ShelfNone. -/
namespace Go.Proofs.YtokglimimnelaaaGreatDoor
open Go.Vc Go.RowKit Go.Fl Go.ChangeShapes Go.WideShapes Go.ChangeAt
set_option maxRecDepth 100000
theorem shNil0 (ox oy : Operand) (w : World) : (do eqGuard BinOp.eql 26 ox oy (.pointer none) (.pointer none); Go.binOp BinOp.eql 26 (.pointer none) (.pointer none) : Sem Value).run Tryz.prog w = .ok (.bool true) w := by kernel_rfl
theorem down0_any (w : World) : Calls Tryz.prog 25 #[.pointer none] w (RetB (.bool true) w) := by
  refine calls_vc lay_ok Tryz.func25 rfl (by kernel_rfl) (by kernel_rfl) ?_
  refine ⟨.bool true, fun w => shNil0 _ _ w, ?_⟩
  exact ⟨rfl, Below.refl _ _⟩
theorem none8_any (w : World) (hw : Env w) : Calls Tryz.prog 12 #[] w (RetB (.bool true) w) := by
  refine calls_vc lay_ok Tryz.func12 rfl (by kernel_rfl) (by kernel_rfl) ?_
  have hc := CtxF.start w no (fun _ h => h.elim) (R := fun _ _ => True) trivial Stab.true
  have hcm : ∀ w, Calls Tryz.prog 19 #[.pointer none, .int .i64 1] w (RetB (.tuple #[.slice none 0 0, .int .i64 7]) w) := fun w => by
    refine calls_vc lay_ok Tryz.func19 rfl (by kernel_rfl) (by kernel_rfl) ?_
    have hc := CtxF.start w no (fun _ h => h.elim) (R := fun _ _ => True) trivial Stab.true
    refine call_b (down0_any _) ?_
    intro wQ hQ
    have hc := (hc.quiet hQ).1
    exact ⟨rfl, hc.below⟩
  have hbk : ∀ w, Calls Tryz.prog 22 #[.pointer none] w (RetB (.agg (stX Stt0 SX0).toArray) w) := fun w => by
    refine calls_vc lay_ok Tryz.func22 rfl (by kernel_rfl) (by kernel_rfl) ?_
    have hc := CtxF.start w no (fun _ h => h.elim) (R := fun _ _ => True) trivial Stab.true
    intro g2 wg2 hg2
    have hc := (hc.loc hg2).1
    refine ⟨.bool true, fun w => shNil0 _ _ w, ?_⟩
    refine ⟨hc.may 0 rfl _ _ (nle rfl) rfl, ?_⟩
    intro wS hS
    have hc := (hc.set 0 rfl hS).1
    refine ⟨_, ?_, hc.cells 0 rfl, ?_⟩
    · rfl
    exact ⟨rfl, hc.below⟩
  have hpd : ∀ w, Calls Tryz.prog 18 #[.pointer none] w (RetB (.slice none 0 0) w) := fun w => by
    refine calls_vc lay_ok Tryz.func18 rfl (by kernel_rfl) (by kernel_rfl) ?_
    refine ⟨.bool true, fun w => shNil0 _ _ w, ?_⟩
    exact ⟨rfl, Below.refl _ _⟩
  have hsq : ∀ w, Calls Tryz.prog 20 #[.pointer none] w (RetB (.int .i64 0) w) := fun w => by
    refine calls_vc lay_ok Tryz.func20 rfl (by kernel_rfl) (by kernel_rfl) ?_
    refine ⟨.bool true, fun w => shNil0 _ _ w, ?_⟩
    exact ⟨rfl, Below.refl _ _⟩
  have hep : ∀ w, Calls Tryz.prog 29 #[.pointer none] w (RetB (.int .i64 0) w) := fun w => by
    refine calls_vc lay_ok Tryz.func29 rfl (by kernel_rfl) (by kernel_rfl) ?_
    refine ⟨.bool true, fun w => shNil0 _ _ w, ?_⟩
    exact ⟨rfl, Below.refl _ _⟩
  have hln : ∀ w, Calls Tryz.prog 34 #[.pointer none] w (RetB (.int .i64 0) w) := fun w => by
    refine calls_vc lay_ok Tryz.func34 rfl (by kernel_rfl) (by kernel_rfl) ?_
    refine ⟨.bool true, fun w => shNil0 _ _ w, ?_⟩
    exact ⟨rfl, Below.refl _ _⟩
  have had : ∀ w, Calls Tryz.prog 16 #[.pointer none, .agg (dC D0).toArray] w (RetB (.int .i64 7) w) := fun w => by
    refine calls_vc lay_ok Tryz.func16 rfl (by kernel_rfl) (by kernel_rfl) ?_
    have hc := CtxF.start w no (fun _ h => h.elim) (R := fun _ _ => True) trivial Stab.true
    intro g3 wg3 hg3
    have hc := (hc.loc hg3).1
    refine call_b (down0_any _) ?_
    intro wQ hQ
    have hc := (hc.quiet hQ).1
    exact ⟨rfl, hc.below⟩
  have hen : ∀ w, Calls Tryz.prog 26 #[.pointer none, .int .i64 1] w (RetB (.int .i64 7) w) := fun w => by
    refine calls_vc lay_ok Tryz.func26 rfl (by kernel_rfl) (by kernel_rfl) ?_
    have hc := CtxF.start w no (fun _ h => h.elim) (R := fun _ _ => True) trivial Stab.true
    refine call_b (down0_any _) ?_
    intro wQ hQ
    have hc := (hc.quiet hQ).1
    exact ⟨rfl, hc.below⟩
  have hlr : ∀ w, Calls Tryz.prog 33 #[.pointer none, .agg (stX Stt0 SX0).toArray, .slice none 0 0] w (RetB (.int .i64 7) w) := fun w => by
    refine calls_vc lay_ok Tryz.func33 rfl (by kernel_rfl) (by kernel_rfl) ?_
    have hc := CtxF.start w no (fun _ h => h.elim) (R := fun _ _ => True) trivial Stab.true
    intro g4 wg4 hg4
    have hc := (hc.loc hg4).1
    refine call_b (containsFuncD_any [] (fun d hd => by cases hd) none 0 0 rfl no _ (row0 _ _)) ?_
    intro wQ hQ
    have hc := (hc.quiet hQ).1
    refine call_b (down0_any _) ?_
    intro wQ hQ
    have hc := (hc.quiet hQ).1
    exact ⟨rfl, hc.below⟩
  have hpk : ∀ w, Calls Tryz.prog 30 #[.pointer none] w (RetB (.int .i64 7) w) := fun w => by
    refine calls_vc lay_ok Tryz.func30 rfl (by kernel_rfl) (by kernel_rfl) ?_
    have hc := CtxF.start w no (fun _ h => h.elim) (R := fun _ _ => True) trivial Stab.true
    refine call_b (down0_any _) ?_
    intro wQ hQ
    have hc := (hc.quiet hQ).1
    exact ⟨rfl, hc.below⟩
  refine call_b (hcm _) ?_
  intro wQ hQ
  have hc := (hc.quiet hQ).1
  refine call_b (begun8_any _ (hw.below hc.below)) ?_
  intro wQ hQ
  have hc := (hc.quiet hQ).1
  refine call_b (hbk _) ?_
  intro wQ hQ
  have hc := (hc.quiet hQ).1
  refine call_b (hpd _) ?_
  intro wQ hQ
  have hc := (hc.quiet hQ).1
  refine call_b (hsq _) ?_
  intro wQ hQ
  have hc := (hc.quiet hQ).1
  refine call_b (hep _) ?_
  intro wQ hQ
  have hc := (hc.quiet hQ).1
  refine call_b (hln _) ?_
  intro wQ hQ
  have hc := (hc.quiet hQ).1
  refine call_b (had _) ?_
  intro wQ hQ
  have hc := (hc.quiet hQ).1
  refine call_b (hen _) ?_
  intro wQ hQ
  have hc := (hc.quiet hQ).1
  refine call_b (hlr _) ?_
  intro wQ hQ
  have hc := (hc.quiet hQ).1
  refine call_b (hpk _) ?_
  intro wQ hQ
  have hc := (hc.quiet hQ).1
  refine call_b (down0_any _) ?_
  intro wQ hQ
  have hc := (hc.quiet hQ).1
  exact ⟨rfl, hc.below⟩
set_option maxRecDepth 100000 in
theorem shelfNone_ct {H : Type} (enc : TypeId × Value → H) (W : World) (hw : Env W) : Calls Tryz.prog 12 #[] W (RetB (.bool true) W) := none8_any W hw
end Go.Proofs.YtokglimimnelaaaGreatDoor
