import Derived.Test.YtbmoimihnndboaaGreatDoorM12
set_option linter.unusedVariables false
set_option linter.unusedSimpArgs false
/- Walk: armariumlaw5.BookAny. -/
namespace Go.Proofs.YtbmoimihnndboaaGreatDoor
open Go.Vc Go.RowKit Go.Fl Go.ChangeShapes Go.WideShapes Go.ChangeAt
set_option maxHeartbeats 8000000 in
theorem anyB_any (s : Stt) (hs : s.Ok) (cs : List Value) (d : D) (hd : d.Ok) (w : World) (hw : Env w) (hR : RepS (inW w) w s cs) :
    Calls Tryz.prog 10 #[.agg cs.toArray, .agg (dC d).toArray] w (RetB (.bool true) w) := by
  obtain ⟨x0, rfl⟩ := hR.stX
  obtain ⟨a, ha⟩ : ∃ a, a = cutD d := ⟨_, rfl⟩
  have hda := deed5_any d hd
  have hok := cutD_ok hd
  rw [← ha] at hda hok
  obtain ⟨t, ht⟩ : ∃ t, t = cutS s := ⟨_, rfl⟩
  have hst := state5_any s hs (stX s x0)
  have htk := cutS_ok hs
  rw [← ht] at hst htk
  refine calls_vc lay_ok Tryz.func10 rfl (by kernel_rfl) (by kernel_rfl) ?_
  have hc := CtxF.start w no (fun _ h => h.elim) (R := fun _ _ => True) trivial Stab.true
  intro g2 wg2 hg2
  have hc := (hc.loc hg2).1
  intro g3 wg3 hg3
  have hc := (hc.loc hg3).1
  refine call_b (begun5_any _ (hw.below hc.below)) ?_
  intro wQ hQ
  have hc := (hc.quiet hQ).1
  refine Drawn.join (α := SX) (fun _ => [(2, .pointer (some ⟨g2, 0, none⟩)), (3, .pointer (some ⟨g3, 0, none⟩))])
    (fun x wS => ∃ S, CtxF no w S wS [(g3, 23, dC a), (g2, 78, stX t x)] [] (fun S w => RepS S w t (stX t x))) ?_ ?_
  · refine drawn lay_ok (by kernel_rfl) (.n 0 (.n 1 (.n 2 (.n 3 (.n 4 (.z 5) .stop) .stop) .stop) (.n 2 (.n 1 (.n 3 (.n 4 (.z 5) .stop) .stop) .stop) .stop)) (.n 2 (.n 0 (.n 1 (.n 3 (.n 4 (.z 5) .stop) .stop) .stop) .stop) .stop)) (fun _ => True) (by kernel_rfl) trivial ?_
    have hc := hc.drew
    refine ⟨?_, ?_⟩
    · skip
      refine ⟨_, ?_, hc.cells 1 rfl, trivial, ?_⟩
      · rfl
      refine ⟨?_, ?_⟩
      · skip
        refine ⟨(hst (inW w) _ (hR.below hc.below)).mono fun en wq hq => ?_⟩
        obtain ⟨cy, e1, hq, hrep⟩ := hq
        obtain ⟨y, rfl⟩ := hrep.stX
        have hc := (hc.call hq).1.know (X := fun S w => RepS S w _ (stX _ y)) (hrep.map fun h => h.sub fun b h => h.elim (fun h => h.elim) .inr) (stab_S _ _)
        refine ⟨_, e1, trivial, ?_⟩
        refine ⟨?_, trivial⟩
        refine ⟨_, ?_, hc.cells 0 rfl, trivial, ?_⟩
        · rfl
        refine ⟨?_, trivial⟩
        refine call_b (hda _) ?_
        intro wQ hQ
        have hc := (hc.quiet hQ).1
        refine ⟨trivial, ?_⟩
        refine ⟨?_, trivial⟩
        refine ⟨hc.may 1 rfl _ _ (nle rfl) rfl, ?_⟩
        intro wS hS
        have hc := (hc.set 1 rfl hS).1
        refine ⟨trivial, ?_⟩
        refine ⟨hc.may 0 rfl _ _ (nle rfl) rfl, ?_⟩
        intro wS hS
        have hc := (hc.set 0 rfl hS).1
        exact ⟨y, ⟨rfl, rfl, trivial⟩, _, hc.now (fun h => h.2) (stab_S _ _)⟩
      refine ⟨?_, trivial⟩
      refine ⟨_, ?_, hc.cells 0 rfl, trivial, ?_⟩
      · rfl
      refine ⟨?_, trivial⟩
      refine ⟨(hst (inW w) _ (hR.below hc.below)).mono fun en wq hq => ?_⟩
      obtain ⟨cy, e1, hq, hrep⟩ := hq
      obtain ⟨y, rfl⟩ := hrep.stX
      have hc := (hc.call hq).1.know (X := fun S w => RepS S w _ (stX _ y)) (hrep.map fun h => h.sub fun b h => h.elim (fun h => h.elim) .inr) (stab_S _ _)
      refine ⟨_, e1, trivial, ?_⟩
      refine ⟨?_, trivial⟩
      refine call_b (hda _) ?_
      intro wQ hQ
      have hc := (hc.quiet hQ).1
      refine ⟨trivial, ?_⟩
      refine ⟨?_, trivial⟩
      refine ⟨hc.may 1 rfl _ _ (nle rfl) rfl, ?_⟩
      intro wS hS
      have hc := (hc.set 1 rfl hS).1
      refine ⟨trivial, ?_⟩
      refine ⟨hc.may 0 rfl _ _ (nle rfl) rfl, ?_⟩
      intro wS hS
      have hc := (hc.set 0 rfl hS).1
      exact ⟨y, ⟨rfl, rfl, trivial⟩, _, hc.now (fun h => h.2) (stab_S _ _)⟩
    refine ⟨?_, trivial⟩
    refine ⟨_, ?_, hc.cells 0 rfl, trivial, ?_⟩
    · rfl
    refine ⟨?_, trivial⟩
    refine ⟨_, ?_, hc.cells 1 rfl, trivial, ?_⟩
    · rfl
    refine ⟨?_, trivial⟩
    refine ⟨(hst (inW w) _ (hR.below hc.below)).mono fun en wq hq => ?_⟩
    obtain ⟨cy, e1, hq, hrep⟩ := hq
    obtain ⟨y, rfl⟩ := hrep.stX
    have hc := (hc.call hq).1.know (X := fun S w => RepS S w _ (stX _ y)) (hrep.map fun h => h.sub fun b h => h.elim (fun h => h.elim) .inr) (stab_S _ _)
    refine ⟨_, e1, trivial, ?_⟩
    refine ⟨?_, trivial⟩
    refine call_b (hda _) ?_
    intro wQ hQ
    have hc := (hc.quiet hQ).1
    refine ⟨trivial, ?_⟩
    refine ⟨?_, trivial⟩
    refine ⟨hc.may 1 rfl _ _ (nle rfl) rfl, ?_⟩
    intro wS hS
    have hc := (hc.set 1 rfl hS).1
    refine ⟨trivial, ?_⟩
    refine ⟨hc.may 0 rfl _ _ (nle rfl) rfl, ?_⟩
    intro wS hS
    have hc := (hc.set 0 rfl hS).1
    exact ⟨y, ⟨rfl, rfl, trivial⟩, _, hc.now (fun h => h.2) (stab_S _ _)⟩
  clear hc
  intro x u wS hc
  obtain ⟨S, hc⟩ := hc
  refine ⟨_, ?_, hc.cells 1 rfl, ?_⟩
  · rfl
  refine ⟨_, ?_, hc.cells 0 rfl, ?_⟩
  · rfl
  refine ⟨(bdo_any t a (fun e he => (htk.l e he).key) hok _ _ _ hc.ctx.lt hc.row).mono fun en wq hq => ?_⟩
  obtain ⟨cy1, e1, hq, hrep⟩ := hq
  obtain ⟨y1, rfl⟩ := hrep.stX
  have hc := (hc.call hq).1.know hrep (stab_S _ _)
  refine ⟨_, e1, ?_⟩
  intro g6 wg6 hg6
  have hc := (hc.loc hg6).1
  intro g7 wg7 hg7
  have hc := (hc.loc hg7).1
  refine ⟨hc.may 1 rfl _ _ (nle rfl) rfl, ?_⟩
  intro wS hS
  have hc := (hc.set 1 rfl hS).1
  refine ⟨hc.may 0 rfl _ _ (nle rfl) rfl, ?_⟩
  intro wS hS
  have hc := (hc.set 0 rfl hS).1
  refine ⟨_, ?_, hc.cells 3 rfl, ?_⟩
  · rfl
  refine ⟨_, ?_, hc.cells 2 rfl, ?_⟩
  · rfl
  refine ⟨(rdo_any t a htk hok _ _ _ hc.ctx.lt hc.row.1).mono fun en wq hq => ?_⟩
  obtain ⟨cy2, e1, hq, hrep⟩ := hq
  obtain ⟨y2, rfl⟩ := hrep.stX
  have hc := (hc.call hq).1.know hrep (stab_S _ _)
  refine ⟨_, e1, ?_⟩
  intro g8 wg8 hg8
  have hc := (hc.loc hg8).1
  intro g9 wg9 hg9
  have hc := (hc.loc hg9).1
  refine ⟨hc.may 1 rfl _ _ (nle rfl) rfl, ?_⟩
  intro wS hS
  have hc := (hc.set 1 rfl hS).1
  refine ⟨hc.may 0 rfl _ _ (nle rfl) rfl, ?_⟩
  intro wS hS
  have hc := (hc.set 0 rfl hS).1
  refine ⟨_, ?_, hc.cells 2 rfl, ?_⟩
  · rfl
  refine ⟨_, ?_, hc.cells 0 rfl, ?_⟩
  · rfl
  refine ⟨.bool true, fun w => res_self (doS t a).2 _ _ w, ?_⟩
  refine ⟨_, ?_, hc.cells 3 rfl, ?_⟩
  · rfl
  refine ⟨_, ?_, hc.cells 1 rfl, ?_⟩
  · rfl
  have hE := reqS_any (doS t a).1 (doS t a).1 _ _ _ _ hc.row.1.2 hc.row.2
  rw [eqS_iff.2 rfl] at hE
  refine call_b (hE) ?_
  intro wQ hQ
  have hc := (hc.quiet hQ).1
  exact ⟨rfl, hc.below⟩
set_option maxRecDepth 100000 in
theorem bookAny_ct {H : Type} (enc : TypeId × Value → H) (W : World) (hw : Env W) {base : Nat}
    (v0 : Value) (d0 : DataW H) (p0 : List MemPlace) (h0 : DataW.Trod enc Tryz.prog W 0 (fun _ => true) true 78 v0 d0 p0) (k0 : Value.okWide Tryz.prog W .any base 78 v0)
    (v1 : Value) (d1 : DataW H) (p1 : List MemPlace) (h1 : DataW.Trod enc Tryz.prog W 0 (fun _ => true) true 23 v1 d1 p1) (k1 : Value.okWide Tryz.prog W .any base 23 v1) :
    Calls Tryz.prog 10 #[v0, v1] W (RetB (.bool true) W) := by
  obtain ⟨a0, s0, rfl, r0, o0⟩ := open_state h0 k0
  obtain ⟨a1, rfl, o1⟩ := open_deed h1 k1
  exact anyB_any a0 o0 s0 a1 o1 W hw r0
end Go.Proofs.YtbmoimihnndboaaGreatDoor
