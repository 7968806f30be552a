import Derived.Test.YtbmoimihnndboaaGreatDoorM12
set_option linter.unusedVariables false
set_option linter.unusedSimpArgs false
/- Walk: armariumlaw5.BookAll. -/
namespace Go.Proofs.YtbmoimihnndboaaGreatDoor
open Go.Vc Go.RowKit Go.Fl Go.ChangeShapes Go.WideShapes Go.ChangeAt
set_option maxHeartbeats 8000000 in
theorem allB_any (l : List D) (hl : ∀ a ∈ l, a.Ok) (A : Option Addr) (cap : Nat) (w : World) (hw : Env w) (hR : Row (inW w) w A l.length cap (l.map dC).flatten) :
    Calls Tryz.prog 9 #[.slice A l.length cap] w (RetB (.bool true) w) := by
  have hM := row_max hR
  refine calls_vc lay_ok Tryz.func9 rfl (by kernel_rfl) (by kernel_rfl) ?_
  have hc := CtxF.start w no (fun _ h => h.elim) (R := fun _ _ => True) trivial Stab.true
  refine call_b (begun5_any _ hw) ?_
  intro wQ hQ
  have hc := (hc.quiet hQ).1
  intro g4 wg4 hg4
  have hc := (hc.loc hg4).1
  intro g5 wg5 hg5
  have hc := (hc.loc hg5).1
  refine ⟨Nat × Stt × SX × SX, fun x => [(0, .slice A l.length cap), (4, .pointer (some ⟨g4, 0, none⟩)), (5, .pointer (some ⟨g5, 0, none⟩)), (6, .int .i64 x.1)],
    fun x w' => x.1 ≤ l.length ∧ mayS x.2.1 = true ∧ x.2.1.lows.length = 5 ∧ ∃ S, CtxF no w S w' [(g5, 78, stX x.2.1 x.2.2.2), (g4, 78, stX x.2.1 x.2.2.1)] [] (fun S w => RepS S w x.2.1 (stX x.2.1 x.2.2.1) ∧ RepS S w x.2.1 (stX x.2.1 x.2.2.2)),
    fun x _ => l.length - x.1, (0, Stt0, SX0, SX0), ⟨rfl, rfl, rfl, rfl, trivial⟩, ⟨Nat.zero_le _, mayStt0, rfl, no, hc.now (fun _ => ⟨rep0X _ _, rep0X _ _⟩) (stab_2 _ _ _ _)⟩, ?_⟩
  clear hc
  rintro ⟨i, s, y, z⟩ w4 u ⟨hi, hm, h5, S, hc⟩
  simp only at hi hm h5 hc
  by_cases hlt : i < l.length
  rotate_left
  · refine split_f (decide_eq_false (by first | omega | (simp only; omega))) ?_
    exact ⟨rfl, hc.below⟩
  refine split_t (decide_eq_true (by first | omega | (simp only; omega))) ?_
  by_cases h40 : i < 40
  rotate_left
  · refine split_f (decide_eq_false (show ¬ (i : Int) < 40 by omega)) ?_
    exact ⟨rfl, hc.below⟩
  refine split_t (decide_eq_true (show (i : Int) < 40 by omega)) ?_
  have hk := mayS_ok h5 hm
  obtain ⟨ad, rfl, hcell⟩ := RowD.elem hR i hlt
  have hxok := hl _ (List.getElem_mem hlt)
  generalize l[i] = x at *
  refine ⟨⟨by first | omega | (simp only; omega), by first | omega | (simp only; omega)⟩, ?_⟩
  refine ⟨dC x, rfl, cellsAt_later hc.below _ _ hcell, ?_⟩
  obtain ⟨a, ha⟩ : ∃ a, a = cutD x := ⟨_, rfl⟩
  have hda := deed5_any x hxok
  have hok := cutD_ok hxok
  rw [← ha] at hda hok
  refine call_b (hda _) ?_
  intro wQ hQ
  have hc := (hc.quiet hQ).1
  intro g7 wg7 hg7
  have hc := (hc.loc hg7).1
  refine ⟨hc.may 0 rfl _ _ (nle rfl) rfl, ?_⟩
  intro wS hS
  have hc := (hc.set 0 rfl hS).1
  refine ⟨_, ?_, hc.cells 1 rfl, ?_⟩
  · rfl
  intro g8 wg8 hg8
  have hc := (hc.loc hg8).1
  refine ⟨hc.may 0 rfl _ _ (nle rfl) rfl, ?_⟩
  intro wS hS
  have hc := (hc.set 0 rfl hS).1
  refine ⟨_, ?_, hc.cells 3 rfl, ?_⟩
  · rfl
  refine ⟨_, ?_, hc.cells 1 rfl, ?_⟩
  · rfl
  refine ⟨(bdo_any s a (fun e he => (hk.l e he).key) hok _ _ _ hc.ctx.lt hc.row.1).mono fun en wq hq => ?_⟩
  obtain ⟨cy1, e1, hq, hrep⟩ := hq
  obtain ⟨y1, rfl⟩ := hrep.stX
  have hc := (hc.call hq).1.know hrep (stab_S _ _)
  refine ⟨_, e1, ?_⟩
  intro g9 wg9 hg9
  have hc := (hc.loc hg9).1
  intro g10 wg10 hg10
  have hc := (hc.loc hg10).1
  refine ⟨hc.may 1 rfl _ _ (nle rfl) rfl, ?_⟩
  intro wS hS
  have hc := (hc.set 1 rfl hS).1
  refine ⟨hc.may 0 rfl _ _ (nle rfl) rfl, ?_⟩
  intro wS hS
  have hc := (hc.set 0 rfl hS).1
  refine ⟨_, ?_, hc.cells 4 rfl, ?_⟩
  · rfl
  refine ⟨_, ?_, hc.cells 3 rfl, ?_⟩
  · rfl
  refine ⟨(rdo_any s a hk hok _ _ _ hc.ctx.lt hc.row.1.2).mono fun en wq hq => ?_⟩
  obtain ⟨cy2, e1, hq, hrep⟩ := hq
  obtain ⟨y2, rfl⟩ := hrep.stX
  have hc := (hc.call hq).1.know hrep (stab_S _ _)
  refine ⟨_, e1, ?_⟩
  intro g11 wg11 hg11
  have hc := (hc.loc hg11).1
  intro g12 wg12 hg12
  have hc := (hc.loc hg12).1
  refine ⟨hc.may 1 rfl _ _ (nle rfl) rfl, ?_⟩
  intro wS hS
  have hc := (hc.set 1 rfl hS).1
  refine ⟨hc.may 0 rfl _ _ (nle rfl) rfl, ?_⟩
  intro wS hS
  have hc := (hc.set 0 rfl hS).1
  have hm' := mayS_doS (d := a) h5 hm
  have h5' := doS_lows5 a h5
  have hk' := mayS_ok h5' hm'
  generalize doS s a = q at *
  obtain ⟨t, r⟩ := q
  simp only at *
  refine ⟨_, ?_, hc.cells 2 rfl, ?_⟩
  · rfl
  refine ⟨_, ?_, hc.cells 0 rfl, ?_⟩
  · rfl
  refine ⟨.bool false, fun w => res_selfN r _ _ w, ?_⟩
  refine ⟨_, ?_, hc.cells 3 rfl, ?_⟩
  · rfl
  refine ⟨_, ?_, hc.cells 1 rfl, ?_⟩
  · rfl
  have hE := reqS_any t t _ _ _ _ hc.row.1.2 hc.row.2
  rw [eqS_iff.2 rfl] at hE
  refine call_b (hE) ?_
  intro wQ hQ
  have hc := (hc.quiet hQ).1
  refine ⟨_, ?_, hc.cells 7 rfl, ?_⟩
  · rfl
  refine ⟨_, ?_, hc.cells 4 rfl, ?_⟩
  · rfl
  have hE := reqS_any s s _ _ _ _ hc.row.1.1.1 hc.row.1.1.2
  rw [eqS_iff.2 rfl] at hE
  refine call_b (hE) ?_
  intro wQ hQ
  have hc := (hc.quiet hQ).1
  refine ⟨_, ?_, hc.cells 3 rfl, ?_⟩
  · rfl
  have hE := bmay_any t (fun e he => (hk'.l e he).key) _ _ _ hc.row.1.2
  rw [hm'] at hE
  refine call_b (hE) ?_
  intro wQ hQ
  have hc := (hc.quiet hQ).1
  refine Drawn.join (α := Unit) (fun _ => [(0, .slice (some ad) l.length cap), (4, .pointer (some ⟨g4, 0, none⟩)), (5, .pointer (some ⟨g5, 0, none⟩)), (6, .int .i64 i)])
    (fun _ wS => ∃ S, CtxF no w S wS [(g5, 78, stX t y2), (g4, 78, stX t y1)] [] (fun S w => RepS S w t (stX t y1) ∧ RepS S w t (stX t y2))) ?_ ?_
  · refine drawn lay_ok (by kernel_rfl) (.n 0 (.n 1 (.n 2 (.z 3) .stop) (.n 2 (.n 1 (.z 3) .stop) .stop)) (.n 1 (.n 0 (.n 2 (.z 3) .stop) .stop) .stop)) (fun _ => True) (by kernel_rfl) trivial ?_
    have hc := hc.drew
    refine ⟨?_, ?_⟩
    · skip
      refine ⟨_, ?_, hc.cells 3 rfl, trivial, ?_⟩
      · rfl
      refine ⟨?_, ?_⟩
      · skip
        refine ⟨_, ?_, hc.cells 1 rfl, trivial, ?_⟩
        · rfl
        refine ⟨?_, trivial⟩
        refine ⟨hc.may 7 rfl _ _ (nle rfl) rfl, ?_⟩
        intro wS hS
        have hc := (hc.set 7 rfl hS).1
        refine ⟨trivial, ?_⟩
        refine ⟨hc.may 6 rfl _ _ (nle rfl) rfl, ?_⟩
        intro wS hS
        have hc := (hc.set 6 rfl hS).1
        exact ⟨(), ⟨rfl, rfl, rfl, rfl, trivial⟩, _, hc.drop.drop.drop.drop.drop.drop.now (fun h => ⟨h.1.2, h.2⟩) (stab_2 _ _ _ _)⟩
      refine ⟨?_, trivial⟩
      refine ⟨hc.may 7 rfl _ _ (nle rfl) rfl, ?_⟩
      intro wS hS
      have hc := (hc.set 7 rfl hS).1
      refine ⟨trivial, ?_⟩
      refine ⟨?_, trivial⟩
      refine ⟨_, ?_, hc.cells 1 rfl, trivial, ?_⟩
      · rfl
      refine ⟨hc.may 6 rfl _ _ (nle rfl) rfl, ?_⟩
      intro wS hS
      have hc := (hc.set 6 rfl hS).1
      exact ⟨(), ⟨rfl, rfl, rfl, rfl, trivial⟩, _, hc.drop.drop.drop.drop.drop.drop.now (fun h => ⟨h.1.2, h.2⟩) (stab_2 _ _ _ _)⟩
    refine ⟨?_, trivial⟩
    refine ⟨_, ?_, hc.cells 1 rfl, trivial, ?_⟩
    · rfl
    refine ⟨?_, trivial⟩
    refine ⟨_, ?_, hc.cells 3 rfl, trivial, ?_⟩
    · rfl
    refine ⟨?_, trivial⟩
    refine ⟨hc.may 7 rfl _ _ (nle rfl) rfl, ?_⟩
    intro wS hS
    have hc := (hc.set 7 rfl hS).1
    refine ⟨trivial, ?_⟩
    refine ⟨hc.may 6 rfl _ _ (nle rfl) rfl, ?_⟩
    intro wS hS
    have hc := (hc.set 6 rfl hS).1
    exact ⟨(), ⟨rfl, rfl, rfl, rfl, trivial⟩, _, hc.drop.drop.drop.drop.drop.drop.now (fun h => ⟨h.1.2, h.2⟩) (stab_2 _ _ _ _)⟩
  clear hc
  intro _ u wS hc
  exact ⟨(i + 1, t, y1, y2), ⟨rfl, rfl, rfl, congrArg _ (i_down (by omega)), trivial⟩, ⟨hlt, hm', h5', hc⟩, by show l.length - (i + 1) < l.length - i; omega⟩
set_option maxRecDepth 100000 in
theorem bookAll_ct {H : Type} (enc : TypeId × Value → H) (W : World) (hw : Env W) {base : Nat}
    (v0 : Value) (d0 : DataW H) (p0 : List MemPlace) (h0 : DataW.Trod enc Tryz.prog W 0 (fun _ => true) true 87 v0 d0 p0) (k0 : Value.okWide Tryz.prog W .any base 87 v0) :
    Calls Tryz.prog 9 #[v0] W (RetB (.bool true) W) := by
  obtain ⟨A0, c0, a0, rfl, r0, o0⟩ := open_deeds h0 k0
  exact allB_any a0 o0 A0 c0 W hw r0
end Go.Proofs.YtbmoimihnndboaaGreatDoor
