import Derived.Test.YtbmoimihnndboaaGreatDoorM12
set_option linter.unusedVariables false
set_option linter.unusedSimpArgs false
/- Walk: armariumlaw5.BookMay. -/
namespace Go.Proofs.YtbmoimihnndboaaGreatDoor
open Go.Vc Go.RowKit Go.Fl Go.ChangeShapes Go.WideShapes Go.ChangeAt
theorem putS_same {a b : Stt} (ka : a.lows.length = 5) (kb : b.lows.length = 5) (ha : mayS a = true) (he : strEq ⟨(putStt b).toArray⟩ ⟨#[]⟩ = false) : (strEq ⟨(putStt a).toArray⟩ ⟨(putStt b).toArray⟩ == eqS a b) = true :=
  same_put (q := mayS) (fun hb h => putStt_inj ka kb ha hb h) putStt_not (fun a b => eqS_iff) he
set_option maxHeartbeats 8000000 in
theorem mayB_any (s1 s2 : Stt) (hs1 : s1.Ok) (hs2 : s2.Ok) (c1 c2 : List Value) (s : ByteArray) (hs : s.size ≤ 9223372036854775807) (w : World) (hw : Env w) (hR1 : RepS (inW w) w s1 c1) (hR2 : RepS (inW w) w s2 c2) :
    Calls Tryz.prog 7 #[.agg c1.toArray, .agg c2.toArray, .string s] w (RetB (.bool true) w) := by
  obtain ⟨x1, rfl⟩ := hR1.stX
  obtain ⟨x2, rfl⟩ := hR2.stX
  obtain ⟨a, ha⟩ : ∃ t, t = cutS s1 := ⟨_, rfl⟩
  have hsa := state5_any s1 hs1 (stX s1 x1)
  have hka := cutS_ok hs1
  have ha5 : a.lows.length = 5 := ha ▸ hR1.five
  rw [← ha] at hsa hka
  obtain ⟨b, hb⟩ : ∃ t, t = cutS s2 := ⟨_, rfl⟩
  have hsb := state5_any s2 hs2 (stX s2 x2)
  have hkb := cutS_ok hs2
  have hb5 : b.lows.length = 5 := hb ▸ hR2.five
  rw [← hb] at hsb hkb
  obtain ⟨s', hs'⟩ : ∃ s', s' = cut s 60 := ⟨_, rfl⟩
  have hcs := fun w => cutN_any s 60 w hs
  have hsz : s'.size ≤ 60 := by
    rw [hs']
    exact cut_size _ _
  rw [← hs'] at hcs
  refine calls_vc lay_ok Tryz.func7 rfl (by kernel_rfl) (by kernel_rfl) ?_
  have hc := CtxF.start w no (fun _ h => h.elim) (R := fun _ _ => True) trivial Stab.true
  intro g3 wg3 hg3
  have hc := (hc.loc hg3).1
  intro g4 wg4 hg4
  have hc := (hc.loc hg4).1
  refine call_b (begun5_any _ (hw.below hc.below)) ?_
  intro wQ hQ
  have hc := (hc.quiet hQ).1
  refine Drawn.join (α := SX × SX) (fun _ => [(2, .string s'), (3, .pointer (some ⟨g3, 0, none⟩)), (4, .pointer (some ⟨g4, 0, none⟩))])
    (fun x wS => ∃ S, CtxF no w S wS [(g4, 78, stX b x.2), (g3, 78, stX a x.1)] [] (fun S w => RepS S w a (stX a x.1) ∧ RepS S w b (stX b x.2))) ?_ ?_
  · refine drawn lay_ok (by kernel_rfl) (.q 4 (.n 0 (.n 1 (.n 2 (.n 3 (.n 5 (.n 6 (.n 7 (.q 8 .fin) .stop) .stop) .stop) .stop) .stop) (.n 2 (.n 1 (.n 3 (.n 5 (.n 6 (.n 7 (.q 8 .fin) .stop) .stop) .stop) .stop) .stop) .stop)) (.n 2 (.n 0 (.n 1 (.n 3 (.n 5 (.n 6 (.n 7 (.q 8 .fin) .stop) .stop) .stop) .stop) .stop) .stop) .stop))) (fun _ => True) (by kernel_rfl) trivial ?_
    have hc := hc.drew
    refine ⟨?_, ?_⟩
    · skip
      refine ⟨_, ?_, hc.cells 1 rfl, trivial, ?_⟩
      · rfl
      refine ⟨?_, ?_⟩
      · skip
        refine ⟨(hsa (inW w) _ (hR1.below hc.below)).mono fun en wq hq => ?_⟩
        obtain ⟨cya, e1, hq, hrep⟩ := hq
        obtain ⟨ya, rfl⟩ := hrep.stX
        have hc := (hc.call hq).1.know (X := fun S w => RepS S w _ (stX _ ya)) (hrep.map fun h => h.sub fun b h => h.elim (fun h => h.elim) .inr) (stab_S _ _)
        refine ⟨_, e1, trivial, ?_⟩
        refine ⟨?_, trivial⟩
        refine ⟨_, ?_, hc.cells 0 rfl, trivial, ?_⟩
        · rfl
        refine ⟨?_, trivial⟩
        refine ⟨(hsb (inW w) _ (hR2.below hc.below)).mono fun en wq hq => ?_⟩
        obtain ⟨cyb, e1, hq, hrep⟩ := hq
        obtain ⟨yb, rfl⟩ := hrep.stX
        have hc := (hc.call hq).1.know (X := fun S w => RepS S w _ (stX _ yb)) (hrep.map fun h => h.sub fun b h => h.elim (fun h => h.elim) .inr) (stab_S _ _)
        refine ⟨_, e1, trivial, ?_⟩
        refine ⟨?_, trivial⟩
        refine call_b (hcs _) ?_
        intro wQ hQ
        have hc := (hc.quiet hQ).1
        refine ⟨trivial, ?_⟩
        refine ⟨?_, trivial⟩
        refine ⟨hc.may 1 rfl _ _ (nle rfl) rfl, ?_⟩
        intro wS hS
        have hc := (hc.set 1 rfl hS).1
        refine ⟨trivial, ?_⟩
        refine ⟨?_, trivial⟩
        refine ⟨hc.may 0 rfl _ _ (nle rfl) rfl, ?_⟩
        intro wS hS
        have hc := (hc.set 0 rfl hS).1
        refine ⟨trivial, ?_⟩
        exact ⟨(ya, yb), ⟨rfl, rfl, rfl, trivial⟩, _, hc.now (fun h => ⟨h.1.2, h.2⟩) (stab_2 _ _ _ _)⟩
      refine ⟨?_, trivial⟩
      refine ⟨_, ?_, hc.cells 0 rfl, trivial, ?_⟩
      · rfl
      refine ⟨?_, trivial⟩
      refine ⟨(hsa (inW w) _ (hR1.below hc.below)).mono fun en wq hq => ?_⟩
      obtain ⟨cya, e1, hq, hrep⟩ := hq
      obtain ⟨ya, rfl⟩ := hrep.stX
      have hc := (hc.call hq).1.know (X := fun S w => RepS S w _ (stX _ ya)) (hrep.map fun h => h.sub fun b h => h.elim (fun h => h.elim) .inr) (stab_S _ _)
      refine ⟨_, e1, trivial, ?_⟩
      refine ⟨?_, trivial⟩
      refine ⟨(hsb (inW w) _ (hR2.below hc.below)).mono fun en wq hq => ?_⟩
      obtain ⟨cyb, e1, hq, hrep⟩ := hq
      obtain ⟨yb, rfl⟩ := hrep.stX
      have hc := (hc.call hq).1.know (X := fun S w => RepS S w _ (stX _ yb)) (hrep.map fun h => h.sub fun b h => h.elim (fun h => h.elim) .inr) (stab_S _ _)
      refine ⟨_, e1, trivial, ?_⟩
      refine ⟨?_, trivial⟩
      refine call_b (hcs _) ?_
      intro wQ hQ
      have hc := (hc.quiet hQ).1
      refine ⟨trivial, ?_⟩
      refine ⟨?_, trivial⟩
      refine ⟨hc.may 1 rfl _ _ (nle rfl) rfl, ?_⟩
      intro wS hS
      have hc := (hc.set 1 rfl hS).1
      refine ⟨trivial, ?_⟩
      refine ⟨?_, trivial⟩
      refine ⟨hc.may 0 rfl _ _ (nle rfl) rfl, ?_⟩
      intro wS hS
      have hc := (hc.set 0 rfl hS).1
      refine ⟨trivial, ?_⟩
      exact ⟨(ya, yb), ⟨rfl, rfl, rfl, trivial⟩, _, hc.now (fun h => ⟨h.1.2, h.2⟩) (stab_2 _ _ _ _)⟩
    refine ⟨?_, trivial⟩
    refine ⟨_, ?_, hc.cells 0 rfl, trivial, ?_⟩
    · rfl
    refine ⟨?_, trivial⟩
    refine ⟨_, ?_, hc.cells 1 rfl, trivial, ?_⟩
    · rfl
    refine ⟨?_, trivial⟩
    refine ⟨(hsa (inW w) _ (hR1.below hc.below)).mono fun en wq hq => ?_⟩
    obtain ⟨cya, e1, hq, hrep⟩ := hq
    obtain ⟨ya, rfl⟩ := hrep.stX
    have hc := (hc.call hq).1.know (X := fun S w => RepS S w _ (stX _ ya)) (hrep.map fun h => h.sub fun b h => h.elim (fun h => h.elim) .inr) (stab_S _ _)
    refine ⟨_, e1, trivial, ?_⟩
    refine ⟨?_, trivial⟩
    refine ⟨(hsb (inW w) _ (hR2.below hc.below)).mono fun en wq hq => ?_⟩
    obtain ⟨cyb, e1, hq, hrep⟩ := hq
    obtain ⟨yb, rfl⟩ := hrep.stX
    have hc := (hc.call hq).1.know (X := fun S w => RepS S w _ (stX _ yb)) (hrep.map fun h => h.sub fun b h => h.elim (fun h => h.elim) .inr) (stab_S _ _)
    refine ⟨_, e1, trivial, ?_⟩
    refine ⟨?_, trivial⟩
    refine call_b (hcs _) ?_
    intro wQ hQ
    have hc := (hc.quiet hQ).1
    refine ⟨trivial, ?_⟩
    refine ⟨?_, trivial⟩
    refine ⟨hc.may 1 rfl _ _ (nle rfl) rfl, ?_⟩
    intro wS hS
    have hc := (hc.set 1 rfl hS).1
    refine ⟨trivial, ?_⟩
    refine ⟨?_, trivial⟩
    refine ⟨hc.may 0 rfl _ _ (nle rfl) rfl, ?_⟩
    intro wS hS
    have hc := (hc.set 0 rfl hS).1
    refine ⟨trivial, ?_⟩
    exact ⟨(ya, yb), ⟨rfl, rfl, rfl, trivial⟩, _, hc.now (fun h => ⟨h.1.2, h.2⟩) (stab_2 _ _ _ _)⟩
  clear hc
  rintro ⟨y1, y2⟩ u wS hc
  obtain ⟨S, hc⟩ := hc
  simp only at hc
  have hr := hc
  refine drawn lay_ok (by kernel_rfl) (.q 0 (.q 2 (.n 1 (.n 3 (.q 4 (.q 5 (.q 6 (.q 7 (.q 9 (.q 10 (.n 8 (.n 11 (.q 12 (.q 13 (.q 14 (.q 15 (.q 16 (.n 17 (.q 18 (.q 19 (.q 20 (.q 21 (.n 22 (.q 23 (.q 24 .fin)) .stop))))) .stop)))))) .stop) .stop))))))) .stop) .stop))) (Old _) (by kernel_rfl) (Old.start _) ?_
  have hk := hc.old0
  have hc := hc.drew
  refine ⟨_, ?_, fun x hx => Keeps.cells hx (hr.blk 1 rfl) (hr.blk 1 rfl).lt, ?_⟩
  · rfl
  refine ⟨_, ?_, fun x hx => Keeps.cells hx (hr.blk 1 rfl) (hr.blk 1 rfl).lt, ?_⟩
  · rfl
  refine ⟨?_, trivial⟩
  refine call_b (bmay_any a (fun e he => (hka.l e he).key) _ _ _ hc.row.1) ?_
  intro wA hA
  have hc := (hc.quiet hA).1
  have hk := Keeps.below hk (fun _ h => h) hA
  refine ⟨hk, ?_⟩
  refine ⟨?_, trivial⟩
  refine call_b (rmayS_any a hka _ _ _ hc.row.1) ?_
  intro wA hA
  have hc := (hc.quiet hA).1
  have hk := Keeps.below hk (fun _ h => h) hA
  refine ⟨hk, ?_⟩
  refine split_f (by cases mayS a <;> rfl) ?_
  refine ⟨_, ?_, fun x hx => Keeps.cells hx (hr.blk 1 rfl) (hr.blk 1 rfl).lt, ?_⟩
  · rfl
  refine ⟨_, ?_, fun x hx => Keeps.cells hx (hr.blk 0 rfl) (hr.blk 0 rfl).lt, ?_⟩
  · rfl
  refine ⟨_, ?_, fun x hx => Keeps.cells hx (hr.blk 1 rfl) (hr.blk 1 rfl).lt, ?_⟩
  · rfl
  refine ⟨_, ?_, fun x hx => Keeps.cells hx (hr.blk 0 rfl) (hr.blk 0 rfl).lt, ?_⟩
  · rfl
  refine ⟨?_, trivial⟩
  refine call_b (beqS_any a b _ _ _ _ hc.row.1 hc.row.2) ?_
  intro wA hA
  have hc := (hc.quiet hA).1
  have hk := Keeps.below hk (fun _ h => h) hA
  refine ⟨hk, ?_⟩
  refine ⟨?_, trivial⟩
  refine call_b (reqS_any a b _ _ _ _ hc.row.1 hc.row.2) ?_
  intro wA hA
  have hc := (hc.quiet hA).1
  have hk := Keeps.below hk (fun _ h => h) hA
  refine ⟨hk, ?_⟩
  refine split_f (by cases eqS a b <;> rfl) ?_
  refine ⟨_, ?_, fun x hx => Keeps.cells hx (hr.blk 1 rfl) (hr.blk 1 rfl).lt, ?_⟩
  · rfl
  refine ⟨_, ?_, fun x hx => Keeps.cells hx (hr.blk 1 rfl) (hr.blk 1 rfl).lt, ?_⟩
  · rfl
  have hE := beqS_any a a _ _ _ _ hc.row.1 hc.row.1
  rw [eqS_iff.2 rfl] at hE
  refine ⟨?_, trivial⟩
  refine call_b (hE) ?_
  intro wA hA
  have hc := (hc.quiet hA).1
  have hk := Keeps.below hk (fun _ h => h) hA
  refine ⟨hk, ?_⟩
  refine ⟨?_, trivial⟩
  refine call_b (readsB_any s' (by omega) _ (hw.below hc.below)) ?_
  intro wA hA
  have hc := (hc.quiet hA).1
  have hk := Keeps.below hk (fun _ h => h) hA
  refine ⟨hk, ?_⟩
  clear hk hr
  have hr := hc
  refine drawn lay_ok (by kernel_rfl) (.q 0 (.q 2 (.n 1 (.n 3 (.q 4 (.q 5 .fin)) .stop) .stop))) (Old _) (by kernel_rfl) (Old.start _) ?_
  have hk := hc.old0
  have hc := hc.drew
  refine ⟨_, ?_, fun x hx => Keeps.cells hx (hr.blk 1 rfl) (hr.blk 1 rfl).lt, ?_⟩
  · rfl
  refine ⟨_, ?_, fun x hx => Keeps.cells hx (hr.blk 0 rfl) (hr.blk 0 rfl).lt, ?_⟩
  · rfl
  refine ⟨?_, trivial⟩
  refine call_b (bput_any a (fun e he => (hka.l e he).key) _ _ _ hc.row.1 (hw.tab.below hc.below)) ?_
  intro wA hA
  have hc := (hc.quiet hA).1
  have hk := Keeps.below hk (fun _ h => h) hA
  refine ⟨hk, ?_⟩
  refine ⟨?_, trivial⟩
  refine call_b (bput_any b (fun e he => (hkb.l e he).key) _ _ _ hc.row.2 (hw.tab.below hc.below)) ?_
  intro wA hA
  have hc := (hc.quiet hA).1
  have hk := Keeps.below hk (fun _ h => h) hA
  refine ⟨hk, ?_⟩
  clear hk hr
  refine ⟨_, ?_, hc.cells 1 rfl, ?_⟩
  · rfl
  refine call_b (rmayS_any a hka _ _ _ hc.row.1) ?_
  intro wQ hQ
  have hc := (hc.quiet hQ).1
  rcases Bool.eq_false_or_eq_true (mayS a) with hm | hm
  rotate_left
  · refine split_t (by rw [hm]; rfl) ?_
    refine ⟨ret_bool ?_, hc.below⟩
    rw [putStt_not hm, strEq_iff.2 rfl]
  refine split_f (by rw [hm]; rfl) ?_
  have hrd := bread_any (putStt a) (putStt_len ha5 hm) _ (hw.below hc.below)
  rw [readStt_put a ha5 hm] at hrd
  refine ⟨(hrd).mono fun en wq hq => ?_⟩
  obtain ⟨cy3, e1, hq, hrep⟩ := hq
  obtain ⟨y3, rfl⟩ := hrep.stX
  have hc := (hc.call hq).1.know (X := fun S w => RepS S w _ (stX _ y3)) (hrep.map fun h => h.sub fun b h => h.elim (fun h => h.elim) .inr) (stab_S _ _)
  refine ⟨_, e1, ?_⟩
  intro g10 wg10 hg10
  have hc := (hc.loc hg10).1
  refine ⟨hc.may 0 rfl _ _ (nle rfl) rfl, ?_⟩
  intro wS hS
  have hc := (hc.set 0 rfl hS).1
  refine ⟨_, ?_, hc.cells 0 rfl, ?_⟩
  · rfl
  refine ⟨_, ?_, hc.cells 2 rfl, ?_⟩
  · rfl
  have hE := reqS_any a a _ _ _ _ hc.row.2 hc.row.1.1
  rw [eqS_iff.2 rfl] at hE
  refine call_b (hE) ?_
  intro wQ hQ
  have hc := (hc.quiet hQ).1
  refine split_ (fun he => ?_) (fun he => ?_)
  · exact ⟨rfl, hc.below⟩
  refine ⟨_, ?_, hc.cells 2 rfl, ?_⟩
  · rfl
  refine ⟨_, ?_, hc.cells 1 rfl, ?_⟩
  · rfl
  refine call_b (reqS_any a b _ _ _ _ hc.row.1.1 hc.row.1.2) ?_
  intro wQ hQ
  have hc := (hc.quiet hQ).1
  exact ⟨ret_bool (putS_same ha5 hb5 hm he), hc.below⟩
set_option maxRecDepth 100000 in
theorem bookMay_ct {H : Type} (enc : TypeId × Value → H) (W : World) (hw : Env W) {base : Nat}
    (v0 : Value) (d0 : DataW H) (p0 : List MemPlace) (h0 : DataW.Trod enc Tryz.prog W 0 (fun _ => true) true 78 v0 d0 p0) (k0 : Value.okWide Tryz.prog W .any base 78 v0)
    (v1 : Value) (d1 : DataW H) (p1 : List MemPlace) (h1 : DataW.Trod enc Tryz.prog W 0 (fun _ => true) true 78 v1 d1 p1) (k1 : Value.okWide Tryz.prog W .any base 78 v1)
    (v2 : Value) (d2 : DataW H) (p2 : List MemPlace) (h2 : DataW.Trod enc Tryz.prog W 0 (fun _ => true) true 9 v2 d2 p2) (k2 : Value.okWide Tryz.prog W .any base 9 v2) :
    Calls Tryz.prog 7 #[v0, v1, v2] W (RetB (.bool true) W) := by
  obtain ⟨a0, s0, rfl, r0, o0⟩ := open_state h0 k0
  obtain ⟨a1, s1, rfl, r1, o1⟩ := open_state h1 k1
  obtain ⟨a2, rfl, o2⟩ := open_str h2 k2
  exact mayB_any a0 a1 o0 o1 s0 s1 a2 (Nat.le_trans o2 (by decide)) W hw r0 r1
end Go.Proofs.YtbmoimihnndboaaGreatDoor
