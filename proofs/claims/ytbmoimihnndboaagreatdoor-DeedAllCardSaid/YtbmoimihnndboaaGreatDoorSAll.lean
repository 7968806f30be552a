import Derived.Test.YtbmoimihnndboaaGreatDoorM12
set_option linter.unusedVariables false
set_option linter.unusedSimpArgs false
/- Walk: armariumlaw5.DeedAll. -/
namespace Go.Proofs.YtbmoimihnndboaaGreatDoor
open Go.Vc Go.RowKit Go.Fl Go.ChangeShapes Go.WideShapes Go.ChangeAt
theorem sm_vDeed (a : D) (oka : a.Ok) (hm : mayD a = true) : Sm 2 1073741824 (vDeed a) :=
  .inr ⟨by simp [vDeed, cnt_row, cnt_num, cnt_str, cntL], putV_deed_len a oka hm⟩
theorem put_same {a b : D} (ka : a.Ok) (kb : b.Ok) (ha : mayD a = true) (he : strEq ⟨(putD b).toArray⟩ ⟨#[]⟩ = false) : (strEq ⟨(putD a).toArray⟩ ⟨(putD b).toArray⟩ == eqD a b) = true :=
  same_put (q := mayD) (fun hb h => putD_inj ka kb ha hb h) (putD_not b) (fun a b => eqD_iff) he
set_option maxHeartbeats 8000000 in
theorem all5_any (d1 d2 : D) (h1 : d1.Ok) (h2 : d2.Ok) (s : ByteArray) (hs : s.size ≤ 9223372036854775807) (n nd : Int) (hn : i64ok n) (w : World) (hw : Env w) :
    Calls Tryz.prog 3 #[.agg (dC d1).toArray, .agg (dC d2).toArray, .string s, .int .i64 n, .int .i64 nd] w (RetB (.bool true) w) := by
  obtain ⟨a, ha⟩ : ∃ a, a = cutD d1 := ⟨_, rfl⟩
  have hda := deed5_any d1 h1
  have oka := cutD_ok h1
  rw [← ha] at hda oka
  obtain ⟨b, hb⟩ : ∃ b, b = cutD d2 := ⟨_, rfl⟩
  have hdb := deed5_any d2 h2
  have okb := cutD_ok h2
  rw [← hb] at hdb okb
  obtain ⟨s', hs'⟩ : ∃ s', s' = cut s 45 := ⟨_, rfl⟩
  have hcs := fun w => cutN_any s 45 w hs
  have hsz : s'.size ≤ 45 := by
    rw [hs']
    exact cut_size _ _
  rw [← hs'] at hcs
  refine calls_vc lay_ok Tryz.func3 rfl (by kernel_rfl) (by kernel_rfl) ?_
  have hc := CtxF.start w no (fun _ h => h.elim) (R := fun _ _ => True) trivial Stab.true
  intro g5 wg5 hg5
  have hc := (hc.loc hg5).1
  intro g6 wg6 hg6
  have hc := (hc.loc hg6).1
  refine call_b (begun5_any _ (hw.below hc.below)) ?_
  intro wQ hQ
  have hc := (hc.quiet hQ).1
  refine Drawn.join (α := Unit) (fun _ => [(2, .string s'), (3, .int .i64 n), (4, .int .i64 nd), (5, .pointer (some ⟨g5, 0, none⟩)), (6, .pointer (some ⟨g6, 0, none⟩))])
    (fun _ wS => CtxF no w no wS [(g6, 23, dC b), (g5, 23, dC a)] [] (fun _ _ => True)) ?_ ?_
  · refine drawn lay_ok (by kernel_rfl) (.q 4 (.n 0 (.n 1 (.n 2 (.n 3 (.n 5 (.n 6 (.n 7 (.q 8 .fin) .stop) .stop) .stop) .stop) .stop) (.n 2 (.n 1 (.n 3 (.n 5 (.n 6 (.n 7 (.q 8 .fin) .stop) .stop) .stop) .stop) .stop) .stop)) (.n 2 (.n 0 (.n 1 (.n 3 (.n 5 (.n 6 (.n 7 (.q 8 .fin) .stop) .stop) .stop) .stop) .stop) .stop) .stop))) (fun _ => True) (by kernel_rfl) trivial ?_
    have hc := hc.drew
    refine ⟨?_, ?_⟩
    · skip
      refine ⟨_, ?_, hc.cells 1 rfl, trivial, ?_⟩
      · rfl
      refine ⟨?_, ?_⟩
      · skip
        refine call_b (hda _) ?_
        intro wQ hQ
        have hc := (hc.quiet hQ).1
        refine ⟨trivial, ?_⟩
        refine ⟨?_, trivial⟩
        refine ⟨_, ?_, hc.cells 0 rfl, trivial, ?_⟩
        · rfl
        refine ⟨?_, trivial⟩
        refine call_b (hdb _) ?_
        intro wQ hQ
        have hc := (hc.quiet hQ).1
        refine ⟨trivial, ?_⟩
        refine ⟨?_, trivial⟩
        refine call_b (hcs _) ?_
        intro wQ hQ
        have hc := (hc.quiet hQ).1
        refine ⟨trivial, ?_⟩
        refine ⟨?_, trivial⟩
        refine ⟨hc.may 1 rfl _ _ (nle rfl) rfl, ?_⟩
        intro wS hS
        have hc := (hc.set 1 rfl hS).1
        refine ⟨trivial, ?_⟩
        refine ⟨?_, trivial⟩
        refine ⟨hc.may 0 rfl _ _ (nle rfl) rfl, ?_⟩
        intro wS hS
        have hc := (hc.set 0 rfl hS).1
        refine ⟨trivial, ?_⟩
        exact ⟨(), ⟨rfl, rfl, rfl, rfl, rfl, trivial⟩, hc⟩
      refine ⟨?_, trivial⟩
      refine ⟨_, ?_, hc.cells 0 rfl, trivial, ?_⟩
      · rfl
      refine ⟨?_, trivial⟩
      refine call_b (hda _) ?_
      intro wQ hQ
      have hc := (hc.quiet hQ).1
      refine ⟨trivial, ?_⟩
      refine ⟨?_, trivial⟩
      refine call_b (hdb _) ?_
      intro wQ hQ
      have hc := (hc.quiet hQ).1
      refine ⟨trivial, ?_⟩
      refine ⟨?_, trivial⟩
      refine call_b (hcs _) ?_
      intro wQ hQ
      have hc := (hc.quiet hQ).1
      refine ⟨trivial, ?_⟩
      refine ⟨?_, trivial⟩
      refine ⟨hc.may 1 rfl _ _ (nle rfl) rfl, ?_⟩
      intro wS hS
      have hc := (hc.set 1 rfl hS).1
      refine ⟨trivial, ?_⟩
      refine ⟨?_, trivial⟩
      refine ⟨hc.may 0 rfl _ _ (nle rfl) rfl, ?_⟩
      intro wS hS
      have hc := (hc.set 0 rfl hS).1
      refine ⟨trivial, ?_⟩
      exact ⟨(), ⟨rfl, rfl, rfl, rfl, rfl, trivial⟩, hc⟩
    refine ⟨?_, trivial⟩
    refine ⟨_, ?_, hc.cells 0 rfl, trivial, ?_⟩
    · rfl
    refine ⟨?_, trivial⟩
    refine ⟨_, ?_, hc.cells 1 rfl, trivial, ?_⟩
    · rfl
    refine ⟨?_, trivial⟩
    refine call_b (hda _) ?_
    intro wQ hQ
    have hc := (hc.quiet hQ).1
    refine ⟨trivial, ?_⟩
    refine ⟨?_, trivial⟩
    refine call_b (hdb _) ?_
    intro wQ hQ
    have hc := (hc.quiet hQ).1
    refine ⟨trivial, ?_⟩
    refine ⟨?_, trivial⟩
    refine call_b (hcs _) ?_
    intro wQ hQ
    have hc := (hc.quiet hQ).1
    refine ⟨trivial, ?_⟩
    refine ⟨?_, trivial⟩
    refine ⟨hc.may 1 rfl _ _ (nle rfl) rfl, ?_⟩
    intro wS hS
    have hc := (hc.set 1 rfl hS).1
    refine ⟨trivial, ?_⟩
    refine ⟨?_, trivial⟩
    refine ⟨hc.may 0 rfl _ _ (nle rfl) rfl, ?_⟩
    intro wS hS
    have hc := (hc.set 0 rfl hS).1
    refine ⟨trivial, ?_⟩
    exact ⟨(), ⟨rfl, rfl, rfl, rfl, rfl, trivial⟩, hc⟩
  clear hc
  intro x u wS hc
  clear x
  have hr := hc
  refine drawn lay_ok (by kernel_rfl) (.q 0 (.q 2 (.n 1 (.n 3 (.q 4 (.q 5 (.q 6 (.q 8 (.n 7 (.n 9 (.q 10 (.q 11 (.q 12 (.q 13 (.q 14 (.q 16 (.q 17 (.n 15 (.n 18 (.q 19 (.q 20 (.q 21 (.q 22 (.q 24 (.n 23 (.n 25 (.q 26 (.q 27 (.q 28 (.q 29 (.q 31 (.n 30 (.n 32 (.q 33 (.q 34 .fin)) .stop) .stop)))))) .stop) .stop)))))) .stop) .stop)))))))) .stop) .stop))))) .stop) .stop))) (Old _) (by kernel_rfl) (Old.start _) ?_
  have hk := hc.old0
  have hc := hc.drew
  refine ⟨?_, trivial⟩
  refine call_b (key_any s' (by omega) _) ?_
  intro wA hA
  have hc := (hc.quiet hA).1
  have hk := Keeps.below hk (fun _ h => h) hA
  refine ⟨hk, ?_⟩
  refine ⟨?_, trivial⟩
  refine call_b (rkey_any s' (by omega) _) ?_
  intro wA hA
  have hc := (hc.quiet hA).1
  have hk := Keeps.below hk (fun _ h => h) hA
  refine ⟨hk, ?_⟩
  refine split_f (by cases keyB s' <;> rfl) ?_
  refine ⟨?_, trivial⟩
  refine call_b (home_any n _) ?_
  intro wA hA
  have hc := (hc.quiet hA).1
  have hk := Keeps.below hk (fun _ h => h) hA
  refine ⟨hk, ?_⟩
  refine ⟨?_, trivial⟩
  refine call_b (rhome_any n _ hn.1 hn.2) ?_
  intro wA hA
  have hc := (hc.quiet hA).1
  have hk := Keeps.below hk (fun _ h => h) hA
  refine ⟨hk, ?_⟩
  refine split_f (by simp) ?_
  refine ⟨?_, trivial⟩
  refine call_b (make_any nd n _) ?_
  intro wA hA
  have hc := (hc.quiet hA).1
  have hk := Keeps.below hk (fun _ h => h) hA
  refine ⟨hk, ?_⟩
  refine ⟨?_, trivial⟩
  refine call_b (rmake_any nd n _) ?_
  intro wA hA
  have hc := (hc.quiet hA).1
  have hk := Keeps.below hk (fun _ h => h) hA
  refine ⟨hk, ?_⟩
  refine split_f (by simp) ?_
  refine ⟨_, ?_, fun x hx => Keeps.cells hx (hr.blk 1 rfl) (hr.blk 1 rfl).lt, ?_⟩
  · rfl
  refine ⟨_, ?_, fun x hx => Keeps.cells hx (hr.blk 1 rfl) (hr.blk 1 rfl).lt, ?_⟩
  · rfl
  refine ⟨?_, trivial⟩
  refine call_b (may_any a oka _) ?_
  intro wA hA
  have hc := (hc.quiet hA).1
  have hk := Keeps.below hk (fun _ h => h) hA
  refine ⟨hk, ?_⟩
  refine ⟨?_, trivial⟩
  refine call_b (rmay_any a oka _) ?_
  intro wA hA
  have hc := (hc.quiet hA).1
  have hk := Keeps.below hk (fun _ h => h) hA
  refine ⟨hk, ?_⟩
  refine split_f (by cases mayD a <;> rfl) ?_
  refine ⟨?_, trivial⟩
  refine call_b (tag_any s' (Nat.le_trans hsz (by decide)) _) ?_
  intro wA hA
  have hc := (hc.quiet hA).1
  have hk := Keeps.below hk (fun _ h => h) hA
  refine ⟨hk, ?_⟩
  refine ⟨?_, trivial⟩
  refine call_b (rtag_any s' (by omega) _) ?_
  intro wA hA
  have hc := (hc.quiet hA).1
  have hk := Keeps.below hk (fun _ h => h) hA
  refine ⟨hk, ?_⟩
  refine split_f (by rw [strEq_iff.2 rfl]; rfl) ?_
  clear hk hr
  have hr := hc
  refine drawn lay_ok (by kernel_rfl) (.q 0 (.q 2 (.n 1 (.n 3 (.q 4 (.q 5 .fin)) .stop) .stop))) (Old _) (by kernel_rfl) (Old.start _) ?_
  have hk := hc.old0
  have hc := hc.drew
  refine ⟨_, ?_, fun x hx => Keeps.cells hx (hr.blk 1 rfl) (hr.blk 1 rfl).lt, ?_⟩
  · rfl
  refine ⟨_, ?_, fun x hx => Keeps.cells hx (hr.blk 0 rfl) (hr.blk 0 rfl).lt, ?_⟩
  · rfl
  refine ⟨?_, trivial⟩
  refine call_b (putD_any a oka _ (hw.tab.below hc.below)) ?_
  intro wA hA
  have hc := (hc.quiet hA).1
  have hk := Keeps.below hk (fun _ h => h) hA
  refine ⟨hk, ?_⟩
  refine ⟨?_, trivial⟩
  refine call_b (putD_any b okb _ (hw.tab.below hc.below)) ?_
  intro wA hA
  have hc := (hc.quiet hA).1
  have hk := Keeps.below hk (fun _ h => h) hA
  refine ⟨hk, ?_⟩
  clear hk hr
  refine ⟨_, ?_, hc.cells 1 rfl, ?_⟩
  · rfl
  refine call_b (rmay_any a oka _) ?_
  intro wQ hQ
  have hc := (hc.quiet hQ).1
  rcases Bool.eq_false_or_eq_true (mayD a) with hm | hm
  rotate_left
  · refine split_t (by rw [hm]; rfl) ?_
    refine ⟨ret_bool ?_, hc.below⟩
    rw [putD_not a hm, strEq_iff.2 rfl]
  refine split_f (by rw [hm]; rfl) ?_
  refine ⟨_, ?_, hc.cells 1 rfl, ?_⟩
  · rfl
  refine ⟨(value_any a oka _).mono fun en wq hq => ?_⟩
  obtain ⟨vk, vn, vs, vA, vl, vc, e1, hq, hrep⟩ := hq
  rw [show valD' a = vDeed a by rw [valD', hm]; rfl] at hrep
  obtain ⟨cA, cC, ec⟩ := hrep.cells
  cases ec
  have hc := (hc.call hq).1.know (X := fun S w => RepC S w (vDeed a) (cellsV (vDeed a) vA vc)) (hrep.sub fun b h => h.elim (fun h => h.elim) .inr) (stab_C _ _)
  refine ⟨_, e1, ?_⟩
  intro g14 wg14 hg14
  have hc := (hc.loc hg14).1
  refine ⟨hc.may 0 rfl _ _ (nle rfl) rfl, ?_⟩
  intro wS hS
  have hc := (hc.set 0 rfl hS).1
  have hplen : (putD a).length ≤ 1073741824 := putD_len hm
  have hg := getD_any (putD a) hplen _ (hw.below hc.below)
  rw [getD_put a oka hm] at hg
  refine call_b (hg) ?_
  intro wQ hQ
  have hc := (hc.quiet hQ).1
  intro g15 wg15 hg15
  have hc := (hc.loc hg15).1
  refine ⟨hc.may 0 rfl _ _ (nle rfl) rfl, ?_⟩
  intro wS hS
  have hc := (hc.set 0 rfl hS).1
  refine ⟨_, ?_, hc.cells 1 rfl, ?_⟩
  · rfl
  have ho := of_any (vDeed a) _ _ _ _ _ _ _ _ hc.row.2 oka
  rw [ofD_vDeed a hm] at ho
  refine call_b (ho) ?_
  intro wQ hQ
  have hc := (hc.quiet hQ).1
  intro g17 wg17 hg17
  have hc := (hc.loc hg17).1
  refine ⟨hc.may 0 rfl _ _ (nle rfl) rfl, ?_⟩
  intro wS hS
  have hc := (hc.set 0 rfl hS).1
  have hr := hc
  refine drawn lay_ok (by kernel_rfl) (.q 0 (.q 1 (.n 2 (.n 3 (.q 4 (.q 5 (.q 6 (.q 8 (.n 7 (.n 9 (.n 10 (.q 11 (.q 12 (.q 13 (.q 14 (.q 15 (.q 16 (.q 17 (.q 18 (.q 19 (.q 20 (.q 21 (.q 22 (.q 23 (.q 24 (.q 25 (.q 26 (.q 27 (.q 28 (.q 29 (.q 30 (.q 31 (.q 32 (.q 33 (.q 34 (.q 35 (.q 36 (.q 37 (.q 38 (.q 39 (.q 40 (.q 41 (.q 42 .fin)))))))))))))))))))))))))))))))) .stop) .stop) .stop))))) .stop) .stop))) (Old _) (by kernel_rfl) (Old.start _) ?_
  have hk := hc.old0
  have hc := hc.drew
  refine ⟨_, ?_, fun x hx => Keeps.cells hx (hr.blk 4 rfl) (hr.blk 4 rfl).lt, ?_⟩
  · rfl
  refine ⟨?_, trivial⟩
  refine ⟨(rvalue_any a _).mono fun en wq hq => ?_⟩
  obtain ⟨rk, rn, rs, rA, rl, rc, e1, hq, hrep⟩ := hq
  have hc := (hc.call hq).1.know (X := fun S w => RepC S w (vDeed a) [.int .i64 rk, .int .i64 rn, .string rs, .slice rA rl rc]) (hrep.sub fun b h => h.elim (fun h => h.elim) .inr) (stab_C _ _)
  have hk := Keeps.below hk (fun _ h => h) hq
  refine ⟨_, e1, hk, ?_⟩
  refine ⟨?_, trivial⟩
  refine call_b (rPut_any (vDeed a) (okV_vDeed a oka) (putV_deed_len a oka hm) rk rn rs rA rl rc _ _ hc.row.2) ?_
  intro wA hA
  have hc := (hc.quiet hA).1
  have hk := Keeps.below hk (fun _ h => h) hA
  refine ⟨hk, ?_⟩
  refine split_t (by rw [rputS_deed, ← putD_may a oka hm, strEq_iff.2 rfl]) ?_
  refine ⟨_, ?_, fun x hx => Keeps.cells hx (hr.blk 2 rfl) (hr.blk 2 rfl).lt, ?_⟩
  · rfl
  refine ⟨_, ?_, fun x hx => Keeps.cells hx (hr.blk 4 rfl) (hr.blk 4 rfl).lt, ?_⟩
  · rfl
  refine ⟨?_, trivial⟩
  refine ⟨(of1_any 1073741824 2 (vDeed a) (sm_vDeed a oka hm) vA vc _ _ hc.row.1.2).mono fun en wq hq => ?_⟩
  obtain ⟨oA, oc, e1, hq, hrep⟩ := hq
  have hc := (hc.call hq).1.know (X := fun S w => RepC S w (vDeed a) (cellsV (vDeed a) oA oc)) (hrep.sub fun b h => h.elim (fun h => h.elim) .inr) (stab_C _ _)
  have hk := Keeps.below hk (fun _ h => h) hq
  refine ⟨_, e1, hk, ?_⟩
  refine ⟨?_, trivial⟩
  refine ⟨(rvalue_any a _).mono fun en wq hq => ?_⟩
  obtain ⟨rk2, rn2, rs2, rA2, rl2, rc2, e1, hq, hrep⟩ := hq
  have hc := (hc.call hq).1.know (X := fun S w => RepC S w (vDeed a) [.int .i64 rk2, .int .i64 rn2, .string rs2, .slice rA2 rl2 rc2]) (hrep.sub fun b h => h.elim (fun h => h.elim) .inr) (stab_C _ _)
  have hk := Keeps.below hk (fun _ h => h) hq
  refine ⟨_, e1, hk, ?_⟩
  have hE := reqv_any _ (vDeed a) (Nat.lt_succ_self _) (vDeed a) _ _ _ _ hc.row.1.2 hc.row.2
  rw [eqV_refl] at hE
  refine ⟨?_, trivial⟩
  refine call_b (hE) ?_
  intro wA hA
  have hc := (hc.quiet hA).1
  have hk := Keeps.below hk (fun _ h => h) hA
  refine ⟨hk, ?_⟩
  refine ⟨_, ?_, fun x hx => Keeps.cells hx (hr.blk 1 rfl) (hr.blk 1 rfl).lt, ?_⟩
  · rfl
  refine ⟨_, ?_, fun x hx => Keeps.cells hx (hr.blk 4 rfl) (hr.blk 4 rfl).lt, ?_⟩
  · rfl
  refine ⟨.bool true, fun w => deed_self a _ _ w, ?_⟩
  refine ⟨_, ?_, fun x hx => Keeps.cells hx (hr.blk 0 rfl) (hr.blk 0 rfl).lt, ?_⟩
  · rfl
  refine ⟨_, ?_, fun x hx => Keeps.cells hx (hr.blk 4 rfl) (hr.blk 4 rfl).lt, ?_⟩
  · rfl
  refine ⟨.bool true, fun w => deed_self a _ _ w, ?_⟩
  refine split_ (fun he => ?_) (fun he => ?_)
  · exact ⟨rfl, hc.below⟩
  refine ⟨_, ?_, fun x hx => Keeps.cells hx (hr.blk 4 rfl) (hr.blk 4 rfl).lt, ?_⟩
  · rfl
  refine ⟨_, ?_, fun x hx => Keeps.cells hx (hr.blk 3 rfl) (hr.blk 3 rfl).lt, ?_⟩
  · rfl
  refine ⟨_, fun w => eql_run gd_deed (eqD_in 9998 · a b) _ _ w, ?_⟩
  exact ⟨ret_bool (put_same oka okb hm he), hc.below⟩
set_option maxRecDepth 100000 in
theorem deedAll_ct {H : Type} (enc : TypeId × Value → H) (W : World) (hw : Env W) {base : Nat}
    (v0 : Value) (d0 : DataW H) (p0 : List MemPlace) (h0 : DataW.Trod enc Tryz.prog W 0 (fun _ => true) true 23 v0 d0 p0) (k0 : Value.okWide Tryz.prog W .any base 23 v0)
    (v1 : Value) (d1 : DataW H) (p1 : List MemPlace) (h1 : DataW.Trod enc Tryz.prog W 0 (fun _ => true) true 23 v1 d1 p1) (k1 : Value.okWide Tryz.prog W .any base 23 v1)
    (v2 : Value) (d2 : DataW H) (p2 : List MemPlace) (h2 : DataW.Trod enc Tryz.prog W 0 (fun _ => true) true 9 v2 d2 p2) (k2 : Value.okWide Tryz.prog W .any base 9 v2)
    (v3 : Value) (d3 : DataW H) (p3 : List MemPlace) (h3 : DataW.Trod enc Tryz.prog W 0 (fun _ => true) true 2 v3 d3 p3) (k3 : Value.okWide Tryz.prog W .any base 2 v3)
    (v4 : Value) (d4 : DataW H) (p4 : List MemPlace) (h4 : DataW.Trod enc Tryz.prog W 0 (fun _ => true) true 3 v4 d4 p4) (k4 : Value.okWide Tryz.prog W .any base 3 v4) :
    Calls Tryz.prog 3 #[v0, v1, v2, v3, v4] W (RetB (.bool true) W) := by
  obtain ⟨a0, rfl, o0⟩ := open_deed h0 k0
  obtain ⟨a1, rfl, o1⟩ := open_deed h1 k1
  obtain ⟨a2, rfl, o2⟩ := open_str h2 k2
  obtain ⟨a3, rfl, o3⟩ := open_i64 Tryz.underlying2 h3 k3
  obtain ⟨a4, rfl, o4⟩ := open_i64 Tryz.underlying3 h4 k4
  exact all5_any a0 a1 o0 o1 a2 (Nat.le_trans o2 (by decide)) a3 a4 o3 W hw
end Go.Proofs.YtbmoimihnndboaaGreatDoor
