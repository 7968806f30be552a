import Derived.Test.YtbmoimihnndboaaGreatDoorM13
set_option linter.unusedVariables false
set_option linter.unusedSimpArgs false
/- Walk: armariumlaw5.BookKeys. -/
namespace Go.Proofs.YtbmoimihnndboaaGreatDoor
open Go.Vc Go.RowKit Go.Fl Go.ChangeShapes Go.WideShapes Go.ChangeAt
theorem doK_l (l : List Ent) (seq : Int) (d : D) : (doK l seq d).1 = l ∨ ∃ es : List Ent, es.length ≤ 1 ∧ (∀ e ∈ es, e.key = d.key) ∧ (doK l seq d).1 = putK l d.key (entAt l d.key).isSome es := by
  have hk : ((entAt l d.key).getD ⟨d.key, []⟩).key = d.key := by
    cases h : entAt l d.key with
    | none => rfl
    | some e => exact (entAt_some h).2
  unfold doK
  simp only
  split
  · split
    · exact .inl rfl
    · refine .inr ⟨_, ?_, ?_, rfl⟩
      · split
        · exact Nat.zero_le _
        · exact Nat.le_refl _
      · intro e he
        split at he
        · cases he
        · rw [List.mem_singleton] at he
          rw [he]
          exact hk
  · split
    · exact .inl rfl
    · split
      · exact .inl rfl
      · split
        · exact .inl rfl
        · refine .inr ⟨_, Nat.le_refl _, ?_, rfl⟩
          intro e he
          rw [List.mem_singleton] at he
          rw [he]
          exact hk
theorem doS_l (s : Stt) (d : D) : (doS s d).1.l = s.l ∨ (doS s d).1.l = (doK s.l (s.seq + 1) d).1 := by
  cases doS_done s d with
  | form _ e => rw [e]; exact .inl rfl
  | top _ e => rw [e]; exact .inl rfl
  | old _ _ _ _ e => rw [e]; exact .inl rfl
  | told _ _ _ _ _ _ e => rw [e]; exact .inl rfl
  | full _ _ _ _ _ _ e => rw [e]; exact .inl rfl
  | new _ _ _ _ _ _ _ _ _ _ e => rw [e]; exact .inr rfl
theorem doS_len (s : Stt) (d : D) : (doS s d).1.l.length ≤ s.l.length + 1 := by
  rcases doS_l s d with h | h
  · rw [h]; omega
  · rw [h]
    rcases doK_l s.l (s.seq + 1) d with h | ⟨es, h1, _, h⟩
    · rw [h]; omega
    · rw [h, putK, List.length_append, List.length_append, List.length_take, List.length_drop]
      have := posK_le s.l d.key
      split <;> omega
theorem doS_other {s : Stt} {d : D} (hs : mayS s = true) (h5 : s.lows.length = 5) {e : Ent} (he : e ∈ s.l) (hk : e.key ≠ d.key) : entAt (doS s d).1.l e.key = some e := by
  obtain ⟨_, _, a5, _, _⟩ := mayS_parts.1 hs
  obtain ⟨_, _, b5, _, _⟩ := mayS_parts.1 (mayS_doS (d := d) h5 hs)
  rw [entAt_iff (risE_sort b5)]
  refine ⟨?_, rfl⟩
  rcases doS_l s d with h | h
  · rw [h]; exact he
  · rw [h]
    rcases doK_l s.l (s.seq + 1) d with h | ⟨es, _, _, h⟩
    · rw [h]; exact he
    · rw [h, mem_putK (risE_sort a5)]
      exact .inr ⟨he, hk⟩
theorem mayS_at {s : Stt} (h5 : s.lows.length = 5) (h : mayS s = true) {i : Nat} (hi : i < s.l.length) : entAt s.l s.l[i].key = some s.l[i] := by
  obtain ⟨_, _, a5, _, _⟩ := mayS_parts.1 h
  exact (entAt_iff (risE_sort a5)).2 ⟨List.getElem_mem hi, rfl⟩
set_option maxHeartbeats 16000000 in
theorem keysB_any (l : List D) (hl : ∀ a ∈ l, a.Ok) (A : Option Addr) (cap : Nat) (d0 : D) (hd0 : d0.Ok) (w : World) (hw : Env w) (hR : Row (inW w) w A l.length cap (l.map dC).flatten) :
    Calls Tryz.prog 18 #[.slice A l.length cap, .agg (dC d0).toArray] w (RetB (.bool true) w) := by
  have hM := row_max hR
  refine calls_vc lay_ok Tryz.func18 rfl (by kernel_rfl) (by kernel_rfl) ?_
  have hc := CtxF.start w no (fun _ h => h.elim) (R := fun _ _ => True) trivial Stab.true
  intro g3 wg3 hg3
  have hc := (hc.loc hg3).1
  refine call_b (begun5_any _ (hw.below hc.below)) ?_
  intro wQ hQ
  have hc := (hc.quiet hQ).1
  intro g6 wg6 hg6
  have hc := (hc.loc hg6).1
  refine ⟨Nat × Stt × SX, fun x => [(0, .slice A l.length cap), (3, .pointer (some ⟨g3, 0, none⟩)), (6, .pointer (some ⟨g6, 0, none⟩)), (7, .int .i64 x.1)],
    fun x w' => x.1 ≤ l.length ∧ x.1 ≤ 20 ∧ x.2.1.seq ≤ x.1 ∧ mayS x.2.1 = true ∧ x.2.1.lows.length = 5 ∧ ∃ S, CtxF no w S w' [(g6, 78, stX x.2.1 x.2.2), (g3, 23, dC d0)] [] (fun S w => RepS S w x.2.1 (stX x.2.1 x.2.2)),
    fun x _ => l.length - x.1, (0, Stt0, SX0), ⟨rfl, rfl, rfl, rfl, trivial⟩, ⟨Nat.zero_le _, Nat.zero_le _, Int.le_refl _, mayStt0, rfl, _, hc.now (fun _ => rep0X _ _) (stab_S _ _)⟩, ?_⟩
  clear hc
  rintro ⟨i, s, y⟩ w4 u ⟨hi, hi20, hsq, hm, h5, S, hc⟩
  simp only at hi hi20 hsq hm h5 hc
  have hk := mayS_ok h5 hm
  by_cases hgo : i < l.length ∧ i < 20
  · obtain ⟨hlt, hlt2⟩ := hgo
    refine split_t (decide_eq_true (by first | omega | (simp only; omega))) ?_
    refine split_t (decide_eq_true (show (i : Int) < 20 by omega)) ?_
    obtain ⟨ad, hA, hcell⟩ := RowD.elem hR i hlt
    subst hA
    have hxok := hl _ (List.getElem_mem hlt)
    generalize l[i] = x at hcell hxok
    refine Drawn.join (α := SX) (fun _ => [(0, .slice (some ad) l.length cap), (3, .pointer (some ⟨g3, 0, none⟩)), (6, .pointer (some ⟨g6, 0, none⟩)), (7, .int .i64 i)])
      (fun y1 wS => ∃ S, CtxF no w S wS [(g6, 78, stX (doS s (cutD x)).1 y1), (g3, 23, dC d0)] [] (fun S w => RepS S w (doS s (cutD x)).1 (stX (doS s (cutD x)).1 y1))) ?_ ?_
    · refine drawn lay_ok (by kernel_rfl) (.q 1 (.q 2 (.q 3 (.n 0 (.n 4 (.n 5 (.n 6 (.q 7 (.q 8 (.q 9 (.n 10 .fin .stop)))) .stop) .stop) .stop) (.n 4 (.n 0 (.n 5 (.n 6 (.q 7 (.q 8 (.q 9 (.n 10 .fin .stop)))) .stop) .stop) (.n 5 (.n 0 (.n 6 (.q 7 (.q 8 (.q 9 (.n 10 .fin .stop)))) .stop) .stop) .stop)) .stop))))) (fun _ => True) (by kernel_rfl) trivial ?_
      have hc := hc.drew
      refine ⟨⟨by first | omega | (simp only; omega), by first | omega | (simp only; omega)⟩, ?_⟩
      refine ⟨?_, ?_⟩
      · skip
        refine ⟨_, ?_, hc.cells 0 rfl, trivial, ?_⟩
        · rfl
        refine ⟨?_, trivial⟩
        refine ⟨dC x, rfl, cellsAt_later hc.below _ _ hcell, trivial, ?_⟩
        refine ⟨?_, trivial⟩
        refine call_b (deed5_any x hxok _) ?_
        intro wQ hQ
        have hc := (hc.quiet hQ).1
        refine ⟨trivial, ?_⟩
        refine ⟨?_, trivial⟩
        refine ⟨(rdo_any s (cutD x) hk (cutD_ok hxok) _ _ _ hc.ctx.lt hc.row).mono fun en wq hq => ?_⟩
        obtain ⟨cy1, e1, hq, hrep⟩ := hq
        obtain ⟨y1, rfl⟩ := hrep.stX
        have hc := (hc.call hq).1.know hrep (stab_S _ _)
        refine ⟨_, e1, trivial, ?_⟩
        refine ⟨?_, trivial⟩
        refine ⟨hc.may 0 rfl _ _ (nle rfl) rfl, ?_⟩
        intro wS hS
        have hc := (hc.set 0 rfl hS).1
        refine ⟨trivial, ?_⟩
        exact ⟨y1, ⟨rfl, rfl, rfl, rfl, trivial⟩, _, hc.now (fun h => h.2) (stab_S _ _)⟩
      refine ⟨?_, trivial⟩
      refine ⟨dC x, rfl, cellsAt_later hc.below _ _ hcell, trivial, ?_⟩
      refine ⟨?_, ?_⟩
      · skip
        refine ⟨_, ?_, hc.cells 0 rfl, trivial, ?_⟩
        · rfl
        refine ⟨?_, trivial⟩
        refine call_b (deed5_any x hxok _) ?_
        intro wQ hQ
        have hc := (hc.quiet hQ).1
        refine ⟨trivial, ?_⟩
        refine ⟨?_, trivial⟩
        refine ⟨(rdo_any s (cutD x) hk (cutD_ok hxok) _ _ _ hc.ctx.lt hc.row).mono fun en wq hq => ?_⟩
        obtain ⟨cy1, e1, hq, hrep⟩ := hq
        obtain ⟨y1, rfl⟩ := hrep.stX
        have hc := (hc.call hq).1.know hrep (stab_S _ _)
        refine ⟨_, e1, trivial, ?_⟩
        refine ⟨?_, trivial⟩
        refine ⟨hc.may 0 rfl _ _ (nle rfl) rfl, ?_⟩
        intro wS hS
        have hc := (hc.set 0 rfl hS).1
        refine ⟨trivial, ?_⟩
        exact ⟨y1, ⟨rfl, rfl, rfl, rfl, trivial⟩, _, hc.now (fun h => h.2) (stab_S _ _)⟩
      refine ⟨?_, trivial⟩
      refine call_b (deed5_any x hxok _) ?_
      intro wQ hQ
      have hc := (hc.quiet hQ).1
      refine ⟨trivial, ?_⟩
      refine ⟨?_, trivial⟩
      refine ⟨_, ?_, hc.cells 0 rfl, trivial, ?_⟩
      · rfl
      refine ⟨?_, trivial⟩
      refine ⟨(rdo_any s (cutD x) hk (cutD_ok hxok) _ _ _ hc.ctx.lt hc.row).mono fun en wq hq => ?_⟩
      obtain ⟨cy1, e1, hq, hrep⟩ := hq
      obtain ⟨y1, rfl⟩ := hrep.stX
      have hc := (hc.call hq).1.know hrep (stab_S _ _)
      refine ⟨_, e1, trivial, ?_⟩
      refine ⟨?_, trivial⟩
      refine ⟨hc.may 0 rfl _ _ (nle rfl) rfl, ?_⟩
      intro wS hS
      have hc := (hc.set 0 rfl hS).1
      refine ⟨trivial, ?_⟩
      exact ⟨y1, ⟨rfl, rfl, rfl, rfl, trivial⟩, _, hc.now (fun h => h.2) (stab_S _ _)⟩
    clear hc
    rintro y1 u wS hc
    have hsn := doS_seq s (cutD x)
    exact ⟨(i + 1, _, y1), ⟨rfl, rfl, rfl, congrArg _ (i_down (by omega)), trivial⟩, ⟨hlt, by omega, Int.le_trans hsn (show s.seq + 1 ≤ ((i + 1 : Nat) : Int) by omega), mayS_doS h5 hm, doS_lows5 _ h5, hc⟩, by show l.length - (i + 1) < l.length - i; omega⟩
  obtain ⟨a, ha⟩ : ∃ a, a = cutD d0 := ⟨_, rfl⟩
  have hda := deed5_any d0 hd0
  have hok := cutD_ok hd0
  rw [← ha] at hda hok
  obtain ⟨t, r, hdo⟩ : ∃ t r, doS s a = (t, r) := ⟨_, _, rfl⟩
  have hoth := fun (e : Ent) he hke => doS_other (d := a) hm h5 (e := e) he hke
  have hlen := doS_len s a
  have hseq := doS_seq s a
  have hseq0 := (mayS_parts.1 hm).1
  have hln := (mayS_parts.1 hm).2.1.1
  have hmt := mayS_doS (d := a) h5 hm
  have h5t := doS_lows5 a h5
  rw [hdo] at hoth hlen hseq hmt h5t
  simp only at hoth hlen hseq hmt h5t
  by_cases hlt : i < l.length
  refine split_t (decide_eq_true (by first | omega | (simp only; omega))) ?_
  refine split_f (decide_eq_false (show ¬ (i : Int) < 20 by omega)) ?_
  rotate_left
  refine split_f (decide_eq_false (by first | omega | (simp only; omega))) ?_
  rotate_left
  all_goals
    refine ⟨_, ?_, hc.cells 1 rfl, ?_⟩
    · rfl
    refine call_b (hda _) ?_
    intro wQ hQ
    have hc := (hc.quiet hQ).1
    refine ⟨hc.may 1 rfl _ _ (nle rfl) rfl, ?_⟩
    intro wS hS
    have hc := (hc.set 1 rfl hS).1
    refine ⟨_, ?_, hc.cells 0 rfl, ?_⟩
    · rfl
    refine ⟨_, ?_, hc.cells 1 rfl, ?_⟩
    · rfl
    refine ⟨(bdo_any s a (foldS_keys hm h5) hok _ _ _ hc.ctx.lt hc.row).mono fun en wq hq => ?_⟩
    rw [hdo] at hq
    obtain ⟨c1, e1, hq, hrep⟩ := hq
    obtain ⟨y1, rfl⟩ := hrep.stX
    have hc := (hc.call hq).1.know hrep (stab_S _ _)
    refine ⟨_, e1, ?_⟩
    intro g8 wg8 hg8
    have hc := (hc.loc hg8).1
    intro g9 wg9 hg9
    have hc := (hc.loc hg9).1
    refine ⟨hc.may 1 rfl _ _ (nle rfl) rfl, ?_⟩
    intro wS hS
    have hc := (hc.set 1 rfl hS).1
    refine ⟨hc.may 0 rfl _ _ (nle rfl) rfl, ?_⟩
    intro wS hS
    have hc := (hc.set 0 rfl hS).1
    obtain ⟨yA, yc, yB, yd, q0, q1, q2, q3, q4⟩ := y
    obtain ⟨zA, zc, zB, zd, p0, p1, p2, p3, p4⟩ := y1
    refine ⟨Nat, fun j => [(3, .pointer (some ⟨g3, 0, none⟩)), (6, .pointer (some ⟨g6, 0, none⟩)), (8, .pointer (some ⟨g8, 0, none⟩)), (10, .int .i64 j)],
      fun j w' => j ≤ s.l.length ∧ ∃ S, CtxF no w S w' [(g8, 78, stX t ⟨zA, zc, zB, zd, p0, p1, p2, p3, p4⟩), (g6, 78, stX s ⟨yA, yc, yB, yd, q0, q1, q2, q3, q4⟩), (g3, 23, dC a)] [] (fun S w => RepS S w s (stX s ⟨yA, yc, yB, yd, q0, q1, q2, q3, q4⟩) ∧ RepS S w t (stX t ⟨zA, zc, zB, zd, p0, p1, p2, p3, p4⟩)), fun j _ => s.l.length - j, 0,
      ⟨rfl, rfl, rfl, rfl, trivial⟩, ⟨Nat.zero_le _, _, hc.drop⟩, ?_⟩
    clear hc
    rintro j w5 u5 ⟨hj, S, hc⟩
    obtain ⟨A1, cap1, css1, B1, capb1, x0, x1, x2, x3, x4, ecs, _, hE1, hR1, _⟩ := hc.row.1.shape
    obtain ⟨rfl, rfl⟩ : yA = A1 ∧ yc = cap1 := by
      unfold stX at ecs
      simp only [List.cons.injEq, Value.slice.injEq] at ecs
      exact ⟨ecs.2.1.1, ecs.2.1.2.2⟩
    have hM1 := row_max hR1
    refine ⟨_, hc.cell 1 rfl _ rfl, ?_⟩
    by_cases hltj : j < s.l.length
    · refine split_t (decide_eq_true (by first | omega | (simp only; omega))) ?_
      obtain ⟨ad1, A2, c2, hA1, hcell1, hv1⟩ := RowE.elem hR1 hE1 j hltj
      subst hA1
      have hmem := List.getElem_mem hltj
      generalize s.l[j] = e at hcell1 hv1 hmem
      have hpl := fun S w hs => rplace_any t e.key (stX t ⟨zA, zc, zB, zd, p0, p1, p2, p3, p4⟩) S w hs
      obtain ⟨ae, hae⟩ : ∃ ae, ae = ad1.add ((j : Int).toNat * 2) := ⟨_, rfl⟩
      have hcell0 : Go.Vc.cellsAt w5 ae [.string e.key, .slice A2 e.vs.length c2] 0 := by
        rw [hae]
        exact hcell1
      obtain ⟨ab, ao, asub⟩ := ae
      have hr := hc
      refine drawn lay_ok (by kernel_rfl) (.q 0 (.q 1 (.q 2 (.q 3 (.q 4 (.q 5 (.q 6 (.n 7 (.q 8 (.q 9 (.q 10 (.q 11 (.q 12 .fin))))) .stop)))))))) (Old _) (by kernel_rfl) (Old.start _) ?_
      have hk := hc.old0
      have hc := hc.drew
      refine ⟨_, ?_, fun x hx => Keeps.cells hx (hr.blk 0 rfl) (hr.blk 0 rfl).lt, ?_⟩
      · rfl
      refine ⟨_, fun x hx => Keeps.cell hx (hr.blk 1 rfl) (hr.blk 1 rfl).lt rfl, ?_⟩
      refine ⟨⟨by first | omega | (simp only; omega), by first | omega | (simp only; omega)⟩, ?_⟩
      rw [← hae]
      refine ⟨_, fun x hx => (Old.looks hx hcell0).1, ?_⟩
      refine ⟨?_, trivial⟩
      refine call_b (hpl _ _ hc.row.2) ?_
      intro wA hA
      have hc := (hc.quiet hA).1
      have hk := Keeps.below hk (fun _ h => h) hA
      refine ⟨hk, ?_⟩
      clear hk
      clear hr
      have hcell0 := cellsAt_later (show Below w5.heap.size w5 wA from (Below.refl _ _).drew.trans hA) _ _ hcell0
      have hcell1 := cellsAt_later (show Below w5.heap.size w5 wA from (Below.refl _ _).drew.trans hA) _ _ hcell1
      have hv1 := hv1.below (show Below w5.heap.size w5 wA from (Below.refl _ _).drew.trans hA)
      have hr := hc
      refine drawn lay_ok (by kernel_rfl) (.q 0 (.q 1 (.q 2 (.q 3 (.q 4 (.q 5 (.q 6 (.q 7 (.q 8 (.q 9 (.q 10 (.q 11 (.q 12 (.q 13 (.q 14 (.q 15 (.q 16 (.q 17 (.q 18 (.q 19 (.q 20 (.q 21 (.q 22 (.n 23 (.q 24 (.q 25 (.q 26 .fin))) .stop)))))))))))))))))))))))) (Old _) (by kernel_rfl) (Old.start _) ?_
      have hk := hc.old0
      have hc := hc.drew
      refine ⟨_, fun x hx => Keeps.cell hx (hr.blk 1 rfl) (hr.blk 1 rfl).lt rfl, ?_⟩
      refine ⟨⟨by first | omega | (simp only; omega), by first | omega | (simp only; omega)⟩, ?_⟩
      rw [← hae]
      refine ⟨_, fun x hx => (Old.looks hx hcell0).1, ?_⟩
      refine ⟨_, fun x hx => Keeps.cell hx (hr.blk 2 rfl) (hr.blk 2 rfl).lt rfl, ?_⟩
      rcases Bool.eq_false_or_eq_true (strEq e.key a.key) with hke | hke
      · refine split_f (by rw [hke]; rfl) ?_
        refine ⟨?_, trivial⟩
        exact ⟨j + 1, ⟨rfl, rfl, rfl, congrArg _ (i_down (by omega)), trivial⟩, ⟨hltj, _, hc⟩, by show s.l.length - (j + 1) < s.l.length - j; omega⟩
      refine split_t (by rw [hke]; rfl) ?_
      have hent := hoth e hmem (fun h => by rw [strEq_iff.2 h] at hke; cases hke)
      refine split_f (by rw [hent]; rfl) ?_
      obtain ⟨hpos, hkey⟩ := entAt_some hent
      obtain ⟨hplt, hpe⟩ := List.getElem?_eq_some_iff.1 hpos
      obtain ⟨A3, cap3, css3, B3, capb3, x0, x1, x2, x3, x4, ecs3, _, hE3, hR3, _⟩ := hr.row.2.shape
      obtain ⟨rfl, rfl⟩ : zA = A3 ∧ zc = cap3 := by
        unfold stX at ecs3
        simp only [List.cons.injEq, Value.slice.injEq] at ecs3
        exact ⟨ecs3.2.1.1, ecs3.2.1.2.2⟩
      obtain ⟨ad3, A4, c4, hA3, hcell3, hv3⟩ := RowE.elem hR3 hE3 (posK t.l e.key) hplt
      subst hA3
      rw [hpe] at hcell3 hv3
      refine ⟨_, fun x hx => Keeps.cell hx (hr.blk 0 rfl) (hr.blk 0 rfl).lt rfl, ?_⟩
      refine ⟨⟨by omega, by omega⟩, ?_⟩
      refine ⟨[.string e.key, .slice A4 e.vs.length c4], rfl, fun x hx => Old.looks hx hcell3, ?_⟩
      refine ⟨_, fun x hx => Keeps.cell hx (hr.blk 1 rfl) (hr.blk 1 rfl).lt rfl, ?_⟩
      refine ⟨⟨by first | omega | (simp only; omega), by first | omega | (simp only; omega)⟩, ?_⟩
      refine ⟨[.string e.key, .slice A2 e.vs.length c2], rfl, fun x hx => Old.looks hx hcell1, ?_⟩
      have hQ1 := reqE_any e e A4 A2 c4 c2 _ _ (hv3.below (Below.refl _ _).drew) (hv1.below (Below.refl _ _).drew)
      rw [eqE_iff.2 rfl] at hQ1
      refine ⟨?_, trivial⟩
      refine call_b (hQ1) ?_
      intro wA hA
      have hc := (hc.quiet hA).1
      have hk := Keeps.below hk (fun _ h => h) hA
      refine ⟨hk, ?_⟩
      exact ⟨j + 1, ⟨rfl, rfl, rfl, congrArg _ (i_down (by omega)), trivial⟩, ⟨hltj, _, hc⟩, by show s.l.length - (j + 1) < s.l.length - j; omega⟩
    refine split_f (decide_eq_false (by first | omega | (simp only; omega))) ?_
    refine ⟨_, hc.cell 0 rfl _ rfl, ?_⟩
    refine ⟨_, hc.cell 1 rfl _ rfl, ?_⟩
    refine split_t (decide_eq_true (by rw [IntWalk.i64_in _ ⟨by omega, by omega⟩]; omega)) ?_
    refine ⟨_, hc.cell 0 rfl _ rfl, ?_⟩
    refine ⟨_, hc.cell 1 rfl _ rfl, ?_⟩
    exact ⟨ret_bool (decide_eq_true (by rw [IntWalk.i64_in _ ⟨by omega, by omega⟩]; omega)), hc.below⟩
set_option maxRecDepth 100000 in
theorem bookKeys_ct {H : Type} (enc : TypeId × Value → H) (W : World) (hw : Env W) {base : Nat}
    (v0 : Value) (d0 : DataW H) (p0 : List MemPlace) (h0 : DataW.Trod enc Tryz.prog W 0 (fun _ => true) true 87 v0 d0 p0) (k0 : Value.okWide Tryz.prog W .any base 87 v0)
    (v1 : Value) (d1 : DataW H) (p1 : List MemPlace) (h1 : DataW.Trod enc Tryz.prog W 0 (fun _ => true) true 23 v1 d1 p1) (k1 : Value.okWide Tryz.prog W .any base 23 v1) :
    Calls Tryz.prog 18 #[v0, v1] W (RetB (.bool true) W) := by
  obtain ⟨A0, c0, a0, rfl, r0, o0⟩ := open_deeds h0 k0
  obtain ⟨a1, rfl, o1⟩ := open_deed h1 k1
  exact keysB_any a0 o0 A0 c0 a1 o1 W hw r0
end Go.Proofs.YtbmoimihnndboaaGreatDoor
