import Derived.Test.YtbmoimihnndboaaGreatDoorM12
set_option linter.unusedVariables false
set_option linter.unusedSimpArgs false
/- Walk: armariumlaw5.BookReads. -/
namespace Go.Proofs.YtbmoimihnndboaaGreatDoor
open Go.Vc Go.RowKit Go.Fl Go.ChangeShapes Go.WideShapes Go.ChangeAt
theorem told_eq {s : Stt} (hp : SortM s.ms) (n : Int) : (match memAt s.ms n with | none => (⟨0, 0⟩ : Res) | some m => m.res) = (toldS s n).1 ∧ (memAt s.ms n).isSome = (toldS s n).2 := by
  unfold toldS
  rw [idxM_mem' hp]
  cases memAt s.ms n <;> exact ⟨rfl, rfl⟩
theorem rtold' (s : Stt) (hp : SortM s.ms) (n : Int) (cs : List Value) (S : Nat → Prop) (w : World) (hs : RepS S w s cs) : Calls Tryz.prog 82 #[.agg cs.toArray, .int .i64 n] w (RetB (.tuple #[.agg #[.int .i64 (toldS s n).1.err, .int .i64 (toldS s n).1.ver], .bool (toldS s n).2]) w) := by
  have h := rtold_any s n cs S w hs
  rw [← (told_eq hp n).1, ← (told_eq hp n).2]
  exact h
theorem keyC_flat (l : List Ent) : (l.map fun e => [keyC e]).flatten = l.map keyC := by
  induction l with
  | nil => rfl
  | cons e r ih =>
    rw [List.map_cons, List.flatten_cons, ih]
    rfl
theorem RowK.elem {S : Nat → Prop} {w : World} {A : Option Addr} {n cap : Nat} {l : List Ent} (hR : Row S w A n cap (l.map keyC)) (i : Nat) (hi : i < l.length) : ∃ ad, A = some ad ∧ Go.Vc.cellsAt w (ad.add (i * 1)) [.string l[i].key] 0 := by
  rw [← keyC_flat] at hR
  obtain ⟨ad, e, h⟩ := Row.elemF hR (by decide) (Flat.map (fun e : Ent => [keyC e]) (fun e => ⟨rfl, rfl⟩) l) i (by rw [List.length_map]; exact hi)
  rw [List.getElem_map] at h
  exact ⟨ad, e, h⟩
theorem mayS_sorts {s : Stt} (h : mayS s = true) : SortK s.l ∧ SortM s.ms ∧ s.l.length ≤ 1000000 ∧ (∀ e ∈ s.l, e.vs.length ≤ 1000000 ∧ e.vs.length ≠ 0) := by
  obtain ⟨⟨a1, a2⟩, ⟨a3, a4⟩, a5, a6, a7⟩ := mayS_parts.1 h
  refine ⟨risE_sort a5, memB_sort a7, by omega, fun e he => ?_⟩
  have hp := mayE_parts.1 (((risE_iff _ _ _).1 a5).1 e he).1
  omega
set_option maxHeartbeats 16000000 in
theorem readsB5_any (s : Stt) (hs : s.Ok) (cs : List Value) (key pre aft : ByteArray) (h1 : key.size ≤ 9223372036854775807) (h2 : pre.size ≤ 9223372036854775807) (h3 : aft.size ≤ 9223372036854775807) (ver most req : Int) (w : World) (hw : Env w) (hR : RepS (inW w) w s cs) :
    Calls Tryz.prog 22 #[.agg cs.toArray, .string key, .string pre, .string aft, .int .i64 ver, .int .i64 most, .int .i64 req] w (RetB (.bool true) w) := by
  obtain ⟨x0, rfl⟩ := hR.stX
  obtain ⟨a, ha⟩ : ∃ t, t = cutS s := ⟨_, rfl⟩
  have hsa := state5_any s hs (stX s x0)
  have hka := cutS_ok hs
  have ha5 : a.lows.length = 5 := ha ▸ hR.five
  rw [← ha] at hsa hka
  have hc1 := fun w => cutN_any key 42 w h1
  have hc2 := fun w => cutN_any pre 5 w h2
  have hc3 := fun w => cutN_any aft 42 w h3
  generalize cut key 42 = k at *
  generalize cut pre 5 = p at *
  generalize cut aft 42 = f at *
  refine calls_vc lay_ok Tryz.func22 rfl (by kernel_rfl) (by kernel_rfl) ?_
  have hc := CtxF.start w no (fun _ h => h.elim) (R := fun _ _ => True) trivial Stab.true
  intro g7 wg7 hg7
  have hc := (hc.loc hg7).1
  refine call_b (begun5_any _ (hw.below hc.below)) ?_
  intro wQ hQ
  have hc := (hc.quiet hQ).1
  refine ⟨_, ?_, hc.cells 0 rfl, ?_⟩
  · rfl
  refine ⟨(hsa (inW w) _ (hR.below hc.below)).mono fun en wq hq => ?_⟩
  obtain ⟨cy, e1, hq, hrep⟩ := hq
  obtain ⟨y, rfl⟩ := hrep.stX
  have hc := (hc.call hq).1.know (X := fun S w => RepS S w _ (stX _ y)) (hrep.map fun h => h.sub fun b h => h.elim (fun h => h.elim) .inr) (stab_S _ _)
  refine ⟨_, e1, ?_⟩
  refine ⟨hc.may 0 rfl _ _ (nle rfl) rfl, ?_⟩
  intro wS hS
  have hc := (hc.set 0 rfl hS).1
  refine ⟨_, ?_, hc.cells 0 rfl, ?_⟩
  · rfl
  refine call_b (rmayS_any a hka _ _ _ hc.row.2) ?_
  intro wQ hQ
  have hc := (hc.quiet hQ).1
  rcases Bool.eq_false_or_eq_true (mayS a) with hm | hm
  rotate_left
  · refine split_t (by rw [hm]; rfl) ?_
    refine ⟨_, ?_, hc.cells 0 rfl, ?_⟩
    · rfl
    refine call_b (bmay_any a (fun e he => (hka.l e he).key) _ _ _ hc.row.2) ?_
    intro wQ hQ
    have hc := (hc.quiet hQ).1
    exact ⟨ret_bool (by rw [hm]; rfl), hc.below⟩
  refine split_f (by rw [hm]; rfl) ?_
  obtain ⟨hsk, hsm, hln, hvn⟩ := mayS_sorts hm
  refine call_b (hc1 _) ?_
  intro wQ hQ
  have hc := (hc.quiet hQ).1
  refine call_b (hc2 _) ?_
  intro wQ hQ
  have hc := (hc.quiet hQ).1
  refine call_b (hc3 _) ?_
  intro wQ hQ
  have hc := (hc.quiet hQ).1
  refine ⟨_, ?_, hc.cells 0 rfl, ?_⟩
  · rfl
  refine call_b (bget_any a k ver _ _ _ hc.row.2) ?_
  intro wQ hQ
  have hc := (hc.quiet hQ).1
  intro g16 wg16 hg16
  have hc := (hc.loc hg16).1
  refine ⟨hc.may 0 rfl _ _ (nle rfl) rfl, ?_⟩
  intro wS hS
  have hc := (hc.set 0 rfl hS).1
  refine ⟨_, ?_, hc.cells 1 rfl, ?_⟩
  · rfl
  have hg := rget_any a (fun e he => (hvn e he).2) k ver _ _ _ hc.row.2
  rw [← getS_at hsk] at hg
  refine call_b (hg) ?_
  intro wQ hQ
  have hc := (hc.quiet hQ).1
  intro g18 wg18 hg18
  have hc := (hc.loc hg18).1
  refine ⟨hc.may 0 rfl _ _ (nle rfl) rfl, ?_⟩
  intro wS hS
  have hc := (hc.set 0 rfl hS).1
  refine ⟨_, ?_, hc.cells 2 rfl, ?_⟩
  · rfl
  refine ⟨(bnames_any a p f most hln (fun e he => (hvn e he).1) _ _ _ hc.row.2).mono fun en wq hq => ?_⟩
  obtain ⟨A1, c1, e1, hq, hrow⟩ := hq
  have hc := (hc.call hq).1.know (hrow.sub fun b h => h.elim (fun h => h.elim) .inr) (stab_row _ _ _ _)
  refine ⟨_, e1, ?_⟩
  refine ⟨_, ?_, hc.cells 2 rfl, ?_⟩
  · rfl
  refine ⟨(rnames_any a p f most hln _ _ _ hc.ctx.lt hc.row.1.2).mono fun en wq hq => ?_⟩
  obtain ⟨A2, c2, e1, hq, hrow⟩ := hq
  have hc := (hc.call hq).1.know hrow (stab_row _ _ _ _)
  refine ⟨_, e1, ?_⟩
  refine ⟨_, ?_, hc.cells 2 rfl, ?_⟩
  · rfl
  refine ⟨(bversions_any a p f most hln (fun e he => (hvn e he).1) _ _ _ hc.row.1.1.2).mono fun en wq hq => ?_⟩
  obtain ⟨A3, c3, css3, e1, hq, hE3, hR3⟩ := hq
  have hc := (hc.call hq).1.know (X := fun S w => RepEs S w _ css3 ∧ Row S w A3 _ c3 css3.flatten) ⟨hE3.wide fun b h => h.elim (fun h => h.elim) .inr, hR3.sub fun b h => h.elim (fun h => h.elim) .inr⟩ (stab_P _ _ _ _)
  refine ⟨_, e1, ?_⟩
  refine ⟨_, ?_, hc.cells 2 rfl, ?_⟩
  · rfl
  refine ⟨(rversions_any a p f most hln _ _ _ hc.ctx.lt hc.row.1.1.1.2).mono fun en wq hq => ?_⟩
  obtain ⟨A4, c4, css4, e1, hq, hE4, hR4⟩ := hq
  have hc := (hc.call hq).1.know (X := fun S w => RepEs S w _ css4 ∧ Row S w A4 _ c4 css4.flatten) ⟨hE4, hR4⟩ (stab_P _ _ _ _)
  refine ⟨_, e1, ?_⟩
  refine ⟨_, ?_, hc.cells 2 rfl, ?_⟩
  · rfl
  refine call_b (btold_any a req _ _ _ hc.row.1.1.1.1.2) ?_
  intro wQ hQ
  have hc := (hc.quiet hQ).1
  intro g28 wg28 hg28
  have hc := (hc.loc hg28).1
  refine ⟨hc.may 0 rfl _ _ (nle rfl) rfl, ?_⟩
  intro wS hS
  have hc := (hc.set 0 rfl hS).1
  refine ⟨_, ?_, hc.cells 3 rfl, ?_⟩
  · rfl
  refine call_b (rtold' a hsm req _ _ _ hc.row.1.1.1.1.2) ?_
  intro wQ hQ
  have hc := (hc.quiet hQ).1
  intro g30 wg30 hg30
  have hc := (hc.loc hg30).1
  refine ⟨hc.may 0 rfl _ _ (nle rfl) rfl, ?_⟩
  intro wS hS
  have hc := (hc.set 0 rfl hS).1
  have hn1 := pageS_len a p f most true
  have hn2 := pageS_len a p f most false
  generalize pageS a p f most true = q1 at *
  generalize pageS a p f most false = q2 at *
  generalize getS a k ver = r1 at *
  generalize toldS a req = r2 at *
  obtain ⟨l1, b1⟩ := q1
  obtain ⟨l2, b2⟩ := q2
  obtain ⟨v1, i1⟩ := r1
  obtain ⟨v2, i2⟩ := r2
  simp only at *
  refine ⟨Nat, fun i => [(16, .pointer (some ⟨g16, 0, none⟩)), (17, .int .i64 i1), (18, .pointer (some ⟨g18, 0, none⟩)), (19, .int .i64 i1), (20, .slice A1 l1.length c1), (21, .bool b1), (22, .slice A2 l1.length c2), (23, .bool b1), (24, .slice A3 l2.length c3), (25, .bool b2), (26, .slice A4 l2.length c4), (27, .bool b2), (28, .pointer (some ⟨g28, 0, none⟩)), (29, .bool i2), (30, .pointer (some ⟨g30, 0, none⟩)), (31, .bool i2), (32, .int .i64 i)],
    fun i w' => i ≤ l1.length ∧ ∃ S, CtxF no w S w' [(g30, 89, [.int .i64 v2.err, .int .i64 v2.ver]), (g28, 89, [.int .i64 v2.err, .int .i64 v2.ver]), (g18, 60, verC v1), (g16, 60, verC v1), (g7, 78, stX a y)] []
      (fun S w => (Row S w A1 l1.length c1 (l1.map keyC) ∧ Row S w A2 l1.length c2 (l1.map keyC)) ∧ (RepEs S w l2 css3 ∧ Row S w A3 l2.length c3 css3.flatten) ∧ (RepEs S w l2 css4 ∧ Row S w A4 l2.length c4 css4.flatten)), fun i _ => l1.length - i, 0,
    ⟨rfl, rfl, rfl, rfl, rfl, rfl, rfl, rfl, rfl, rfl, rfl, rfl, rfl, rfl, rfl, rfl, rfl, trivial⟩, ⟨Nat.zero_le _, _, hc.now (fun h => ⟨⟨h.1.1.1.2, h.1.1.2⟩, h.1.2, h.2⟩) (((stab_row _ _ _ _).and (stab_row _ _ _ _)).and ((stab_P _ _ _ _).and (stab_P _ _ _ _)))⟩, ?_⟩
  clear hc
  rintro i w4 u ⟨hi, S, hc⟩
  by_cases hlt : i < l1.length
  · refine split_t (decide_eq_true (by first | omega | (simp only; omega))) ?_
    refine split_t (decide_eq_true (by first | omega | (simp only; omega))) ?_
    obtain ⟨ad, rfl, hcell⟩ := RowK.elem hc.row.1.1 i hlt
    obtain ⟨ad2, rfl, hcell2⟩ := RowK.elem hc.row.1.2 i hlt
    have hr := hc
    refine drawn lay_ok (by kernel_rfl) (.q 0 (.q 1 (.q 2 (.q 3 (.q 4 (.q 5 (.q 6 (.q 7 (.q 8 .fin))))))))) (Old _) (by kernel_rfl) (Old.start _) ?_
    have hk := hc.old0
    have hc := hc.drew
    refine ⟨⟨by omega, by omega⟩, ?_⟩
    refine ⟨_, fun x hx => (Old.looks hx hcell).1, ?_⟩
    refine ⟨⟨by omega, by omega⟩, ?_⟩
    refine ⟨_, fun x hx => (Old.looks hx hcell2).1, ?_⟩
    refine split_f (by rw [strEq_iff.2 rfl]; rfl) ?_
    exact ⟨i + 1, ⟨rfl, rfl, rfl, rfl, rfl, rfl, rfl, rfl, rfl, rfl, rfl, rfl, rfl, rfl, rfl, rfl, congrArg _ (i_down (by omega)), trivial⟩, ⟨hlt, _, hc⟩, by show l1.length - (i + 1) < l1.length - i; omega⟩
  refine split_f (decide_eq_false (by first | omega | (simp only; omega))) ?_
  clear hi hlt
  refine ⟨Nat, fun i => [(16, .pointer (some ⟨g16, 0, none⟩)), (17, .int .i64 i1), (18, .pointer (some ⟨g18, 0, none⟩)), (19, .int .i64 i1), (20, .slice A1 l1.length c1), (21, .bool b1), (22, .slice A2 l1.length c2), (23, .bool b1), (24, .slice A3 l2.length c3), (25, .bool b2), (26, .slice A4 l2.length c4), (27, .bool b2), (28, .pointer (some ⟨g28, 0, none⟩)), (29, .bool i2), (30, .pointer (some ⟨g30, 0, none⟩)), (31, .bool i2), (33, .int .i64 i)],
    fun i w' => i ≤ l2.length ∧ ∃ S, CtxF no w S w' [(g30, 89, [.int .i64 v2.err, .int .i64 v2.ver]), (g28, 89, [.int .i64 v2.err, .int .i64 v2.ver]), (g18, 60, verC v1), (g16, 60, verC v1), (g7, 78, stX a y)] []
      (fun S w => (Row S w A1 l1.length c1 (l1.map keyC) ∧ Row S w A2 l1.length c2 (l1.map keyC)) ∧ (RepEs S w l2 css3 ∧ Row S w A3 l2.length c3 css3.flatten) ∧ (RepEs S w l2 css4 ∧ Row S w A4 l2.length c4 css4.flatten)), fun i _ => l2.length - i, 0,
    ⟨rfl, rfl, rfl, rfl, rfl, rfl, rfl, rfl, rfl, rfl, rfl, rfl, rfl, rfl, rfl, rfl, rfl, trivial⟩, ⟨Nat.zero_le _, _, hc⟩, ?_⟩
  clear hc
  clear S
  rintro i w4 u ⟨hi, S, hc⟩
  by_cases hlt : i < l2.length
  · refine split_t (decide_eq_true (by first | omega | (simp only; omega))) ?_
    refine split_t (decide_eq_true (by first | omega | (simp only; omega))) ?_
    obtain ⟨ad, B1, d1, rfl, hcell, hv1⟩ := RowE.elem hc.row.2.1.2 hc.row.2.1.1 i hlt
    obtain ⟨ad2, B2, d2, rfl, hcell2, hv2⟩ := RowE.elem hc.row.2.2.2 hc.row.2.2.1 i hlt
    generalize l2[i] = x at hcell hcell2 hv1 hv2
    have hr := hc
    refine drawn lay_ok (by kernel_rfl) (.q 0 (.q 1 (.q 2 (.q 3 (.q 4 (.q 5 (.q 6 (.q 7 (.n 8 (.q 9 .fin) .stop))))))))) (Old _) (by kernel_rfl) (Old.start _) ?_
    have hk := hc.old0
    have hc := hc.drew
    refine ⟨⟨by omega, by omega⟩, ?_⟩
    refine ⟨[.string x.key, .slice B1 x.vs.length d1], rfl, fun z hz => Old.looks hz hcell, ?_⟩
    refine ⟨⟨by omega, by omega⟩, ?_⟩
    refine ⟨[.string x.key, .slice B2 x.vs.length d2], rfl, fun z hz => Old.looks hz hcell2, ?_⟩
    have hE := fun z (hb : Below w4.heap.size w4 z) => reqE_any x x B1 B2 d1 d2 _ z (hv1.below hb) (hv2.below hb)
    rw [eqE_iff.2 rfl] at hE
    refine ⟨?_, trivial⟩
    refine call_b (hE _ (Below.refl _ _).drew) ?_
    intro wA hA
    have hc := (hc.quiet hA).1
    have hk := Keeps.below hk (fun _ h => h) hA
    refine ⟨hk, ?_⟩
    exact ⟨i + 1, ⟨rfl, rfl, rfl, rfl, rfl, rfl, rfl, rfl, rfl, rfl, rfl, rfl, rfl, rfl, rfl, rfl, congrArg _ (i_down (by omega)), trivial⟩, ⟨hlt, _, hc⟩, by show l2.length - (i + 1) < l2.length - i; omega⟩
  refine split_f (decide_eq_false (by first | omega | (simp only; omega))) ?_
  refine ⟨_, ?_, hc.cells 3 rfl, ?_⟩
  · rfl
  refine ⟨_, ?_, hc.cells 2 rfl, ?_⟩
  · rfl
  refine ⟨.bool true, fun w => ver_self v1 _ _ w, ?_⟩
  refine split_t (by simp) ?_
  refine split_t (by simp) ?_
  refine split_t (by simp) ?_
  refine split_t (by simp) ?_
  refine split_t (by simp) ?_
  refine ⟨_, ?_, hc.cells 1 rfl, ?_⟩
  · rfl
  refine ⟨_, ?_, hc.cells 0 rfl, ?_⟩
  · rfl
  refine ⟨.bool true, fun w => res_self v2 _ _ w, ?_⟩
  exact ⟨ret_bool (by simp), hc.below⟩
set_option maxRecDepth 100000 in
theorem bookReads_ct {H : Type} (enc : TypeId × Value → H) (W : World) (hw : Env W) {base : Nat}
    (v0 : Value) (d0 : DataW H) (p0 : List MemPlace) (h0 : DataW.Trod enc Tryz.prog W 0 (fun _ => true) true 78 v0 d0 p0) (k0 : Value.okWide Tryz.prog W .any base 78 v0)
    (v1 : Value) (d1 : DataW H) (p1 : List MemPlace) (h1 : DataW.Trod enc Tryz.prog W 0 (fun _ => true) true 9 v1 d1 p1) (k1 : Value.okWide Tryz.prog W .any base 9 v1)
    (v2 : Value) (d2 : DataW H) (p2 : List MemPlace) (h2 : DataW.Trod enc Tryz.prog W 0 (fun _ => true) true 9 v2 d2 p2) (k2 : Value.okWide Tryz.prog W .any base 9 v2)
    (v3 : Value) (d3 : DataW H) (p3 : List MemPlace) (h3 : DataW.Trod enc Tryz.prog W 0 (fun _ => true) true 9 v3 d3 p3) (k3 : Value.okWide Tryz.prog W .any base 9 v3)
    (v4 : Value) (d4 : DataW H) (p4 : List MemPlace) (h4 : DataW.Trod enc Tryz.prog W 0 (fun _ => true) true 2 v4 d4 p4) (k4 : Value.okWide Tryz.prog W .any base 2 v4)
    (v5 : Value) (d5 : DataW H) (p5 : List MemPlace) (h5 : DataW.Trod enc Tryz.prog W 0 (fun _ => true) true 3 v5 d5 p5) (k5 : Value.okWide Tryz.prog W .any base 3 v5)
    (v6 : Value) (d6 : DataW H) (p6 : List MemPlace) (h6 : DataW.Trod enc Tryz.prog W 0 (fun _ => true) true 2 v6 d6 p6) (k6 : Value.okWide Tryz.prog W .any base 2 v6) :
    Calls Tryz.prog 22 #[v0, v1, v2, v3, v4, v5, v6] W (RetB (.bool true) W) := by
  obtain ⟨a0, s0, rfl, r0, o0⟩ := open_state h0 k0
  obtain ⟨a1, rfl, o1⟩ := open_str h1 k1
  obtain ⟨a2, rfl, o2⟩ := open_str h2 k2
  obtain ⟨a3, rfl, o3⟩ := open_str h3 k3
  obtain ⟨a4, rfl, o4⟩ := open_i64 Tryz.underlying2 h4 k4
  obtain ⟨a5, rfl, o5⟩ := open_i64 Tryz.underlying3 h5 k5
  obtain ⟨a6, rfl, o6⟩ := open_i64 Tryz.underlying2 h6 k6
  exact readsB5_any a0 o0 s0 a1 a2 a3 (Nat.le_trans o1 (by decide)) (Nat.le_trans o2 (by decide)) (Nat.le_trans o3 (by decide)) a4 a5 a6 W hw r0
end Go.Proofs.YtbmoimihnndboaaGreatDoor
