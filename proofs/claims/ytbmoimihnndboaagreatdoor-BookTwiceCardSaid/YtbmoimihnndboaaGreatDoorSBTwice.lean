import Derived.Test.YtbmoimihnndboaaGreatDoorM13
import Derived.SizedLaws
set_option linter.unusedVariables false
set_option linter.unusedSimpArgs false
/- Walk: armariumlaw5.BookTwice. -/
namespace Go.Proofs.YtbmoimihnndboaaGreatDoor
open Go.Vc Go.RowKit Go.Fl Go.ChangeShapes Go.WideShapes Go.ChangeAt
theorem slice_len {H : Type} {enc : TypeId × Value → H} {P : Program} {W : World} {sp : Nat → Bool} {hd : Bool} {t e : TypeId} {d : DataW H} {p : List MemPlace} {A : Option Addr} {n cap : Nat} (ht : P.underlying t = some (.slice e))
    (h : DataW.Trod enc P W 0 sp hd t (.slice A n cap) d p) : n = 0 ∨ ∃ elems spare, d = .slice elems spare ∧ elems.length = n := by
  obtain ⟨fuel, hf⟩ := h
  rcases DataW.trod_slice ht hf with ⟨h1, _⟩ | ⟨a, len, cap', elems, rest, k, _, h1, h2, _, _, _, h3, _⟩
  · have e1 : [Value.slice A n cap] = [.slice none 0 0] := h1
    cases e1
    exact .inl rfl
  · have e1 : [Value.slice A n cap] = [.slice (some a) len cap'] := h1
    cases e1
    exact .inr ⟨_, _, congrArg Prod.fst h2, by rw [List.length_map]; exact h3⟩
theorem res_eq {a b : Res} (h : a = b) (ox oy : Operand) (w : World) : (do eqGuard BinOp.eql 89 ox oy (.agg #[.int .i64 a.err, .int .i64 a.ver]) (.agg #[.int .i64 b.err, .int .i64 b.ver]); Go.binOp BinOp.eql 89 (.agg #[.int .i64 a.err, .int .i64 a.ver]) (.agg #[.int .i64 b.err, .int .i64 b.ver]) : Sem Value).run Tryz.prog w = .ok (.bool true) w := by
  subst h
  exact res_self a ox oy w
theorem doS_old {s : Stt} {d : D} (hs : mayS s = true) (hd : mayD d = true) (hq : s.seq < maxN) (h : d.req < lowAt s.lows (homeI d.req)) : (doS s d).2.err = 12 ∧ (doS s d).1.l = s.l ∧ (doS s d).1.seq = s.seq + 1 := by
  rw [doS_F hs hd hq]
  unfold doF
  rw [if_pos h]
  exact ⟨rfl, rfl, rfl⟩
set_option maxHeartbeats 16000000 in
theorem twiceB_any (l : List D) (hl : ∀ a ∈ l, a.Ok) (A : Option Addr) (cap : Nat) (hbig : l.length ≤ 1000000000000000) (wh lw : Int) (w : World) (hw : Env w) (hR : Row (inW w) w A l.length cap (l.map dC).flatten) :
    Calls Tryz.prog 11 #[.slice A l.length cap, .int .i64 wh, .int .i64 lw] w (RetB (.bool true) w) := by
  refine calls_vc lay_ok Tryz.func11 rfl (by kernel_rfl) (by kernel_rfl) ?_
  have hc := CtxF.start w no (fun _ h => h.elim) (R := fun _ _ => True) trivial Stab.true
  refine call_b (begun5_any _ hw) ?_
  intro wQ hQ
  have hc := (hc.quiet hQ).1
  intro g8 wg8 hg8
  have hc := (hc.loc hg8).1
  refine ⟨Nat × Stt × SX, fun x => [(0, .slice A l.length cap), (1, .int .i64 wh), (8, .pointer (some ⟨g8, 0, none⟩)), (9, .int .i64 x.1)],
    fun x w' => x.1 ≤ l.length ∧ x.1 ≤ 20 ∧ x.2.1.seq ≤ x.1 ∧ mayS x.2.1 = true ∧ x.2.1.lows.length = 5 ∧ ∃ S, CtxF no w S w' [(g8, 78, stX x.2.1 x.2.2)] [] (fun S w => RepS S w x.2.1 (stX x.2.1 x.2.2)),
    fun x _ => l.length - x.1, (0, Stt0, SX0), ⟨rfl, rfl, rfl, rfl, trivial⟩, ⟨Nat.zero_le _, Nat.zero_le _, Int.le_refl _, mayStt0, rfl, _, hc.now (fun _ => rep0X _ _) (stab_S _ _)⟩, ?_⟩
  clear hc
  rintro ⟨i, s, y⟩ w4 u ⟨hi, hi20, hsq, hm, h5, S, hc⟩
  simp only at hi hi20 hsq hm h5 hc
  by_cases hgo : i < l.length ∧ i < 20
  · obtain ⟨hlt, hlt2⟩ := hgo
    refine split_t (decide_eq_true (by first | omega | (simp only; omega))) ?_
    refine split_t (decide_eq_true (show (i : Int) < 20 by omega)) ?_
    obtain ⟨ad, hA, hcell⟩ := RowD.elem hR i hlt
    subst hA
    have hxok := hl _ (List.getElem_mem hlt)
    generalize l[i] = x at hcell hxok
    refine Drawn.join (α := SX) (fun _ => [(0, .slice (some ad) l.length cap), (1, .int .i64 wh), (8, .pointer (some ⟨g8, 0, none⟩)), (9, .int .i64 i)])
      (fun y1 wS => ∃ S, CtxF no w S wS [(g8, 78, stX (doS s (cutD x)).1 y1)] [] (fun S w => RepS S w (doS s (cutD x)).1 (stX (doS s (cutD x)).1 y1))) ?_ ?_
    · refine drawn lay_ok (by kernel_rfl) (.q 1 (.q 2 (.q 3 (.n 0 (.n 4 (.n 5 (.n 6 (.q 7 (.q 8 (.q 9 (.n 10 .fin .stop)))) .stop) .stop) .stop) (.n 4 (.n 0 (.n 5 (.n 6 (.q 7 (.q 8 (.q 9 (.n 10 .fin .stop)))) .stop) .stop) (.n 5 (.n 0 (.n 6 (.q 7 (.q 8 (.q 9 (.n 10 .fin .stop)))) .stop) .stop) .stop)) .stop))))) (fun _ => True) (by kernel_rfl) trivial ?_
      have hc := hc.drew
      refine ⟨⟨by first | omega | (simp only; omega), by first | omega | (simp only; omega)⟩, ?_⟩
      refine ⟨?_, ?_⟩
      · skip
        refine ⟨_, ?_, hc.cells 0 rfl, trivial, ?_⟩
        · rfl
        refine ⟨?_, trivial⟩
        refine ⟨dC x, rfl, cellsAt_later hc.below _ _ hcell, trivial, ?_⟩
        refine ⟨?_, trivial⟩
        refine call_b (deed5_any x hxok _) ?_
        intro wQ hQ
        have hc := (hc.quiet hQ).1
        refine ⟨trivial, ?_⟩
        refine ⟨?_, trivial⟩
        refine ⟨(bdo_any s (cutD x) (foldS_keys hm h5) (cutD_ok hxok) _ _ _ hc.ctx.lt hc.row).mono fun en wq hq => ?_⟩
        obtain ⟨cy1, e1, hq, hrep⟩ := hq
        obtain ⟨y1, rfl⟩ := hrep.stX
        have hc := (hc.call hq).1.know hrep (stab_S _ _)
        refine ⟨_, e1, trivial, ?_⟩
        refine ⟨?_, trivial⟩
        refine ⟨hc.may 0 rfl _ _ (nle rfl) rfl, ?_⟩
        intro wS hS
        have hc := (hc.set 0 rfl hS).1
        refine ⟨trivial, ?_⟩
        exact ⟨y1, ⟨rfl, rfl, rfl, rfl, trivial⟩, _, hc.now (fun h => h.2) (stab_S _ _)⟩
      refine ⟨?_, trivial⟩
      refine ⟨dC x, rfl, cellsAt_later hc.below _ _ hcell, trivial, ?_⟩
      refine ⟨?_, ?_⟩
      · skip
        refine ⟨_, ?_, hc.cells 0 rfl, trivial, ?_⟩
        · rfl
        refine ⟨?_, trivial⟩
        refine call_b (deed5_any x hxok _) ?_
        intro wQ hQ
        have hc := (hc.quiet hQ).1
        refine ⟨trivial, ?_⟩
        refine ⟨?_, trivial⟩
        refine ⟨(bdo_any s (cutD x) (foldS_keys hm h5) (cutD_ok hxok) _ _ _ hc.ctx.lt hc.row).mono fun en wq hq => ?_⟩
        obtain ⟨cy1, e1, hq, hrep⟩ := hq
        obtain ⟨y1, rfl⟩ := hrep.stX
        have hc := (hc.call hq).1.know hrep (stab_S _ _)
        refine ⟨_, e1, trivial, ?_⟩
        refine ⟨?_, trivial⟩
        refine ⟨hc.may 0 rfl _ _ (nle rfl) rfl, ?_⟩
        intro wS hS
        have hc := (hc.set 0 rfl hS).1
        refine ⟨trivial, ?_⟩
        exact ⟨y1, ⟨rfl, rfl, rfl, rfl, trivial⟩, _, hc.now (fun h => h.2) (stab_S _ _)⟩
      refine ⟨?_, trivial⟩
      refine call_b (deed5_any x hxok _) ?_
      intro wQ hQ
      have hc := (hc.quiet hQ).1
      refine ⟨trivial, ?_⟩
      refine ⟨?_, trivial⟩
      refine ⟨_, ?_, hc.cells 0 rfl, trivial, ?_⟩
      · rfl
      refine ⟨?_, trivial⟩
      refine ⟨(bdo_any s (cutD x) (foldS_keys hm h5) (cutD_ok hxok) _ _ _ hc.ctx.lt hc.row).mono fun en wq hq => ?_⟩
      obtain ⟨cy1, e1, hq, hrep⟩ := hq
      obtain ⟨y1, rfl⟩ := hrep.stX
      have hc := (hc.call hq).1.know hrep (stab_S _ _)
      refine ⟨_, e1, trivial, ?_⟩
      refine ⟨?_, trivial⟩
      refine ⟨hc.may 0 rfl _ _ (nle rfl) rfl, ?_⟩
      intro wS hS
      have hc := (hc.set 0 rfl hS).1
      refine ⟨trivial, ?_⟩
      exact ⟨y1, ⟨rfl, rfl, rfl, rfl, trivial⟩, _, hc.now (fun h => h.2) (stab_S _ _)⟩
    clear hc
    rintro y1 u wS hc
    have hsn := doS_seq s (cutD x)
    exact ⟨(i + 1, _, y1), ⟨rfl, rfl, rfl, congrArg _ (i_down (by omega)), trivial⟩, ⟨hlt, by omega, Int.le_trans hsn (show s.seq + 1 ≤ ((i + 1 : Nat) : Int) by omega), mayS_doS h5 hm, doS_lows5 _ h5, hc⟩, by show l.length - (i + 1) < l.length - i; omega⟩
  have hseq0 := (mayS_parts.1 hm).1
  have hmx : maxN = 1099511627776 := rfl
  by_cases hlt : i < l.length
  refine split_t (decide_eq_true (by first | omega | (simp only; omega))) ?_
  refine split_f (decide_eq_false (show ¬ (i : Int) < 20 by omega)) ?_
  rotate_left
  refine split_f (decide_eq_false (by first | omega | (simp only; omega))) ?_
  rotate_left
  all_goals
    refine split_ (fun h0 => ?_) (fun h0 => ?_)
    · exact ⟨rfl, hc.below⟩
    have hne : (l.length : Int) ≠ 0 := beq_eq_false_iff_ne.1 h0
    refine ⟨_, hc.cell 0 rfl _ rfl, ?_⟩
    refine split_ (fun h0 => ?_) (fun h0 => ?_)
    · exact ⟨rfl, hc.below⟩
    obtain ⟨j, hj, hjl⟩ : ∃ j : Nat, (IntKind.i64.wrap (wh.tmod (l.length : Int) + (l.length : Int))).tmod (l.length : Int) = (j : Int) ∧ j < l.length := by
      have h1 := Int.tmod_lt_of_pos wh (show (0 : Int) < (l.length : Int) by omega)
      have h2 : -(l.length : Int) < wh.tmod (l.length : Int) := by
        have h3 := Int.tmod_lt_of_pos (-wh) (show (0 : Int) < (l.length : Int) by omega)
        rw [Int.neg_tmod] at h3
        omega
      rw [IntWalk.i64_in _ ⟨by omega, by omega⟩]
      have h4 := Int.tmod_nonneg (l.length : Int) (show 0 ≤ wh.tmod (l.length : Int) + (l.length : Int) by omega)
      have h5 := Int.tmod_lt_of_pos (wh.tmod (l.length : Int) + (l.length : Int)) (show (0 : Int) < (l.length : Int) by omega)
      exact ⟨((wh.tmod (l.length : Int) + (l.length : Int)).tmod (l.length : Int)).toNat, by omega, by omega⟩
    refine vc_nz hne ?_
    refine vc_nz hne ?_
    rw [hj]
    obtain ⟨ad, hA, hcell⟩ := RowD.elem hR j hjl
    subst hA
    have hxok := hl _ (List.getElem_mem hjl)
    generalize l[j] = x at hcell hxok
    refine ⟨⟨by omega, by omega⟩, ?_⟩
    refine ⟨dC x, rfl, cellsAt_later hc.below _ _ hcell, ?_⟩
    obtain ⟨a, ha⟩ : ∃ a, a = cutD x := ⟨_, rfl⟩
    have hda := deed5_any x hxok
    have hok := cutD_ok hxok
    rw [← ha] at hda hok
    refine call_b (hda _) ?_
    intro wQ hQ
    have hc := (hc.quiet hQ).1
    intro g10 wg10 hg10
    have hc := (hc.loc hg10).1
    refine ⟨hc.may 0 rfl _ _ (nle rfl) rfl, ?_⟩
    intro wS hS
    have hc := (hc.set 0 rfl hS).1
    refine ⟨_, ?_, hc.cells 0 rfl, ?_⟩
    · rfl
    refine call_b (rmay_any a hok _) ?_
    intro wQ hQ
    have hc := (hc.quiet hQ).1
    rcases Bool.eq_false_or_eq_true (mayD a) with hmd | hmd
    rotate_left
    · refine split_t (by rw [hmd]; rfl) ?_
      exact ⟨rfl, hc.below⟩
    refine split_f (by rw [hmd]; rfl) ?_
    have hold := doS_old (d := a) hm hmd (by omega)
    have htwo := doS_twice (d := a) h5 hm hmd (by omega)
    have hm1 := mayS_doS (d := a) h5 hm
    have h51 := doS_lows5 a h5
    obtain ⟨t, r, hdo⟩ : ∃ t r, doS s a = (t, r) := ⟨_, _, rfl⟩
    rw [hdo] at hold htwo hm1 h51
    obtain ⟨v, q, hdo2⟩ : ∃ v q, doS t a = (v, q) := ⟨_, _, rfl⟩
    simp only at hold htwo hm1 h51
    rw [hdo2] at htwo
    simp only at htwo
    refine ⟨_, ?_, hc.cells 1 rfl, ?_⟩
    · rfl
    refine ⟨_, ?_, hc.cells 0 rfl, ?_⟩
    · rfl
    refine ⟨(bdo_any s a (foldS_keys hm h5) hok _ _ _ hc.ctx.lt hc.row).mono fun en wq hq => ?_⟩
    rw [hdo] at hq
    obtain ⟨c1, e1, hq, hrep⟩ := hq
    obtain ⟨y1, rfl⟩ := hrep.stX
    have hc := (hc.call hq).1.know hrep (stab_S _ _)
    refine ⟨_, e1, ?_⟩
    intro g11 wg11 hg11
    have hc := (hc.loc hg11).1
    intro g12 wg12 hg12
    have hc := (hc.loc hg12).1
    refine ⟨hc.may 1 rfl _ _ (nle rfl) rfl, ?_⟩
    intro wS hS
    have hc := (hc.set 1 rfl hS).1
    refine ⟨hc.may 0 rfl _ _ (nle rfl) rfl, ?_⟩
    intro wS hS
    have hc := (hc.set 0 rfl hS).1
    refine ⟨_, ?_, hc.cells 1 rfl, ?_⟩
    · rfl
    refine ⟨_, ?_, hc.cells 2 rfl, ?_⟩
    · rfl
    refine ⟨(bdo_any t a (foldS_keys hm1 h51) hok _ _ _ hc.ctx.lt hc.row.2).mono fun en wq hq => ?_⟩
    rw [hdo2] at hq
    obtain ⟨c1, e1, hq, hrep⟩ := hq
    obtain ⟨y2, rfl⟩ := hrep.stX
    have hc := (hc.call hq).1.know hrep (stab_S _ _)
    refine ⟨_, e1, ?_⟩
    intro g13 wg13 hg13
    have hc := (hc.loc hg13).1
    intro g14 wg14 hg14
    have hc := (hc.loc hg14).1
    refine ⟨hc.may 1 rfl _ _ (nle rfl) rfl, ?_⟩
    intro wS hS
    have hc := (hc.set 1 rfl hS).1
    refine ⟨hc.may 0 rfl _ _ (nle rfl) rfl, ?_⟩
    intro wS hS
    have hc := (hc.set 0 rfl hS).1
    refine ⟨_, hc.cell 4 rfl _ rfl, ?_⟩
    have hhome := mayD_home hmd
    have hrange := homeI_range a.req
    obtain ⟨k, hk, hk5⟩ : ∃ k : Nat, homeI a.req = (k : Int) + 1 ∧ k < 5 := ⟨(homeI a.req - 1).toNat, by omega, by omega⟩
    refine call_b (rhome_any a.req _ hok.req.1 hok.req.2) ?_
    intro wQ hQ
    have hc := (hc.quiet hQ).1
    have hwk : IntKind.i64.wrap (homeI a.req - 1) = (k : Int) := by rw [hk, IntWalk.i64_in _ ⟨by omega, by omega⟩]; omega
    have hlow : lowAt s.lows (homeI a.req) = [y.l0, y.l1, y.l2, y.l3, y.l4].getD k 0 := by
      rw [hc.row.1.1.lowsX]
      unfold lowAt
      rw [hk, show ((k : Int) + 1 - 1).toNat = k by omega]
    have hr := hc
    refine drawn lay_ok (by kernel_rfl) (.q 0 (.q 1 (.q 2 (.q 3 (.q 4 (.q 5 (.q 6 (.q 7 .fin)))))))) (Old _) (by kernel_rfl) (Old.start _) ?_
    have hk := hc.old0
    have hc := hc.drew
    refine ⟨_, fun x hx => Keeps.cell hx (hr.blk 4 rfl) (hr.blk 4 rfl).lt rfl, ?_⟩
    refine ⟨⟨by omega, by omega⟩, ?_⟩
    refine ⟨_, fun x hx => by
      have h := lows_cellN ((hr.blk 5 rfl).of_eq (hx.1 _ (hr.blk 5 rfl).lt)) k hk5
      rw [← hwk] at h
      exact h, ?_⟩
    clear hr
    rw [hlow] at hold htwo
    by_cases hlo : a.req < [y.l0, y.l1, y.l2, y.l3, y.l4].getD k 0
    · refine split_t (decide_eq_true hlo) ?_
      obtain ⟨o1, o2, o3⟩ := hold hlo
      refine ⟨_, hc.cell 2 rfl _ rfl, ?_⟩
      refine split_t (by rw [o1]; rfl) ?_
      refine ⟨_, hc.cell 3 rfl _ rfl, ?_⟩
      refine ⟨_, hc.cell 5 rfl _ rfl, ?_⟩
      refine split_t (by rw [o2, beq_iff_eq]) ?_
      refine ⟨_, hc.cell 3 rfl _ rfl, ?_⟩
      refine ⟨_, hc.cell 5 rfl _ rfl, ?_⟩
      refine ⟨ret_bool ?_, hc.below⟩
      rw [o3, IntWalk.i64_in _ ⟨by omega, by omega⟩, beq_iff_eq]
    refine split_f (decide_eq_false hlo) ?_
    obtain ⟨o1, o2, o3, o4⟩ := htwo (by omega)
    refine ⟨_, ?_, hc.cells 0 rfl, ?_⟩
    · rfl
    refine ⟨_, ?_, hc.cells 2 rfl, ?_⟩
    · rfl
    refine ⟨.bool true, fun w => res_eq o1 _ _ w, ?_⟩
    refine ⟨_, hc.cell 3 rfl _ rfl, ?_⟩
    refine ⟨_, hc.cell 5 rfl _ rfl, ?_⟩
    refine split_t (by rw [o2, IntWalk.i64_in _ ⟨by omega, by omega⟩, beq_iff_eq]) ?_
    refine ⟨_, hc.cell 1 rfl _ rfl, ?_⟩
    refine ⟨_, hc.cell 5 rfl _ rfl, ?_⟩
    refine split_t (by rw [o3, IntWalk.i64_in _ ⟨by omega, by omega⟩, beq_iff_eq]) ?_
    refine ⟨_, ?_, hc.cells 3 rfl, ?_⟩
    · rfl
    refine ⟨_, ?_, hc.cells 1 rfl, ?_⟩
    · rfl
    have hE := samek_any t v _ _ _ _ hc.row.1.2 hc.row.2
    rw [o4, (eqAll_iff (fun a b => eqE_iff)).2 rfl] at hE
    refine call_b (hE) ?_
    intro wQ hQ
    have hc := (hc.quiet hQ).1
    exact ⟨rfl, hc.below⟩
set_option maxRecDepth 100000 in
theorem bookTwice_ct {H : Type} (enc : TypeId × Value → H) (W : World) (hw : Env W) {base : Nat}
    (v0 : Value) (d0 : DataW H) (p0 : List MemPlace) (h0 : DataW.Trod enc Tryz.prog W 0 (fun _ => true) true 87 v0 d0 p0) (k0 : Value.okWide Tryz.prog W .any base 87 v0)
    (v1 : Value) (d1 : DataW H) (p1 : List MemPlace) (h1 : DataW.Trod enc Tryz.prog W 0 (fun _ => true) true 3 v1 d1 p1) (k1 : Value.okWide Tryz.prog W .any base 3 v1)
    (v2 : Value) (d2 : DataW H) (p2 : List MemPlace) (h2 : DataW.Trod enc Tryz.prog W 0 (fun _ => true) true 2 v2 d2 p2) (k2 : Value.okWide Tryz.prog W .any base 2 v2)
    (ts : List TypeId) (gs : List (DataW H)) (hsz : (DataW.weightsEach Tryz.prog (87 :: ts) (d0 :: gs)).all (· ≤ reachBytes) = true) :
    Calls Tryz.prog 11 #[v0, v1, v2] W (RetB (.bool true) W) := by
  obtain ⟨A0, c0, a0, rfl, r0, o0⟩ := open_deeds h0 k0
  obtain ⟨a1, rfl, o1⟩ := open_i64 Tryz.underlying3 h1 k1
  obtain ⟨a2, rfl, o2⟩ := open_i64 Tryz.underlying2 h2 k2
  have hb : a0.length ≤ 1000000000000000 := by
    rcases slice_len Tryz.underlying87 h0 with h | ⟨elems, spare, rfl, h⟩
    · omega
    · have h3 := sized_slice hsz (j := 0) rfl rfl Tryz.underlying87
      have h4 : Tryz.prog.bytesOf 23 = 88 := by kernel_rfl
      have h5 : reachBytes = 140737488351232 := rfl
      rw [h4, h5] at h3
      omega
  exact twiceB_any a0 o0 A0 c0 hb a1 a2 W hw r0
end Go.Proofs.YtbmoimihnndboaaGreatDoor
