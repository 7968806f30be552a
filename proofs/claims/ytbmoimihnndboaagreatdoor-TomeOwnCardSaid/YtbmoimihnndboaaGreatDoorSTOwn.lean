import Derived.Test.YtbmoimihnndboaaGreatDoorM12
set_option linter.unusedVariables false
set_option linter.unusedSimpArgs false
/- Walk: armariumlaw5.TomeOwn. (printed by tools/gen_own.py) -/
namespace Go.Proofs.YtbmoimihnndboaaGreatDoor
open Go.Vc Go.RowKit Go.Fl Go.ChangeShapes Go.WideShapes Go.ChangeAt
theorem addE_len {e : Ent} {v : Ver} (h : (addE e v).2 = true) : (addE e v).1.vs.length = e.vs.length + 1 := by
  unfold addE at h ⊢
  split at h
  · cases h
  · rename_i hc
    rw [if_neg hc]
    simp
theorem purgeE_len {e : Ent} {n : Int} (h : (purgeE e n).2 = true) : (purgeE e n).1.vs.length + 1 = e.vs.length := by
  unfold purgeE at h ⊢
  split at h
  · cases h
  · rename_i i hc
    obtain ⟨hi, _⟩ := idxV_lt hc
    show (e.vs.take i ++ e.vs.drop (i + 1)).length + 1 = e.vs.length
    rw [List.length_append, List.length_take, List.length_drop]
    omega
set_option maxHeartbeats 16000000 in
theorem own5_any (e0 : Ent) (he : e0.Ok) (v : Ver) (ver : Int) (cs : List Value) (w : World) (hw : Env w) (hE : RepE (inW w) w e0 cs) :
    Calls Tryz.prog 16 #[.agg cs.toArray, .agg (verC v).toArray, .int .i64 ver] w (RetB (.bool true) w) := by
  obtain ⟨A0, c0, rfl, hR⟩ := hE
  obtain ⟨e, hee⟩ : ∃ e, e = cutE e0 := ⟨_, rfl⟩
  have hen := entry5_any e0 he A0 c0 (inW w)
  have heok := cutE_ok he
  have hen2 := entry5_any (cutE e0) heok
  rw [cutE_idem] at hen2
  have hlen := cutE_len e0
  rw [← hee] at hen heok hen2 hlen
  refine calls_vc lay_ok Tryz.func16 rfl (by kernel_rfl) (by kernel_rfl) ?_
  have hc := CtxF.start w no (fun _ h => h.elim) (R := fun _ _ => True) trivial Stab.true
  intro g3 wg3 hg3
  have hc := (hc.loc hg3).1
  intro g4 wg4 hg4
  have hc := (hc.loc hg4).1
  refine call_b (begun5_any _ (hw.below hc.below)) ?_
  intro wQ hQ
  have hc := (hc.quiet hQ).1
  refine ⟨_, ?_, hc.cells 1 rfl, ?_⟩
  · rfl
  refine ⟨(hen _ (hR.below hc.below)).mono fun en wq hq => ?_⟩
  obtain ⟨A, cap, e1, hq, ho⟩ := hq
  have hc := hc.fresh hq ho
  obtain ⟨S1, _, hc⟩ := hc.told
  refine ⟨_, e1, ?_⟩
  refine ⟨hc.may 1 rfl _ _ (nle rfl) rfl, ?_⟩
  intro wS hS
  have hc := (hc.set 1 rfl hS).1
  refine ⟨_, ?_, hc.cells 1 rfl, ?_⟩
  · rfl
  refine ⟨(hen2 A cap _ _ hc.row.2).mono fun en wq hq => ?_⟩
  obtain ⟨A2, c2, e1, hq, ho⟩ := hq
  have hc := hc.fresh hq ho
  obtain ⟨S2, _, hc⟩ := hc.told
  refine ⟨_, e1, ?_⟩
  intro g8 wg8 hg8
  have hc := (hc.loc hg8).1
  refine ⟨hc.may 0 rfl _ _ (nle rfl) rfl, ?_⟩
  intro wS hS
  have hc := (hc.set 0 rfl hS).1
  have hc := hc.now (X := fun S w => Row S w A e.vs.length cap (e.vs.map verC).flatten ∧ Row S w A2 e.vs.length c2 (e.vs.map verC).flatten) (fun h => ⟨h.1.2, h.2⟩) ((stab_row _ _ _ _).and (stab_row _ _ _ _))
  obtain ⟨f, one, hf⟩ : ∃ f one, addE e v = (f, one) := ⟨_, _, rfl⟩
  obtain ⟨h, three, hh⟩ : ∃ h three, purgeE e ver = (h, three) := ⟨_, _, rfl⟩
  have hfl := addE_len (e := e) (v := v)
  have hhl := purgeE_len (e := e) (n := ver)
  rw [hf] at hfl
  rw [hh] at hhl
  simp only at hfl hhl
  refine ⟨_, ?_, hc.cells 2 rfl, ?_⟩
  · rfl
  refine ⟨_, ?_, hc.cells 1 rfl, ?_⟩
  · rfl
  refine ⟨(add_any e v A cap (by omega) _ _ hc.row.1).mono fun en wq hq => ?_⟩
  rw [hf] at hq
  cases one
  · skip
    rw [RetA, if_neg (fun h => by cases h)] at hq
    obtain ⟨e1, hq⟩ := hq
    have hc := (hc.quiet hq).1
    refine ⟨_, e1, ?_⟩
    intro g9 wg9 hg9
    have hc := (hc.loc hg9).1
    refine ⟨hc.may 0 rfl _ _ (nle rfl) rfl, ?_⟩
    intro wS hS
    have hc := (hc.set 0 rfl hS).1
    refine ⟨_, ?_, hc.cells 3 rfl, ?_⟩
    · rfl
    refine ⟨(purge_any e ver A cap (by omega) _ _ hc.row.1).mono fun en wq hq => ?_⟩
    rw [hh] at hq
    cases three
    · skip
      rw [RetA, if_neg (fun h => by cases h)] at hq
      obtain ⟨e1, hq⟩ := hq
      have hc := (hc.quiet hq).1
      refine ⟨_, e1, ?_⟩
      intro g11 wg11 hg11
      have hc := (hc.loc hg11).1
      refine ⟨hc.may 0 rfl _ _ (nle rfl) rfl, ?_⟩
      intro wS hS
      have hc := (hc.set 0 rfl hS).1
      refine ⟨Unit, fun _ => [(3, .pointer (some ⟨g3, 0, none⟩)), (8, .pointer (some ⟨g8, 0, none⟩)), (9, .pointer (some ⟨g9, 0, none⟩)), (11, .pointer (some ⟨g11, 0, none⟩)), (13, .int .i64 0)], fun _ w' => ∃ S, CtxF no w S w' [(g11, 58, [.string e.key, .slice A e.vs.length cap]), (g9, 58, [.string e.key, .slice A e.vs.length cap]), (g8, 58, [.string e.key, .slice A2 e.vs.length c2]), (g4, 60, verC v), (g3, 58, [.string e.key, .slice A e.vs.length cap])] [] (fun S w => Row S w A e.vs.length cap (e.vs.map verC).flatten ∧ Row S w A2 e.vs.length c2 (e.vs.map verC).flatten), fun _ _ => 0, (), ⟨rfl, rfl, rfl, rfl, rfl, trivial⟩, ⟨_, hc⟩, ?_⟩
      clear hc
      rintro - w4 u ⟨S, hc⟩
      refine ⟨_, hc.cell 1 rfl _ rfl, ?_⟩
      refine split_ (fun _ => ?_) (fun _ => ?_)
      refine ⟨_, hc.cell 1 rfl _ rfl, ?_⟩
      refine ⟨_, hc.cell 4 rfl _ rfl, ?_⟩
      refine split_f (decide_eq_false (Int.lt_irrefl _)) ?_
      rotate_left
      rotate_left
      all_goals
        refine ⟨Unit, fun _ => [(3, .pointer (some ⟨g3, 0, none⟩)), (8, .pointer (some ⟨g8, 0, none⟩)), (9, .pointer (some ⟨g9, 0, none⟩)), (11, .pointer (some ⟨g11, 0, none⟩)), (14, .int .i64 0)], fun _ w' => ∃ S, CtxF no w S w' [(g11, 58, [.string e.key, .slice A e.vs.length cap]), (g9, 58, [.string e.key, .slice A e.vs.length cap]), (g8, 58, [.string e.key, .slice A2 e.vs.length c2]), (g4, 60, verC v), (g3, 58, [.string e.key, .slice A e.vs.length cap])] [] (fun S w => Row S w A e.vs.length cap (e.vs.map verC).flatten ∧ Row S w A2 e.vs.length c2 (e.vs.map verC).flatten), fun _ _ => 0, (), ⟨rfl, rfl, rfl, rfl, rfl, trivial⟩, ⟨_, hc⟩, ?_⟩
        clear hc
        rintro - w4 u ⟨S, hc⟩
        refine ⟨_, hc.cell 0 rfl _ rfl, ?_⟩
        refine split_ (fun _ => ?_) (fun _ => ?_)
        refine ⟨_, hc.cell 0 rfl _ rfl, ?_⟩
        refine ⟨_, hc.cell 4 rfl _ rfl, ?_⟩
        refine split_f (decide_eq_false (Int.lt_irrefl _)) ?_
        rotate_left
        rotate_left
        all_goals
          refine ⟨_, ?_, hc.cells 4 rfl, ?_⟩
          · rfl
          refine ⟨_, ?_, hc.cells 2 rfl, ?_⟩
          · rfl
          have hE := reqE_any e e _ _ _ _ _ _ hc.row.1 hc.row.2
          rw [eqE_iff.2 rfl] at hE
          refine call_b (hE) ?_
          intro wQ hQ
          have hc := (hc.quiet hQ).1
          exact ⟨rfl, hc.below⟩
    rw [RetA, if_pos rfl] at hq
    obtain ⟨A5, c5, e1, hq, ho⟩ := hq
    have hc := hc.fresh hq ho
    have hhl := hhl rfl
    refine ⟨_, e1, ?_⟩
    intro g11 wg11 hg11
    have hc := (hc.loc hg11).1
    refine ⟨hc.may 0 rfl _ _ (nle rfl) rfl, ?_⟩
    intro wS hS
    have hc := (hc.set 0 rfl hS).1
    refine ⟨Unit, fun _ => [(3, .pointer (some ⟨g3, 0, none⟩)), (8, .pointer (some ⟨g8, 0, none⟩)), (9, .pointer (some ⟨g9, 0, none⟩)), (11, .pointer (some ⟨g11, 0, none⟩)), (13, .int .i64 0)], fun _ w' => ∃ S, CtxF no w S w' [(g11, 58, [.string h.key, .slice A5 h.vs.length c5]), (g9, 58, [.string e.key, .slice A e.vs.length cap]), (g8, 58, [.string e.key, .slice A2 e.vs.length c2]), (g4, 60, verC v), (g3, 58, [.string e.key, .slice A e.vs.length cap])] [⟨60, 3, A5, h.vs.length, c5, (h.vs.map verC).flatten⟩] (fun S w => Row S w A e.vs.length cap (e.vs.map verC).flatten ∧ Row S w A2 e.vs.length c2 (e.vs.map verC).flatten), fun _ _ => 0, (), ⟨rfl, rfl, rfl, rfl, rfl, trivial⟩, ⟨_, hc⟩, ?_⟩
    clear hc
    rintro - w4 u ⟨S, hc⟩
    refine ⟨_, hc.cell 1 rfl _ rfl, ?_⟩
    refine split_ (fun _ => ?_) (fun _ => ?_)
    refine ⟨_, hc.cell 1 rfl _ rfl, ?_⟩
    refine ⟨_, hc.cell 4 rfl _ rfl, ?_⟩
    refine split_f (decide_eq_false (Int.lt_irrefl _)) ?_
    rotate_left
    rotate_left
    all_goals
      by_cases hz : h.vs.length = 0
      · have hc := hc.rest
        refine ⟨Unit, fun _ => [(3, .pointer (some ⟨g3, 0, none⟩)), (8, .pointer (some ⟨g8, 0, none⟩)), (9, .pointer (some ⟨g9, 0, none⟩)), (11, .pointer (some ⟨g11, 0, none⟩)), (14, .int .i64 0)], fun _ w' => ∃ S, CtxF no w S w' [(g11, 58, [.string h.key, .slice A5 h.vs.length c5]), (g9, 58, [.string e.key, .slice A e.vs.length cap]), (g8, 58, [.string e.key, .slice A2 e.vs.length c2]), (g4, 60, verC v), (g3, 58, [.string e.key, .slice A e.vs.length cap])] [] (fun S w => Row S w A e.vs.length cap (e.vs.map verC).flatten ∧ Row S w A2 e.vs.length c2 (e.vs.map verC).flatten), fun _ _ => 0, (), ⟨rfl, rfl, rfl, rfl, rfl, trivial⟩, ⟨_, hc⟩, ?_⟩
        clear hc
        rintro - w4 u ⟨S, hc⟩
        refine ⟨_, hc.cell 0 rfl _ rfl, ?_⟩
        refine split_f (decide_eq_false (show ¬ (0 : Int) < ((h.vs.length : Nat) : Int) by omega)) ?_
        refine ⟨_, ?_, hc.cells 4 rfl, ?_⟩
        · rfl
        refine ⟨_, ?_, hc.cells 2 rfl, ?_⟩
        · rfl
        have hE := reqE_any e e _ _ _ _ _ _ hc.row.1 hc.row.2
        rw [eqE_iff.2 rfl] at hE
        refine call_b (hE) ?_
        intro wQ hQ
        have hc := (hc.quiet hQ).1
        exact ⟨rfl, hc.below⟩
      have hX0 : h.vs.length ≠ 0 := by omega
      cases hA : A5 with
      | none => exact absurd (hc.fst.none' hA).1 hX0
      | some ax => ?_
      obtain ⟨gh, cur, ea, hc, hcl, -, hcn, -⟩ := hc.opened hA
      rw [hA] at ea
      cases ea
      subst hA
      have hcn : h.vs.length ≤ c5 := hcn
      have hcl : cur.length = c5 * 3 := hcl
      refine ⟨Nat × List Value, fun x => [(3, .pointer (some ⟨g3, 0, none⟩)), (8, .pointer (some ⟨g8, 0, none⟩)), (9, .pointer (some ⟨g9, 0, none⟩)), (11, .pointer (some ⟨g11, 0, none⟩)), (14, .int .i64 x.1)], fun x w' => x.1 ≤ h.vs.length ∧ x.2.length = c5 * 3 ∧ ∃ S, CtxF no w S w' ((gh, 60, x.2) :: [(g11, 58, [.string h.key, .slice (some ⟨gh, 0, none⟩) h.vs.length c5]), (g9, 58, [.string e.key, .slice A e.vs.length cap]), (g8, 58, [.string e.key, .slice A2 e.vs.length c2]), (g4, 60, verC v), (g3, 58, [.string e.key, .slice A e.vs.length cap])]) [] (fun S w => Row S w A e.vs.length cap (e.vs.map verC).flatten ∧ Row S w A2 e.vs.length c2 (e.vs.map verC).flatten), fun x _ => h.vs.length - x.1, (0, cur), ⟨rfl, rfl, rfl, rfl, rfl, trivial⟩, ⟨Nat.zero_le _, hcl, _, hc⟩, ?_⟩
      clear hc hcl
      rintro ⟨i, cur⟩ w4 u ⟨hi, hcl, S, hc⟩
      simp only at hi hc hcl
      refine ⟨_, hc.cell 1 rfl _ rfl, ?_⟩
      by_cases hlt : i < h.vs.length
      · refine split_t (decide_eq_true (by first | omega | (simp only; omega))) ?_
        refine ⟨_, hc.cell 1 rfl _ rfl, ?_⟩
        refine ⟨_, hc.cell 5 rfl _ rfl, ?_⟩
        refine split_t (decide_eq_true (by first | omega | (simp only; omega))) ?_
        refine ⟨_, hc.cell 1 rfl _ rfl, ?_⟩
        refine ⟨⟨by first | omega | (simp only; omega), by first | omega | (simp only; omega)⟩, ?_⟩
        generalize hae : ((⟨gh, 0, none⟩ : Addr).add ((i : Int).toNat * 3)) = ae
        have hae : (⟨gh, i * 3, none⟩ : Addr) = ae := by rw [← hae, Addr.add_lit, Nat.zero_add, Int.toNat_natCast]
        subst hae
        refine ⟨hc.may 0 rfl (i * 3 + 2) [.string ⟨#[116, 117, 114, 110, 101, 100]⟩] (by show i * 3 + 2 + 1 ≤ cur.length; omega) rfl, ?_⟩
        intro wS hS
        have hS : Stored _ ⟨gh, i * 3 + 2, none⟩ [.string ⟨#[116, 117, 114, 110, 101, 100]⟩] wS := hS
        have hc : CtxF no w S wS ((gh, 60, putAt cur (i * 3 + 2) [.string ⟨#[116, 117, 114, 110, 101, 100]⟩]) :: [(g11, 58, [.string h.key, .slice (some ⟨gh, 0, none⟩) h.vs.length c5]), (g9, 58, [.string e.key, .slice A e.vs.length cap]), (g8, 58, [.string e.key, .slice A2 e.vs.length c2]), (g4, 60, verC v), (g3, 58, [.string e.key, .slice A e.vs.length cap])]) [] (fun S w => Row S w A e.vs.length cap (e.vs.map verC).flatten ∧ Row S w A2 e.vs.length c2 (e.vs.map verC).flatten) := (hc.set 0 rfl hS).1
        exact ⟨(i + 1, putAt cur (i * 3 + 2) [.string ⟨#[116, 117, 114, 110, 101, 100]⟩]), ⟨rfl, rfl, rfl, rfl, congrArg _ (i_down (by first | omega | (simp only; omega))), trivial⟩, ⟨hlt, by simp only [putAt_len]; exact hcl, _, hc⟩, by show h.vs.length - (i + 1) < h.vs.length - i; omega⟩
      refine split_f (decide_eq_false (by first | omega | (simp only; omega))) ?_
      have hc := hc.drop
      refine ⟨_, ?_, hc.cells 4 rfl, ?_⟩
      · rfl
      refine ⟨_, ?_, hc.cells 2 rfl, ?_⟩
      · rfl
      have hE := reqE_any e e _ _ _ _ _ _ hc.row.1 hc.row.2
      rw [eqE_iff.2 rfl] at hE
      refine call_b (hE) ?_
      intro wQ hQ
      have hc := (hc.quiet hQ).1
      exact ⟨rfl, hc.below⟩
  rw [RetA, if_pos rfl] at hq
  obtain ⟨A3, c3, e1, hq, ho⟩ := hq
  have hc := hc.fresh hq ho
  have hfl := hfl rfl
  refine ⟨_, e1, ?_⟩
  intro g9 wg9 hg9
  have hc := (hc.loc hg9).1
  refine ⟨hc.may 0 rfl _ _ (nle rfl) rfl, ?_⟩
  intro wS hS
  have hc := (hc.set 0 rfl hS).1
  refine ⟨_, ?_, hc.cells 3 rfl, ?_⟩
  · rfl
  refine ⟨(purge_any e ver A cap (by omega) _ _ hc.row.1).mono fun en wq hq => ?_⟩
  rw [hh] at hq
  cases three
  · skip
    rw [RetA, if_neg (fun h => by cases h)] at hq
    obtain ⟨e1, hq⟩ := hq
    have hc := (hc.quiet hq).1
    refine ⟨_, e1, ?_⟩
    intro g11 wg11 hg11
    have hc := (hc.loc hg11).1
    refine ⟨hc.may 0 rfl _ _ (nle rfl) rfl, ?_⟩
    intro wS hS
    have hc := (hc.set 0 rfl hS).1
    have hX0 : f.vs.length ≠ 0 := by omega
    cases hA : A3 with
    | none => exact absurd (hc.fst.none' hA).1 hX0
    | some ax => ?_
    obtain ⟨gf, cur, ea, hc, hcl, -, hcn, -⟩ := hc.opened hA
    rw [hA] at ea
    cases ea
    subst hA
    have hcn : f.vs.length ≤ c3 := hcn
    have hcl : cur.length = c3 * 3 := hcl
    refine ⟨Nat × List Value, fun x => [(3, .pointer (some ⟨g3, 0, none⟩)), (8, .pointer (some ⟨g8, 0, none⟩)), (9, .pointer (some ⟨g9, 0, none⟩)), (11, .pointer (some ⟨g11, 0, none⟩)), (13, .int .i64 x.1)], fun x w' => x.1 ≤ f.vs.length ∧ x.2.length = c3 * 3 ∧ ∃ S, CtxF no w S w' ((gf, 60, x.2) :: [(g11, 58, [.string e.key, .slice A e.vs.length cap]), (g9, 58, [.string f.key, .slice (some ⟨gf, 0, none⟩) f.vs.length c3]), (g8, 58, [.string e.key, .slice A2 e.vs.length c2]), (g4, 60, verC v), (g3, 58, [.string e.key, .slice A e.vs.length cap])]) [] (fun S w => Row S w A e.vs.length cap (e.vs.map verC).flatten ∧ Row S w A2 e.vs.length c2 (e.vs.map verC).flatten), fun x _ => f.vs.length - x.1, (0, cur), ⟨rfl, rfl, rfl, rfl, rfl, trivial⟩, ⟨Nat.zero_le _, hcl, _, hc⟩, ?_⟩
    clear hc hcl
    rintro ⟨i, cur⟩ w4 u ⟨hi, hcl, S, hc⟩
    simp only at hi hc hcl
    refine ⟨_, hc.cell 2 rfl _ rfl, ?_⟩
    by_cases hlt : i < f.vs.length
    · refine split_t (decide_eq_true (by first | omega | (simp only; omega))) ?_
      refine ⟨_, hc.cell 2 rfl _ rfl, ?_⟩
      refine ⟨_, hc.cell 5 rfl _ rfl, ?_⟩
      refine split_t (decide_eq_true (by first | omega | (simp only; omega))) ?_
      refine ⟨_, hc.cell 2 rfl _ rfl, ?_⟩
      refine ⟨⟨by first | omega | (simp only; omega), by first | omega | (simp only; omega)⟩, ?_⟩
      generalize hae : ((⟨gf, 0, none⟩ : Addr).add ((i : Int).toNat * 3)) = ae
      have hae : (⟨gf, i * 3, none⟩ : Addr) = ae := by rw [← hae, Addr.add_lit, Nat.zero_add, Int.toNat_natCast]
      subst hae
      refine ⟨hc.may 0 rfl (i * 3 + 2) [.string ⟨#[116, 117, 114, 110, 101, 100]⟩] (by show i * 3 + 2 + 1 ≤ cur.length; omega) rfl, ?_⟩
      intro wS hS
      have hS : Stored _ ⟨gf, i * 3 + 2, none⟩ [.string ⟨#[116, 117, 114, 110, 101, 100]⟩] wS := hS
      have hc : CtxF no w S wS ((gf, 60, putAt cur (i * 3 + 2) [.string ⟨#[116, 117, 114, 110, 101, 100]⟩]) :: [(g11, 58, [.string e.key, .slice A e.vs.length cap]), (g9, 58, [.string f.key, .slice (some ⟨gf, 0, none⟩) f.vs.length c3]), (g8, 58, [.string e.key, .slice A2 e.vs.length c2]), (g4, 60, verC v), (g3, 58, [.string e.key, .slice A e.vs.length cap])]) [] (fun S w => Row S w A e.vs.length cap (e.vs.map verC).flatten ∧ Row S w A2 e.vs.length c2 (e.vs.map verC).flatten) := (hc.set 0 rfl hS).1
      exact ⟨(i + 1, putAt cur (i * 3 + 2) [.string ⟨#[116, 117, 114, 110, 101, 100]⟩]), ⟨rfl, rfl, rfl, rfl, congrArg _ (i_down (by first | omega | (simp only; omega))), trivial⟩, ⟨hlt, by simp only [putAt_len]; exact hcl, _, hc⟩, by show f.vs.length - (i + 1) < f.vs.length - i; omega⟩
    refine split_f (decide_eq_false (by first | omega | (simp only; omega))) ?_
    have hc := hc.drop
    refine ⟨Unit, fun _ => [(3, .pointer (some ⟨g3, 0, none⟩)), (8, .pointer (some ⟨g8, 0, none⟩)), (9, .pointer (some ⟨g9, 0, none⟩)), (11, .pointer (some ⟨g11, 0, none⟩)), (14, .int .i64 0)], fun _ w' => ∃ S, CtxF no w S w' [(g11, 58, [.string e.key, .slice A e.vs.length cap]), (g9, 58, [.string f.key, .slice (some ⟨gf, 0, none⟩) f.vs.length c3]), (g8, 58, [.string e.key, .slice A2 e.vs.length c2]), (g4, 60, verC v), (g3, 58, [.string e.key, .slice A e.vs.length cap])] [] (fun S w => Row S w A e.vs.length cap (e.vs.map verC).flatten ∧ Row S w A2 e.vs.length c2 (e.vs.map verC).flatten), fun _ _ => 0, (), ⟨rfl, rfl, rfl, rfl, rfl, trivial⟩, ⟨_, hc⟩, ?_⟩
    clear hc
    rintro - w4 u ⟨S, hc⟩
    refine ⟨_, hc.cell 0 rfl _ rfl, ?_⟩
    refine split_ (fun _ => ?_) (fun _ => ?_)
    refine ⟨_, hc.cell 0 rfl _ rfl, ?_⟩
    refine ⟨_, hc.cell 4 rfl _ rfl, ?_⟩
    refine split_f (decide_eq_false (Int.lt_irrefl _)) ?_
    rotate_left
    rotate_left
    all_goals
      refine ⟨_, ?_, hc.cells 4 rfl, ?_⟩
      · rfl
      refine ⟨_, ?_, hc.cells 2 rfl, ?_⟩
      · rfl
      have hE := reqE_any e e _ _ _ _ _ _ hc.row.1 hc.row.2
      rw [eqE_iff.2 rfl] at hE
      refine call_b (hE) ?_
      intro wQ hQ
      have hc := (hc.quiet hQ).1
      exact ⟨rfl, hc.below⟩
  rw [RetA, if_pos rfl] at hq
  obtain ⟨A5, c5, e1, hq, ho⟩ := hq
  have hc := hc.fresh hq ho
  have hhl := hhl rfl
  refine ⟨_, e1, ?_⟩
  intro g11 wg11 hg11
  have hc := (hc.loc hg11).1
  refine ⟨hc.may 0 rfl _ _ (nle rfl) rfl, ?_⟩
  intro wS hS
  have hc := (hc.set 0 rfl hS).1
  have hc := hc.swap
  have hX0 : f.vs.length ≠ 0 := by omega
  cases hA : A3 with
  | none => exact absurd (hc.fst.none' hA).1 hX0
  | some ax => ?_
  obtain ⟨gf, cur, ea, hc, hcl, -, hcn, -⟩ := hc.opened hA
  rw [hA] at ea
  cases ea
  subst hA
  have hcn : f.vs.length ≤ c3 := hcn
  have hcl : cur.length = c3 * 3 := hcl
  refine ⟨Nat × List Value, fun x => [(3, .pointer (some ⟨g3, 0, none⟩)), (8, .pointer (some ⟨g8, 0, none⟩)), (9, .pointer (some ⟨g9, 0, none⟩)), (11, .pointer (some ⟨g11, 0, none⟩)), (13, .int .i64 x.1)], fun x w' => x.1 ≤ f.vs.length ∧ x.2.length = c3 * 3 ∧ ∃ S, CtxF no w S w' ((gf, 60, x.2) :: [(g11, 58, [.string h.key, .slice A5 h.vs.length c5]), (g9, 58, [.string f.key, .slice (some ⟨gf, 0, none⟩) f.vs.length c3]), (g8, 58, [.string e.key, .slice A2 e.vs.length c2]), (g4, 60, verC v), (g3, 58, [.string e.key, .slice A e.vs.length cap])]) [⟨60, 3, A5, h.vs.length, c5, (h.vs.map verC).flatten⟩] (fun S w => Row S w A e.vs.length cap (e.vs.map verC).flatten ∧ Row S w A2 e.vs.length c2 (e.vs.map verC).flatten), fun x _ => f.vs.length - x.1, (0, cur), ⟨rfl, rfl, rfl, rfl, rfl, trivial⟩, ⟨Nat.zero_le _, hcl, _, hc⟩, ?_⟩
  clear hc hcl
  rintro ⟨i, cur⟩ w4 u ⟨hi, hcl, S, hc⟩
  simp only at hi hc hcl
  refine ⟨_, hc.cell 2 rfl _ rfl, ?_⟩
  by_cases hlt : i < f.vs.length
  · refine split_t (decide_eq_true (by first | omega | (simp only; omega))) ?_
    refine ⟨_, hc.cell 2 rfl _ rfl, ?_⟩
    refine ⟨_, hc.cell 5 rfl _ rfl, ?_⟩
    refine split_t (decide_eq_true (by first | omega | (simp only; omega))) ?_
    refine ⟨_, hc.cell 2 rfl _ rfl, ?_⟩
    refine ⟨⟨by first | omega | (simp only; omega), by first | omega | (simp only; omega)⟩, ?_⟩
    generalize hae : ((⟨gf, 0, none⟩ : Addr).add ((i : Int).toNat * 3)) = ae
    have hae : (⟨gf, i * 3, none⟩ : Addr) = ae := by rw [← hae, Addr.add_lit, Nat.zero_add, Int.toNat_natCast]
    subst hae
    refine ⟨hc.may 0 rfl (i * 3 + 2) [.string ⟨#[116, 117, 114, 110, 101, 100]⟩] (by show i * 3 + 2 + 1 ≤ cur.length; omega) rfl, ?_⟩
    intro wS hS
    have hS : Stored _ ⟨gf, i * 3 + 2, none⟩ [.string ⟨#[116, 117, 114, 110, 101, 100]⟩] wS := hS
    have hc : CtxF no w S wS ((gf, 60, putAt cur (i * 3 + 2) [.string ⟨#[116, 117, 114, 110, 101, 100]⟩]) :: [(g11, 58, [.string h.key, .slice A5 h.vs.length c5]), (g9, 58, [.string f.key, .slice (some ⟨gf, 0, none⟩) f.vs.length c3]), (g8, 58, [.string e.key, .slice A2 e.vs.length c2]), (g4, 60, verC v), (g3, 58, [.string e.key, .slice A e.vs.length cap])]) [⟨60, 3, A5, h.vs.length, c5, (h.vs.map verC).flatten⟩] (fun S w => Row S w A e.vs.length cap (e.vs.map verC).flatten ∧ Row S w A2 e.vs.length c2 (e.vs.map verC).flatten) := (hc.set 0 rfl hS).1
    exact ⟨(i + 1, putAt cur (i * 3 + 2) [.string ⟨#[116, 117, 114, 110, 101, 100]⟩]), ⟨rfl, rfl, rfl, rfl, congrArg _ (i_down (by first | omega | (simp only; omega))), trivial⟩, ⟨hlt, by simp only [putAt_len]; exact hcl, _, hc⟩, by show f.vs.length - (i + 1) < f.vs.length - i; omega⟩
  refine split_f (decide_eq_false (by first | omega | (simp only; omega))) ?_
  have hc := hc.drop
  by_cases hz : h.vs.length = 0
  · have hc := hc.rest
    refine ⟨Unit, fun _ => [(3, .pointer (some ⟨g3, 0, none⟩)), (8, .pointer (some ⟨g8, 0, none⟩)), (9, .pointer (some ⟨g9, 0, none⟩)), (11, .pointer (some ⟨g11, 0, none⟩)), (14, .int .i64 0)], fun _ w' => ∃ S, CtxF no w S w' [(g11, 58, [.string h.key, .slice A5 h.vs.length c5]), (g9, 58, [.string f.key, .slice (some ⟨gf, 0, none⟩) f.vs.length c3]), (g8, 58, [.string e.key, .slice A2 e.vs.length c2]), (g4, 60, verC v), (g3, 58, [.string e.key, .slice A e.vs.length cap])] [] (fun S w => Row S w A e.vs.length cap (e.vs.map verC).flatten ∧ Row S w A2 e.vs.length c2 (e.vs.map verC).flatten), fun _ _ => 0, (), ⟨rfl, rfl, rfl, rfl, rfl, trivial⟩, ⟨_, hc⟩, ?_⟩
    clear hc
    rintro - w4 u ⟨S, hc⟩
    refine ⟨_, hc.cell 0 rfl _ rfl, ?_⟩
    refine split_f (decide_eq_false (show ¬ (0 : Int) < ((h.vs.length : Nat) : Int) by omega)) ?_
    refine ⟨_, ?_, hc.cells 4 rfl, ?_⟩
    · rfl
    refine ⟨_, ?_, hc.cells 2 rfl, ?_⟩
    · rfl
    have hE := reqE_any e e _ _ _ _ _ _ hc.row.1 hc.row.2
    rw [eqE_iff.2 rfl] at hE
    refine call_b (hE) ?_
    intro wQ hQ
    have hc := (hc.quiet hQ).1
    exact ⟨rfl, hc.below⟩
  have hX0 : h.vs.length ≠ 0 := by omega
  cases hA : A5 with
  | none => exact absurd (hc.fst.none' hA).1 hX0
  | some ax => ?_
  obtain ⟨gh, cur, ea, hc, hcl, -, hcn, -⟩ := hc.opened hA
  rw [hA] at ea
  cases ea
  subst hA
  have hcn : h.vs.length ≤ c5 := hcn
  have hcl : cur.length = c5 * 3 := hcl
  refine ⟨Nat × List Value, fun x => [(3, .pointer (some ⟨g3, 0, none⟩)), (8, .pointer (some ⟨g8, 0, none⟩)), (9, .pointer (some ⟨g9, 0, none⟩)), (11, .pointer (some ⟨g11, 0, none⟩)), (14, .int .i64 x.1)], fun x w' => x.1 ≤ h.vs.length ∧ x.2.length = c5 * 3 ∧ ∃ S, CtxF no w S w' ((gh, 60, x.2) :: [(g11, 58, [.string h.key, .slice (some ⟨gh, 0, none⟩) h.vs.length c5]), (g9, 58, [.string f.key, .slice (some ⟨gf, 0, none⟩) f.vs.length c3]), (g8, 58, [.string e.key, .slice A2 e.vs.length c2]), (g4, 60, verC v), (g3, 58, [.string e.key, .slice A e.vs.length cap])]) [] (fun S w => Row S w A e.vs.length cap (e.vs.map verC).flatten ∧ Row S w A2 e.vs.length c2 (e.vs.map verC).flatten), fun x _ => h.vs.length - x.1, (0, cur), ⟨rfl, rfl, rfl, rfl, rfl, trivial⟩, ⟨Nat.zero_le _, hcl, _, hc⟩, ?_⟩
  clear hc hcl
  rintro ⟨i, cur⟩ w4 u ⟨hi, hcl, S, hc⟩
  simp only at hi hc hcl
  refine ⟨_, hc.cell 1 rfl _ rfl, ?_⟩
  by_cases hlt : i < h.vs.length
  · refine split_t (decide_eq_true (by first | omega | (simp only; omega))) ?_
    refine ⟨_, hc.cell 1 rfl _ rfl, ?_⟩
    refine ⟨_, hc.cell 5 rfl _ rfl, ?_⟩
    refine split_t (decide_eq_true (by first | omega | (simp only; omega))) ?_
    refine ⟨_, hc.cell 1 rfl _ rfl, ?_⟩
    refine ⟨⟨by first | omega | (simp only; omega), by first | omega | (simp only; omega)⟩, ?_⟩
    generalize hae : ((⟨gh, 0, none⟩ : Addr).add ((i : Int).toNat * 3)) = ae
    have hae : (⟨gh, i * 3, none⟩ : Addr) = ae := by rw [← hae, Addr.add_lit, Nat.zero_add, Int.toNat_natCast]
    subst hae
    refine ⟨hc.may 0 rfl (i * 3 + 2) [.string ⟨#[116, 117, 114, 110, 101, 100]⟩] (by show i * 3 + 2 + 1 ≤ cur.length; omega) rfl, ?_⟩
    intro wS hS
    have hS : Stored _ ⟨gh, i * 3 + 2, none⟩ [.string ⟨#[116, 117, 114, 110, 101, 100]⟩] wS := hS
    have hc : CtxF no w S wS ((gh, 60, putAt cur (i * 3 + 2) [.string ⟨#[116, 117, 114, 110, 101, 100]⟩]) :: [(g11, 58, [.string h.key, .slice (some ⟨gh, 0, none⟩) h.vs.length c5]), (g9, 58, [.string f.key, .slice (some ⟨gf, 0, none⟩) f.vs.length c3]), (g8, 58, [.string e.key, .slice A2 e.vs.length c2]), (g4, 60, verC v), (g3, 58, [.string e.key, .slice A e.vs.length cap])]) [] (fun S w => Row S w A e.vs.length cap (e.vs.map verC).flatten ∧ Row S w A2 e.vs.length c2 (e.vs.map verC).flatten) := (hc.set 0 rfl hS).1
    exact ⟨(i + 1, putAt cur (i * 3 + 2) [.string ⟨#[116, 117, 114, 110, 101, 100]⟩]), ⟨rfl, rfl, rfl, rfl, congrArg _ (i_down (by first | omega | (simp only; omega))), trivial⟩, ⟨hlt, by simp only [putAt_len]; exact hcl, _, hc⟩, by show h.vs.length - (i + 1) < h.vs.length - i; omega⟩
  refine split_f (decide_eq_false (by first | omega | (simp only; omega))) ?_
  have hc := hc.drop
  refine ⟨_, ?_, hc.cells 4 rfl, ?_⟩
  · rfl
  refine ⟨_, ?_, hc.cells 2 rfl, ?_⟩
  · rfl
  have hE := reqE_any e e _ _ _ _ _ _ hc.row.1 hc.row.2
  rw [eqE_iff.2 rfl] at hE
  refine call_b (hE) ?_
  intro wQ hQ
  have hc := (hc.quiet hQ).1
  exact ⟨rfl, hc.below⟩
set_option maxRecDepth 100000 in
theorem tomeOwn_ct {H : Type} (enc : TypeId × Value → H) (W : World) (hw : Env W) {base : Nat}
    (v0 : Value) (d0 : DataW H) (p0 : List MemPlace) (h0 : DataW.Trod enc Tryz.prog W 0 (fun _ => true) true 58 v0 d0 p0) (k0 : Value.okWide Tryz.prog W .any base 58 v0)
    (v1 : Value) (d1 : DataW H) (p1 : List MemPlace) (h1 : DataW.Trod enc Tryz.prog W 0 (fun _ => true) true 60 v1 d1 p1) (k1 : Value.okWide Tryz.prog W .any base 60 v1)
    (v2 : Value) (d2 : DataW H) (p2 : List MemPlace) (h2 : DataW.Trod enc Tryz.prog W 0 (fun _ => true) true 2 v2 d2 p2) (k2 : Value.okWide Tryz.prog W .any base 2 v2) :
    Calls Tryz.prog 16 #[v0, v1, v2] W (RetB (.bool true) W) := by
  obtain ⟨a0, s0, rfl, r0, o0⟩ := open_ent h0 k0
  obtain ⟨a1, rfl, o1⟩ := open_ver h1 k1
  obtain ⟨a2, rfl, o2⟩ := open_i64 Tryz.underlying2 h2 k2
  exact own5_any a0 o0 a1 a2 s0 W hw r0
end Go.Proofs.YtbmoimihnndboaaGreatDoor
