import Derived.Test.YtbmoimihnndboaaGreatDoorM12
import Derived.Laws.OwnMore
set_option linter.unusedVariables false
set_option linter.unusedSimpArgs false
/- Walk: armariumlaw5.DeedTurn. (printed by tools/gen_st.py) -/
namespace Go.Proofs.YtbmoimihnndboaaGreatDoor
open Go.Vc Go.RowKit Go.Fl Go.ChangeShapes Go.WideShapes Go.ChangeAt
set_option linter.unusedVariables false

theorem putD_ne (d : D) (h : d.Ok) : (!(strEq ⟨(putD d).toArray⟩ ⟨#[]⟩)) = mayD d := by
  rcases Bool.eq_false_or_eq_true (mayD d) with hm | hm
  · rw [hm]
    have hne : ¬ (⟨(putD d).toArray⟩ : ByteArray) = ⟨#[]⟩ := fun e => by
      have e1 : (putD d).toArray = #[] := congrArg ByteArray.data e
      have e2 : putD d = [] := by simpa using e1
      rw [putD_may d h hm] at e2
      exact putV_ne _ e2
    rcases Bool.eq_false_or_eq_true (strEq ⟨(putD d).toArray⟩ ⟨#[]⟩) with h1 | h1
    · exact absurd (strEq_iff.1 h1) hne
    · rw [h1]
      rfl
  · rw [hm, putD_not d hm, strEq_iff.2 rfl]
    rfl
theorem tag56 : strok ⟨(zText (5, 6)).toArray⟩ := by
  unfold strok
  decide +kernel
theorem body301 : strok ⟨(List.replicate 301 0).toArray⟩ := by
  unfold strok
  decide +kernel
theorem bv_zero (n : Nat) : bv (List.replicate n 0) = List.replicate n (.int .u8 0) := by
  unfold bv
  rw [List.map_replicate]
  rfl
theorem inf_u8 : (Tryz.prog.info? 5).map (fun i => (i.zero, i.size, i.bytes)) = some (some (.int .u8 0), 1, 1) := by kernel_rfl
/-- a new row of bytes -/
theorem make_u8 (n : Nat) (hn : n ≤ 1000000) (w : World) : ∃ w', (Instr.makeSlice 50 (.int .i64 (n : Int)) (.int .i64 (n : Int))).run Tryz.prog w = .ok (.slice (some ⟨w.heap.size, 0, none⟩) n n) w' ∧
    w'.ownsRow w.heap.size 5 1 (.slice (some ⟨w.heap.size, 0, none⟩) n n) n (List.replicate n (.int .u8 0)) ∧ w.grownBy w' none := by
  obtain ⟨i, hi, e⟩ := Option.map_eq_some_iff.1 inf_u8
  have hz : i.zero = some (.int .u8 0) := congrArg Prod.fst e
  have hs : i.size = 1 := congrArg (fun q => q.2.1) e
  have hb : i.bytes = 1 := congrArg (fun q => q.2.2) e
  have hM : 1000000 ≤ maxLen := by decide
  obtain ⟨w', h1, h2, h3⟩ := run_makeSlice_full (P := Tryz.prog) (w := w) w.heap.size 50 5 i _ 1 Tryz.underlying50 hi hz hs .i64 .i64 n (by omega) (by rw [hb]; omega) (by omega) (Nat.le_refl _)
  refine ⟨w', h1, ?_, h3⟩
  have : (madeCells (Value.int .u8 0).cells (n * 1)).toList = List.replicate n (.int .u8 0) := by
    rw [Nat.mul_one]
    exact toList_madeCells_one _ _
  rwa [this] at h2
set_option maxHeartbeats 8000000 in
theorem turn5_any (d : D) (hd : d.Ok) (wh n : Int) (hn : i64ok n) (w : World) (hw : Env w) : Calls Tryz.prog 5 #[.agg (dC d).toArray, .int .i64 wh, .int .i64 n] w (RetB (.bool true) w) := by
  obtain ⟨a, ha⟩ : ∃ a, a = cutD d := ⟨_, rfl⟩
  have hda := deed5_any d hd
  have hok := cutD_ok hd
  rw [← ha] at hda hok
  refine calls_vc lay_ok Tryz.func5 rfl (by kernel_rfl) (by kernel_rfl) ?_
  have hc := CtxF.start w no (fun _ h => h.elim) (R := fun _ _ => True) trivial Stab.true
  intro g3 wg3 hg3
  have hc := (hc.loc hg3).1
  refine call_b (begun5_any _ (hw.below hc.below)) ?_
  intro wQ hQ
  have hc := (hc.quiet hQ).1
  refine ⟨_, ?_, hc.cells 0 rfl, ?_⟩
  · rfl
  refine call_b (hda _) ?_
  intro wQ hQ
  have hc := (hc.quiet hQ).1
  refine ⟨hc.may 0 rfl _ _ (Nat.le_of_ble_eq_true rfl) rfl, ?_⟩
  intro wS hS
  have hc := (hc.set 0 rfl hS).1
  refine vc_nz (by decide) ?_
  refine vc_nz (by decide) ?_
  refine split_ (fun _ => ?_) (fun _ => ?_)
  · refine ⟨hc.may 0 rfl _ _ (Nat.le_of_ble_eq_true rfl) rfl, ?_⟩
    intro wS hS
    have hc := (hc.set 0 rfl hS).1
    obtain ⟨b, hb⟩ : ∃ b : D, b = ⟨n, a.key, a.body, a.ver, a.cond, a.tag, a.req, a.low⟩ := ⟨_, rfl⟩
    have hbo : b.Ok := by
      rw [hb]
      exact ⟨hn, hok.key, hok.body, hok.ver, hok.cond, hok.tag, hok.req, hok.low⟩
    have hc : CtxF no w no wS [(g3, 23, dC b)] [] (fun _ _ => True) := by
      rw [hb]
      exact hc
    clear hb
    have b1 := hc.blk 0 rfl
    have hlt : ∀ z, (fun z => z = g3) z → z < wS.heap.size := fun z e => by subst e; exact b1.lt
    refine drawn lay_ok (by kernel_rfl) (.q 0 (.q 2 (.n 1 (.n 3 (.q 4 (.q 5 (.q 6 (.q 9 (.n 7 (.q 8 (.n 10 (.q 11 (.q 12 (.q 13 .fin))) .stop)) .stop))))) .stop) .stop))) (Keeps (fun z => z = g3) wS) (by kernel_rfl) (Keeps.start _ _) ?_
    have hk := Keeps.start (fun z => z = g3) wS
    have hc := hc.drew
    refine ⟨_, ?_, fun x hx => hx.cells b1 rfl, ?_⟩
    · rfl
    refine ⟨_, ?_, fun x hx => hx.cells b1 rfl, ?_⟩
    · rfl
    refine ⟨?_, trivial⟩
    refine call_b (may_any b hbo _) ?_
    intro wA hA
    have hc := (hc.quiet hA).1
    have hk := hk.below hlt hA
    refine ⟨hk, ?_⟩
    refine ⟨?_, trivial⟩
    refine call_b (rmay_any b hbo _) ?_
    intro wB hB
    have hc := (hc.quiet hB).1
    have hk := hk.below hlt hB
    refine ⟨hk, ?_⟩
    refine split_t (by cases mayD b <;> rfl) ?_
    refine ⟨_, ?_, fun x hx => hx.cells b1 rfl, ?_⟩
    · rfl
    refine ⟨_, ?_, fun x hx => hx.cells b1 rfl, ?_⟩
    · rfl
    refine ⟨?_, trivial⟩
    refine call_b (putD_any b hbo _ (hw.tab.below hc.below)) ?_
    intro wC hC
    have hc := (hc.quiet hC).1
    have hk := hk.below hlt hC
    refine ⟨hk, ?_⟩
    refine ⟨?_, trivial⟩
    refine call_b (rmay_any b hbo _) ?_
    intro wD hD
    have hc := (hc.quiet hD).1
    have hk := hk.below hlt hD
    refine ⟨hk, ?_⟩
    refine ⟨ret_bool ?_, hc.below⟩
    rw [← putD_ne b hbo]
    simp
  · skip
    refine split_ (fun _ => ?_) (fun _ => ?_)
    · refine ⟨hc.may 0 rfl _ _ (Nat.le_of_ble_eq_true rfl) rfl, ?_⟩
      intro wS hS
      have hc := (hc.set 0 rfl hS).1
      obtain ⟨b, hb⟩ : ∃ b : D, b = ⟨a.kind, a.key, a.body, n, a.cond, a.tag, a.req, a.low⟩ := ⟨_, rfl⟩
      have hbo : b.Ok := by
        rw [hb]
        exact ⟨hok.kind, hok.key, hok.body, hn, hok.cond, hok.tag, hok.req, hok.low⟩
      have hc : CtxF no w no wS [(g3, 23, dC b)] [] (fun _ _ => True) := by
        rw [hb]
        exact hc
      clear hb
      have b1 := hc.blk 0 rfl
      have hlt : ∀ z, (fun z => z = g3) z → z < wS.heap.size := fun z e => by subst e; exact b1.lt
      refine drawn lay_ok (by kernel_rfl) (.q 0 (.q 2 (.n 1 (.n 3 (.q 4 (.q 5 (.q 6 (.q 9 (.n 7 (.q 8 (.n 10 (.q 11 (.q 12 (.q 13 .fin))) .stop)) .stop))))) .stop) .stop))) (Keeps (fun z => z = g3) wS) (by kernel_rfl) (Keeps.start _ _) ?_
      have hk := Keeps.start (fun z => z = g3) wS
      have hc := hc.drew
      refine ⟨_, ?_, fun x hx => hx.cells b1 rfl, ?_⟩
      · rfl
      refine ⟨_, ?_, fun x hx => hx.cells b1 rfl, ?_⟩
      · rfl
      refine ⟨?_, trivial⟩
      refine call_b (may_any b hbo _) ?_
      intro wA hA
      have hc := (hc.quiet hA).1
      have hk := hk.below hlt hA
      refine ⟨hk, ?_⟩
      refine ⟨?_, trivial⟩
      refine call_b (rmay_any b hbo _) ?_
      intro wB hB
      have hc := (hc.quiet hB).1
      have hk := hk.below hlt hB
      refine ⟨hk, ?_⟩
      refine split_t (by cases mayD b <;> rfl) ?_
      refine ⟨_, ?_, fun x hx => hx.cells b1 rfl, ?_⟩
      · rfl
      refine ⟨_, ?_, fun x hx => hx.cells b1 rfl, ?_⟩
      · rfl
      refine ⟨?_, trivial⟩
      refine call_b (putD_any b hbo _ (hw.tab.below hc.below)) ?_
      intro wC hC
      have hc := (hc.quiet hC).1
      have hk := hk.below hlt hC
      refine ⟨hk, ?_⟩
      refine ⟨?_, trivial⟩
      refine call_b (rmay_any b hbo _) ?_
      intro wD hD
      have hc := (hc.quiet hD).1
      have hk := hk.below hlt hD
      refine ⟨hk, ?_⟩
      refine ⟨ret_bool ?_, hc.below⟩
      rw [← putD_ne b hbo]
      simp
    · skip
      refine split_ (fun _ => ?_) (fun _ => ?_)
      · refine ⟨hc.may 0 rfl _ _ (Nat.le_of_ble_eq_true rfl) rfl, ?_⟩
        intro wS hS
        have hc := (hc.set 0 rfl hS).1
        obtain ⟨b, hb⟩ : ∃ b : D, b = ⟨a.kind, a.key, a.body, a.ver, n, a.tag, a.req, a.low⟩ := ⟨_, rfl⟩
        have hbo : b.Ok := by
          rw [hb]
          exact ⟨hok.kind, hok.key, hok.body, hok.ver, hn, hok.tag, hok.req, hok.low⟩
        have hc : CtxF no w no wS [(g3, 23, dC b)] [] (fun _ _ => True) := by
          rw [hb]
          exact hc
        clear hb
        have b1 := hc.blk 0 rfl
        have hlt : ∀ z, (fun z => z = g3) z → z < wS.heap.size := fun z e => by subst e; exact b1.lt
        refine drawn lay_ok (by kernel_rfl) (.q 0 (.q 2 (.n 1 (.n 3 (.q 4 (.q 5 (.q 6 (.q 9 (.n 7 (.q 8 (.n 10 (.q 11 (.q 12 (.q 13 .fin))) .stop)) .stop))))) .stop) .stop))) (Keeps (fun z => z = g3) wS) (by kernel_rfl) (Keeps.start _ _) ?_
        have hk := Keeps.start (fun z => z = g3) wS
        have hc := hc.drew
        refine ⟨_, ?_, fun x hx => hx.cells b1 rfl, ?_⟩
        · rfl
        refine ⟨_, ?_, fun x hx => hx.cells b1 rfl, ?_⟩
        · rfl
        refine ⟨?_, trivial⟩
        refine call_b (may_any b hbo _) ?_
        intro wA hA
        have hc := (hc.quiet hA).1
        have hk := hk.below hlt hA
        refine ⟨hk, ?_⟩
        refine ⟨?_, trivial⟩
        refine call_b (rmay_any b hbo _) ?_
        intro wB hB
        have hc := (hc.quiet hB).1
        have hk := hk.below hlt hB
        refine ⟨hk, ?_⟩
        refine split_t (by cases mayD b <;> rfl) ?_
        refine ⟨_, ?_, fun x hx => hx.cells b1 rfl, ?_⟩
        · rfl
        refine ⟨_, ?_, fun x hx => hx.cells b1 rfl, ?_⟩
        · rfl
        refine ⟨?_, trivial⟩
        refine call_b (putD_any b hbo _ (hw.tab.below hc.below)) ?_
        intro wC hC
        have hc := (hc.quiet hC).1
        have hk := hk.below hlt hC
        refine ⟨hk, ?_⟩
        refine ⟨?_, trivial⟩
        refine call_b (rmay_any b hbo _) ?_
        intro wD hD
        have hc := (hc.quiet hD).1
        have hk := hk.below hlt hD
        refine ⟨hk, ?_⟩
        refine ⟨ret_bool ?_, hc.below⟩
        rw [← putD_ne b hbo]
        simp
      · skip
        refine split_ (fun _ => ?_) (fun _ => ?_)
        · refine ⟨hc.may 0 rfl _ _ (Nat.le_of_ble_eq_true rfl) rfl, ?_⟩
          intro wS hS
          have hc := (hc.set 0 rfl hS).1
          obtain ⟨b, hb⟩ : ∃ b : D, b = ⟨a.kind, a.key, a.body, a.ver, a.cond, a.tag, n, a.low⟩ := ⟨_, rfl⟩
          have hbo : b.Ok := by
            rw [hb]
            exact ⟨hok.kind, hok.key, hok.body, hok.ver, hok.cond, hok.tag, hn, hok.low⟩
          have hc : CtxF no w no wS [(g3, 23, dC b)] [] (fun _ _ => True) := by
            rw [hb]
            exact hc
          clear hb
          have b1 := hc.blk 0 rfl
          have hlt : ∀ z, (fun z => z = g3) z → z < wS.heap.size := fun z e => by subst e; exact b1.lt
          refine drawn lay_ok (by kernel_rfl) (.q 0 (.q 2 (.n 1 (.n 3 (.q 4 (.q 5 (.q 6 (.q 9 (.n 7 (.q 8 (.n 10 (.q 11 (.q 12 (.q 13 .fin))) .stop)) .stop))))) .stop) .stop))) (Keeps (fun z => z = g3) wS) (by kernel_rfl) (Keeps.start _ _) ?_
          have hk := Keeps.start (fun z => z = g3) wS
          have hc := hc.drew
          refine ⟨_, ?_, fun x hx => hx.cells b1 rfl, ?_⟩
          · rfl
          refine ⟨_, ?_, fun x hx => hx.cells b1 rfl, ?_⟩
          · rfl
          refine ⟨?_, trivial⟩
          refine call_b (may_any b hbo _) ?_
          intro wA hA
          have hc := (hc.quiet hA).1
          have hk := hk.below hlt hA
          refine ⟨hk, ?_⟩
          refine ⟨?_, trivial⟩
          refine call_b (rmay_any b hbo _) ?_
          intro wB hB
          have hc := (hc.quiet hB).1
          have hk := hk.below hlt hB
          refine ⟨hk, ?_⟩
          refine split_t (by cases mayD b <;> rfl) ?_
          refine ⟨_, ?_, fun x hx => hx.cells b1 rfl, ?_⟩
          · rfl
          refine ⟨_, ?_, fun x hx => hx.cells b1 rfl, ?_⟩
          · rfl
          refine ⟨?_, trivial⟩
          refine call_b (putD_any b hbo _ (hw.tab.below hc.below)) ?_
          intro wC hC
          have hc := (hc.quiet hC).1
          have hk := hk.below hlt hC
          refine ⟨hk, ?_⟩
          refine ⟨?_, trivial⟩
          refine call_b (rmay_any b hbo _) ?_
          intro wD hD
          have hc := (hc.quiet hD).1
          have hk := hk.below hlt hD
          refine ⟨hk, ?_⟩
          refine ⟨ret_bool ?_, hc.below⟩
          rw [← putD_ne b hbo]
          simp
        · skip
          refine split_ (fun _ => ?_) (fun _ => ?_)
          · refine ⟨hc.may 0 rfl _ _ (Nat.le_of_ble_eq_true rfl) rfl, ?_⟩
            intro wS hS
            have hc := (hc.set 0 rfl hS).1
            obtain ⟨b, hb⟩ : ∃ b : D, b = ⟨a.kind, a.key, a.body, a.ver, a.cond, a.tag, a.req, n⟩ := ⟨_, rfl⟩
            have hbo : b.Ok := by
              rw [hb]
              exact ⟨hok.kind, hok.key, hok.body, hok.ver, hok.cond, hok.tag, hok.req, hn⟩
            have hc : CtxF no w no wS [(g3, 23, dC b)] [] (fun _ _ => True) := by
              rw [hb]
              exact hc
            clear hb
            have b1 := hc.blk 0 rfl
            have hlt : ∀ z, (fun z => z = g3) z → z < wS.heap.size := fun z e => by subst e; exact b1.lt
            refine drawn lay_ok (by kernel_rfl) (.q 0 (.q 2 (.n 1 (.n 3 (.q 4 (.q 5 (.q 6 (.q 9 (.n 7 (.q 8 (.n 10 (.q 11 (.q 12 (.q 13 .fin))) .stop)) .stop))))) .stop) .stop))) (Keeps (fun z => z = g3) wS) (by kernel_rfl) (Keeps.start _ _) ?_
            have hk := Keeps.start (fun z => z = g3) wS
            have hc := hc.drew
            refine ⟨_, ?_, fun x hx => hx.cells b1 rfl, ?_⟩
            · rfl
            refine ⟨_, ?_, fun x hx => hx.cells b1 rfl, ?_⟩
            · rfl
            refine ⟨?_, trivial⟩
            refine call_b (may_any b hbo _) ?_
            intro wA hA
            have hc := (hc.quiet hA).1
            have hk := hk.below hlt hA
            refine ⟨hk, ?_⟩
            refine ⟨?_, trivial⟩
            refine call_b (rmay_any b hbo _) ?_
            intro wB hB
            have hc := (hc.quiet hB).1
            have hk := hk.below hlt hB
            refine ⟨hk, ?_⟩
            refine split_t (by cases mayD b <;> rfl) ?_
            refine ⟨_, ?_, fun x hx => hx.cells b1 rfl, ?_⟩
            · rfl
            refine ⟨_, ?_, fun x hx => hx.cells b1 rfl, ?_⟩
            · rfl
            refine ⟨?_, trivial⟩
            refine call_b (putD_any b hbo _ (hw.tab.below hc.below)) ?_
            intro wC hC
            have hc := (hc.quiet hC).1
            have hk := hk.below hlt hC
            refine ⟨hk, ?_⟩
            refine ⟨?_, trivial⟩
            refine call_b (rmay_any b hbo _) ?_
            intro wD hD
            have hc := (hc.quiet hD).1
            have hk := hk.below hlt hD
            refine ⟨hk, ?_⟩
            refine ⟨ret_bool ?_, hc.below⟩
            rw [← putD_ne b hbo]
            simp
          · skip
            refine split_ (fun _ => ?_) (fun _ => ?_)
            · refine call_b (rtext_any (z := (5, 6)) (by unfold zOk; decide) _) ?_
              intro wQ hQ
              have hc := (hc.quiet hQ).1
              refine ⟨hc.may 0 rfl _ _ (Nat.le_of_ble_eq_true rfl) rfl, ?_⟩
              intro wS hS
              have hc := (hc.set 0 rfl hS).1
              obtain ⟨b, hb⟩ : ∃ b : D, b = ⟨a.kind, a.key, a.body, a.ver, a.cond, ⟨(zText (5, 6)).toArray⟩, a.req, a.low⟩ := ⟨_, rfl⟩
              have hbo : b.Ok := by
                rw [hb]
                exact ⟨hok.kind, hok.key, hok.body, hok.ver, hok.cond, tag56, hok.req, hok.low⟩
              have hc : CtxF no w no wS [(g3, 23, dC b)] [] (fun _ _ => True) := by
                rw [hb]
                exact hc
              clear hb
              have b1 := hc.blk 0 rfl
              have hlt : ∀ z, (fun z => z = g3) z → z < wS.heap.size := fun z e => by subst e; exact b1.lt
              refine drawn lay_ok (by kernel_rfl) (.q 0 (.q 2 (.n 1 (.n 3 (.q 4 (.q 5 (.q 6 (.q 9 (.n 7 (.q 8 (.n 10 (.q 11 (.q 12 (.q 13 .fin))) .stop)) .stop))))) .stop) .stop))) (Keeps (fun z => z = g3) wS) (by kernel_rfl) (Keeps.start _ _) ?_
              have hk := Keeps.start (fun z => z = g3) wS
              have hc := hc.drew
              refine ⟨_, ?_, fun x hx => hx.cells b1 rfl, ?_⟩
              · rfl
              refine ⟨_, ?_, fun x hx => hx.cells b1 rfl, ?_⟩
              · rfl
              refine ⟨?_, trivial⟩
              refine call_b (may_any b hbo _) ?_
              intro wA hA
              have hc := (hc.quiet hA).1
              have hk := hk.below hlt hA
              refine ⟨hk, ?_⟩
              refine ⟨?_, trivial⟩
              refine call_b (rmay_any b hbo _) ?_
              intro wB hB
              have hc := (hc.quiet hB).1
              have hk := hk.below hlt hB
              refine ⟨hk, ?_⟩
              refine split_t (by cases mayD b <;> rfl) ?_
              refine ⟨_, ?_, fun x hx => hx.cells b1 rfl, ?_⟩
              · rfl
              refine ⟨_, ?_, fun x hx => hx.cells b1 rfl, ?_⟩
              · rfl
              refine ⟨?_, trivial⟩
              refine call_b (putD_any b hbo _ (hw.tab.below hc.below)) ?_
              intro wC hC
              have hc := (hc.quiet hC).1
              have hk := hk.below hlt hC
              refine ⟨hk, ?_⟩
              refine ⟨?_, trivial⟩
              refine call_b (rmay_any b hbo _) ?_
              intro wD hD
              have hc := (hc.quiet hD).1
              have hk := hk.below hlt hD
              refine ⟨hk, ?_⟩
              refine ⟨ret_bool ?_, hc.below⟩
              rw [← putD_ne b hbo]
              simp
            · skip
              obtain ⟨wM, hr, ho, hg⟩ := make_u8 301 (by decide) wS
              refine ⟨_, _, hr, ?_⟩
              have hM := (Below.refl wS.heap.size wS).grown hg (Nat.le_refl _) (fun k h => by cases h)
              have hc := (hc.quiet hM).1
              have hrow := told_row ho (S := fun b => wS.heap.size ≤ b ∧ b < wM.heap.size) (fun b h1 h2 => ⟨h1, h2⟩)
              rw [← bv_zero 301] at hrow
              obtain ⟨z, hz⟩ : ∃ z : List UInt8, z = List.replicate 301 0 := ⟨_, rfl⟩
              rw [← hz] at hrow
              refine bytes_str (l := z) Tryz.underlying50 Tryz.underlying5 Tryz.underlying9 hrow (by rw [hz, List.length_replicate]) ?_
              refine ⟨hc.may 0 rfl _ _ (Nat.le_of_ble_eq_true rfl) rfl, ?_⟩
              intro wS hS
              have hc := (hc.set 0 rfl hS).1
              obtain ⟨b, hb⟩ : ∃ b : D, b = ⟨a.kind, a.key, ⟨z.toArray⟩, a.ver, a.cond, a.tag, a.req, a.low⟩ := ⟨_, rfl⟩
              have hbo : b.Ok := by
                rw [hb]
                exact ⟨hok.kind, hok.key, hz ▸ body301, hok.ver, hok.cond, hok.tag, hok.req, hok.low⟩
              have hc : CtxF no w no wS [(g3, 23, dC b)] [] (fun _ _ => True) := by
                rw [hb]
                exact hc
              clear hb
              have b1 := hc.blk 0 rfl
              have hlt : ∀ z, (fun z => z = g3) z → z < wS.heap.size := fun z e => by subst e; exact b1.lt
              refine drawn lay_ok (by kernel_rfl) (.q 0 (.q 2 (.n 1 (.n 3 (.q 4 (.q 5 (.q 6 (.q 9 (.n 7 (.q 8 (.n 10 (.q 11 (.q 12 (.q 13 .fin))) .stop)) .stop))))) .stop) .stop))) (Keeps (fun z => z = g3) wS) (by kernel_rfl) (Keeps.start _ _) ?_
              have hk := Keeps.start (fun z => z = g3) wS
              have hc := hc.drew
              refine ⟨_, ?_, fun x hx => hx.cells b1 rfl, ?_⟩
              · rfl
              refine ⟨_, ?_, fun x hx => hx.cells b1 rfl, ?_⟩
              · rfl
              refine ⟨?_, trivial⟩
              refine call_b (may_any b hbo _) ?_
              intro wA hA
              have hc := (hc.quiet hA).1
              have hk := hk.below hlt hA
              refine ⟨hk, ?_⟩
              refine ⟨?_, trivial⟩
              refine call_b (rmay_any b hbo _) ?_
              intro wB hB
              have hc := (hc.quiet hB).1
              have hk := hk.below hlt hB
              refine ⟨hk, ?_⟩
              refine split_t (by cases mayD b <;> rfl) ?_
              refine ⟨_, ?_, fun x hx => hx.cells b1 rfl, ?_⟩
              · rfl
              refine ⟨_, ?_, fun x hx => hx.cells b1 rfl, ?_⟩
              · rfl
              refine ⟨?_, trivial⟩
              refine call_b (putD_any b hbo _ (hw.tab.below hc.below)) ?_
              intro wC hC
              have hc := (hc.quiet hC).1
              have hk := hk.below hlt hC
              refine ⟨hk, ?_⟩
              refine ⟨?_, trivial⟩
              refine call_b (rmay_any b hbo _) ?_
              intro wD hD
              have hc := (hc.quiet hD).1
              have hk := hk.below hlt hD
              refine ⟨hk, ?_⟩
              refine ⟨ret_bool ?_, hc.below⟩
              rw [← putD_ne b hbo]
              simp
set_option maxRecDepth 100000 in
theorem deedTurn_ct {H : Type} (enc : TypeId × Value → H) (W : World) (hw : Env W) {base : Nat}
    (v0 : Value) (d0 : DataW H) (p0 : List MemPlace) (h0 : DataW.Trod enc Tryz.prog W 0 (fun _ => true) true 23 v0 d0 p0) (k0 : Value.okWide Tryz.prog W .any base 23 v0)
    (v1 : Value) (d1 : DataW H) (p1 : List MemPlace) (h1 : DataW.Trod enc Tryz.prog W 0 (fun _ => true) true 3 v1 d1 p1) (k1 : Value.okWide Tryz.prog W .any base 3 v1)
    (v2 : Value) (d2 : DataW H) (p2 : List MemPlace) (h2 : DataW.Trod enc Tryz.prog W 0 (fun _ => true) true 2 v2 d2 p2) (k2 : Value.okWide Tryz.prog W .any base 2 v2) :
    Calls Tryz.prog 5 #[v0, v1, v2] W (RetB (.bool true) W) := by
  obtain ⟨a0, rfl, o0⟩ := open_deed h0 k0
  obtain ⟨a1, rfl, o1⟩ := open_i64 Tryz.underlying3 h1 k1
  obtain ⟨a2, rfl, o2⟩ := open_i64 Tryz.underlying2 h2 k2
  exact turn5_any a0 o0 a1 a2 o2 W hw
end Go.Proofs.YtbmoimihnndboaaGreatDoor
