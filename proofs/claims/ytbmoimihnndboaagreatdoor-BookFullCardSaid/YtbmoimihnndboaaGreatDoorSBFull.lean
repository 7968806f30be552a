import Derived.Test.YtbmoimihnndboaaGreatDoorM13
set_option linter.unusedVariables false
set_option linter.unusedSimpArgs false
/- Walk: armariumlaw5.BookFull. -/
namespace Go.Proofs.YtbmoimihnndboaaGreatDoor
open Go.Vc Go.RowKit Go.Fl Go.ChangeShapes Go.WideShapes Go.ChangeAt
def fA (i : Nat) : D := ⟨1, ⟨(107 :: dgs i).toArray⟩, ⟨#[]⟩, 0, 0, ⟨#[]⟩, 4294967296 + ((i : Int) + 1), 4294967296 + ((i : Int) + 1)⟩
def fB (k j : Nat) : D := ⟨1, ⟨#[107, 48]⟩, ⟨#[120]⟩, 0, 0, ⟨#[]⟩, 4294967296 + ((k : Int) + j + 1), 4294967296 + ((k : Int) + j + 1)⟩
def lA (k : Nat) : List D := (List.range k).map fA
def lB (k j : Nat) : List D := lA k ++ (List.range j).map (fB k)
theorem lA_succ (k : Nat) : lA (k + 1) = lA k ++ [fA k] := by unfold lA; rw [List.range_succ, List.map_append]; rfl
theorem lB_succ (k j : Nat) : lB k (j + 1) = lB k j ++ [fB k j] := by unfold lB; rw [List.range_succ, List.map_append, List.append_assoc]; rfl
theorem lB_zero (k : Nat) : lB k 0 = lA k := by unfold lB; simp
def chkA : Bool := (List.range 42).all fun i => mayD (fA i) && (((doF (foldF Stt0 (lA i)) (fA i)).2.err == 0) == decide (i < 40)) && (decide (i < 40) || (doF (foldF Stt0 (lA i)) (fA i)).2.err == 5)
def okB (k j : Nat) : Bool := (decide (0 < k) && decide (j < 11)) || (decide (k = 0) && decide (j < 12))
def chkB : Bool := (List.range 43).all fun k => (List.range 14).all fun j => mayD (fB k j) && (((doF (foldF Stt0 (lB k j)) (fB k j)).2.err == 0) == okB k j) && (okB k j || (doF (foldF Stt0 (lB k j)) (fB k j)).2.err == 5)
def chkC : Bool := (List.range 43).all fun k => (List.range 15).all fun j => decide ((foldF Stt0 (lB k j)).ms.length ≤ 1) && ((foldF Stt0 (lB k j)).l.length == min k 40 + (if k = 0 ∧ 0 < j then 1 else 0))
set_option maxRecDepth 100000 in
theorem chkA_ok : chkA = true := by kernel_rfl
set_option maxRecDepth 100000 in
theorem chkB_ok : chkB = true := by kernel_rfl
set_option maxRecDepth 100000 in
theorem chkC_ok : chkC = true := by kernel_rfl
theorem fA_may {i : Nat} (h : i < 42) : mayD (fA i) = true := by
  have := List.all_eq_true.1 chkA_ok i (List.mem_range.2 h)
  simp only [Bool.and_eq_true] at this
  exact this.1.1
theorem fB_may {k j : Nat} (hk : k ≤ 42) (h : j < 14) : mayD (fB k j) = true := by
  have := List.all_eq_true.1 (List.all_eq_true.1 chkB_ok k (List.mem_range.2 (by omega))) j (List.mem_range.2 h)
  simp only [Bool.and_eq_true] at this
  exact this.1.1
theorem lB_may {k j : Nat} (hk : k ≤ 42) (h : j ≤ 14) : ∀ d ∈ lB k j, mayD d = true := by
  intro d hd
  unfold lB lA at hd
  rw [List.mem_append] at hd
  rcases hd with hd | hd
  · obtain ⟨i, hi, rfl⟩ := List.mem_map.1 hd
    exact fA_may (by have := List.mem_range.1 hi; omega)
  · obtain ⟨i, hi, rfl⟩ := List.mem_map.1 hd
    exact fB_may hk (by have := List.mem_range.1 hi; omega)
theorem lB_len (k j : Nat) : (lB k j).length = k + j := by unfold lB lA; simp
theorem lB_F {k j : Nat} (hk : k ≤ 42) (h : j ≤ 14) : foldS Stt0 (lB k j) = foldF Stt0 (lB k j) :=
  foldS_F _ mayStt0 rfl (lB_may hk h) (by rw [lB_len]; show (0 : Int) + ((k + j : Nat) : Int) < 1099511627776; omega)
theorem lB_seq {k j : Nat} (hk : k ≤ 42) (h : j ≤ 14) : (foldS Stt0 (lB k j)).seq < maxN := by
  have := (foldS_ok (lB k j) mayStt0 rfl).2.2
  rw [lB_len] at this
  have h0 : Stt0.seq = 0 := rfl
  have h1 : maxN = 1099511627776 := rfl
  omega
theorem lA_err {i : Nat} (h : i < 42) : (((doS (foldS Stt0 (lA i)) (fA i)).2.err == 0) = decide (i < 40)) ∧ (i < 40 ∨ (doS (foldS Stt0 (lA i)) (fA i)).2.err = 5) := by
  have h1 := lB_seq (k := i) (j := 0) (by omega) (by omega)
  have h2 := lB_F (k := i) (j := 0) (by omega) (by omega)
  have h3 := (foldS_ok (lB i 0) mayStt0 rfl).1
  rw [lB_zero] at h1 h2 h3
  rw [doS_F h3 (fA_may h) h1, h2]
  have := List.all_eq_true.1 chkA_ok i (List.mem_range.2 h)
  simp only [Bool.and_eq_true, Bool.or_eq_true, decide_eq_true_eq, beq_iff_eq] at this
  exact ⟨this.1.2, this.2⟩
theorem lB_err {k j : Nat} (hk : k ≤ 42) (h : j < 14) : (((doS (foldS Stt0 (lB k j)) (fB k j)).2.err == 0) = okB k j) ∧ (okB k j = true ∨ (doS (foldS Stt0 (lB k j)) (fB k j)).2.err = 5) := by
  rw [doS_F (foldS_ok (lB k j) mayStt0 rfl).1 (fB_may hk h) (lB_seq hk (by omega)), lB_F hk (by omega)]
  have := List.all_eq_true.1 (List.all_eq_true.1 chkB_ok k (List.mem_range.2 (by omega))) j (List.mem_range.2 h)
  simp only [Bool.and_eq_true, Bool.or_eq_true, beq_iff_eq] at this
  exact ⟨this.1.2, this.2⟩
theorem lB_end {k j : Nat} (hk : k ≤ 42) (h : j ≤ 14) : (foldS Stt0 (lB k j)).ms.length ≤ 1 ∧ (foldS Stt0 (lB k j)).l.length = min k 40 + (if k = 0 ∧ 0 < j then 1 else 0) := by
  rw [lB_F hk h]
  have := List.all_eq_true.1 (List.all_eq_true.1 chkC_ok k (List.mem_range.2 (by omega))) j (List.mem_range.2 (by omega))
  simp only [Bool.and_eq_true, decide_eq_true_eq, beq_iff_eq] at this
  exact this
def dA (i : Nat) : D := ⟨1, ⟨#[107]⟩ ++ ⟨(dgs i).toArray⟩, ⟨#[]⟩, 0, 0, ⟨#[]⟩, IntKind.i64.wrap (4294967296 + IntKind.i64.wrap ((i : Int) + 1)), IntKind.i64.wrap (4294967296 + IntKind.i64.wrap ((i : Int) + 1))⟩
theorem dA_eq {i : Nat} (h : i < 100) : dA i = fA i := by
  unfold dA fA
  rw [kcat, IntWalk.i64_in ((i : Int) + 1) ⟨by omega, by omega⟩, IntWalk.i64_in (4294967296 + ((i : Int) + 1)) ⟨by omega, by omega⟩]
def dB (n : Nat) : D := ⟨1, ⟨#[107, 48]⟩, ⟨#[120]⟩, 0, 0, ⟨#[]⟩, IntKind.i64.wrap (4294967296 + IntKind.i64.wrap ((n : Int) + 1)), IntKind.i64.wrap (4294967296 + IntKind.i64.wrap ((n : Int) + 1))⟩
theorem dB_eq {k j : Nat} (h : k + j < 100) : dB (k + j) = fB k j := by
  unfold dB fB
  rw [IntWalk.i64_in (((k + j : Nat) : Int) + 1) ⟨by omega, by omega⟩, IntWalk.i64_in (4294967296 + (((k + j : Nat) : Int) + 1)) ⟨by omega, by omega⟩]
  push_cast
  rfl
theorem i_downk {i j : Nat} (h : i + j < 9223372036854775807) : Value.int .i64 (IntKind.i64.wrap (((i + j : Nat) : Int) + 1)) = .int .i64 ((i + (j + 1) : Nat) : Int) := by
  rw [i_down h, Nat.add_assoc]
set_option maxHeartbeats 16000000 in
theorem fullB_any (ks vs : Int) (w : World) (hw : Env w) : Calls Tryz.prog 13 #[.int .i64 ks, .int .i64 vs] w (RetB (.bool true) w) := by
  refine calls_vc lay_ok Tryz.func13 rfl (by kernel_rfl) (by kernel_rfl) ?_
  have hc := CtxF.start w no (fun _ h => h.elim) (R := fun _ _ => True) trivial Stab.true
  refine call_b (begun5_any _ hw) ?_
  intro wQ hQ
  have hc := (hc.quiet hQ).1
  by_cases h1 : ks < 0
  · refine split_t (decide_eq_true h1) ?_
    exact ⟨rfl, hc.below⟩
  refine split_f (decide_eq_false h1) ?_
  by_cases h2 : 42 < ks
  · refine split_t (decide_eq_true h2) ?_
    exact ⟨rfl, hc.below⟩
  refine split_f (decide_eq_false h2) ?_
  by_cases h3 : vs < 0
  · refine split_t (decide_eq_true h3) ?_
    exact ⟨rfl, hc.below⟩
  refine split_f (decide_eq_false h3) ?_
  by_cases h4 : 14 < vs
  · refine split_t (decide_eq_true h4) ?_
    exact ⟨rfl, hc.below⟩
  refine split_f (decide_eq_false h4) ?_
  obtain ⟨k, rfl⟩ : ∃ k : Nat, ks = (k : Int) := ⟨ks.toNat, by omega⟩
  obtain ⟨v, rfl⟩ : ∃ v : Nat, vs = (v : Int) := ⟨vs.toNat, by omega⟩
  intro g6 wg6 hg6
  have hc := (hc.loc hg6).1
  refine ⟨Nat × Stt × SX, fun x => [(0, .int .i64 k), (1, .int .i64 v), (6, .pointer (some ⟨g6, 0, none⟩)), (7, .int .i64 x.1), (8, .int .i64 x.1)],
    fun x w' => x.1 ≤ k ∧ x.2.1 = foldS Stt0 (lA x.1) ∧ ∃ S, CtxF no w S w' [(g6, 78, stX x.2.1 x.2.2)] [] (fun S w => RepS S w x.2.1 (stX x.2.1 x.2.2)), fun x _ => k - x.1, (0, Stt0, SX0),
    ⟨rfl, rfl, rfl, rfl, rfl, trivial⟩, ⟨Nat.zero_le _, rfl, _, hc.now (fun _ => rep0X _ _) (stab_S _ _)⟩, ?_⟩
  clear hc
  rintro ⟨i, s, y⟩ w4 u ⟨hi, hs, S, hc⟩
  simp only at hi hs hc
  by_cases hlt : i < k
  · refine split_t (decide_eq_true (by first | omega | (simp only; omega))) ?_
    obtain ⟨hm, h5, -⟩ := hs ▸ foldS_ok (lA i) mayStt0 rfl
    have hdA := dA_eq (i := i) (by omega)
    have hdk : (dA i).Ok := by rw [hdA]; exact mayD_ok (fA_may (by omega))
    have herr := lA_err (i := i) (by omega)
    rw [← hs] at herr
    refine Drawn.join (α := SX × Nat × Nat) (fun x => [(0, .int .i64 k), (1, .int .i64 v), (6, .pointer (some ⟨g6, 0, none⟩)), (7, .int .i64 ((i + 1 : Nat) : Int)), (8, .int .i64 i), (9, .pointer (some ⟨x.2.1, 0, none⟩)), (10, .pointer (some ⟨x.2.2, 0, none⟩))])
      (fun x wS => ∃ S, CtxF no w S wS [(x.2.2, 89, [.int .i64 (doS s (fA i)).2.err, .int .i64 (doS s (fA i)).2.ver]), (x.2.1, 78, stX (doS s (fA i)).1 x.1), (g6, 78, stX s y)] [] (fun S w => RepS S w (doS s (fA i)).1 (stX (doS s (fA i)).1 x.1))) ?_ ?_
    · have hr := hc
      refine drawn lay_ok (by kernel_rfl) (.q 0 (.q 1 (.q 4 (.q 5 (.q 6 (.q 7 (.n 2 (.q 3 (.q 8 (.n 9 (.q 10 (.q 11 (.q 12 (.n 13 (.n 14 (.n 15 (.z 16) .stop) .stop) (.n 14 (.n 13 (.n 15 (.z 16) .stop) .stop) .stop))))) (.n 13 (.n 9 (.q 10 (.q 11 (.q 12 (.n 14 (.n 15 (.z 16) .stop) .stop)))) (.n 14 (.n 9 (.q 10 (.q 11 (.q 12 (.n 15 (.z 16) .stop)))) .stop) .stop)) (.n 14 (.n 9 (.q 10 (.q 11 (.q 12 (.n 13 (.n 15 (.z 16) .stop) .stop)))) (.n 13 (.n 9 (.q 10 (.q 11 (.q 12 (.n 15 (.z 16) .stop)))) .stop) .stop)) .stop))))) (.n 13 (.n 2 (.q 3 (.q 8 (.n 9 (.q 10 (.q 11 (.q 12 (.n 14 (.n 15 (.z 16) .stop) .stop)))) (.n 14 (.n 9 (.q 10 (.q 11 (.q 12 (.n 15 (.z 16) .stop)))) .stop) .stop)))) (.n 14 (.n 2 (.q 3 (.q 8 (.n 9 (.q 10 (.q 11 (.q 12 (.n 15 (.z 16) .stop)))) .stop))) .stop) .stop)) (.n 14 (.n 2 (.q 3 (.q 8 (.n 9 (.q 10 (.q 11 (.q 12 (.n 13 (.n 15 (.z 16) .stop) .stop)))) (.n 13 (.n 9 (.q 10 (.q 11 (.q 12 (.n 15 (.z 16) .stop)))) .stop) .stop)))) (.n 13 (.n 2 (.q 3 (.q 8 (.n 9 (.q 10 (.q 11 (.q 12 (.n 15 (.z 16) .stop)))) .stop))) .stop) .stop)) .stop))))))))) (Old _) (by kernel_rfl) (Old.start _) ?_
      have hk := hc.old0
      have hc := hc.drew
      refine ⟨_, ?_, fun x hx => Keeps.cells hx (hr.blk 0 rfl) (hr.blk 0 rfl).lt, ?_⟩
      · rfl
      refine ⟨?_, ?_⟩
      · skip
        refine call_b (dgs_any i (by omega) _) ?_
        intro wA hA
        have hc := (hc.quiet hA).1
        have hk := Keeps.below hk (fun _ h => h) hA
        refine ⟨hk, ?_⟩
        refine ⟨sz_dgs i, ?_⟩
        refine ⟨?_, ?_⟩
        · skip
          refine ⟨(bdo_any s (dA i) (foldS_keys hm h5) hdk _ _ _ hc.ctx.lt hc.row).mono fun en wq hq => ?_⟩
          rw [hdA] at hq
          obtain ⟨c1, e1, hq, hrep⟩ := hq
          obtain ⟨y1, rfl⟩ := hrep.stX
          have hc := (hc.call hq).1.know hrep (stab_S _ _)
          have hk := Keeps.below hk (fun _ h => h) hq
          refine ⟨_, e1, hk, ?_⟩
          refine ⟨?_, ?_⟩
          · skip
            intro g9 wg9 hg9
            have hc := (hc.loc hg9).1
            have ng9 := Old.new hk hg9
            have hk := Keeps.below hk (fun _ h => h) hg9.below
            refine ⟨hk, ?_⟩
            refine ⟨?_, trivial⟩
            intro g10 wg10 hg10
            have hc := (hc.loc hg10).1
            have ng10 := Old.new hk hg10
            have hk := Keeps.below hk (fun _ h => h) hg10.below
            refine ⟨hk, ?_⟩
            refine ⟨?_, trivial⟩
            refine ⟨hc.may 1 rfl _ _ (nle rfl) rfl, ?_⟩
            intro wS hS
            have hk := Keeps.stored hk (hc.blk 1 rfl) ng9 hS
            have hc := (hc.set 1 rfl hS).1
            refine ⟨hk, ?_⟩
            refine ⟨hc.may 0 rfl _ _ (nle rfl) rfl, ?_⟩
            intro wS hS
            have hc := (hc.set 0 rfl hS).1
            exact ⟨(y1, g9, g10), ⟨rfl, rfl, rfl, congrArg _ (i_down (by omega)), rfl, rfl, rfl, trivial⟩, _, hc.now (fun h => h.2) (stab_S _ _)⟩
          refine ⟨?_, trivial⟩
          intro g10 wg10 hg10
          have hc := (hc.loc hg10).1
          have ng10 := Old.new hk hg10
          have hk := Keeps.below hk (fun _ h => h) hg10.below
          refine ⟨hk, ?_⟩
          refine ⟨?_, trivial⟩
          intro g9 wg9 hg9
          have hc := (hc.loc hg9).1
          have ng9 := Old.new hk hg9
          have hk := Keeps.below hk (fun _ h => h) hg9.below
          refine ⟨hk, ?_⟩
          refine ⟨?_, trivial⟩
          refine ⟨hc.may 0 rfl _ _ (nle rfl) rfl, ?_⟩
          intro wS hS
          have hk := Keeps.stored hk (hc.blk 0 rfl) ng9 hS
          have hc := (hc.set 0 rfl hS).1
          refine ⟨hk, ?_⟩
          refine ⟨hc.may 1 rfl _ _ (nle rfl) rfl, ?_⟩
          intro wS hS
          have hc := (hc.set 1 rfl hS).1
          exact ⟨(y1, g9, g10), ⟨rfl, rfl, rfl, congrArg _ (i_down (by omega)), rfl, rfl, rfl, trivial⟩, _, hc.swapL.now (fun h => h.2) (stab_S _ _)⟩
        refine ⟨?_, ?_⟩
        · skip
          intro g9 wg9 hg9
          have hc := (hc.loc hg9).1
          have ng9 := Old.new hk hg9
          have hk := Keeps.below hk (fun _ h => h) hg9.below
          refine ⟨hk, ?_⟩
          refine ⟨?_, ?_⟩
          · skip
            refine ⟨(bdo_any s (dA i) (foldS_keys hm h5) hdk _ _ _ hc.ctx.lt hc.row).mono fun en wq hq => ?_⟩
            rw [hdA] at hq
            obtain ⟨c1, e1, hq, hrep⟩ := hq
            obtain ⟨y1, rfl⟩ := hrep.stX
            have hc := (hc.call hq).1.know hrep (stab_S _ _)
            have hk := Keeps.below hk (fun _ h => h) hq
            refine ⟨_, e1, hk, ?_⟩
            refine ⟨?_, trivial⟩
            intro g10 wg10 hg10
            have hc := (hc.loc hg10).1
            have ng10 := Old.new hk hg10
            have hk := Keeps.below hk (fun _ h => h) hg10.below
            refine ⟨hk, ?_⟩
            refine ⟨?_, trivial⟩
            refine ⟨hc.may 1 rfl _ _ (nle rfl) rfl, ?_⟩
            intro wS hS
            have hk := Keeps.stored hk (hc.blk 1 rfl) ng9 hS
            have hc := (hc.set 1 rfl hS).1
            refine ⟨hk, ?_⟩
            refine ⟨hc.may 0 rfl _ _ (nle rfl) rfl, ?_⟩
            intro wS hS
            have hc := (hc.set 0 rfl hS).1
            exact ⟨(y1, g9, g10), ⟨rfl, rfl, rfl, congrArg _ (i_down (by omega)), rfl, rfl, rfl, trivial⟩, _, hc.now (fun h => h.2) (stab_S _ _)⟩
          refine ⟨?_, trivial⟩
          intro g10 wg10 hg10
          have hc := (hc.loc hg10).1
          have ng10 := Old.new hk hg10
          have hk := Keeps.below hk (fun _ h => h) hg10.below
          refine ⟨hk, ?_⟩
          refine ⟨?_, trivial⟩
          refine ⟨(bdo_any s (dA i) (foldS_keys hm h5) hdk _ _ _ hc.ctx.lt hc.row).mono fun en wq hq => ?_⟩
          rw [hdA] at hq
          obtain ⟨c1, e1, hq, hrep⟩ := hq
          obtain ⟨y1, rfl⟩ := hrep.stX
          have hc := (hc.call hq).1.know hrep (stab_S _ _)
          have hk := Keeps.below hk (fun _ h => h) hq
          refine ⟨_, e1, hk, ?_⟩
          refine ⟨?_, trivial⟩
          refine ⟨hc.may 1 rfl _ _ (nle rfl) rfl, ?_⟩
          intro wS hS
          have hk := Keeps.stored hk (hc.blk 1 rfl) ng9 hS
          have hc := (hc.set 1 rfl hS).1
          refine ⟨hk, ?_⟩
          refine ⟨hc.may 0 rfl _ _ (nle rfl) rfl, ?_⟩
          intro wS hS
          have hc := (hc.set 0 rfl hS).1
          exact ⟨(y1, g9, g10), ⟨rfl, rfl, rfl, congrArg _ (i_down (by omega)), rfl, rfl, rfl, trivial⟩, _, hc.now (fun h => h.2) (stab_S _ _)⟩
        refine ⟨?_, trivial⟩
        intro g10 wg10 hg10
        have hc := (hc.loc hg10).1
        have ng10 := Old.new hk hg10
        have hk := Keeps.below hk (fun _ h => h) hg10.below
        refine ⟨hk, ?_⟩
        refine ⟨?_, ?_⟩
        · skip
          refine ⟨(bdo_any s (dA i) (foldS_keys hm h5) hdk _ _ _ hc.ctx.lt hc.row).mono fun en wq hq => ?_⟩
          rw [hdA] at hq
          obtain ⟨c1, e1, hq, hrep⟩ := hq
          obtain ⟨y1, rfl⟩ := hrep.stX
          have hc := (hc.call hq).1.know hrep (stab_S _ _)
          have hk := Keeps.below hk (fun _ h => h) hq
          refine ⟨_, e1, hk, ?_⟩
          refine ⟨?_, trivial⟩
          intro g9 wg9 hg9
          have hc := (hc.loc hg9).1
          have ng9 := Old.new hk hg9
          have hk := Keeps.below hk (fun _ h => h) hg9.below
          refine ⟨hk, ?_⟩
          refine ⟨?_, trivial⟩
          refine ⟨hc.may 0 rfl _ _ (nle rfl) rfl, ?_⟩
          intro wS hS
          have hk := Keeps.stored hk (hc.blk 0 rfl) ng9 hS
          have hc := (hc.set 0 rfl hS).1
          refine ⟨hk, ?_⟩
          refine ⟨hc.may 1 rfl _ _ (nle rfl) rfl, ?_⟩
          intro wS hS
          have hc := (hc.set 1 rfl hS).1
          exact ⟨(y1, g9, g10), ⟨rfl, rfl, rfl, congrArg _ (i_down (by omega)), rfl, rfl, rfl, trivial⟩, _, hc.swapL.now (fun h => h.2) (stab_S _ _)⟩
        refine ⟨?_, trivial⟩
        intro g9 wg9 hg9
        have hc := (hc.loc hg9).1
        have ng9 := Old.new hk hg9
        have hk := Keeps.below hk (fun _ h => h) hg9.below
        refine ⟨hk, ?_⟩
        refine ⟨?_, trivial⟩
        refine ⟨(bdo_any s (dA i) (foldS_keys hm h5) hdk _ _ _ hc.ctx.lt hc.row).mono fun en wq hq => ?_⟩
        rw [hdA] at hq
        obtain ⟨c1, e1, hq, hrep⟩ := hq
        obtain ⟨y1, rfl⟩ := hrep.stX
        have hc := (hc.call hq).1.know hrep (stab_S _ _)
        have hk := Keeps.below hk (fun _ h => h) hq
        refine ⟨_, e1, hk, ?_⟩
        refine ⟨?_, trivial⟩
        refine ⟨hc.may 0 rfl _ _ (nle rfl) rfl, ?_⟩
        intro wS hS
        have hk := Keeps.stored hk (hc.blk 0 rfl) ng9 hS
        have hc := (hc.set 0 rfl hS).1
        refine ⟨hk, ?_⟩
        refine ⟨hc.may 1 rfl _ _ (nle rfl) rfl, ?_⟩
        intro wS hS
        have hc := (hc.set 1 rfl hS).1
        exact ⟨(y1, g9, g10), ⟨rfl, rfl, rfl, congrArg _ (i_down (by omega)), rfl, rfl, rfl, trivial⟩, _, hc.swapL.now (fun h => h.2) (stab_S _ _)⟩
      refine ⟨?_, ?_⟩
      · skip
        intro g9 wg9 hg9
        have hc := (hc.loc hg9).1
        have ng9 := Old.new hk hg9
        have hk := Keeps.below hk (fun _ h => h) hg9.below
        refine ⟨hk, ?_⟩
        refine ⟨?_, ?_⟩
        · skip
          refine call_b (dgs_any i (by omega) _) ?_
          intro wA hA
          have hc := (hc.quiet hA).1
          have hk := Keeps.below hk (fun _ h => h) hA
          refine ⟨hk, ?_⟩
          refine ⟨sz_dgs i, ?_⟩
          refine ⟨?_, ?_⟩
          · skip
            refine ⟨(bdo_any s (dA i) (foldS_keys hm h5) hdk _ _ _ hc.ctx.lt hc.row).mono fun en wq hq => ?_⟩
            rw [hdA] at hq
            obtain ⟨c1, e1, hq, hrep⟩ := hq
            obtain ⟨y1, rfl⟩ := hrep.stX
            have hc := (hc.call hq).1.know hrep (stab_S _ _)
            have hk := Keeps.below hk (fun _ h => h) hq
            refine ⟨_, e1, hk, ?_⟩
            refine ⟨?_, trivial⟩
            intro g10 wg10 hg10
            have hc := (hc.loc hg10).1
            have ng10 := Old.new hk hg10
            have hk := Keeps.below hk (fun _ h => h) hg10.below
            refine ⟨hk, ?_⟩
            refine ⟨?_, trivial⟩
            refine ⟨hc.may 1 rfl _ _ (nle rfl) rfl, ?_⟩
            intro wS hS
            have hk := Keeps.stored hk (hc.blk 1 rfl) ng9 hS
            have hc := (hc.set 1 rfl hS).1
            refine ⟨hk, ?_⟩
            refine ⟨hc.may 0 rfl _ _ (nle rfl) rfl, ?_⟩
            intro wS hS
            have hc := (hc.set 0 rfl hS).1
            exact ⟨(y1, g9, g10), ⟨rfl, rfl, rfl, congrArg _ (i_down (by omega)), rfl, rfl, rfl, trivial⟩, _, hc.now (fun h => h.2) (stab_S _ _)⟩
          refine ⟨?_, trivial⟩
          intro g10 wg10 hg10
          have hc := (hc.loc hg10).1
          have ng10 := Old.new hk hg10
          have hk := Keeps.below hk (fun _ h => h) hg10.below
          refine ⟨hk, ?_⟩
          refine ⟨?_, trivial⟩
          refine ⟨(bdo_any s (dA i) (foldS_keys hm h5) hdk _ _ _ hc.ctx.lt hc.row).mono fun en wq hq => ?_⟩
          rw [hdA] at hq
          obtain ⟨c1, e1, hq, hrep⟩ := hq
          obtain ⟨y1, rfl⟩ := hrep.stX
          have hc := (hc.call hq).1.know hrep (stab_S _ _)
          have hk := Keeps.below hk (fun _ h => h) hq
          refine ⟨_, e1, hk, ?_⟩
          refine ⟨?_, trivial⟩
          refine ⟨hc.may 1 rfl _ _ (nle rfl) rfl, ?_⟩
          intro wS hS
          have hk := Keeps.stored hk (hc.blk 1 rfl) ng9 hS
          have hc := (hc.set 1 rfl hS).1
          refine ⟨hk, ?_⟩
          refine ⟨hc.may 0 rfl _ _ (nle rfl) rfl, ?_⟩
          intro wS hS
          have hc := (hc.set 0 rfl hS).1
          exact ⟨(y1, g9, g10), ⟨rfl, rfl, rfl, congrArg _ (i_down (by omega)), rfl, rfl, rfl, trivial⟩, _, hc.now (fun h => h.2) (stab_S _ _)⟩
        refine ⟨?_, trivial⟩
        intro g10 wg10 hg10
        have hc := (hc.loc hg10).1
        have ng10 := Old.new hk hg10
        have hk := Keeps.below hk (fun _ h => h) hg10.below
        refine ⟨hk, ?_⟩
        refine ⟨?_, trivial⟩
        refine call_b (dgs_any i (by omega) _) ?_
        intro wA hA
        have hc := (hc.quiet hA).1
        have hk := Keeps.below hk (fun _ h => h) hA
        refine ⟨hk, ?_⟩
        refine ⟨sz_dgs i, ?_⟩
        refine ⟨?_, trivial⟩
        refine ⟨(bdo_any s (dA i) (foldS_keys hm h5) hdk _ _ _ hc.ctx.lt hc.row).mono fun en wq hq => ?_⟩
        rw [hdA] at hq
        obtain ⟨c1, e1, hq, hrep⟩ := hq
        obtain ⟨y1, rfl⟩ := hrep.stX
        have hc := (hc.call hq).1.know hrep (stab_S _ _)
        have hk := Keeps.below hk (fun _ h => h) hq
        refine ⟨_, e1, hk, ?_⟩
        refine ⟨?_, trivial⟩
        refine ⟨hc.may 1 rfl _ _ (nle rfl) rfl, ?_⟩
        intro wS hS
        have hk := Keeps.stored hk (hc.blk 1 rfl) ng9 hS
        have hc := (hc.set 1 rfl hS).1
        refine ⟨hk, ?_⟩
        refine ⟨hc.may 0 rfl _ _ (nle rfl) rfl, ?_⟩
        intro wS hS
        have hc := (hc.set 0 rfl hS).1
        exact ⟨(y1, g9, g10), ⟨rfl, rfl, rfl, congrArg _ (i_down (by omega)), rfl, rfl, rfl, trivial⟩, _, hc.now (fun h => h.2) (stab_S _ _)⟩
      refine ⟨?_, trivial⟩
      intro g10 wg10 hg10
      have hc := (hc.loc hg10).1
      have ng10 := Old.new hk hg10
      have hk := Keeps.below hk (fun _ h => h) hg10.below
      refine ⟨hk, ?_⟩
      refine ⟨?_, ?_⟩
      · skip
        refine call_b (dgs_any i (by omega) _) ?_
        intro wA hA
        have hc := (hc.quiet hA).1
        have hk := Keeps.below hk (fun _ h => h) hA
        refine ⟨hk, ?_⟩
        refine ⟨sz_dgs i, ?_⟩
        refine ⟨?_, ?_⟩
        · skip
          refine ⟨(bdo_any s (dA i) (foldS_keys hm h5) hdk _ _ _ hc.ctx.lt hc.row).mono fun en wq hq => ?_⟩
          rw [hdA] at hq
          obtain ⟨c1, e1, hq, hrep⟩ := hq
          obtain ⟨y1, rfl⟩ := hrep.stX
          have hc := (hc.call hq).1.know hrep (stab_S _ _)
          have hk := Keeps.below hk (fun _ h => h) hq
          refine ⟨_, e1, hk, ?_⟩
          refine ⟨?_, trivial⟩
          intro g9 wg9 hg9
          have hc := (hc.loc hg9).1
          have ng9 := Old.new hk hg9
          have hk := Keeps.below hk (fun _ h => h) hg9.below
          refine ⟨hk, ?_⟩
          refine ⟨?_, trivial⟩
          refine ⟨hc.may 0 rfl _ _ (nle rfl) rfl, ?_⟩
          intro wS hS
          have hk := Keeps.stored hk (hc.blk 0 rfl) ng9 hS
          have hc := (hc.set 0 rfl hS).1
          refine ⟨hk, ?_⟩
          refine ⟨hc.may 1 rfl _ _ (nle rfl) rfl, ?_⟩
          intro wS hS
          have hc := (hc.set 1 rfl hS).1
          exact ⟨(y1, g9, g10), ⟨rfl, rfl, rfl, congrArg _ (i_down (by omega)), rfl, rfl, rfl, trivial⟩, _, hc.swapL.now (fun h => h.2) (stab_S _ _)⟩
        refine ⟨?_, trivial⟩
        intro g9 wg9 hg9
        have hc := (hc.loc hg9).1
        have ng9 := Old.new hk hg9
        have hk := Keeps.below hk (fun _ h => h) hg9.below
        refine ⟨hk, ?_⟩
        refine ⟨?_, trivial⟩
        refine ⟨(bdo_any s (dA i) (foldS_keys hm h5) hdk _ _ _ hc.ctx.lt hc.row).mono fun en wq hq => ?_⟩
        rw [hdA] at hq
        obtain ⟨c1, e1, hq, hrep⟩ := hq
        obtain ⟨y1, rfl⟩ := hrep.stX
        have hc := (hc.call hq).1.know hrep (stab_S _ _)
        have hk := Keeps.below hk (fun _ h => h) hq
        refine ⟨_, e1, hk, ?_⟩
        refine ⟨?_, trivial⟩
        refine ⟨hc.may 0 rfl _ _ (nle rfl) rfl, ?_⟩
        intro wS hS
        have hk := Keeps.stored hk (hc.blk 0 rfl) ng9 hS
        have hc := (hc.set 0 rfl hS).1
        refine ⟨hk, ?_⟩
        refine ⟨hc.may 1 rfl _ _ (nle rfl) rfl, ?_⟩
        intro wS hS
        have hc := (hc.set 1 rfl hS).1
        exact ⟨(y1, g9, g10), ⟨rfl, rfl, rfl, congrArg _ (i_down (by omega)), rfl, rfl, rfl, trivial⟩, _, hc.swapL.now (fun h => h.2) (stab_S _ _)⟩
      refine ⟨?_, trivial⟩
      intro g9 wg9 hg9
      have hc := (hc.loc hg9).1
      have ng9 := Old.new hk hg9
      have hk := Keeps.below hk (fun _ h => h) hg9.below
      refine ⟨hk, ?_⟩
      refine ⟨?_, trivial⟩
      refine call_b (dgs_any i (by omega) _) ?_
      intro wA hA
      have hc := (hc.quiet hA).1
      have hk := Keeps.below hk (fun _ h => h) hA
      refine ⟨hk, ?_⟩
      refine ⟨sz_dgs i, ?_⟩
      refine ⟨?_, trivial⟩
      refine ⟨(bdo_any s (dA i) (foldS_keys hm h5) hdk _ _ _ hc.ctx.lt hc.row).mono fun en wq hq => ?_⟩
      rw [hdA] at hq
      obtain ⟨c1, e1, hq, hrep⟩ := hq
      obtain ⟨y1, rfl⟩ := hrep.stX
      have hc := (hc.call hq).1.know hrep (stab_S _ _)
      have hk := Keeps.below hk (fun _ h => h) hq
      refine ⟨_, e1, hk, ?_⟩
      refine ⟨?_, trivial⟩
      refine ⟨hc.may 0 rfl _ _ (nle rfl) rfl, ?_⟩
      intro wS hS
      have hk := Keeps.stored hk (hc.blk 0 rfl) ng9 hS
      have hc := (hc.set 0 rfl hS).1
      refine ⟨hk, ?_⟩
      refine ⟨hc.may 1 rfl _ _ (nle rfl) rfl, ?_⟩
      intro wS hS
      have hc := (hc.set 1 rfl hS).1
      exact ⟨(y1, g9, g10), ⟨rfl, rfl, rfl, congrArg _ (i_down (by omega)), rfl, rfl, rfl, trivial⟩, _, hc.swapL.now (fun h => h.2) (stab_S _ _)⟩
    clear hc
    clear S
    rintro ⟨y1, g9, g10⟩ u wS ⟨S, hc⟩
    simp only at hc
    have hsn : (doS s (fA i)).1 = foldS Stt0 (lA (i + 1)) := by rw [lA_succ, foldS_snoc, ← hs]
    generalize doS s (fA i) = q at *
    obtain ⟨t, r⟩ := q
    simp only at hsn herr hc ⊢
    refine ⟨_, ?_, hc.cells 1 rfl, ?_⟩
    · rfl
    refine ⟨hc.may 2 rfl _ _ (nle rfl) rfl, ?_⟩
    intro wS hS
    have hc := (hc.set 2 rfl hS).1
    refine ⟨_, hc.cell 0 rfl _ rfl, ?_⟩
    refine split_f (by rw [herr.1, show decide ((i : Int) < 40) = decide (i < 40) by rw [decide_eq_decide]; omega]; simp) ?_
    have fin : ∀ {w7 : World} {S7 : Nat → Prop}, CtxF no w S7 w7 [(g10, 89, [.int .i64 r.err, .int .i64 r.ver]), (g9, 78, stX t y1), (g6, 78, stX t y1)] [] (fun S w => RepS S w t (stX t y1)) →
        ∃ S, CtxF no w S w7 [(g6, 78, stX t y1)] [] (fun S w => RepS S w t (stX t y1)) := fun h => ⟨_, h.drop.drop⟩
    by_cases h40 : i < 40
    · refine split_f (decide_eq_false (show ¬ (40 : Int) ≤ i by omega)) ?_
      exact ⟨(i + 1, t, y1), ⟨rfl, rfl, rfl, rfl, congrArg _ (i_down (by omega)), trivial⟩, ⟨hlt, hsn, fin hc⟩, by show k - (i + 1) < k - i; omega⟩
    · refine split_t (decide_eq_true (show (40 : Int) ≤ i by omega)) ?_
      refine ⟨_, hc.cell 0 rfl _ rfl, ?_⟩
      have h5e := herr.2.resolve_left h40
      refine split_f (by rw [h5e]; rfl) ?_
      exact ⟨(i + 1, t, y1), ⟨rfl, rfl, rfl, rfl, congrArg _ (i_down (by omega)), trivial⟩, ⟨hlt, hsn, fin hc⟩, by show k - (i + 1) < k - i; omega⟩
  refine split_f (decide_eq_false (by first | omega | (simp only; omega))) ?_
  obtain rfl : i = k := by omega
  rw [← lB_zero] at hs
  refine ⟨Nat × Stt × SX, fun x => [(0, .int .i64 i), (1, .int .i64 v), (6, .pointer (some ⟨g6, 0, none⟩)), (7, .int .i64 ((i + x.1 : Nat) : Int)), (11, .int .i64 x.1)],
    fun x w' => x.1 ≤ v ∧ x.2.1 = foldS Stt0 (lB i x.1) ∧ ∃ S, CtxF no w S w' [(g6, 78, stX x.2.1 x.2.2)] [] (fun S w => RepS S w x.2.1 (stX x.2.1 x.2.2)), fun x _ => v - x.1, (0, s, y),
    ⟨rfl, rfl, rfl, rfl, rfl, trivial⟩, ⟨Nat.zero_le _, hs, _, hc⟩, ?_⟩
  clear hc hs
  clear y s S
  rintro ⟨j, s, y⟩ w4 u ⟨hj, hs, S, hc⟩
  simp only at hj hs hc
  obtain ⟨hm, h5, -⟩ := hs ▸ foldS_ok (lB i j) mayStt0 rfl
  by_cases hltj : j < v
  · refine split_t (decide_eq_true (by first | omega | (simp only; omega))) ?_
    have hdB := dB_eq (k := i) (j := j) (by omega)
    have hdk : (dB (i + j)).Ok := by rw [hdB]; exact mayD_ok (fB_may (by omega) (by omega))
    have herr := lB_err (k := i) (j := j) (by omega) (by omega)
    rw [← hs] at herr
    refine ⟨_, ?_, hc.cells 0 rfl, ?_⟩
    · rfl
    refine ⟨(bdo_any s (dB (i + j)) (foldS_keys hm h5) hdk _ _ _ hc.ctx.lt hc.row).mono fun en wq hq => ?_⟩
    rw [hdB] at hq
    obtain ⟨c1, e1, hq, hrep⟩ := hq
    obtain ⟨y1, rfl⟩ := hrep.stX
    have hc := (hc.call hq).1.know hrep (stab_S _ _)
    have hsn : (doS s (fB i j)).1 = foldS Stt0 (lB i (j + 1)) := by rw [lB_succ, foldS_snoc, ← hs]
    generalize doS s (fB i j) = q at *
    obtain ⟨t, r⟩ := q
    simp only at hsn herr hc e1
    refine ⟨_, e1, ?_⟩
    intro g12 wg12 hg12
    have hc := (hc.loc hg12).1
    intro g13 wg13 hg13
    have hc := (hc.loc hg13).1
    refine ⟨hc.may 1 rfl _ _ (nle rfl) rfl, ?_⟩
    intro wS hS
    have hc := (hc.set 1 rfl hS).1
    refine ⟨hc.may 0 rfl _ _ (nle rfl) rfl, ?_⟩
    intro wS hS
    have hc := (hc.set 0 rfl hS).1
    refine ⟨_, ?_, hc.cells 1 rfl, ?_⟩
    · rfl
    refine ⟨hc.may 2 rfl _ _ (nle rfl) rfl, ?_⟩
    intro wS hS
    have hc := (hc.set 2 rfl hS).1
    have fin : ∀ {w7 : World} {S7 : Nat → Prop}, CtxF no w S7 w7 [(g13, 89, [.int .i64 r.err, .int .i64 r.ver]), (g12, 78, stX t y1), (g6, 78, stX t y1)] [] (fun S w => RepS S w s (stX s y) ∧ RepS S w t (stX t y1)) →
        ∃ S, CtxF no w S w7 [(g6, 78, stX t y1)] [] (fun S w => RepS S w t (stX t y1)) := fun h => ⟨_, h.drop.drop.now (fun h => h.2) (stab_S _ _)⟩
    obtain ⟨b, hb⟩ : ∃ b, b = okB i j := ⟨_, rfl⟩
    rw [← hb] at herr
    have key : b = true ∨ (b = false ∧ r.err = 5) := by
      cases b
      · exact .inr ⟨rfl, herr.2.resolve_left (by decide)⟩
      · exact .inl rfl
    unfold okB at hb
    by_cases hk0 : 0 < i
    · refine split_t (decide_eq_true (show (0 : Int) < i by omega)) ?_
      by_cases hj11 : j < 11
      · obtain rfl : b = true := by rw [hb]; simp [hk0, hj11]
        refine split_t (decide_eq_true (show (j : Int) < 11 by omega)) ?_
        refine ⟨_, hc.cell 0 rfl _ rfl, ?_⟩
        refine split_f (by rw [herr.1]; rfl) ?_
        exact ⟨(j + 1, t, y1), ⟨rfl, rfl, rfl, i_downk (by omega), congrArg _ (i_down (by omega)), trivial⟩, ⟨hltj, hsn, fin hc⟩, by show v - (j + 1) < v - j; omega⟩
      · obtain rfl : b = false := by rw [hb]; simp [hj11]; omega
        refine split_f (decide_eq_false (show ¬ (j : Int) < 11 by omega)) ?_
        refine split_f (by rw [beq_eq_false_iff_ne]; omega) ?_
        refine ⟨_, hc.cell 0 rfl _ rfl, ?_⟩
        refine split_f (by rw [herr.1]; rfl) ?_
        refine ⟨_, hc.cell 0 rfl _ rfl, ?_⟩
        refine split_f (by rw [(key.resolve_left (by decide)).2]; rfl) ?_
        exact ⟨(j + 1, t, y1), ⟨rfl, rfl, rfl, i_downk (by omega), congrArg _ (i_down (by omega)), trivial⟩, ⟨hltj, hsn, fin hc⟩, by show v - (j + 1) < v - j; omega⟩
    · refine split_f (decide_eq_false (show ¬ (0 : Int) < i by omega)) ?_
      refine split_t (by rw [beq_iff_eq]; omega) ?_
      have hbj : b = decide ((j : Int) < 12) := by
        rw [hb, show decide ((j : Int) < 12) = decide (j < 12) by rw [decide_eq_decide]; omega]
        simp [hk0]
        omega
      refine ⟨_, hc.cell 0 rfl _ rfl, ?_⟩
      refine split_f (by rw [herr.1, hbj]; simp) ?_
      by_cases hj12 : j < 12
      · refine split_f (by rw [decide_eq_true (show (j : Int) < 12 by omega)]; rfl) ?_
        exact ⟨(j + 1, t, y1), ⟨rfl, rfl, rfl, i_downk (by omega), congrArg _ (i_down (by omega)), trivial⟩, ⟨hltj, hsn, fin hc⟩, by show v - (j + 1) < v - j; omega⟩
      · refine split_t (by rw [decide_eq_false (show ¬ (j : Int) < 12 by omega)]; rfl) ?_
        refine ⟨_, hc.cell 0 rfl _ rfl, ?_⟩
        have hbf : b = false := by rw [hbj]; exact decide_eq_false (by omega)
        refine split_f (by rw [(key.resolve_left (by rw [hbf]; decide)).2]; rfl) ?_
        exact ⟨(j + 1, t, y1), ⟨rfl, rfl, rfl, i_downk (by omega), congrArg _ (i_down (by omega)), trivial⟩, ⟨hltj, hsn, fin hc⟩, by show v - (j + 1) < v - j; omega⟩
  refine split_f (decide_eq_false (by first | omega | (simp only; omega))) ?_
  obtain rfl : j = v := by omega
  have hend := lB_end (k := i) (j := j) (by omega) (by omega)
  rw [← hs] at hend
  have hr := hc
  refine drawn lay_ok (by kernel_rfl) (.q 0 (.q 1 (.q 2 (.q 3 (.q 4 (.q 5 (.n 6 (.q 7 (.q 8 (.q 9 (.q 10 (.q 11 (.q 12 (.q 13 (.q 14 (.q 15 (.q 16 (.q 17 (.q 18 (.q 19 (.n 20 (.q 21 (.q 22 (.q 23 (.q 24 .fin)))) .stop)))))))))))))) .stop))))))) (Old _) (by kernel_rfl) (Old.start _) ?_
  have hk := hc.old0
  have hc := hc.drew
  refine ⟨_, fun x hx => Keeps.cell hx (hr.blk 0 rfl) (hr.blk 0 rfl).lt rfl, ?_⟩
  refine split_t (decide_eq_true (show (s.ms.length : Int) ≤ 1 by omega)) ?_
  refine ⟨_, ?_, fun x hx => Keeps.cells hx (hr.blk 0 rfl) (hr.blk 0 rfl).lt, ?_⟩
  · rfl
  have hE := bmay_any s (foldS_keys hm h5) _ _ _ hc.row
  rw [hm] at hE
  refine ⟨?_, trivial⟩
  refine call_b (hE) ?_
  intro wA hA
  have hc := (hc.quiet hA).1
  have hk := Keeps.below hk (fun _ h => h) hA
  refine ⟨hk, ?_⟩
  refine ⟨_, fun x hx => Keeps.cell hx (hr.blk 0 rfl) (hr.blk 0 rfl).lt rfl, ?_⟩
  by_cases hk0 : i = 0
  refine split_t (by rw [beq_iff_eq]; omega) ?_
  rotate_left
  refine split_f (by rw [beq_eq_false_iff_ne]; omega) ?_
  rotate_left
  all_goals
    refine ⟨?_, trivial⟩
    refine call_b (b2i_any _ _) ?_
    intro wA hA
    have hc := (hc.quiet hA).1
    have hk := Keeps.below hk (fun _ h => h) hA
    refine ⟨hk, ?_⟩
    refine ⟨ret_bool ?_, hc.below⟩
    rw [beq_iff_eq, IntWalk.i64_in _ ⟨by split <;> split <;> omega, by split <;> split <;> omega⟩, hend.2]
    have hmin : (if (40 : Int) < (i : Int) then (40 : Int) else (i : Int)) = ((min i 40 : Nat) : Int) := by split <;> omega
    simp only [hmin]
    simp
    split <;> omega
set_option maxRecDepth 100000 in
theorem bookFull_ct {H : Type} (enc : TypeId × Value → H) (W : World) (hw : Env W) {base : Nat}
    (v0 : Value) (d0 : DataW H) (p0 : List MemPlace) (h0 : DataW.Trod enc Tryz.prog W 0 (fun _ => true) true 3 v0 d0 p0) (k0 : Value.okWide Tryz.prog W .any base 3 v0)
    (v1 : Value) (d1 : DataW H) (p1 : List MemPlace) (h1 : DataW.Trod enc Tryz.prog W 0 (fun _ => true) true 3 v1 d1 p1) (k1 : Value.okWide Tryz.prog W .any base 3 v1) :
    Calls Tryz.prog 13 #[v0, v1] W (RetB (.bool true) W) := by
  obtain ⟨a0, rfl, o0⟩ := open_i64 Tryz.underlying3 h0 k0
  obtain ⟨a1, rfl, o1⟩ := open_i64 Tryz.underlying3 h1 k1
  exact fullB_any a0 a1 W hw
end Go.Proofs.YtbmoimihnndboaaGreatDoor
