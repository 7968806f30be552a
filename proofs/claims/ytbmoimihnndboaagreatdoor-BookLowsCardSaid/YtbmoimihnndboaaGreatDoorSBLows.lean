import Derived.Test.YtbmoimihnndboaaGreatDoorM13
set_option linter.unusedVariables false
set_option linter.unusedSimpArgs false
/- Walk: armariumlaw5.BookLows. -/
namespace Go.Proofs.YtbmoimihnndboaaGreatDoor
open Go.Vc Go.RowKit Go.Fl Go.ChangeShapes Go.WideShapes Go.ChangeAt
def gA (i : Nat) : D := putDeed ⟨(107 :: dgs (i % 7)).toArray⟩ ⟨#[118]⟩ (i : Int)
def gL (n : Nat) : List D := (List.range n).map fun i => gA (i + 1)
def gZ (n m : Nat) : D := ⟨1, ⟨#[122]⟩, ⟨#[118]⟩, 0, 0, ⟨#[]⟩, 4294967296 + ((n : Int) + 1), if m = 0 then 0 else 4294967296 + (m : Int)⟩
def gQ (i : Nat) : D := putDeed ⟨#[107, 49]⟩ ⟨#[97, 103, 97, 105, 110]⟩ (i : Int)
theorem gL_succ (n : Nat) : gL (n + 1) = gL n ++ [gA (n + 1)] := by unfold gL; rw [List.range_succ, List.map_append]; rfl
def gS (n m : Nat) : Stt := (doF (foldF Stt0 (gL n)) (gZ n m)).1
def chkG : Bool := (List.range 21).all fun n => n == 0 || (mayD (gA n) && mayD (gQ n) && (foldF Stt0 (gL n)).ms.length == n && (List.range (n + 2)).all fun m => mayD (gZ n m) &&
  ((gS n m).ms.length == n + 2 - max 1 m) && (List.range n).all fun i =>
    ((toldS (gS n m) (4294967296 + ((i : Int) + 1))).2 == decide (max 1 m ≤ i + 1)) && (((doF (gS n m) (gQ (i + 1))).2.err == 12) == decide (i + 1 < max 1 m)))
set_option maxRecDepth 100000 in
theorem chkG_ok : chkG = true := by kernel_rfl
theorem chkG_at {n : Nat} (h0 : n ≠ 0) (h : n ≤ 20) : (mayD (gA n) = true ∧ mayD (gQ n) = true ∧ (foldF Stt0 (gL n)).ms.length = n) ∧ ∀ m, m ≤ n + 1 → (mayD (gZ n m) = true ∧ (gS n m).ms.length = n + 2 - max 1 m) ∧
    ∀ i, i < n → (toldS (gS n m) (4294967296 + ((i : Int) + 1))).2 = decide (max 1 m ≤ i + 1) ∧ ((doF (gS n m) (gQ (i + 1))).2.err == 12) = decide (i + 1 < max 1 m) := by
  have h1 := List.all_eq_true.1 chkG_ok n (List.mem_range.2 (by omega))
  rw [Bool.or_eq_true, beq_iff_eq] at h1
  have h1 := h1.resolve_left h0
  simp only [Bool.and_eq_true, beq_iff_eq] at h1
  obtain ⟨⟨⟨a, b⟩, c⟩, d⟩ := h1
  refine ⟨⟨a, b, c⟩, fun m hm => ?_⟩
  have h2 := List.all_eq_true.1 d m (List.mem_range.2 (by omega))
  simp only [Bool.and_eq_true, beq_iff_eq] at h2
  obtain ⟨⟨a, b⟩, c⟩ := h2
  refine ⟨⟨a, b⟩, fun i hi => ?_⟩
  have h3 := List.all_eq_true.1 c i (List.mem_range.2 hi)
  simp only [Bool.and_eq_true, beq_iff_eq] at h3
  exact h3
theorem gL_may {n : Nat} (h : n ≤ 20) : ∀ d ∈ gL n, mayD d = true := by
  intro d hd
  obtain ⟨i, hi, rfl⟩ := List.mem_map.1 hd
  have := List.mem_range.1 hi
  exact (chkG_at (n := i + 1) (by omega) (by omega)).1.1
theorem gL_len (n : Nat) : (gL n).length = n := by unfold gL; simp
theorem gL_F {n : Nat} (h : n ≤ 20) : foldS Stt0 (gL n) = foldF Stt0 (gL n) :=
  foldS_F _ mayStt0 rfl (gL_may h) (by rw [gL_len]; show (0 : Int) + (n : Int) < 1099511627776; omega)
theorem gS_eq {n m : Nat} (h0 : n ≠ 0) (h : n ≤ 20) (hm : m ≤ n + 1) : (doS (foldS Stt0 (gL n)) (gZ n m)).1 = gS n m ∧ mayS (gS n m) = true ∧ (gS n m).lows.length = 5 ∧ (gS n m).seq < maxN := by
  obtain ⟨a, b, c⟩ := foldS_ok (gL n) mayStt0 rfl
  rw [gL_len] at c
  have hz : Stt0.seq = 0 := rfl
  have hx : maxN = 1099511627776 := rfl
  have e : (doS (foldS Stt0 (gL n)) (gZ n m)).1 = gS n m := by
    rw [doS_F a ((chkG_at h0 h).2 m hm).1.1 (by omega), gL_F h]
    rfl
  have h1 := doS_seq (foldS Stt0 (gL n)) (gZ n m)
  have h2 := mayS_doS (d := gZ n m) b a
  have h3 := doS_lows5 (gZ n m) b
  rw [e] at h1 h2 h3
  exact ⟨e, h2, h3, by omega⟩
theorem norm20 (n : Int) : ∃ N : Nat, IntKind.i64.wrap (1 + (IntKind.i64.wrap (n.tmod 20 + 20)).tmod 20) = (N : Int) ∧ 1 ≤ N ∧ N ≤ 20 := by
  have h1 := Int.tmod_lt_of_pos n (show (0 : Int) < 20 by decide)
  have h2 : -20 < n.tmod 20 := by
    have h3 := Int.tmod_lt_of_pos (-n) (show (0 : Int) < 20 by decide)
    rw [Int.neg_tmod] at h3
    omega
  rw [IntWalk.i64_in (n.tmod 20 + 20) ⟨by omega, by omega⟩, Int.tmod_eq_emod_of_nonneg (by omega), IntWalk.i64_in (1 + (n.tmod 20 + 20) % 20) ⟨by omega, by omega⟩]
  exact ⟨(1 + (n.tmod 20 + 20) % 20).toNat, by omega, by omega, by omega⟩
theorem norm25 (n : Int) : ∃ N : Nat, (IntKind.i64.wrap (n.tmod 25 + 25)).tmod 25 = (N : Int) ∧ N < 25 := by
  have h1 := Int.tmod_lt_of_pos n (show (0 : Int) < 25 by decide)
  have h2 : -25 < n.tmod 25 := by
    have h3 := Int.tmod_lt_of_pos (-n) (show (0 : Int) < 25 by decide)
    rw [Int.neg_tmod] at h3
    omega
  rw [IntWalk.i64_in _ ⟨by omega, by omega⟩, Int.tmod_eq_emod_of_nonneg (by omega)]
  exact ⟨((n.tmod 25 + 25) % 25).toNat, by omega, by omega⟩
theorem dgs7_any (i : Nat) (w : World) : Calls Tryz.prog 73 #[.int .i64 (((i + 1 : Nat) : Int).tmod 7)] w (RetB (.string ⟨(dgs ((i + 1) % 7)).toArray⟩) w) := by
  rw [Int.tmod_eq_emod_of_nonneg (by omega), show (((i + 1 : Nat) : Int) % 7) = (((i + 1) % 7 : Nat) : Int) by omega]
  exact dgs_any _ (by omega) w
set_option maxHeartbeats 16000000 in
theorem lowsB_any (n0 l0 : Int) (w : World) (hw : Env w) : Calls Tryz.prog 21 #[.int .i64 n0, .int .i64 l0] w (RetB (.bool true) w) := by
  obtain ⟨n, hn, hn1, hn20⟩ := norm20 n0
  obtain ⟨l, hl, hl25⟩ := norm25 l0
  refine calls_vc lay_ok Tryz.func21 rfl (by kernel_rfl) (by kernel_rfl) ?_
  have hc := CtxF.start w no (fun _ h => h.elim) (R := fun _ _ => True) trivial Stab.true
  refine call_b (begun5_any _ hw) ?_
  intro wQ hQ
  have hc := (hc.quiet hQ).1
  refine vc_nz (by decide) ?_
  refine vc_nz (by decide) ?_
  refine vc_nz (by decide) ?_
  refine vc_nz (by decide) ?_
  intro g6 wg6 hg6
  have hc := (hc.loc hg6).1
  refine ⟨Nat × Stt × SX, fun x => [(0, .int .i64 n), (1, .int .i64 l), (6, .pointer (some ⟨g6, 0, none⟩)), (7, .int .i64 ((x.1 + 1 : Nat) : Int))],
    fun x w' => x.1 ≤ n ∧ x.2.1 = foldS Stt0 (gL x.1) ∧ ∃ S, CtxF no w S w' [(g6, 78, stX x.2.1 x.2.2)] [] (fun S w => RepS S w x.2.1 (stX x.2.1 x.2.2)), fun x _ => n - x.1, (0, Stt0, SX0),
    ⟨congrArg _ hn, congrArg _ hl, rfl, rfl, trivial⟩, ⟨Nat.zero_le _, rfl, _, hc.now (fun _ => rep0X _ _) (stab_S _ _)⟩, ?_⟩
  clear hc
  rintro ⟨i, s, y⟩ w4 u ⟨hi, hs, S, hc⟩
  simp only at hi hs hc
  obtain ⟨hm, h5, hsq⟩ := hs ▸ foldS_ok (gL i) mayStt0 rfl
  by_cases hlt : i < n
  · refine split_t (decide_eq_true (show ((i + 1 : Nat) : Int) ≤ n by omega)) ?_
    have hdm := (chkG_at (n := i + 1) (by omega) (by omega)).1.1
    have hdA : putDeed (⟨#[107]⟩ ++ ⟨(dgs ((i + 1) % 7)).toArray⟩) ⟨#[118]⟩ ((i + 1 : Nat) : Int) = gA (i + 1) := by
      rw [kcat]
      rfl
    have hdk : (putDeed (⟨#[107]⟩ ++ ⟨(dgs ((i + 1) % 7)).toArray⟩) ⟨#[118]⟩ ((i + 1 : Nat) : Int)).Ok := by rw [hdA]; exact mayD_ok hdm
    have hsn : (doS s (gA (i + 1))).1 = foldS Stt0 (gL (i + 1)) := by rw [gL_succ, foldS_snoc, ← hs]
    refine Drawn.join (α := SX) (fun x => [(0, .int .i64 n), (1, .int .i64 l), (6, .pointer (some ⟨g6, 0, none⟩)), (7, .int .i64 ((i + 1 : Nat) : Int))])
      (fun x wS => ∃ S, CtxF no w S wS [(g6, 78, stX (doS s (gA (i + 1))).1 x)] [] (fun S w => RepS S w (doS s (gA (i + 1))).1 (stX (doS s (gA (i + 1))).1 x))) ?_ ?_
    · refine drawn lay_ok (by kernel_rfl) (.q 1 (.q 2 (.q 5 (.n 0 (.n 3 (.q 4 (.n 6 (.n 7 (.q 8 (.q 9 (.q 10 (.n 11 .fin .stop)))) .stop) .stop)) .stop) (.n 3 (.q 4 (.n 0 (.n 6 (.n 7 (.q 8 (.q 9 (.q 10 (.n 11 .fin .stop)))) .stop) .stop) (.n 6 (.n 0 (.n 7 (.q 8 (.q 9 (.q 10 (.n 11 .fin .stop)))) .stop) .stop) .stop))) .stop))))) (fun _ => True) (by kernel_rfl) trivial ?_
      have hc := hc.drew
      refine vc_nz (by decide) ?_
      refine ⟨?_, ?_⟩
      · skip
        refine ⟨_, ?_, hc.cells 0 rfl, trivial, ?_⟩
        · rfl
        refine ⟨?_, trivial⟩
        refine call_b (dgs7_any i _) ?_
        intro wQ hQ
        have hc := (hc.quiet hQ).1
        refine ⟨trivial, ?_⟩
        refine ⟨sz_dgs _, ?_⟩
        refine ⟨?_, trivial⟩
        refine call_b (put5_any _ ⟨#[118]⟩ ((i + 1 : Nat) : Int) (by omega) (by omega) _) ?_
        intro wQ hQ
        have hc := (hc.quiet hQ).1
        refine ⟨trivial, ?_⟩
        refine ⟨?_, trivial⟩
        refine ⟨(bdo_any s _ (foldS_keys hm h5) hdk _ _ _ hc.ctx.lt hc.row).mono fun en wq hq => ?_⟩
        rw [hdA] at hq
        obtain ⟨c1, e1, hq, hrep⟩ := hq
        obtain ⟨y1, rfl⟩ := hrep.stX
        have hc := (hc.call hq).1.know hrep (stab_S _ _)
        refine ⟨_, e1, trivial, ?_⟩
        refine ⟨?_, trivial⟩
        refine ⟨hc.may 0 rfl _ _ (nle rfl) rfl, ?_⟩
        intro wS hS
        have hc := (hc.set 0 rfl hS).1
        refine ⟨trivial, ?_⟩
        exact ⟨y1, ⟨rfl, rfl, rfl, rfl, trivial⟩, _, hc.now (fun h => h.2) (stab_S _ _)⟩
      refine ⟨?_, trivial⟩
      refine call_b (dgs7_any i _) ?_
      intro wQ hQ
      have hc := (hc.quiet hQ).1
      refine ⟨trivial, ?_⟩
      refine ⟨sz_dgs _, ?_⟩
      refine ⟨?_, ?_⟩
      · skip
        refine ⟨_, ?_, hc.cells 0 rfl, trivial, ?_⟩
        · rfl
        refine ⟨?_, trivial⟩
        refine call_b (put5_any _ ⟨#[118]⟩ ((i + 1 : Nat) : Int) (by omega) (by omega) _) ?_
        intro wQ hQ
        have hc := (hc.quiet hQ).1
        refine ⟨trivial, ?_⟩
        refine ⟨?_, trivial⟩
        refine ⟨(bdo_any s _ (foldS_keys hm h5) hdk _ _ _ hc.ctx.lt hc.row).mono fun en wq hq => ?_⟩
        rw [hdA] at hq
        obtain ⟨c1, e1, hq, hrep⟩ := hq
        obtain ⟨y1, rfl⟩ := hrep.stX
        have hc := (hc.call hq).1.know hrep (stab_S _ _)
        refine ⟨_, e1, trivial, ?_⟩
        refine ⟨?_, trivial⟩
        refine ⟨hc.may 0 rfl _ _ (nle rfl) rfl, ?_⟩
        intro wS hS
        have hc := (hc.set 0 rfl hS).1
        refine ⟨trivial, ?_⟩
        exact ⟨y1, ⟨rfl, rfl, rfl, rfl, trivial⟩, _, hc.now (fun h => h.2) (stab_S _ _)⟩
      refine ⟨?_, trivial⟩
      refine call_b (put5_any _ ⟨#[118]⟩ ((i + 1 : Nat) : Int) (by omega) (by omega) _) ?_
      intro wQ hQ
      have hc := (hc.quiet hQ).1
      refine ⟨trivial, ?_⟩
      refine ⟨?_, trivial⟩
      refine ⟨_, ?_, hc.cells 0 rfl, trivial, ?_⟩
      · rfl
      refine ⟨?_, trivial⟩
      refine ⟨(bdo_any s _ (foldS_keys hm h5) hdk _ _ _ hc.ctx.lt hc.row).mono fun en wq hq => ?_⟩
      rw [hdA] at hq
      obtain ⟨c1, e1, hq, hrep⟩ := hq
      obtain ⟨y1, rfl⟩ := hrep.stX
      have hc := (hc.call hq).1.know hrep (stab_S _ _)
      refine ⟨_, e1, trivial, ?_⟩
      refine ⟨?_, trivial⟩
      refine ⟨hc.may 0 rfl _ _ (nle rfl) rfl, ?_⟩
      intro wS hS
      have hc := (hc.set 0 rfl hS).1
      refine ⟨trivial, ?_⟩
      exact ⟨y1, ⟨rfl, rfl, rfl, rfl, trivial⟩, _, hc.now (fun h => h.2) (stab_S _ _)⟩
    clear hc
    clear S
    rintro y1 u wS ⟨S, hc⟩
    exact ⟨(i + 1, _, y1), ⟨rfl, rfl, rfl, congrArg _ (i_down (by omega)), trivial⟩, ⟨hlt, hsn, _, hc⟩, by show n - (i + 1) < n - i; omega⟩
  refine split_f (decide_eq_false (show ¬ ((i + 1 : Nat) : Int) ≤ n by omega)) ?_
  obtain rfl : i = n := by omega
  obtain ⟨⟨ha, hq0, hmsl⟩, hZ⟩ := chkG_at (n := i) (by omega) hn20
  rw [← gL_F hn20, ← hs] at hmsl
  refine ⟨_, hc.cell 0 rfl _ rfl, ?_⟩
  refine split_f (by rw [bne_eq_false_iff_eq, hmsl]) ?_
  have hw1 : IntKind.i64.wrap ((i : Int) + 1) = (i : Int) + 1 := IntWalk.i64_in _ ⟨by omega, by omega⟩
  have hput := fun w => put5_any ⟨#[122]⟩ ⟨#[118]⟩ (IntKind.i64.wrap ((i : Int) + 1)) (by rw [hw1]; omega) (by rw [hw1]; omega) w
  refine call_b (hput _) ?_
  intro wQ hQ
  have hc := (hc.quiet hQ).1
  intro g8 wg8 hg8
  have hc := (hc.loc hg8).1
  refine ⟨hc.may 0 rfl _ _ (nle rfl) rfl, ?_⟩
  intro wS hS
  have hc := (hc.set 0 rfl hS).1
  obtain ⟨m, hm0⟩ : ∃ m, m = min l (i + 1) := ⟨_, rfl⟩
  have hmin : IntKind.i64.wrap (4294967296 + (if IntKind.i64.wrap ((i : Int) + 1) < (l : Int) then IntKind.i64.wrap ((i : Int) + 1) else (l : Int))) = 4294967296 + (m : Int) := by
    rw [hw1, show (if (i : Int) + 1 < (l : Int) then (i : Int) + 1 else (l : Int)) = (m : Int) by rw [hm0]; split <;> omega, IntWalk.i64_in _ ⟨by omega, by omega⟩]
  refine ⟨hc.may 0 rfl _ _ (nle rfl) rfl, ?_⟩
  intro wS hS
  have hc := (hc.set 0 rfl hS).1
  obtain ⟨⟨hzm, hzl⟩, hI⟩ := hZ m (by omega)
  obtain ⟨hse, hms2, h52, hsq2⟩ := gS_eq (n := i) (m := m) (by omega) hn20 (by omega)
  rw [← hs] at hse
  have hk0 : IntKind.i64.wrap (4294967296 + IntKind.i64.wrap ((i : Int) + 1)) = 4294967296 + ((i : Int) + 1) := by
    rw [hw1, IntWalk.i64_in _ ⟨by omega, by omega⟩]
  obtain ⟨K, hK⟩ : ∃ K, K = max 1 m := ⟨_, rfl⟩
  have hmax : (if (if IntKind.i64.wrap ((i : Int) + 1) < (l : Int) then IntKind.i64.wrap ((i : Int) + 1) else (l : Int)) > (1 : Int) then (if IntKind.i64.wrap ((i : Int) + 1) < (l : Int) then IntKind.i64.wrap ((i : Int) + 1) else (l : Int)) else 1) = (K : Int) := by
    rw [hw1, show (if (i : Int) + 1 < (l : Int) then (i : Int) + 1 else (l : Int)) = (m : Int) by rw [hm0]; split <;> omega, hK]
    split <;> omega
  have eZ : ∀ x : Int, x = (if m = 0 then 0 else 4294967296 + (m : Int)) → dC (gZ i m) = [.int .i64 1, .string ⟨#[122]⟩, .string ⟨#[118]⟩, .int .i64 0, .int .i64 0, .string ⟨#[]⟩, .int .i64 (4294967296 + IntKind.i64.wrap ((i : Int) + 1)), .int .i64 x] := by
    intro x hx
    subst hx
    rw [hw1]
    rfl
  obtain ⟨r, hd0⟩ : ∃ r, doS s (gZ i m) = (gS i m, r) := ⟨(doS s (gZ i m)).2, by rw [← hse]⟩
  by_cases hl0 : l = 0
  refine split_t (by rw [beq_iff_eq]; omega) ?_
  refine ⟨hc.may 0 rfl _ _ (nle rfl) rfl, ?_⟩
  intro wS hS
  have hc := (hc.set 0 rfl hS).1
  have hc : CtxF no w S wS [(g8, 23, dC (gZ i m)), (g6, 78, stX s y)] [] (fun S w => RepS S w s (stX s y)) := by
    rw [eZ 0 (by rw [if_pos (by omega)])]
    exact hc
  rotate_left
  refine split_f (by rw [beq_eq_false_iff_ne]; omega) ?_
  have hc : CtxF no w S wS [(g8, 23, dC (gZ i m)), (g6, 78, stX s y)] [] (fun S w => RepS S w s (stX s y)) := by
    rw [eZ _ (hmin.trans (by rw [if_neg (by omega)]))]
    exact hc
  rotate_left
  all_goals
    refine ⟨_, ?_, hc.cells 1 rfl, ?_⟩
    · rfl
    refine ⟨_, ?_, hc.cells 0 rfl, ?_⟩
    · rfl
    refine ⟨(bdo_any s (gZ i m) (foldS_keys hm h5) (mayD_ok hzm) _ _ _ hc.ctx.lt hc.row).mono fun en wq hq => ?_⟩
    rw [hd0] at hq
    obtain ⟨c1, e1, hq, hrep⟩ := hq
    obtain ⟨y1, rfl⟩ := hrep.stX
    have hc := (hc.call hq).1.know hrep (stab_S _ _)
    refine ⟨_, e1, ?_⟩
    refine ⟨hc.may 1 rfl _ _ (nle rfl) rfl, ?_⟩
    intro wS hS
    have hc := (hc.set 1 rfl hS).1
    refine ⟨_, hc.cell 1 rfl _ rfl, ?_⟩
    refine split_f (by
      rw [bne_eq_false_iff_eq, hmax, IntWalk.i64_in ((i : Int) + 2) ⟨by omega, by omega⟩, IntWalk.i64_in ((i : Int) + 2 - K) ⟨by omega, by omega⟩, hzl, ← hK]
      omega) ?_
    refine ⟨Nat, fun j => [(0, .int .i64 i), (6, .pointer (some ⟨g6, 0, none⟩)), (9, .int .i64 K), (10, .int .i64 ((j + 1 : Nat) : Int))],
      fun j w' => j ≤ i ∧ ∃ S, CtxF no w S w' [(g6, 78, stX (gS i m) y1)] [] (fun S w => RepS S w (gS i m) (stX (gS i m) y1)), fun j _ => i - j, 0,
      ⟨rfl, rfl, congrArg _ hmax, rfl, trivial⟩, ⟨Nat.zero_le _, _, hc.drop.now (fun h => h.2) (stab_S _ _)⟩, ?_⟩
    clear hc
    rintro j w5 u5 ⟨hj, S, hc⟩
    by_cases hlt : j < i
    · refine split_t (decide_eq_true (show ((j + 1 : Nat) : Int) ≤ i by omega)) ?_
      obtain ⟨hI1, hI2⟩ := hI j hlt
      have hqd : mayD (gQ (j + 1)) = true := (chkG_at (n := j + 1) (by omega) (by omega)).1.2.1
      have hwj : IntKind.i64.wrap (4294967296 + ((j + 1 : Nat) : Int)) = 4294967296 + ((j : Int) + 1) := by
        rw [IntWalk.i64_in _ ⟨by omega, by omega⟩]
        omega
      rw [← hwj] at hI1
      rw [← doS_F hms2 hqd hsq2] at hI2
      refine ⟨_, ?_, hc.cells 0 rfl, ?_⟩
      · rfl
      refine call_b (btold_any (gS i m) (IntKind.i64.wrap (4294967296 + ((j + 1 : Nat) : Int))) _ _ _ hc.row) ?_
      intro wQ hQ
      have hc := (hc.quiet hQ).1
      intro g11 wg11 hg11
      have hc := (hc.loc hg11).1
      refine ⟨hc.may 0 rfl _ _ (nle rfl) rfl, ?_⟩
      intro wS hS
      have hc := (hc.set 0 rfl hS).1
      refine Drawn.join (α := Nat) (fun g => [(0, .int .i64 i), (6, .pointer (some ⟨g6, 0, none⟩)), (9, .int .i64 K), (10, .int .i64 ((j + 1 : Nat) : Int)), (12, .bool (toldS (gS i m) (IntKind.i64.wrap (4294967296 + ((j + 1 : Nat) : Int)))).2), (14, .pointer (some ⟨g, 0, none⟩))])
        (fun g wS => ∃ S, CtxF no w S wS [(g, 89, [.int .i64 (doS (gS i m) (gQ (j + 1))).2.err, .int .i64 (doS (gS i m) (gQ (j + 1))).2.ver]), (g6, 78, stX (gS i m) y1)] [] (fun S w => RepS S w (gS i m) (stX (gS i m) y1))) ?_ ?_
      · have hr := hc
        refine drawn lay_ok (by kernel_rfl) (.q 0 (.q 1 (.n 2 (.n 3 (.q 4 (.q 5 (.q 6 (.n 7 (.n 8 (.n 9 (.z 10) .stop) .stop) (.n 8 (.n 7 (.n 9 (.z 10) .stop) .stop) .stop))))) (.n 7 (.n 3 (.q 4 (.q 5 (.q 6 (.n 8 (.n 9 (.z 10) .stop) .stop)))) (.n 8 (.n 3 (.q 4 (.q 5 (.q 6 (.n 9 (.z 10) .stop)))) .stop) .stop)) (.n 8 (.n 3 (.q 4 (.q 5 (.q 6 (.n 7 (.n 9 (.z 10) .stop) .stop)))) (.n 7 (.n 3 (.q 4 (.q 5 (.q 6 (.n 9 (.z 10) .stop)))) .stop) .stop)) .stop))) (.n 7 (.n 2 (.n 3 (.q 4 (.q 5 (.q 6 (.n 8 (.n 9 (.z 10) .stop) .stop)))) (.n 8 (.n 3 (.q 4 (.q 5 (.q 6 (.n 9 (.z 10) .stop)))) .stop) .stop)) (.n 8 (.n 2 (.n 3 (.q 4 (.q 5 (.q 6 (.n 9 (.z 10) .stop)))) .stop) .stop) .stop)) (.n 8 (.n 2 (.n 3 (.q 4 (.q 5 (.q 6 (.n 7 (.n 9 (.z 10) .stop) .stop)))) (.n 7 (.n 3 (.q 4 (.q 5 (.q 6 (.n 9 (.z 10) .stop)))) .stop) .stop)) (.n 7 (.n 2 (.n 3 (.q 4 (.q 5 (.q 6 (.n 9 (.z 10) .stop)))) .stop) .stop) .stop)) .stop))))) (Old _) (by kernel_rfl) (Old.start _) ?_
        have hk := hc.old0
        have hc := hc.drew
        refine ⟨_, ?_, fun x hx => Keeps.cells hx (hr.blk 1 rfl) (hr.blk 1 rfl).lt, ?_⟩
        · rfl
        refine ⟨?_, ?_⟩
        · skip
          refine call_b (put5_any ⟨#[107, 49]⟩ ⟨#[97, 103, 97, 105, 110]⟩ ((j + 1 : Nat) : Int) (by omega) (by omega) _) ?_
          intro wA hA
          have hc := (hc.quiet hA).1
          have hk := Keeps.below hk (fun _ h => h) hA
          refine ⟨hk, ?_⟩
          refine ⟨?_, ?_⟩
          · skip
            refine ⟨(bdo_any (gS i m) (gQ (j + 1)) (foldS_keys hms2 h52) (mayD_ok hqd) _ _ _ hc.ctx.lt hc.row).mono fun en wq hq => ?_⟩
            obtain ⟨cy2, e1, hq, hrep⟩ := hq
            obtain ⟨y2, rfl⟩ := hrep.stX
            have hc := (hc.call hq).1.know hrep (stab_S _ _)
            have hk := Keeps.below hk (fun _ h => h) hq
            refine ⟨_, e1, hk, ?_⟩
            refine ⟨?_, ?_⟩
            · skip
              intro g13 wg13 hg13
              have hc := (hc.loc hg13).1
              have ng13 := Old.new hk hg13
              have hk := Keeps.below hk (fun _ h => h) hg13.below
              refine ⟨hk, ?_⟩
              refine ⟨?_, trivial⟩
              intro g14 wg14 hg14
              have hc := (hc.loc hg14).1
              have ng14 := Old.new hk hg14
              have hk := Keeps.below hk (fun _ h => h) hg14.below
              refine ⟨hk, ?_⟩
              refine ⟨?_, trivial⟩
              refine ⟨hc.may 1 rfl _ _ (nle rfl) rfl, ?_⟩
              intro wS hS
              have hk := Keeps.stored hk (hc.blk 1 rfl) ng13 hS
              have hc := (hc.set 1 rfl hS).1
              refine ⟨hk, ?_⟩
              refine ⟨hc.may 0 rfl _ _ (nle rfl) rfl, ?_⟩
              intro wS hS
              have hc := (hc.set 0 rfl hS).1
              exact ⟨g14, ⟨rfl, rfl, rfl, rfl, rfl, rfl, trivial⟩, _, hc.swapL.drop.swapL.drop.now (fun h => h.1) (stab_S _ _)⟩
            refine ⟨?_, trivial⟩
            intro g14 wg14 hg14
            have hc := (hc.loc hg14).1
            have ng14 := Old.new hk hg14
            have hk := Keeps.below hk (fun _ h => h) hg14.below
            refine ⟨hk, ?_⟩
            refine ⟨?_, trivial⟩
            intro g13 wg13 hg13
            have hc := (hc.loc hg13).1
            have ng13 := Old.new hk hg13
            have hk := Keeps.below hk (fun _ h => h) hg13.below
            refine ⟨hk, ?_⟩
            refine ⟨?_, trivial⟩
            refine ⟨hc.may 0 rfl _ _ (nle rfl) rfl, ?_⟩
            intro wS hS
            have hk := Keeps.stored hk (hc.blk 0 rfl) ng13 hS
            have hc := (hc.set 0 rfl hS).1
            refine ⟨hk, ?_⟩
            refine ⟨hc.may 1 rfl _ _ (nle rfl) rfl, ?_⟩
            intro wS hS
            have hc := (hc.set 1 rfl hS).1
            exact ⟨g14, ⟨rfl, rfl, rfl, rfl, rfl, rfl, trivial⟩, _, hc.drop.swapL.drop.now (fun h => h.1) (stab_S _ _)⟩
          refine ⟨?_, ?_⟩
          · skip
            intro g13 wg13 hg13
            have hc := (hc.loc hg13).1
            have ng13 := Old.new hk hg13
            have hk := Keeps.below hk (fun _ h => h) hg13.below
            refine ⟨hk, ?_⟩
            refine ⟨?_, ?_⟩
            · skip
              refine ⟨(bdo_any (gS i m) (gQ (j + 1)) (foldS_keys hms2 h52) (mayD_ok hqd) _ _ _ hc.ctx.lt hc.row).mono fun en wq hq => ?_⟩
              obtain ⟨cy2, e1, hq, hrep⟩ := hq
              obtain ⟨y2, rfl⟩ := hrep.stX
              have hc := (hc.call hq).1.know hrep (stab_S _ _)
              have hk := Keeps.below hk (fun _ h => h) hq
              refine ⟨_, e1, hk, ?_⟩
              refine ⟨?_, trivial⟩
              intro g14 wg14 hg14
              have hc := (hc.loc hg14).1
              have ng14 := Old.new hk hg14
              have hk := Keeps.below hk (fun _ h => h) hg14.below
              refine ⟨hk, ?_⟩
              refine ⟨?_, trivial⟩
              refine ⟨hc.may 1 rfl _ _ (nle rfl) rfl, ?_⟩
              intro wS hS
              have hk := Keeps.stored hk (hc.blk 1 rfl) ng13 hS
              have hc := (hc.set 1 rfl hS).1
              refine ⟨hk, ?_⟩
              refine ⟨hc.may 0 rfl _ _ (nle rfl) rfl, ?_⟩
              intro wS hS
              have hc := (hc.set 0 rfl hS).1
              exact ⟨g14, ⟨rfl, rfl, rfl, rfl, rfl, rfl, trivial⟩, _, hc.swapL.drop.swapL.drop.now (fun h => h.1) (stab_S _ _)⟩
            refine ⟨?_, trivial⟩
            intro g14 wg14 hg14
            have hc := (hc.loc hg14).1
            have ng14 := Old.new hk hg14
            have hk := Keeps.below hk (fun _ h => h) hg14.below
            refine ⟨hk, ?_⟩
            refine ⟨?_, trivial⟩
            refine ⟨(bdo_any (gS i m) (gQ (j + 1)) (foldS_keys hms2 h52) (mayD_ok hqd) _ _ _ hc.ctx.lt hc.row).mono fun en wq hq => ?_⟩
            obtain ⟨cy2, e1, hq, hrep⟩ := hq
            obtain ⟨y2, rfl⟩ := hrep.stX
            have hc := (hc.call hq).1.know hrep (stab_S _ _)
            have hk := Keeps.below hk (fun _ h => h) hq
            refine ⟨_, e1, hk, ?_⟩
            refine ⟨?_, trivial⟩
            refine ⟨hc.may 1 rfl _ _ (nle rfl) rfl, ?_⟩
            intro wS hS
            have hk := Keeps.stored hk (hc.blk 1 rfl) ng13 hS
            have hc := (hc.set 1 rfl hS).1
            refine ⟨hk, ?_⟩
            refine ⟨hc.may 0 rfl _ _ (nle rfl) rfl, ?_⟩
            intro wS hS
            have hc := (hc.set 0 rfl hS).1
            exact ⟨g14, ⟨rfl, rfl, rfl, rfl, rfl, rfl, trivial⟩, _, hc.swapL.drop.swapL.drop.now (fun h => h.1) (stab_S _ _)⟩
          refine ⟨?_, trivial⟩
          intro g14 wg14 hg14
          have hc := (hc.loc hg14).1
          have ng14 := Old.new hk hg14
          have hk := Keeps.below hk (fun _ h => h) hg14.below
          refine ⟨hk, ?_⟩
          refine ⟨?_, ?_⟩
          · skip
            refine ⟨(bdo_any (gS i m) (gQ (j + 1)) (foldS_keys hms2 h52) (mayD_ok hqd) _ _ _ hc.ctx.lt hc.row).mono fun en wq hq => ?_⟩
            obtain ⟨cy2, e1, hq, hrep⟩ := hq
            obtain ⟨y2, rfl⟩ := hrep.stX
            have hc := (hc.call hq).1.know hrep (stab_S _ _)
            have hk := Keeps.below hk (fun _ h => h) hq
            refine ⟨_, e1, hk, ?_⟩
            refine ⟨?_, trivial⟩
            intro g13 wg13 hg13
            have hc := (hc.loc hg13).1
            have ng13 := Old.new hk hg13
            have hk := Keeps.below hk (fun _ h => h) hg13.below
            refine ⟨hk, ?_⟩
            refine ⟨?_, trivial⟩
            refine ⟨hc.may 0 rfl _ _ (nle rfl) rfl, ?_⟩
            intro wS hS
            have hk := Keeps.stored hk (hc.blk 0 rfl) ng13 hS
            have hc := (hc.set 0 rfl hS).1
            refine ⟨hk, ?_⟩
            refine ⟨hc.may 1 rfl _ _ (nle rfl) rfl, ?_⟩
            intro wS hS
            have hc := (hc.set 1 rfl hS).1
            exact ⟨g14, ⟨rfl, rfl, rfl, rfl, rfl, rfl, trivial⟩, _, hc.drop.swapL.drop.now (fun h => h.1) (stab_S _ _)⟩
          refine ⟨?_, trivial⟩
          intro g13 wg13 hg13
          have hc := (hc.loc hg13).1
          have ng13 := Old.new hk hg13
          have hk := Keeps.below hk (fun _ h => h) hg13.below
          refine ⟨hk, ?_⟩
          refine ⟨?_, trivial⟩
          refine ⟨(bdo_any (gS i m) (gQ (j + 1)) (foldS_keys hms2 h52) (mayD_ok hqd) _ _ _ hc.ctx.lt hc.row).mono fun en wq hq => ?_⟩
          obtain ⟨cy2, e1, hq, hrep⟩ := hq
          obtain ⟨y2, rfl⟩ := hrep.stX
          have hc := (hc.call hq).1.know hrep (stab_S _ _)
          have hk := Keeps.below hk (fun _ h => h) hq
          refine ⟨_, e1, hk, ?_⟩
          refine ⟨?_, trivial⟩
          refine ⟨hc.may 0 rfl _ _ (nle rfl) rfl, ?_⟩
          intro wS hS
          have hk := Keeps.stored hk (hc.blk 0 rfl) ng13 hS
          have hc := (hc.set 0 rfl hS).1
          refine ⟨hk, ?_⟩
          refine ⟨hc.may 1 rfl _ _ (nle rfl) rfl, ?_⟩
          intro wS hS
          have hc := (hc.set 1 rfl hS).1
          exact ⟨g14, ⟨rfl, rfl, rfl, rfl, rfl, rfl, trivial⟩, _, hc.drop.swapL.drop.now (fun h => h.1) (stab_S _ _)⟩
        refine ⟨?_, ?_⟩
        · skip
          intro g13 wg13 hg13
          have hc := (hc.loc hg13).1
          have ng13 := Old.new hk hg13
          have hk := Keeps.below hk (fun _ h => h) hg13.below
          refine ⟨hk, ?_⟩
          refine ⟨?_, ?_⟩
          · skip
            refine call_b (put5_any ⟨#[107, 49]⟩ ⟨#[97, 103, 97, 105, 110]⟩ ((j + 1 : Nat) : Int) (by omega) (by omega) _) ?_
            intro wA hA
            have hc := (hc.quiet hA).1
            have hk := Keeps.below hk (fun _ h => h) hA
            refine ⟨hk, ?_⟩
            refine ⟨?_, ?_⟩
            · skip
              refine ⟨(bdo_any (gS i m) (gQ (j + 1)) (foldS_keys hms2 h52) (mayD_ok hqd) _ _ _ hc.ctx.lt hc.row).mono fun en wq hq => ?_⟩
              obtain ⟨cy2, e1, hq, hrep⟩ := hq
              obtain ⟨y2, rfl⟩ := hrep.stX
              have hc := (hc.call hq).1.know hrep (stab_S _ _)
              have hk := Keeps.below hk (fun _ h => h) hq
              refine ⟨_, e1, hk, ?_⟩
              refine ⟨?_, trivial⟩
              intro g14 wg14 hg14
              have hc := (hc.loc hg14).1
              have ng14 := Old.new hk hg14
              have hk := Keeps.below hk (fun _ h => h) hg14.below
              refine ⟨hk, ?_⟩
              refine ⟨?_, trivial⟩
              refine ⟨hc.may 1 rfl _ _ (nle rfl) rfl, ?_⟩
              intro wS hS
              have hk := Keeps.stored hk (hc.blk 1 rfl) ng13 hS
              have hc := (hc.set 1 rfl hS).1
              refine ⟨hk, ?_⟩
              refine ⟨hc.may 0 rfl _ _ (nle rfl) rfl, ?_⟩
              intro wS hS
              have hc := (hc.set 0 rfl hS).1
              exact ⟨g14, ⟨rfl, rfl, rfl, rfl, rfl, rfl, trivial⟩, _, hc.swapL.drop.swapL.drop.now (fun h => h.1) (stab_S _ _)⟩
            refine ⟨?_, trivial⟩
            intro g14 wg14 hg14
            have hc := (hc.loc hg14).1
            have ng14 := Old.new hk hg14
            have hk := Keeps.below hk (fun _ h => h) hg14.below
            refine ⟨hk, ?_⟩
            refine ⟨?_, trivial⟩
            refine ⟨(bdo_any (gS i m) (gQ (j + 1)) (foldS_keys hms2 h52) (mayD_ok hqd) _ _ _ hc.ctx.lt hc.row).mono fun en wq hq => ?_⟩
            obtain ⟨cy2, e1, hq, hrep⟩ := hq
            obtain ⟨y2, rfl⟩ := hrep.stX
            have hc := (hc.call hq).1.know hrep (stab_S _ _)
            have hk := Keeps.below hk (fun _ h => h) hq
            refine ⟨_, e1, hk, ?_⟩
            refine ⟨?_, trivial⟩
            refine ⟨hc.may 1 rfl _ _ (nle rfl) rfl, ?_⟩
            intro wS hS
            have hk := Keeps.stored hk (hc.blk 1 rfl) ng13 hS
            have hc := (hc.set 1 rfl hS).1
            refine ⟨hk, ?_⟩
            refine ⟨hc.may 0 rfl _ _ (nle rfl) rfl, ?_⟩
            intro wS hS
            have hc := (hc.set 0 rfl hS).1
            exact ⟨g14, ⟨rfl, rfl, rfl, rfl, rfl, rfl, trivial⟩, _, hc.swapL.drop.swapL.drop.now (fun h => h.1) (stab_S _ _)⟩
          refine ⟨?_, trivial⟩
          intro g14 wg14 hg14
          have hc := (hc.loc hg14).1
          have ng14 := Old.new hk hg14
          have hk := Keeps.below hk (fun _ h => h) hg14.below
          refine ⟨hk, ?_⟩
          refine ⟨?_, trivial⟩
          refine call_b (put5_any ⟨#[107, 49]⟩ ⟨#[97, 103, 97, 105, 110]⟩ ((j + 1 : Nat) : Int) (by omega) (by omega) _) ?_
          intro wA hA
          have hc := (hc.quiet hA).1
          have hk := Keeps.below hk (fun _ h => h) hA
          refine ⟨hk, ?_⟩
          refine ⟨?_, trivial⟩
          refine ⟨(bdo_any (gS i m) (gQ (j + 1)) (foldS_keys hms2 h52) (mayD_ok hqd) _ _ _ hc.ctx.lt hc.row).mono fun en wq hq => ?_⟩
          obtain ⟨cy2, e1, hq, hrep⟩ := hq
          obtain ⟨y2, rfl⟩ := hrep.stX
          have hc := (hc.call hq).1.know hrep (stab_S _ _)
          have hk := Keeps.below hk (fun _ h => h) hq
          refine ⟨_, e1, hk, ?_⟩
          refine ⟨?_, trivial⟩
          refine ⟨hc.may 1 rfl _ _ (nle rfl) rfl, ?_⟩
          intro wS hS
          have hk := Keeps.stored hk (hc.blk 1 rfl) ng13 hS
          have hc := (hc.set 1 rfl hS).1
          refine ⟨hk, ?_⟩
          refine ⟨hc.may 0 rfl _ _ (nle rfl) rfl, ?_⟩
          intro wS hS
          have hc := (hc.set 0 rfl hS).1
          exact ⟨g14, ⟨rfl, rfl, rfl, rfl, rfl, rfl, trivial⟩, _, hc.swapL.drop.swapL.drop.now (fun h => h.1) (stab_S _ _)⟩
        refine ⟨?_, trivial⟩
        intro g14 wg14 hg14
        have hc := (hc.loc hg14).1
        have ng14 := Old.new hk hg14
        have hk := Keeps.below hk (fun _ h => h) hg14.below
        refine ⟨hk, ?_⟩
        refine ⟨?_, ?_⟩
        · skip
          refine call_b (put5_any ⟨#[107, 49]⟩ ⟨#[97, 103, 97, 105, 110]⟩ ((j + 1 : Nat) : Int) (by omega) (by omega) _) ?_
          intro wA hA
          have hc := (hc.quiet hA).1
          have hk := Keeps.below hk (fun _ h => h) hA
          refine ⟨hk, ?_⟩
          refine ⟨?_, ?_⟩
          · skip
            refine ⟨(bdo_any (gS i m) (gQ (j + 1)) (foldS_keys hms2 h52) (mayD_ok hqd) _ _ _ hc.ctx.lt hc.row).mono fun en wq hq => ?_⟩
            obtain ⟨cy2, e1, hq, hrep⟩ := hq
            obtain ⟨y2, rfl⟩ := hrep.stX
            have hc := (hc.call hq).1.know hrep (stab_S _ _)
            have hk := Keeps.below hk (fun _ h => h) hq
            refine ⟨_, e1, hk, ?_⟩
            refine ⟨?_, trivial⟩
            intro g13 wg13 hg13
            have hc := (hc.loc hg13).1
            have ng13 := Old.new hk hg13
            have hk := Keeps.below hk (fun _ h => h) hg13.below
            refine ⟨hk, ?_⟩
            refine ⟨?_, trivial⟩
            refine ⟨hc.may 0 rfl _ _ (nle rfl) rfl, ?_⟩
            intro wS hS
            have hk := Keeps.stored hk (hc.blk 0 rfl) ng13 hS
            have hc := (hc.set 0 rfl hS).1
            refine ⟨hk, ?_⟩
            refine ⟨hc.may 1 rfl _ _ (nle rfl) rfl, ?_⟩
            intro wS hS
            have hc := (hc.set 1 rfl hS).1
            exact ⟨g14, ⟨rfl, rfl, rfl, rfl, rfl, rfl, trivial⟩, _, hc.drop.swapL.drop.now (fun h => h.1) (stab_S _ _)⟩
          refine ⟨?_, trivial⟩
          intro g13 wg13 hg13
          have hc := (hc.loc hg13).1
          have ng13 := Old.new hk hg13
          have hk := Keeps.below hk (fun _ h => h) hg13.below
          refine ⟨hk, ?_⟩
          refine ⟨?_, trivial⟩
          refine ⟨(bdo_any (gS i m) (gQ (j + 1)) (foldS_keys hms2 h52) (mayD_ok hqd) _ _ _ hc.ctx.lt hc.row).mono fun en wq hq => ?_⟩
          obtain ⟨cy2, e1, hq, hrep⟩ := hq
          obtain ⟨y2, rfl⟩ := hrep.stX
          have hc := (hc.call hq).1.know hrep (stab_S _ _)
          have hk := Keeps.below hk (fun _ h => h) hq
          refine ⟨_, e1, hk, ?_⟩
          refine ⟨?_, trivial⟩
          refine ⟨hc.may 0 rfl _ _ (nle rfl) rfl, ?_⟩
          intro wS hS
          have hk := Keeps.stored hk (hc.blk 0 rfl) ng13 hS
          have hc := (hc.set 0 rfl hS).1
          refine ⟨hk, ?_⟩
          refine ⟨hc.may 1 rfl _ _ (nle rfl) rfl, ?_⟩
          intro wS hS
          have hc := (hc.set 1 rfl hS).1
          exact ⟨g14, ⟨rfl, rfl, rfl, rfl, rfl, rfl, trivial⟩, _, hc.drop.swapL.drop.now (fun h => h.1) (stab_S _ _)⟩
        refine ⟨?_, trivial⟩
        intro g13 wg13 hg13
        have hc := (hc.loc hg13).1
        have ng13 := Old.new hk hg13
        have hk := Keeps.below hk (fun _ h => h) hg13.below
        refine ⟨hk, ?_⟩
        refine ⟨?_, trivial⟩
        refine call_b (put5_any ⟨#[107, 49]⟩ ⟨#[97, 103, 97, 105, 110]⟩ ((j + 1 : Nat) : Int) (by omega) (by omega) _) ?_
        intro wA hA
        have hc := (hc.quiet hA).1
        have hk := Keeps.below hk (fun _ h => h) hA
        refine ⟨hk, ?_⟩
        refine ⟨?_, trivial⟩
        refine ⟨(bdo_any (gS i m) (gQ (j + 1)) (foldS_keys hms2 h52) (mayD_ok hqd) _ _ _ hc.ctx.lt hc.row).mono fun en wq hq => ?_⟩
        obtain ⟨cy2, e1, hq, hrep⟩ := hq
        obtain ⟨y2, rfl⟩ := hrep.stX
        have hc := (hc.call hq).1.know hrep (stab_S _ _)
        have hk := Keeps.below hk (fun _ h => h) hq
        refine ⟨_, e1, hk, ?_⟩
        refine ⟨?_, trivial⟩
        refine ⟨hc.may 0 rfl _ _ (nle rfl) rfl, ?_⟩
        intro wS hS
        have hk := Keeps.stored hk (hc.blk 0 rfl) ng13 hS
        have hc := (hc.set 0 rfl hS).1
        refine ⟨hk, ?_⟩
        refine ⟨hc.may 1 rfl _ _ (nle rfl) rfl, ?_⟩
        intro wS hS
        have hc := (hc.set 1 rfl hS).1
        exact ⟨g14, ⟨rfl, rfl, rfl, rfl, rfl, rfl, trivial⟩, _, hc.drop.swapL.drop.now (fun h => h.1) (stab_S _ _)⟩
      clear hc
      rintro g14 u6 w6 ⟨S, hc⟩
      refine split_f (by rw [hI1, ← hK, show decide ((K : Int) ≤ ((j + 1 : Nat) : Int)) = decide (K ≤ j + 1) by rw [decide_eq_decide]; omega]; simp) ?_
      refine ⟨_, hc.cell 0 rfl _ rfl, ?_⟩
      refine split_f (by rw [hI2, ← hK, show decide (((j + 1 : Nat) : Int) < (K : Int)) = decide (j + 1 < K) by rw [decide_eq_decide]; omega]; simp) ?_
      exact ⟨j + 1, ⟨rfl, rfl, rfl, congrArg _ (i_down (by omega)), trivial⟩, ⟨hlt, _, hc.drop⟩, by show i - (j + 1) < i - j; omega⟩
    refine split_f (decide_eq_false (show ¬ ((j + 1 : Nat) : Int) ≤ i by omega)) ?_
    exact ⟨rfl, hc.below⟩
set_option maxRecDepth 100000 in
theorem bookLows_ct {H : Type} (enc : TypeId × Value → H) (W : World) (hw : Env W) {base : Nat}
    (v0 : Value) (d0 : DataW H) (p0 : List MemPlace) (h0 : DataW.Trod enc Tryz.prog W 0 (fun _ => true) true 3 v0 d0 p0) (k0 : Value.okWide Tryz.prog W .any base 3 v0)
    (v1 : Value) (d1 : DataW H) (p1 : List MemPlace) (h1 : DataW.Trod enc Tryz.prog W 0 (fun _ => true) true 3 v1 d1 p1) (k1 : Value.okWide Tryz.prog W .any base 3 v1) :
    Calls Tryz.prog 21 #[v0, v1] W (RetB (.bool true) W) := by
  obtain ⟨a0, rfl, o0⟩ := open_i64 Tryz.underlying3 h0 k0
  obtain ⟨a1, rfl, o1⟩ := open_i64 Tryz.underlying3 h1 k1
  exact lowsB_any a0 a1 W hw
end Go.Proofs.YtbmoimihnndboaaGreatDoor
