import Derived.Test.YtbmoimihnndboaaGreatDoorM13
set_option linter.unusedVariables false
set_option linter.unusedSimpArgs false
/- Walk: armariumlaw5.BookDelete. -/
namespace Go.Proofs.YtbmoimihnndboaaGreatDoor
open Go.Vc Go.RowKit Go.Fl Go.ChangeShapes Go.WideShapes Go.ChangeAt
def eD (i : Nat) : D := putDeed ⟨#[107]⟩ ⟨(dgs i).toArray⟩ (i : Int)
def eL (n : Nat) : List D := (List.range n).map fun i => eD (i + 1)
def eX : D := ⟨2, ⟨#[107]⟩, ⟨#[]⟩, 0, 0, ⟨#[]⟩, 4294967346, 0⟩
def eS (n : Nat) : Stt := (doF (foldF Stt0 (eL n)) eX).1
theorem eL_succ (n : Nat) : eL (n + 1) = eL n ++ [eD (n + 1)] := by unfold eL; rw [List.range_succ, List.map_append]; rfl
theorem eL_len (n : Nat) : (eL n).length = n := by unfold eL; simp
def chkE : Bool := (List.range 7).all fun n => n == 0 || (mayD (eD n) && ((doF (foldF Stt0 (eL n)) eX).2.err == 0) && ((doF (foldF Stt0 (eL n)) eX).2.ver == (n : Int) + 1) && ((getS (eS n) ⟨#[107]⟩ 0).2 == 10) && ((getS (eS n) ⟨#[107]⟩ ((n : Int) + 1)).2 == 10) &&
  ((pageS (eS n) ⟨#[]⟩ ⟨#[]⟩ 20 true).1.length == 0) && ((pageS (eS n) ⟨#[]⟩ ⟨#[]⟩ 20 false).1.map (fun e => e.vs.length) == [n + 1]) && (List.range n).all fun i => ((getS (eS n) ⟨#[107]⟩ ((i : Int) + 1)).2 == 0) && strEq (getS (eS n) ⟨#[107]⟩ ((i : Int) + 1)).1.body ⟨(dgs (i + 1)).toArray⟩)
set_option maxRecDepth 100000 in
theorem chkE_ok : chkE = true := by kernel_rfl
theorem eX_may : mayD eX = true := by kernel_rfl
structure EAt (n : Nat) : Prop where
  may : mayD (eD n) = true
  err : (doF (foldF Stt0 (eL n)) eX).2.err = 0
  ver : (doF (foldF Stt0 (eL n)) eX).2.ver = (n : Int) + 1
  g0 : (getS (eS n) ⟨#[107]⟩ 0).2 = 10
  g1 : (getS (eS n) ⟨#[107]⟩ ((n : Int) + 1)).2 = 10
  names : (pageS (eS n) ⟨#[]⟩ ⟨#[]⟩ 20 true).1.length = 0
  vers : (pageS (eS n) ⟨#[]⟩ ⟨#[]⟩ 20 false).1.map (fun e => e.vs.length) = [n + 1]
  each : ∀ i, i < n → (getS (eS n) ⟨#[107]⟩ ((i : Int) + 1)).2 = 0 ∧ (getS (eS n) ⟨#[107]⟩ ((i : Int) + 1)).1.body = ⟨(dgs (i + 1)).toArray⟩
theorem eAt {n : Nat} (h0 : n ≠ 0) (h : n ≤ 6) : EAt n := by
  have h1 := List.all_eq_true.1 chkE_ok n (List.mem_range.2 (by omega))
  rw [Bool.or_eq_true, beq_iff_eq] at h1
  have h1 := h1.resolve_left h0
  simp only [Bool.and_eq_true, beq_iff_eq] at h1
  obtain ⟨⟨⟨⟨⟨⟨⟨a, b⟩, c⟩, d⟩, e⟩, f⟩, g⟩, i⟩ := h1
  refine ⟨a, b, c, d, e, f, g, fun j hj => ?_⟩
  have h2 := List.all_eq_true.1 i j (List.mem_range.2 hj)
  simp only [Bool.and_eq_true, beq_iff_eq, strEq_iff] at h2
  exact h2
theorem eL_may {n : Nat} (h : n ≤ 6) : ∀ d ∈ eL n, mayD d = true := by
  intro d hd
  obtain ⟨i, hi, rfl⟩ := List.mem_map.1 hd
  have := List.mem_range.1 hi
  exact (eAt (n := i + 1) (by omega) (by omega)).may
theorem eL_F {n : Nat} (h : n ≤ 6) : foldS Stt0 (eL n) = foldF Stt0 (eL n) :=
  foldS_F _ mayStt0 rfl (eL_may h) (by rw [eL_len]; show (0 : Int) + (n : Int) < 1099511627776; omega)
theorem eS_eq {n : Nat} (h0 : n ≠ 0) (h : n ≤ 6) : doS (foldS Stt0 (eL n)) eX = (eS n, ⟨0, (n : Int) + 1⟩) ∧ mayS (eS n) = true ∧ (eS n).lows.length = 5 ∧ (eS n).seq < maxN := by
  obtain ⟨a, b, c⟩ := foldS_ok (eL n) mayStt0 rfl
  rw [eL_len] at c
  have hz : Stt0.seq = 0 := rfl
  have hx : maxN = 1099511627776 := rfl
  have e : doS (foldS Stt0 (eL n)) eX = (eS n, ⟨0, (n : Int) + 1⟩) := by
    rw [doS_F a eX_may (by omega), eL_F h]
    have h1 := (eAt h0 h).err
    have h2 := (eAt h0 h).ver
    unfold eS
    generalize doF (foldF Stt0 (eL n)) eX = q at *
    obtain ⟨q1, q2, q3⟩ := q
    simp only at h1 h2
    rw [h1, h2]
  have h1 := doS_seq (foldS Stt0 (eL n)) eX
  have h2 := mayS_doS (d := eX) b a
  have h3 := doS_lows5 eX b
  rw [e] at h1 h2 h3
  exact ⟨e, h2, h3, by have : (eS n).seq ≤ (foldS Stt0 (eL n)).seq + 1 := h1; omega⟩
def eP (b : ByteArray) : D := putDeed ⟨#[107]⟩ b 60
theorem eP_may {b : ByteArray} (hb : b.size ≤ 300) : mayD (eP b) = true := by
  have e : decide (((eP b).body.size : Int) ≤ 300) = true := decide_eq_true (by show (b.size : Int) ≤ 300; omega)
  unfold mayD
  rw [e]
  show (_ : Bool) = true
  kernel_rfl
theorem eP_do {n : Nat} (h0 : n ≠ 0) (h : n ≤ 6) {b : ByteArray} (hb : b.size ≤ 300) : (doS (eS n) (eP b)).2 = ⟨0, (n : Int) + 2⟩ ∧ (getS (doS (eS n) (eP b)).1 ⟨#[107]⟩ 0).2 = 0 ∧ (getS (doS (eS n) (eP b)).1 ⟨#[107]⟩ 0).1.body = b := by
  obtain ⟨_, h2, h3, h4⟩ := eS_eq h0 h
  rw [doS_F h2 (eP_may hb) h4]
  match n, h0, h with
  | 1, _, _ => exact ⟨by kernel_rfl, by kernel_rfl, by kernel_rfl⟩
  | 2, _, _ => exact ⟨by kernel_rfl, by kernel_rfl, by kernel_rfl⟩
  | 3, _, _ => exact ⟨by kernel_rfl, by kernel_rfl, by kernel_rfl⟩
  | 4, _, _ => exact ⟨by kernel_rfl, by kernel_rfl, by kernel_rfl⟩
  | 5, _, _ => exact ⟨by kernel_rfl, by kernel_rfl, by kernel_rfl⟩
  | 6, _, _ => exact ⟨by kernel_rfl, by kernel_rfl, by kernel_rfl⟩
theorem norm6 (n : Int) : ∃ N : Nat, IntKind.i64.wrap (1 + (IntKind.i64.wrap (n.tmod 6 + 6)).tmod 6) = (N : Int) ∧ 1 ≤ N ∧ N ≤ 6 := by
  have h1 := Int.tmod_lt_of_pos n (show (0 : Int) < 6 by decide)
  have h2 : -6 < n.tmod 6 := by
    have h3 := Int.tmod_lt_of_pos (-n) (show (0 : Int) < 6 by decide)
    rw [Int.neg_tmod] at h3
    omega
  rw [IntWalk.i64_in (n.tmod 6 + 6) ⟨by omega, by omega⟩, Int.tmod_eq_emod_of_nonneg (by omega), IntWalk.i64_in (1 + (n.tmod 6 + 6) % 6) ⟨by omega, by omega⟩]
  exact ⟨(1 + (n.tmod 6 + 6) % 6).toNat, by omega, by omega, by omega⟩
theorem res_eq {a b : Res} (h : a = b) (ox oy : Operand) (w : World) : (do eqGuard BinOp.eql 89 ox oy (.agg #[.int .i64 a.err, .int .i64 a.ver]) (.agg #[.int .i64 b.err, .int .i64 b.ver]); Go.binOp BinOp.eql 89 (.agg #[.int .i64 a.err, .int .i64 a.ver]) (.agg #[.int .i64 b.err, .int .i64 b.ver]) : Sem Value).run Tryz.prog w = .ok (.bool true) w := by
  subst h
  exact res_self a ox oy w
theorem mayS_lens {s : Stt} (h : mayS s = true) : True ∧ True ∧ s.l.length ≤ 1000000 ∧ (∀ e ∈ s.l, e.vs.length ≤ 1000000) := by
  obtain ⟨⟨a1, a2⟩, ⟨a3, a4⟩, a5, a6, a7⟩ := mayS_parts.1 h
  refine ⟨trivial, trivial, by omega, fun e he => ?_⟩
  have hp := mayE_parts.1 (((risE_iff _ _ _).1 a5).1 e he).1
  omega
set_option maxHeartbeats 16000000 in
theorem deleteB_any (n0 : Int) (body0 : ByteArray) (h0 : body0.size ≤ 9223372036854775807) (w : World) (hw : Env w) : Calls Tryz.prog 20 #[.int .i64 n0, .string body0] w (RetB (.bool true) w) := by
  obtain ⟨n, hn, hn1, hn6⟩ := norm6 n0
  have hcb := fun w => cutN_any body0 300 w h0
  have hb : (cut body0 300).size ≤ 300 := cut_size _ _
  generalize cut body0 300 = b at hcb hb
  refine calls_vc lay_ok Tryz.func20 rfl (by kernel_rfl) (by kernel_rfl) ?_
  have hc := CtxF.start w no (fun _ h => h.elim) (R := fun _ _ => True) trivial Stab.true
  refine call_b (begun5_any _ hw) ?_
  intro wQ hQ
  have hc := (hc.quiet hQ).1
  refine vc_nz (by decide) ?_
  refine vc_nz (by decide) ?_
  refine call_b (hcb _) ?_
  intro wQ hQ
  have hc := (hc.quiet hQ).1
  intro g6 wg6 hg6
  have hc := (hc.loc hg6).1
  refine ⟨Nat × Stt × SX, fun x => [(0, .int .i64 n), (1, .string b), (6, .pointer (some ⟨g6, 0, none⟩)), (7, .int .i64 ((x.1 + 1 : Nat) : Int))],
    fun x w' => x.1 ≤ n ∧ x.2.1 = foldS Stt0 (eL x.1) ∧ ∃ S, CtxF no w S w' [(g6, 78, stX x.2.1 x.2.2)] [] (fun S w => RepS S w x.2.1 (stX x.2.1 x.2.2)), fun x _ => n - x.1, (0, Stt0, SX0),
    ⟨congrArg _ hn, rfl, rfl, rfl, trivial⟩, ⟨Nat.zero_le _, rfl, _, hc.now (fun _ => rep0X _ _) (stab_S _ _)⟩, ?_⟩
  clear hc
  rintro ⟨i, s, y⟩ w4 u ⟨hi, hs, S, hc⟩
  simp only at hi hs hc
  obtain ⟨hm, h5, hsq⟩ := hs ▸ foldS_ok (eL i) mayStt0 rfl
  by_cases hlt : i < n
  · refine split_t (decide_eq_true (show ((i + 1 : Nat) : Int) ≤ n by omega)) ?_
    have hdm := (eAt (n := i + 1) (by omega) (by omega)).may
    have hsn : (doS s (eD (i + 1))).1 = foldS Stt0 (eL (i + 1)) := by rw [eL_succ, foldS_snoc, ← hs]
    refine Drawn.join (α := SX) (fun x => [(0, .int .i64 n), (1, .string b), (6, .pointer (some ⟨g6, 0, none⟩)), (7, .int .i64 ((i + 1 : Nat) : Int))])
      (fun x wS => ∃ S, CtxF no w S wS [(g6, 78, stX (doS s (eD (i + 1))).1 x)] [] (fun S w => RepS S w (doS s (eD (i + 1))).1 (stX (doS s (eD (i + 1))).1 x))) ?_ ?_
    · refine drawn lay_ok (by kernel_rfl) (.q 1 (.q 3 (.n 0 (.n 2 (.n 4 (.n 5 (.q 6 (.q 7 (.q 8 (.n 9 .fin .stop)))) .stop) .stop) .stop) (.n 2 (.n 0 (.n 4 (.n 5 (.q 6 (.q 7 (.q 8 (.n 9 .fin .stop)))) .stop) .stop) (.n 4 (.n 0 (.n 5 (.q 6 (.q 7 (.q 8 (.n 9 .fin .stop)))) .stop) .stop) .stop)) .stop)))) (fun _ => True) (by kernel_rfl) trivial ?_
      have hc := hc.drew
      refine ⟨?_, ?_⟩
      · skip
        refine ⟨_, ?_, hc.cells 0 rfl, trivial, ?_⟩
        · rfl
        refine ⟨?_, trivial⟩
        refine call_b (dgs_any (i + 1) (by omega) _) ?_
        intro wQ hQ
        have hc := (hc.quiet hQ).1
        refine ⟨trivial, ?_⟩
        refine ⟨?_, trivial⟩
        refine call_b (put5_any ⟨#[107]⟩ ⟨(dgs (i + 1)).toArray⟩ ((i + 1 : Nat) : Int) (by omega) (by omega) _) ?_
        intro wQ hQ
        have hc := (hc.quiet hQ).1
        refine ⟨trivial, ?_⟩
        refine ⟨?_, trivial⟩
        refine ⟨(bdo_any s (eD (i + 1)) (foldS_keys hm h5) (mayD_ok hdm) _ _ _ hc.ctx.lt hc.row).mono fun en wq hq => ?_⟩
        obtain ⟨cy1, e1, hq, hrep⟩ := hq
        obtain ⟨y1, rfl⟩ := hrep.stX
        have hc := (hc.call hq).1.know hrep (stab_S _ _)
        refine ⟨_, e1, trivial, ?_⟩
        refine ⟨?_, trivial⟩
        refine ⟨hc.may 0 rfl _ _ (nle rfl) rfl, ?_⟩
        intro wS hS
        have hc := (hc.set 0 rfl hS).1
        refine ⟨trivial, ?_⟩
        exact ⟨y1, ⟨rfl, rfl, rfl, rfl, trivial⟩, _, hc.now (fun h => h.2) (stab_S _ _)⟩
      refine ⟨?_, trivial⟩
      refine call_b (dgs_any (i + 1) (by omega) _) ?_
      intro wQ hQ
      have hc := (hc.quiet hQ).1
      refine ⟨trivial, ?_⟩
      refine ⟨?_, ?_⟩
      · skip
        refine ⟨_, ?_, hc.cells 0 rfl, trivial, ?_⟩
        · rfl
        refine ⟨?_, trivial⟩
        refine call_b (put5_any ⟨#[107]⟩ ⟨(dgs (i + 1)).toArray⟩ ((i + 1 : Nat) : Int) (by omega) (by omega) _) ?_
        intro wQ hQ
        have hc := (hc.quiet hQ).1
        refine ⟨trivial, ?_⟩
        refine ⟨?_, trivial⟩
        refine ⟨(bdo_any s (eD (i + 1)) (foldS_keys hm h5) (mayD_ok hdm) _ _ _ hc.ctx.lt hc.row).mono fun en wq hq => ?_⟩
        obtain ⟨cy1, e1, hq, hrep⟩ := hq
        obtain ⟨y1, rfl⟩ := hrep.stX
        have hc := (hc.call hq).1.know hrep (stab_S _ _)
        refine ⟨_, e1, trivial, ?_⟩
        refine ⟨?_, trivial⟩
        refine ⟨hc.may 0 rfl _ _ (nle rfl) rfl, ?_⟩
        intro wS hS
        have hc := (hc.set 0 rfl hS).1
        refine ⟨trivial, ?_⟩
        exact ⟨y1, ⟨rfl, rfl, rfl, rfl, trivial⟩, _, hc.now (fun h => h.2) (stab_S _ _)⟩
      refine ⟨?_, trivial⟩
      refine call_b (put5_any ⟨#[107]⟩ ⟨(dgs (i + 1)).toArray⟩ ((i + 1 : Nat) : Int) (by omega) (by omega) _) ?_
      intro wQ hQ
      have hc := (hc.quiet hQ).1
      refine ⟨trivial, ?_⟩
      refine ⟨?_, trivial⟩
      refine ⟨_, ?_, hc.cells 0 rfl, trivial, ?_⟩
      · rfl
      refine ⟨?_, trivial⟩
      refine ⟨(bdo_any s (eD (i + 1)) (foldS_keys hm h5) (mayD_ok hdm) _ _ _ hc.ctx.lt hc.row).mono fun en wq hq => ?_⟩
      obtain ⟨cy1, e1, hq, hrep⟩ := hq
      obtain ⟨y1, rfl⟩ := hrep.stX
      have hc := (hc.call hq).1.know hrep (stab_S _ _)
      refine ⟨_, e1, trivial, ?_⟩
      refine ⟨?_, trivial⟩
      refine ⟨hc.may 0 rfl _ _ (nle rfl) rfl, ?_⟩
      intro wS hS
      have hc := (hc.set 0 rfl hS).1
      refine ⟨trivial, ?_⟩
      exact ⟨y1, ⟨rfl, rfl, rfl, rfl, trivial⟩, _, hc.now (fun h => h.2) (stab_S _ _)⟩
    clear hc
    rintro y1 u wS hc
    exact ⟨(i + 1, _, y1), ⟨rfl, rfl, rfl, congrArg _ (i_down (by omega)), trivial⟩, ⟨hlt, hsn, hc⟩, by show n - (i + 1) < n - i; omega⟩
  refine split_f (decide_eq_false (show ¬ ((i + 1 : Nat) : Int) ≤ n by omega)) ?_
  obtain rfl : i = n := by omega
  have hE := eAt (n := i) (by omega) hn6
  obtain ⟨hdx, hmE, h5E, hqE⟩ := eS_eq (n := i) (by omega) hn6
  obtain ⟨p1, p2, p3⟩ := eP_do (n := i) (by omega) hn6 hb
  rw [← hs] at hdx
  have hw1 : IntKind.i64.wrap ((i : Int) + 1) = (i : Int) + 1 := IntWalk.i64_in _ ⟨by omega, by omega⟩
  have hw2 : IntKind.i64.wrap ((i : Int) + 2) = (i : Int) + 2 := IntWalk.i64_in _ ⟨by omega, by omega⟩
  refine ⟨_, ?_, hc.cells 0 rfl, ?_⟩
  · rfl
  refine ⟨(bdo_any s eX (foldS_keys hm h5) (mayD_ok eX_may) _ _ _ hc.ctx.lt hc.row).mono fun en wq hq => ?_⟩
  rw [hdx] at hq
  obtain ⟨c1, e1, hq, hrep⟩ := hq
  obtain ⟨y1, rfl⟩ := hrep.stX
  have hc := (hc.call hq).1.know hrep (stab_S _ _)
  refine ⟨_, e1, ?_⟩
  intro g8 wg8 hg8
  have hc := (hc.loc hg8).1
  refine ⟨hc.may 1 rfl _ _ (nle rfl) rfl, ?_⟩
  intro wS hS
  have hc := (hc.set 1 rfl hS).1
  refine ⟨hc.may 0 rfl _ _ (nle rfl) rfl, ?_⟩
  intro wS hS
  have hc := (hc.set 0 rfl hS).1
  have hc := hc.now (X := fun S w => RepS S w (eS i) (stX (eS i) y1)) (fun h => h.2) (stab_S _ _)
  obtain ⟨_, _, hln, hvn⟩ := mayS_lens hmE
  refine ⟨_, ?_, hc.cells 1 rfl, ?_⟩
  · rfl
  have hg := bget_any (eS i) ⟨#[107]⟩ 0 _ _ _ hc.row
  rw [hE.g0] at hg
  refine call_b (hg) ?_
  intro wQ hQ
  have hc := (hc.quiet hQ).1
  intro g9 wg9 hg9
  have hc := (hc.loc hg9).1
  refine ⟨hc.may 0 rfl _ _ (nle rfl) rfl, ?_⟩
  intro wS hS
  have hc := (hc.set 0 rfl hS).1
  refine ⟨_, ?_, hc.cells 2 rfl, ?_⟩
  · rfl
  have hg := bget_any (eS i) ⟨#[107]⟩ (IntKind.i64.wrap ((i : Int) + 1)) _ _ _ hc.row
  rw [show (getS (eS i) ⟨#[107]⟩ (IntKind.i64.wrap ((i : Int) + 1))).2 = 10 by rw [hw1]; exact hE.g1] at hg
  refine call_b (hg) ?_
  intro wQ hQ
  have hc := (hc.quiet hQ).1
  intro g11 wg11 hg11
  have hc := (hc.loc hg11).1
  refine ⟨hc.may 0 rfl _ _ (nle rfl) rfl, ?_⟩
  intro wS hS
  have hc := (hc.set 0 rfl hS).1
  refine ⟨_, ?_, hc.cells 3 rfl, ?_⟩
  · rfl
  refine ⟨(bnames_any (eS i) ⟨#[]⟩ ⟨#[]⟩ 20 hln hvn _ _ _ hc.row).mono fun en wq hq => ?_⟩
  obtain ⟨A1, c1, e1, hq, _⟩ := hq
  rw [hE.names] at e1
  have hc := (hc.quiet hq).1
  refine ⟨_, e1, ?_⟩
  refine ⟨_, ?_, hc.cells 3 rfl, ?_⟩
  · rfl
  obtain ⟨l2, b2, hp⟩ : ∃ l2 b2, pageS (eS i) ⟨#[]⟩ ⟨#[]⟩ 20 false = (l2, b2) := ⟨_, _, rfl⟩
  have hvs := hE.vers
  rw [hp] at hvs
  obtain ⟨e, rfl, hel⟩ : ∃ e, l2 = [e] ∧ e.vs.length = i + 1 := by
    match l2, hvs with
    | [], h => exact absurd h (by simp)
    | [e], h => exact ⟨e, rfl, by simpa using h⟩
    | _ :: _ :: _, h => exact absurd h (by simp)
  refine ⟨(bversions_any (eS i) ⟨#[]⟩ ⟨#[]⟩ 20 hln hvn _ _ _ hc.row).mono fun en wq hq => ?_⟩
  rw [hp] at hq
  obtain ⟨A2, c2, css, e1, hq, hE2, hR2⟩ := hq
  have hc := (hc.call hq).1.know (X := fun S w => RepEs S w [e] css ∧ Row S w A2 1 c2 css.flatten) ⟨hE2.wide fun b h => h.elim (fun h => h.elim) .inr, hR2.sub fun b h => h.elim (fun h => h.elim) .inr⟩ (stab_P _ _ _ _)
  refine ⟨_, e1, ?_⟩
  refine ⟨Nat, fun j => [(0, .int .i64 i), (1, .string b), (6, .pointer (some ⟨g6, 0, none⟩)), (8, .pointer (some ⟨g8, 0, none⟩)), (10, .int .i64 10), (12, .int .i64 10), (13, .slice A1 0 c1), (15, .slice A2 1 c2), (17, .int .i64 ((j + 1 : Nat) : Int))],
    fun j w' => j ≤ i ∧ ∃ S, CtxF no w S w' [(g8, 89, [.int .i64 0, .int .i64 ((i : Int) + 1)]), (g6, 78, stX (eS i) y1)] [] (fun S w => RepS S w (eS i) (stX (eS i) y1) ∧ RepEs S w [e] css ∧ Row S w A2 1 c2 css.flatten), fun j _ => i - j, 0,
    ⟨rfl, rfl, rfl, rfl, rfl, rfl, rfl, rfl, rfl, trivial⟩, ⟨Nat.zero_le _, _, hc.drop.drop⟩, ?_⟩
  clear hc
  rintro j w5 u5 ⟨hj, S, hc⟩
  by_cases hlt : j < i
  · refine split_t (decide_eq_true (show ((j + 1 : Nat) : Int) ≤ i by omega)) ?_
    have he := hE.each j hlt
    rw [show ((j : Int) + 1) = ((j + 1 : Nat) : Int) by omega] at he
    refine ⟨_, ?_, hc.cells 1 rfl, ?_⟩
    · rfl
    have hg := bget_any (eS i) ⟨#[107]⟩ ((j + 1 : Nat) : Int) _ _ _ hc.row.1
    rw [he.1] at hg
    refine call_b (hg) ?_
    intro wQ hQ
    have hc := (hc.quiet hQ).1
    intro g18 wg18 hg18
    have hc := (hc.loc hg18).1
    refine ⟨hc.may 0 rfl _ _ (nle rfl) rfl, ?_⟩
    intro wS hS
    have hc := (hc.set 0 rfl hS).1
    have hr := hc
    refine drawn lay_ok (by kernel_rfl) (.q 0 (.q 1 (.q 2 (.q 3 (.q 4 (.q 5 (.n 6 (.q 7 (.q 8 .fin)) .stop))))))) (Old _) (by kernel_rfl) (Old.start _) ?_
    have hk := hc.old0
    have hc := hc.drew
    refine ⟨_, fun x hx => Keeps.cell hx (hr.blk 0 rfl) (hr.blk 0 rfl).lt rfl, ?_⟩
    refine ⟨?_, trivial⟩
    refine call_b (dgs_any (j + 1) (by omega) _) ?_
    intro wA hA
    have hc := (hc.quiet hA).1
    have hk := Keeps.below hk (fun _ h => h) hA
    refine ⟨hk, ?_⟩
    refine split_f (by rw [he.2, strEq_iff.2 rfl]; rfl) ?_
    exact ⟨j + 1, ⟨rfl, rfl, rfl, rfl, rfl, rfl, rfl, rfl, congrArg _ (i_down (by omega)), trivial⟩, ⟨hlt, _, hc.drop⟩, by show i - (j + 1) < i - j; omega⟩
  refine split_f (decide_eq_false (show ¬ ((j + 1 : Nat) : Int) ≤ i by omega)) ?_
  obtain ⟨t, hdp⟩ : ∃ t, doS (eS i) (eP b) = (t, ⟨0, (i : Int) + 2⟩) := ⟨(doS (eS i) (eP b)).1, by rw [← p1]⟩
  rw [hdp] at p2 p3
  simp only at p2 p3
  refine Drawn.join (α := SX × Nat) (fun x => [(0, .int .i64 i), (1, .string b), (6, .pointer (some ⟨g6, 0, none⟩)), (8, .pointer (some ⟨g8, 0, none⟩)), (10, .int .i64 10), (12, .int .i64 10), (13, .slice A1 0 c1), (15, .slice A2 1 c2), (20, .pointer (some ⟨x.2, 0, none⟩))])
    (fun x wS => ∃ S, CtxF no w S wS [(x.2, 89, [.int .i64 0, .int .i64 ((i : Int) + 2)]), (g8, 89, [.int .i64 0, .int .i64 ((i : Int) + 1)]), (g6, 78, stX t x.1)] [] (fun S w => RepS S w t (stX t x.1) ∧ RepEs S w [e] css ∧ Row S w A2 1 c2 css.flatten)) ?_ ?_
  · refine drawn lay_ok (by kernel_rfl) (.q 1 (.n 0 (.n 2 (.n 3 (.q 4 (.q 5 (.q 6 (.n 7 (.n 8 (.z 9) .stop) .stop)))) (.n 7 (.n 3 (.q 4 (.q 5 (.q 6 (.n 8 (.z 9) .stop)))) .stop) .stop)) (.n 7 (.n 2 (.n 3 (.q 4 (.q 5 (.q 6 (.n 8 (.z 9) .stop)))) .stop) .stop) .stop)) (.n 2 (.n 0 (.n 3 (.q 4 (.q 5 (.q 6 (.n 7 (.n 8 (.z 9) .stop) .stop)))) (.n 7 (.n 3 (.q 4 (.q 5 (.q 6 (.n 8 (.z 9) .stop)))) .stop) .stop)) (.n 7 (.n 0 (.n 3 (.q 4 (.q 5 (.q 6 (.n 8 (.z 9) .stop)))) .stop) .stop) .stop)) (.n 7 (.n 0 (.n 2 (.n 3 (.q 4 (.q 5 (.q 6 (.n 8 (.z 9) .stop)))) .stop) .stop) (.n 2 (.n 0 (.n 3 (.q 4 (.q 5 (.q 6 (.n 8 (.z 9) .stop)))) .stop) .stop) .stop)) .stop)))) (fun _ => True) (by kernel_rfl) trivial ?_
    have hc := hc.drew
    refine ⟨?_, ?_⟩
    · skip
      refine ⟨_, ?_, hc.cells 1 rfl, trivial, ?_⟩
      · rfl
      refine ⟨?_, ?_⟩
      · skip
        refine call_b (put5_any ⟨#[107]⟩ b 60 (by decide) (by decide) _) ?_
        intro wQ hQ
        have hc := (hc.quiet hQ).1
        refine ⟨trivial, ?_⟩
        refine ⟨?_, ?_⟩
        · skip
          refine ⟨(bdo_any (eS i) (eP b) (foldS_keys hmE h5E) (mayD_ok (eP_may hb)) _ _ _ hc.ctx.lt hc.row.1).mono fun en wq hq => ?_⟩
          rw [hdp] at hq
          obtain ⟨c3, e1, hq, hrep⟩ := hq
          obtain ⟨y2, rfl⟩ := hrep.stX
          have hc := (hc.call hq).1.know hrep (stab_S _ _)
          refine ⟨_, e1, trivial, ?_⟩
          refine ⟨?_, trivial⟩
          intro g20 wg20 hg20
          have hc := (hc.loc hg20).1
          refine ⟨trivial, ?_⟩
          refine ⟨?_, trivial⟩
          refine ⟨hc.may 2 rfl _ _ (nle rfl) rfl, ?_⟩
          intro wS hS
          have hc := (hc.set 2 rfl hS).1
          refine ⟨trivial, ?_⟩
          refine ⟨hc.may 0 rfl _ _ (nle rfl) rfl, ?_⟩
          intro wS hS
          have hc := (hc.set 0 rfl hS).1
          exact ⟨(y2, g20), ⟨rfl, rfl, rfl, rfl, rfl, rfl, rfl, rfl, rfl, trivial⟩, _, hc.now (fun h => ⟨h.2, h.1.2⟩) ((stab_S _ _).and (stab_P _ _ _ _))⟩
        refine ⟨?_, trivial⟩
        intro g20 wg20 hg20
        have hc := (hc.loc hg20).1
        refine ⟨trivial, ?_⟩
        refine ⟨?_, trivial⟩
        refine ⟨(bdo_any (eS i) (eP b) (foldS_keys hmE h5E) (mayD_ok (eP_may hb)) _ _ _ hc.ctx.lt hc.row.1).mono fun en wq hq => ?_⟩
        rw [hdp] at hq
        obtain ⟨c3, e1, hq, hrep⟩ := hq
        obtain ⟨y2, rfl⟩ := hrep.stX
        have hc := (hc.call hq).1.know hrep (stab_S _ _)
        refine ⟨_, e1, trivial, ?_⟩
        refine ⟨?_, trivial⟩
        refine ⟨hc.may 2 rfl _ _ (nle rfl) rfl, ?_⟩
        intro wS hS
        have hc := (hc.set 2 rfl hS).1
        refine ⟨trivial, ?_⟩
        refine ⟨hc.may 0 rfl _ _ (nle rfl) rfl, ?_⟩
        intro wS hS
        have hc := (hc.set 0 rfl hS).1
        exact ⟨(y2, g20), ⟨rfl, rfl, rfl, rfl, rfl, rfl, rfl, rfl, rfl, trivial⟩, _, hc.now (fun h => ⟨h.2, h.1.2⟩) ((stab_S _ _).and (stab_P _ _ _ _))⟩
      refine ⟨?_, trivial⟩
      intro g20 wg20 hg20
      have hc := (hc.loc hg20).1
      refine ⟨trivial, ?_⟩
      refine ⟨?_, trivial⟩
      refine call_b (put5_any ⟨#[107]⟩ b 60 (by decide) (by decide) _) ?_
      intro wQ hQ
      have hc := (hc.quiet hQ).1
      refine ⟨trivial, ?_⟩
      refine ⟨?_, trivial⟩
      refine ⟨(bdo_any (eS i) (eP b) (foldS_keys hmE h5E) (mayD_ok (eP_may hb)) _ _ _ hc.ctx.lt hc.row.1).mono fun en wq hq => ?_⟩
      rw [hdp] at hq
      obtain ⟨c3, e1, hq, hrep⟩ := hq
      obtain ⟨y2, rfl⟩ := hrep.stX
      have hc := (hc.call hq).1.know hrep (stab_S _ _)
      refine ⟨_, e1, trivial, ?_⟩
      refine ⟨?_, trivial⟩
      refine ⟨hc.may 2 rfl _ _ (nle rfl) rfl, ?_⟩
      intro wS hS
      have hc := (hc.set 2 rfl hS).1
      refine ⟨trivial, ?_⟩
      refine ⟨hc.may 0 rfl _ _ (nle rfl) rfl, ?_⟩
      intro wS hS
      have hc := (hc.set 0 rfl hS).1
      exact ⟨(y2, g20), ⟨rfl, rfl, rfl, rfl, rfl, rfl, rfl, rfl, rfl, trivial⟩, _, hc.now (fun h => ⟨h.2, h.1.2⟩) ((stab_S _ _).and (stab_P _ _ _ _))⟩
    refine ⟨?_, ?_⟩
    · skip
      refine call_b (put5_any ⟨#[107]⟩ b 60 (by decide) (by decide) _) ?_
      intro wQ hQ
      have hc := (hc.quiet hQ).1
      refine ⟨trivial, ?_⟩
      refine ⟨?_, ?_⟩
      · skip
        refine ⟨_, ?_, hc.cells 1 rfl, trivial, ?_⟩
        · rfl
        refine ⟨?_, ?_⟩
        · skip
          refine ⟨(bdo_any (eS i) (eP b) (foldS_keys hmE h5E) (mayD_ok (eP_may hb)) _ _ _ hc.ctx.lt hc.row.1).mono fun en wq hq => ?_⟩
          rw [hdp] at hq
          obtain ⟨c3, e1, hq, hrep⟩ := hq
          obtain ⟨y2, rfl⟩ := hrep.stX
          have hc := (hc.call hq).1.know hrep (stab_S _ _)
          refine ⟨_, e1, trivial, ?_⟩
          refine ⟨?_, trivial⟩
          intro g20 wg20 hg20
          have hc := (hc.loc hg20).1
          refine ⟨trivial, ?_⟩
          refine ⟨?_, trivial⟩
          refine ⟨hc.may 2 rfl _ _ (nle rfl) rfl, ?_⟩
          intro wS hS
          have hc := (hc.set 2 rfl hS).1
          refine ⟨trivial, ?_⟩
          refine ⟨hc.may 0 rfl _ _ (nle rfl) rfl, ?_⟩
          intro wS hS
          have hc := (hc.set 0 rfl hS).1
          exact ⟨(y2, g20), ⟨rfl, rfl, rfl, rfl, rfl, rfl, rfl, rfl, rfl, trivial⟩, _, hc.now (fun h => ⟨h.2, h.1.2⟩) ((stab_S _ _).and (stab_P _ _ _ _))⟩
        refine ⟨?_, trivial⟩
        intro g20 wg20 hg20
        have hc := (hc.loc hg20).1
        refine ⟨trivial, ?_⟩
        refine ⟨?_, trivial⟩
        refine ⟨(bdo_any (eS i) (eP b) (foldS_keys hmE h5E) (mayD_ok (eP_may hb)) _ _ _ hc.ctx.lt hc.row.1).mono fun en wq hq => ?_⟩
        rw [hdp] at hq
        obtain ⟨c3, e1, hq, hrep⟩ := hq
        obtain ⟨y2, rfl⟩ := hrep.stX
        have hc := (hc.call hq).1.know hrep (stab_S _ _)
        refine ⟨_, e1, trivial, ?_⟩
        refine ⟨?_, trivial⟩
        refine ⟨hc.may 2 rfl _ _ (nle rfl) rfl, ?_⟩
        intro wS hS
        have hc := (hc.set 2 rfl hS).1
        refine ⟨trivial, ?_⟩
        refine ⟨hc.may 0 rfl _ _ (nle rfl) rfl, ?_⟩
        intro wS hS
        have hc := (hc.set 0 rfl hS).1
        exact ⟨(y2, g20), ⟨rfl, rfl, rfl, rfl, rfl, rfl, rfl, rfl, rfl, trivial⟩, _, hc.now (fun h => ⟨h.2, h.1.2⟩) ((stab_S _ _).and (stab_P _ _ _ _))⟩
      refine ⟨?_, trivial⟩
      intro g20 wg20 hg20
      have hc := (hc.loc hg20).1
      refine ⟨trivial, ?_⟩
      refine ⟨?_, trivial⟩
      refine ⟨_, ?_, hc.cells 2 rfl, trivial, ?_⟩
      · rfl
      refine ⟨?_, trivial⟩
      refine ⟨(bdo_any (eS i) (eP b) (foldS_keys hmE h5E) (mayD_ok (eP_may hb)) _ _ _ hc.ctx.lt hc.row.1).mono fun en wq hq => ?_⟩
      rw [hdp] at hq
      obtain ⟨c3, e1, hq, hrep⟩ := hq
      obtain ⟨y2, rfl⟩ := hrep.stX
      have hc := (hc.call hq).1.know hrep (stab_S _ _)
      refine ⟨_, e1, trivial, ?_⟩
      refine ⟨?_, trivial⟩
      refine ⟨hc.may 2 rfl _ _ (nle rfl) rfl, ?_⟩
      intro wS hS
      have hc := (hc.set 2 rfl hS).1
      refine ⟨trivial, ?_⟩
      refine ⟨hc.may 0 rfl _ _ (nle rfl) rfl, ?_⟩
      intro wS hS
      have hc := (hc.set 0 rfl hS).1
      exact ⟨(y2, g20), ⟨rfl, rfl, rfl, rfl, rfl, rfl, rfl, rfl, rfl, trivial⟩, _, hc.now (fun h => ⟨h.2, h.1.2⟩) ((stab_S _ _).and (stab_P _ _ _ _))⟩
    refine ⟨?_, trivial⟩
    intro g20 wg20 hg20
    have hc := (hc.loc hg20).1
    refine ⟨trivial, ?_⟩
    refine ⟨?_, ?_⟩
    · skip
      refine ⟨_, ?_, hc.cells 2 rfl, trivial, ?_⟩
      · rfl
      refine ⟨?_, trivial⟩
      refine call_b (put5_any ⟨#[107]⟩ b 60 (by decide) (by decide) _) ?_
      intro wQ hQ
      have hc := (hc.quiet hQ).1
      refine ⟨trivial, ?_⟩
      refine ⟨?_, trivial⟩
      refine ⟨(bdo_any (eS i) (eP b) (foldS_keys hmE h5E) (mayD_ok (eP_may hb)) _ _ _ hc.ctx.lt hc.row.1).mono fun en wq hq => ?_⟩
      rw [hdp] at hq
      obtain ⟨c3, e1, hq, hrep⟩ := hq
      obtain ⟨y2, rfl⟩ := hrep.stX
      have hc := (hc.call hq).1.know hrep (stab_S _ _)
      refine ⟨_, e1, trivial, ?_⟩
      refine ⟨?_, trivial⟩
      refine ⟨hc.may 2 rfl _ _ (nle rfl) rfl, ?_⟩
      intro wS hS
      have hc := (hc.set 2 rfl hS).1
      refine ⟨trivial, ?_⟩
      refine ⟨hc.may 0 rfl _ _ (nle rfl) rfl, ?_⟩
      intro wS hS
      have hc := (hc.set 0 rfl hS).1
      exact ⟨(y2, g20), ⟨rfl, rfl, rfl, rfl, rfl, rfl, rfl, rfl, rfl, trivial⟩, _, hc.now (fun h => ⟨h.2, h.1.2⟩) ((stab_S _ _).and (stab_P _ _ _ _))⟩
    refine ⟨?_, trivial⟩
    refine call_b (put5_any ⟨#[107]⟩ b 60 (by decide) (by decide) _) ?_
    intro wQ hQ
    have hc := (hc.quiet hQ).1
    refine ⟨trivial, ?_⟩
    refine ⟨?_, trivial⟩
    refine ⟨_, ?_, hc.cells 2 rfl, trivial, ?_⟩
    · rfl
    refine ⟨?_, trivial⟩
    refine ⟨(bdo_any (eS i) (eP b) (foldS_keys hmE h5E) (mayD_ok (eP_may hb)) _ _ _ hc.ctx.lt hc.row.1).mono fun en wq hq => ?_⟩
    rw [hdp] at hq
    obtain ⟨c3, e1, hq, hrep⟩ := hq
    obtain ⟨y2, rfl⟩ := hrep.stX
    have hc := (hc.call hq).1.know hrep (stab_S _ _)
    refine ⟨_, e1, trivial, ?_⟩
    refine ⟨?_, trivial⟩
    refine ⟨hc.may 2 rfl _ _ (nle rfl) rfl, ?_⟩
    intro wS hS
    have hc := (hc.set 2 rfl hS).1
    refine ⟨trivial, ?_⟩
    refine ⟨hc.may 0 rfl _ _ (nle rfl) rfl, ?_⟩
    intro wS hS
    have hc := (hc.set 0 rfl hS).1
    exact ⟨(y2, g20), ⟨rfl, rfl, rfl, rfl, rfl, rfl, rfl, rfl, rfl, trivial⟩, _, hc.now (fun h => ⟨h.2, h.1.2⟩) ((stab_S _ _).and (stab_P _ _ _ _))⟩
  clear hc
  rintro ⟨y2, g20⟩ u6 w6 ⟨S, hc⟩
  simp only at hc
  refine ⟨_, ?_, hc.cells 2 rfl, ?_⟩
  · rfl
  have hg := bget_any t ⟨#[107]⟩ 0 _ _ _ hc.row.1
  rw [p2] at hg
  refine call_b (hg) ?_
  intro wQ hQ
  have hc := (hc.quiet hQ).1
  intro g21 wg21 hg21
  have hc := (hc.loc hg21).1
  refine ⟨hc.may 0 rfl _ _ (nle rfl) rfl, ?_⟩
  intro wS hS
  have hc := (hc.set 0 rfl hS).1
  obtain ⟨ad, A5, c5, hA, hcell, _⟩ := RowE.elem hc.row.2.2 hc.row.2.1 0 Nat.zero_lt_one
  subst hA
  obtain ⟨ae, hae⟩ : ∃ ae, ae = ad.add ((0 : Int).toNat * 2) := ⟨_, rfl⟩
  have hcell : Go.Vc.cellsAt wS ae [.string e.key, .slice A5 e.vs.length c5] 0 := by
    rw [hae]
    exact hcell
  obtain ⟨ab, ao, asub⟩ := ae
  refine ⟨_, ?_, hc.cells 2 rfl, ?_⟩
  · rfl
  refine ⟨.bool true, fun w => res_eq (a := ⟨0, (i : Int) + 1⟩) (b := ⟨0, IntKind.i64.wrap ((i : Int) + 1)⟩) (by rw [hw1]) _ _ w, ?_⟩
  refine ⟨⟨by decide, by decide⟩, ?_⟩
  rw [← hae]
  refine ⟨_, hcell.2.1, ?_⟩
  refine split_t (by rw [hw1, hel, beq_iff_eq]; push_cast; rfl) ?_
  refine ⟨_, ?_, hc.cells 1 rfl, ?_⟩
  · rfl
  refine ⟨.bool true, fun w => res_eq (a := ⟨0, (i : Int) + 2⟩) (b := ⟨0, IntKind.i64.wrap ((i : Int) + 2)⟩) (by rw [hw2]) _ _ w, ?_⟩
  refine ⟨_, hc.cell 0 rfl _ rfl, ?_⟩
  exact ⟨ret_bool (by rw [p3, strEq_iff.2 rfl]), hc.below⟩
set_option maxRecDepth 100000 in
theorem bookDelete_ct {H : Type} (enc : TypeId × Value → H) (W : World) (hw : Env W) {base : Nat}
    (v0 : Value) (d0 : DataW H) (p0 : List MemPlace) (h0 : DataW.Trod enc Tryz.prog W 0 (fun _ => true) true 3 v0 d0 p0) (k0 : Value.okWide Tryz.prog W .any base 3 v0)
    (v1 : Value) (d1 : DataW H) (p1 : List MemPlace) (h1 : DataW.Trod enc Tryz.prog W 0 (fun _ => true) true 9 v1 d1 p1) (k1 : Value.okWide Tryz.prog W .any base 9 v1) :
    Calls Tryz.prog 20 #[v0, v1] W (RetB (.bool true) W) := by
  obtain ⟨a0, rfl, o0⟩ := open_i64 Tryz.underlying3 h0 k0
  obtain ⟨a1, rfl, o1⟩ := open_str h1 k1
  exact deleteB_any a0 a1 (Nat.le_trans o1 (by decide)) W hw
end Go.Proofs.YtbmoimihnndboaaGreatDoor
