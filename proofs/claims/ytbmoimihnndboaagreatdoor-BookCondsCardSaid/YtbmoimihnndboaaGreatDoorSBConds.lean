import Derived.Test.YtbmoimihnndboaaGreatDoorM13
set_option linter.unusedVariables false
set_option linter.unusedSimpArgs false
/- Walk: armariumlaw5.BookConds. -/
namespace Go.Proofs.YtbmoimihnndboaaGreatDoor
open Go.Vc Go.RowKit Go.Fl Go.ChangeShapes Go.WideShapes Go.ChangeAt
/-! A tag's text is a tag's. -/
theorem hv_hexd {d : Nat} (h : d < 16) : hv (hexd d) = d := by
  unfold hv
  rw [hexd_toNat d h]
  by_cases h1 : d < 10
  · rw [if_pos h1, if_pos (by omega)]
    push_cast
    omega
  · rw [if_neg h1, if_neg (by omega)]
    push_cast
    omega
theorem isHex_hexd {d : Nat} (h : d < 16) : isHex (hexd d) = true := by
  unfold isHex
  rw [hexd_toNat d h, Bool.or_eq_true, Bool.and_eq_true, Bool.and_eq_true]
  simp only [decide_eq_true_eq]
  by_cases h1 : d < 10
  · rw [if_pos h1]
    omega
  · rw [if_neg h1]
    omega
theorem dig_lt (a : Int) (q : Nat) : (a / 2 ^ (12 - 4 * q) % 16).toNat < 16 := by omega
theorem hval_hex4 {a : Int} (h0 : 0 ≤ a) (h1 : a < 65536) : hval (hex4 a) = a := by
  show (((0 * 16 + hv (dig a 0)) * 16 + hv (dig a 1)) * 16 + hv (dig a 2)) * 16 + hv (dig a 3) = a
  unfold dig
  rw [hv_hexd (dig_lt a 0), hv_hexd (dig_lt a 1), hv_hexd (dig_lt a 2), hv_hexd (dig_lt a 3)]
  have e0 : (2 : Int) ^ (12 - 4 * 0) = 4096 := by decide
  have e1 : (2 : Int) ^ (12 - 4 * 1) = 256 := by decide
  have e2 : (2 : Int) ^ (12 - 4 * 2) = 16 := by decide
  have e3 : (2 : Int) ^ (12 - 4 * 3) = 1 := by decide
  rw [e0, e1, e2, e3]
  omega
theorem zRead_text {z : Int × Int} (h : zOk z) : zRead (zText z) = (z, true) := by
  obtain ⟨⟨a0, a1⟩, b0, b1⟩ := h
  have hp : pp (zText z) 8 = z := by
    show (hval (hex4 z.1), hval (hex4 z.2)) = z
    rw [hval_hex4 a0 (by omega), hval_hex4 b0 (by omega)]
  have hall : (zText z).all isHex = true := by
    show ([dig z.1 0, dig z.1 1, dig z.1 2, dig z.1 3, dig z.2 0, dig z.2 1, dig z.2 2, dig z.2 3] : List UInt8).all isHex = true
    unfold dig
    simp only [List.all_cons, List.all_nil, isHex_hexd (dig_lt _ _), Bool.and_true]
  unfold zRead
  rw [hp, if_pos ⟨rfl, hall, a1, b1⟩]
theorem tagB_tagOf (s : ByteArray) : tagB (tagOf s) = true := by
  unfold tagB tagOf
  show (zRead (zText _)).2 = true
  rw [zRead_text (zOn_ok _ _ ⟨by decide, by decide⟩)]
/-! The three books. -/
def cP (b : ByteArray) : D := putDeed ⟨#[107]⟩ b 1
def cX : D := ⟨2, ⟨#[107]⟩, ⟨#[]⟩, 0, 0, ⟨#[]⟩, 4294967298, 0⟩
def cA : D := ⟨1, ⟨#[107]⟩, ⟨#[]⟩, 0, 1, ⟨#[]⟩, 4294967305, 0⟩
def cB (t : ByteArray) : D := ⟨1, ⟨#[107]⟩, ⟨#[]⟩, 0, 2, t, 4294967305, 0⟩
def cS1 (b : ByteArray) : Stt := ⟨1, [⟨⟨#[107]⟩, [⟨1, false, b⟩]⟩], [⟨4294967297, ⟨0, 1⟩⟩], [0, 0, 0, 0, 0]⟩
def cS2 (b : ByteArray) : Stt := ⟨2, [⟨⟨#[107]⟩, [⟨1, false, b⟩, ⟨2, true, ⟨#[]⟩⟩]⟩], [⟨4294967297, ⟨0, 1⟩⟩, ⟨4294967298, ⟨0, 2⟩⟩], [0, 0, 0, 0, 0]⟩
theorem cP_may {b : ByteArray} (hb : b.size ≤ 60) : mayD (cP b) = true := by
  have e : decide (((cP b).body.size : Int) ≤ 300) = true := decide_eq_true (by show (b.size : Int) ≤ 300; omega)
  unfold mayD
  rw [e]
  show (_ : Bool) = true
  kernel_rfl
theorem cX_may : mayD cX = true := by kernel_rfl
theorem cA_may : mayD cA = true := by kernel_rfl
theorem cB_may {t : ByteArray} (h : tagB t = true) : mayD (cB t) = true := by
  have e : tagB (cB t).tag = true := h
  unfold mayD
  rw [e]
  show (_ : Bool) = true
  kernel_rfl
theorem cP_do {b : ByteArray} (hb : b.size ≤ 60) : doS Stt0 (cP b) = (cS1 b, ⟨0, 1⟩) := by
  rw [doS_F mayStt0 (cP_may hb) (by show (0 : Int) < 1099511627776; decide)]
  kernel_rfl
theorem cS1_may {b : ByteArray} (hb : b.size ≤ 60) : mayS (cS1 b) = true := by
  have := mayS_doS (d := cP b) rfl mayStt0
  rwa [cP_do hb] at this
theorem cX_do {b : ByteArray} (hb : b.size ≤ 60) : doS (cS1 b) cX = (cS2 b, ⟨0, 2⟩) := by
  rw [doS_F (cS1_may hb) cX_may (by show (1 : Int) < 1099511627776; decide)]
  kernel_rfl
theorem cS2_may {b : ByteArray} (hb : b.size ≤ 60) : mayS (cS2 b) = true := by
  have := mayS_doS (d := cX) rfl (cS1_may hb)
  rwa [cX_do hb] at this
theorem c0A : (doS Stt0 cA).2 = ⟨0, 1⟩ := by
  rw [doS_F mayStt0 cA_may (by show (0 : Int) < 1099511627776; decide)]
  kernel_rfl
theorem c0B {t : ByteArray} (h : tagB t = true) : (doS Stt0 (cB t)).2 = ⟨9, 0⟩ := by
  rw [doS_F mayStt0 (cB_may h) (by show (0 : Int) < 1099511627776; decide)]
  kernel_rfl
theorem c2A {b : ByteArray} (hb : b.size ≤ 60) : (doS (cS2 b) cA).2 = ⟨0, 3⟩ := by
  rw [doS_F (cS2_may hb) cA_may (by show (2 : Int) < 1099511627776; decide)]
  kernel_rfl
theorem c2B {b t : ByteArray} (hb : b.size ≤ 60) (h : tagB t = true) : (doS (cS2 b) (cB t)).2 = ⟨9, 0⟩ := by
  rw [doS_F (cS2_may hb) (cB_may h) (by show (2 : Int) < 1099511627776; decide)]
  kernel_rfl
theorem c1A {b : ByteArray} (hb : b.size ≤ 60) : (doS (cS1 b) cA).2 = ⟨9, 0⟩ := by
  rw [doS_F (cS1_may hb) cA_may (by show (1 : Int) < 1099511627776; decide)]
  kernel_rfl
theorem c1B {b t : ByteArray} (hb : b.size ≤ 60) (h : tagB t = true) : (doS (cS1 b) (cB t)).2 = if strEq (tagOf b) t then ⟨0, 2⟩ else ⟨9, 0⟩ := by
  rw [doS_F (cS1_may hb) (cB_may h) (by show (1 : Int) < 1099511627776; decide)]
  have e1 : (doF (cS1 b) (cB t)).2 = (doK [⟨⟨#[107]⟩, [⟨1, false, b⟩]⟩] 2 (cB t)).2 := by kernel_rfl
  have e2 : entAt [⟨⟨#[107]⟩, [⟨1, false, b⟩]⟩] (cB t).key = some ⟨⟨#[107]⟩, [⟨1, false, b⟩]⟩ := by kernel_rfl
  have e3 : holdsE ⟨⟨#[107]⟩, [⟨1, false, b⟩]⟩ (cB t).cond (cB t).tag = strEq (tagOf b) t := by kernel_rfl
  rw [e1]
  unfold doK
  simp only [e2, Option.getD_some, e3]
  cases strEq (tagOf b) t <;> rfl
set_option maxHeartbeats 16000000 in
theorem condsB_any (body0 tag0 : ByteArray) (h0 : body0.size ≤ 9223372036854775807) (h1 : tag0.size ≤ 9223372036854775807) (gone there : Bool) (w : World) (hw : Env w) :
    Calls Tryz.prog 19 #[.string body0, .string tag0, .bool gone, .bool there] w (RetB (.bool true) w) := by
  have hcb := fun w => cutN_any body0 60 w h0
  have hct := fun w => cutN_any tag0 60 w h1
  have hb : (cut body0 60).size ≤ 60 := cut_size _ _
  have ht : (cut tag0 60).size ≤ 60 := cut_size _ _
  generalize cut body0 60 = b at *
  generalize cut tag0 60 = t0 at *
  have hrt := fun w => rtag_any b (by omega) w
  have hro := fun w => rtag_any t0 (by omega) w
  have tr := tagB_tagOf b
  have to := tagB_tagOf t0
  rw [show (⟨(zText (zOn (0, 1) b.data.toList)).toArray⟩ : ByteArray) = tagOf b from rfl] at hrt
  rw [show (⟨(zText (zOn (0, 1) t0.data.toList)).toArray⟩ : ByteArray) = tagOf t0 from rfl] at hro
  have hXX : strEq (tagOf t0) (tagOf b) = strEq (tagOf b) (tagOf t0) := by
    rw [Bool.eq_iff_iff, strEq_iff, strEq_iff]
    exact ⟨fun h => h.symm, fun h => h.symm⟩
  generalize hrb : tagOf b = tb at *
  generalize tagOf t0 = tt at *
  refine calls_vc lay_ok Tryz.func19 rfl (by kernel_rfl) (by kernel_rfl) ?_
  have hc := CtxF.start w no (fun _ h => h.elim) (R := fun _ _ => True) trivial Stab.true
  refine call_b (begun5_any _ hw) ?_
  intro wQ hQ
  have hc := (hc.quiet hQ).1
  refine call_b (hcb _) ?_
  intro wQ hQ
  have hc := (hc.quiet hQ).1
  intro g10 wg10 hg10
  have hc := (hc.loc hg10).1
  have hc : CtxF no w no wg10 [(g10, 78, stX Stt0 SX0)] [] (fun S w => RepS S w Stt0 (stX Stt0 SX0)) := hc.now (fun _ => rep0X _ _) (stab_S _ _)
  cases there
  · skip
    refine call_b (hrt _) ?_
    intro wQ hQ
    have hc := (hc.quiet hQ).1
    refine ⟨_, ?_, hc.cells 0 rfl, ?_⟩
    · rfl
    refine ⟨(bdo_any Stt0 cA (foldS_keys mayStt0 rfl) (mayD_ok cA_may) _ _ _ hc.ctx.lt hc.row).mono fun en wq hq => ?_⟩
    obtain ⟨c1, e1, hq, hrep⟩ := hq
    rw [c0A] at e1
    obtain ⟨y1, rfl⟩ := hrep.stX
    have hc := (hc.call hq).1.know hrep (stab_S _ _)
    refine ⟨_, e1, ?_⟩
    intro g14 wg14 hg14
    have hc := (hc.loc hg14).1
    intro g15 wg15 hg15
    have hc := (hc.loc hg15).1
    refine ⟨hc.may 1 rfl _ _ (nle rfl) rfl, ?_⟩
    intro wS hS
    have hc := (hc.set 1 rfl hS).1
    refine ⟨hc.may 0 rfl _ _ (nle rfl) rfl, ?_⟩
    intro wS hS
    have hc := (hc.set 0 rfl hS).1
    refine ⟨_, ?_, hc.cells 2 rfl, ?_⟩
    · rfl
    refine ⟨(bdo_any Stt0 (cB tb) (foldS_keys mayStt0 rfl) (mayD_ok (cB_may tr)) _ _ _ hc.ctx.lt hc.row.1).mono fun en wq hq => ?_⟩
    obtain ⟨c1, e1, hq, hrep⟩ := hq
    rw [c0B tr] at e1
    obtain ⟨y2, rfl⟩ := hrep.stX
    have hc := (hc.call hq).1.know hrep (stab_S _ _)
    refine ⟨_, e1, ?_⟩
    intro g16 wg16 hg16
    have hc := (hc.loc hg16).1
    intro g17 wg17 hg17
    have hc := (hc.loc hg17).1
    refine ⟨hc.may 1 rfl _ _ (nle rfl) rfl, ?_⟩
    intro wS hS
    have hc := (hc.set 1 rfl hS).1
    refine ⟨hc.may 0 rfl _ _ (nle rfl) rfl, ?_⟩
    intro wS hS
    have hc := (hc.set 0 rfl hS).1
    refine call_b (hct _) ?_
    intro wQ hQ
    have hc := (hc.quiet hQ).1
    refine call_b (hro _) ?_
    intro wQ hQ
    have hc := (hc.quiet hQ).1
    refine ⟨_, ?_, hc.cells 4 rfl, ?_⟩
    · rfl
    refine ⟨(bdo_any Stt0 (cB tt) (foldS_keys mayStt0 rfl) (mayD_ok (cB_may to)) _ _ _ hc.ctx.lt hc.row.1.1).mono fun en wq hq => ?_⟩
    obtain ⟨c1, e1, hq, hrep⟩ := hq
    rw [c0B to] at e1
    obtain ⟨y3, rfl⟩ := hrep.stX
    have hc := (hc.call hq).1.know hrep (stab_S _ _)
    refine ⟨_, e1, ?_⟩
    intro g19 wg19 hg19
    have hc := (hc.loc hg19).1
    intro g20 wg20 hg20
    have hc := (hc.loc hg20).1
    refine ⟨hc.may 1 rfl _ _ (nle rfl) rfl, ?_⟩
    intro wS hS
    have hc := (hc.set 1 rfl hS).1
    refine ⟨hc.may 0 rfl _ _ (nle rfl) rfl, ?_⟩
    intro wS hS
    have hc := (hc.set 0 rfl hS).1
    refine ⟨_, hc.cell 4 rfl _ rfl, ?_⟩
    refine ⟨_, hc.cell 2 rfl _ rfl, ?_⟩
    refine ⟨_, hc.cell 0 rfl _ rfl, ?_⟩
    refine ⟨_, hc.cell 4 rfl _ rfl, ?_⟩
    refine ⟨_, hc.cell 4 rfl _ rfl, ?_⟩
    refine ⟨_, hc.cell 2 rfl _ rfl, ?_⟩
    refine ⟨_, hc.cell 2 rfl _ rfl, ?_⟩
    exact ⟨rfl, hc.below⟩
  refine Drawn.join (α := SX) (fun _ => [(0, .string b), (1, .string tag0), (2, .bool gone), (3, .bool true), (10, .pointer (some ⟨g10, 0, none⟩)), (11, .int .i64 0)])
    (fun x wS => ∃ S, CtxF no w S wS [(g10, 78, stX (cS1 b) x)] [] (fun S w => RepS S w (cS1 b) (stX (cS1 b) x))) ?_ ?_
  · refine drawn lay_ok (by kernel_rfl) (.q 1 (.n 0 (.n 2 (.n 3 (.q 4 (.q 5 (.q 6 (.n 7 .fin .stop)))) .stop) .stop) (.n 2 (.n 0 (.n 3 (.q 4 (.q 5 (.q 6 (.n 7 .fin .stop)))) .stop) .stop) .stop))) (fun _ => True) (by kernel_rfl) trivial ?_
    have hc := hc.drew
    refine ⟨?_, ?_⟩
    · skip
      refine ⟨_, ?_, hc.cells 0 rfl, trivial, ?_⟩
      · rfl
      refine ⟨?_, trivial⟩
      refine call_b (put5_any ⟨#[107]⟩ b 1 (by decide) (by decide) _) ?_
      intro wQ hQ
      have hc := (hc.quiet hQ).1
      refine ⟨trivial, ?_⟩
      refine ⟨?_, trivial⟩
      refine ⟨(bdo_any Stt0 (cP b) (fun e he => by cases he) (mayD_ok (cP_may hb)) _ _ _ hc.ctx.lt hc.row).mono fun en wq hq => ?_⟩
      rw [cP_do hb] at hq
      obtain ⟨c1, e1, hq, hrep⟩ := hq
      obtain ⟨y1, rfl⟩ := hrep.stX
      have hc := (hc.call hq).1.know hrep (stab_S _ _)
      refine ⟨_, e1, trivial, ?_⟩
      refine ⟨?_, trivial⟩
      refine ⟨hc.may 0 rfl _ _ (nle rfl) rfl, ?_⟩
      intro wS hS
      have hc := (hc.set 0 rfl hS).1
      refine ⟨trivial, ?_⟩
      exact ⟨y1, ⟨rfl, rfl, rfl, rfl, rfl, rfl, trivial⟩, _, hc.now (fun h => h.2) (stab_S _ _)⟩
    refine ⟨?_, trivial⟩
    refine call_b (put5_any ⟨#[107]⟩ b 1 (by decide) (by decide) _) ?_
    intro wQ hQ
    have hc := (hc.quiet hQ).1
    refine ⟨trivial, ?_⟩
    refine ⟨?_, trivial⟩
    refine ⟨_, ?_, hc.cells 0 rfl, trivial, ?_⟩
    · rfl
    refine ⟨?_, trivial⟩
    refine ⟨(bdo_any Stt0 (cP b) (fun e he => by cases he) (mayD_ok (cP_may hb)) _ _ _ hc.ctx.lt hc.row).mono fun en wq hq => ?_⟩
    rw [cP_do hb] at hq
    obtain ⟨c1, e1, hq, hrep⟩ := hq
    obtain ⟨y1, rfl⟩ := hrep.stX
    have hc := (hc.call hq).1.know hrep (stab_S _ _)
    refine ⟨_, e1, trivial, ?_⟩
    refine ⟨?_, trivial⟩
    refine ⟨hc.may 0 rfl _ _ (nle rfl) rfl, ?_⟩
    intro wS hS
    have hc := (hc.set 0 rfl hS).1
    refine ⟨trivial, ?_⟩
    exact ⟨y1, ⟨rfl, rfl, rfl, rfl, rfl, rfl, trivial⟩, _, hc.now (fun h => h.2) (stab_S _ _)⟩
  clear hc
  rintro y0 u wS ⟨S, hc⟩
  cases gone
  · refine ⟨_, hc.cell 0 rfl _ rfl, ?_⟩
    have hb1 := c1B hb tr
    rw [hrb, strEq_iff.2 rfl, if_pos rfl] at hb1
    have hb2 := c1B hb to
    rw [hrb] at hb2
    rcases Bool.eq_false_or_eq_true (strEq tb tt) with hX | hX
    · rw [hX, if_pos rfl] at hb2
      refine call_b (hrt _) ?_
      intro wQ hQ
      have hc := (hc.quiet hQ).1
      refine ⟨_, ?_, hc.cells 0 rfl, ?_⟩
      · rfl
      refine ⟨(bdo_any (cS1 b) cA (foldS_keys (cS1_may hb) rfl) (mayD_ok cA_may) _ _ _ hc.ctx.lt hc.row).mono fun en wq hq => ?_⟩
      obtain ⟨c1, e1, hq, hrep⟩ := hq
      rw [c1A hb] at e1
      obtain ⟨y1, rfl⟩ := hrep.stX
      have hc := (hc.call hq).1.know hrep (stab_S _ _)
      refine ⟨_, e1, ?_⟩
      intro g14 wg14 hg14
      have hc := (hc.loc hg14).1
      intro g15 wg15 hg15
      have hc := (hc.loc hg15).1
      refine ⟨hc.may 1 rfl _ _ (nle rfl) rfl, ?_⟩
      intro wS hS
      have hc := (hc.set 1 rfl hS).1
      refine ⟨hc.may 0 rfl _ _ (nle rfl) rfl, ?_⟩
      intro wS hS
      have hc := (hc.set 0 rfl hS).1
      refine ⟨_, ?_, hc.cells 2 rfl, ?_⟩
      · rfl
      refine ⟨(bdo_any (cS1 b) (cB tb) (foldS_keys (cS1_may hb) rfl) (mayD_ok (cB_may tr)) _ _ _ hc.ctx.lt hc.row.1).mono fun en wq hq => ?_⟩
      obtain ⟨c1, e1, hq, hrep⟩ := hq
      rw [hb1] at e1
      obtain ⟨y2, rfl⟩ := hrep.stX
      have hc := (hc.call hq).1.know hrep (stab_S _ _)
      refine ⟨_, e1, ?_⟩
      intro g16 wg16 hg16
      have hc := (hc.loc hg16).1
      intro g17 wg17 hg17
      have hc := (hc.loc hg17).1
      refine ⟨hc.may 1 rfl _ _ (nle rfl) rfl, ?_⟩
      intro wS hS
      have hc := (hc.set 1 rfl hS).1
      refine ⟨hc.may 0 rfl _ _ (nle rfl) rfl, ?_⟩
      intro wS hS
      have hc := (hc.set 0 rfl hS).1
      refine call_b (hct _) ?_
      intro wQ hQ
      have hc := (hc.quiet hQ).1
      refine call_b (hro _) ?_
      intro wQ hQ
      have hc := (hc.quiet hQ).1
      refine ⟨_, ?_, hc.cells 4 rfl, ?_⟩
      · rfl
      refine ⟨(bdo_any (cS1 b) (cB tt) (foldS_keys (cS1_may hb) rfl) (mayD_ok (cB_may to)) _ _ _ hc.ctx.lt hc.row.1.1).mono fun en wq hq => ?_⟩
      obtain ⟨c1, e1, hq, hrep⟩ := hq
      rw [hb2] at e1
      obtain ⟨y3, rfl⟩ := hrep.stX
      have hc := (hc.call hq).1.know hrep (stab_S _ _)
      refine ⟨_, e1, ?_⟩
      intro g19 wg19 hg19
      have hc := (hc.loc hg19).1
      intro g20 wg20 hg20
      have hc := (hc.loc hg20).1
      refine ⟨hc.may 1 rfl _ _ (nle rfl) rfl, ?_⟩
      intro wS hS
      have hc := (hc.set 1 rfl hS).1
      refine ⟨hc.may 0 rfl _ _ (nle rfl) rfl, ?_⟩
      intro wS hS
      have hc := (hc.set 0 rfl hS).1
      refine ⟨_, hc.cell 4 rfl _ rfl, ?_⟩
      refine ⟨_, hc.cell 2 rfl _ rfl, ?_⟩
      refine ⟨_, hc.cell 0 rfl _ rfl, ?_⟩
      refine split_t (by rw [hXX, hX]; rfl) ?_
      refine ⟨_, hc.cell 4 rfl _ rfl, ?_⟩
      refine ⟨_, hc.cell 2 rfl _ rfl, ?_⟩
      exact ⟨rfl, hc.below⟩
    · rw [hX, if_neg (by decide)] at hb2
      refine call_b (hrt _) ?_
      intro wQ hQ
      have hc := (hc.quiet hQ).1
      refine ⟨_, ?_, hc.cells 0 rfl, ?_⟩
      · rfl
      refine ⟨(bdo_any (cS1 b) cA (foldS_keys (cS1_may hb) rfl) (mayD_ok cA_may) _ _ _ hc.ctx.lt hc.row).mono fun en wq hq => ?_⟩
      obtain ⟨c1, e1, hq, hrep⟩ := hq
      rw [c1A hb] at e1
      obtain ⟨y1, rfl⟩ := hrep.stX
      have hc := (hc.call hq).1.know hrep (stab_S _ _)
      refine ⟨_, e1, ?_⟩
      intro g14 wg14 hg14
      have hc := (hc.loc hg14).1
      intro g15 wg15 hg15
      have hc := (hc.loc hg15).1
      refine ⟨hc.may 1 rfl _ _ (nle rfl) rfl, ?_⟩
      intro wS hS
      have hc := (hc.set 1 rfl hS).1
      refine ⟨hc.may 0 rfl _ _ (nle rfl) rfl, ?_⟩
      intro wS hS
      have hc := (hc.set 0 rfl hS).1
      refine ⟨_, ?_, hc.cells 2 rfl, ?_⟩
      · rfl
      refine ⟨(bdo_any (cS1 b) (cB tb) (foldS_keys (cS1_may hb) rfl) (mayD_ok (cB_may tr)) _ _ _ hc.ctx.lt hc.row.1).mono fun en wq hq => ?_⟩
      obtain ⟨c1, e1, hq, hrep⟩ := hq
      rw [hb1] at e1
      obtain ⟨y2, rfl⟩ := hrep.stX
      have hc := (hc.call hq).1.know hrep (stab_S _ _)
      refine ⟨_, e1, ?_⟩
      intro g16 wg16 hg16
      have hc := (hc.loc hg16).1
      intro g17 wg17 hg17
      have hc := (hc.loc hg17).1
      refine ⟨hc.may 1 rfl _ _ (nle rfl) rfl, ?_⟩
      intro wS hS
      have hc := (hc.set 1 rfl hS).1
      refine ⟨hc.may 0 rfl _ _ (nle rfl) rfl, ?_⟩
      intro wS hS
      have hc := (hc.set 0 rfl hS).1
      refine call_b (hct _) ?_
      intro wQ hQ
      have hc := (hc.quiet hQ).1
      refine call_b (hro _) ?_
      intro wQ hQ
      have hc := (hc.quiet hQ).1
      refine ⟨_, ?_, hc.cells 4 rfl, ?_⟩
      · rfl
      refine ⟨(bdo_any (cS1 b) (cB tt) (foldS_keys (cS1_may hb) rfl) (mayD_ok (cB_may to)) _ _ _ hc.ctx.lt hc.row.1.1).mono fun en wq hq => ?_⟩
      obtain ⟨c1, e1, hq, hrep⟩ := hq
      rw [hb2] at e1
      obtain ⟨y3, rfl⟩ := hrep.stX
      have hc := (hc.call hq).1.know hrep (stab_S _ _)
      refine ⟨_, e1, ?_⟩
      intro g19 wg19 hg19
      have hc := (hc.loc hg19).1
      intro g20 wg20 hg20
      have hc := (hc.loc hg20).1
      refine ⟨hc.may 1 rfl _ _ (nle rfl) rfl, ?_⟩
      intro wS hS
      have hc := (hc.set 1 rfl hS).1
      refine ⟨hc.may 0 rfl _ _ (nle rfl) rfl, ?_⟩
      intro wS hS
      have hc := (hc.set 0 rfl hS).1
      refine ⟨_, hc.cell 4 rfl _ rfl, ?_⟩
      refine ⟨_, hc.cell 2 rfl _ rfl, ?_⟩
      refine ⟨_, hc.cell 0 rfl _ rfl, ?_⟩
      refine split_t (by rw [hXX, hX]; rfl) ?_
      refine ⟨_, hc.cell 4 rfl _ rfl, ?_⟩
      refine ⟨_, hc.cell 2 rfl _ rfl, ?_⟩
      exact ⟨rfl, hc.below⟩
  · refine ⟨_, ?_, hc.cells 0 rfl, ?_⟩
    · rfl
    refine ⟨(bdo_any (cS1 b) cX (foldS_keys (cS1_may hb) rfl) (mayD_ok cX_may) _ _ _ hc.ctx.lt hc.row).mono fun en wq hq => ?_⟩
    rw [cX_do hb] at hq
    obtain ⟨c1, e1, hq, hrep⟩ := hq
    obtain ⟨y1, rfl⟩ := hrep.stX
    have hc := (hc.call hq).1.know hrep (stab_S _ _)
    refine ⟨_, e1, ?_⟩
    refine ⟨hc.may 0 rfl _ _ (nle rfl) rfl, ?_⟩
    intro wS hS
    have hc := (hc.set 0 rfl hS).1
    have hc := hc.now (X := fun S w => RepS S w (cS2 b) (stX (cS2 b) y1)) (fun h => h.2) (stab_S _ _)
    refine ⟨_, hc.cell 0 rfl _ rfl, ?_⟩
    refine call_b (hrt _) ?_
    intro wQ hQ
    have hc := (hc.quiet hQ).1
    refine ⟨_, ?_, hc.cells 0 rfl, ?_⟩
    · rfl
    refine ⟨(bdo_any (cS2 b) cA (foldS_keys (cS2_may hb) rfl) (mayD_ok cA_may) _ _ _ hc.ctx.lt hc.row).mono fun en wq hq => ?_⟩
    obtain ⟨c1, e1, hq, hrep⟩ := hq
    rw [c2A hb] at e1
    obtain ⟨y1, rfl⟩ := hrep.stX
    have hc := (hc.call hq).1.know hrep (stab_S _ _)
    refine ⟨_, e1, ?_⟩
    intro g14 wg14 hg14
    have hc := (hc.loc hg14).1
    intro g15 wg15 hg15
    have hc := (hc.loc hg15).1
    refine ⟨hc.may 1 rfl _ _ (nle rfl) rfl, ?_⟩
    intro wS hS
    have hc := (hc.set 1 rfl hS).1
    refine ⟨hc.may 0 rfl _ _ (nle rfl) rfl, ?_⟩
    intro wS hS
    have hc := (hc.set 0 rfl hS).1
    refine ⟨_, ?_, hc.cells 2 rfl, ?_⟩
    · rfl
    refine ⟨(bdo_any (cS2 b) (cB tb) (foldS_keys (cS2_may hb) rfl) (mayD_ok (cB_may tr)) _ _ _ hc.ctx.lt hc.row.1).mono fun en wq hq => ?_⟩
    obtain ⟨c1, e1, hq, hrep⟩ := hq
    rw [c2B hb tr] at e1
    obtain ⟨y2, rfl⟩ := hrep.stX
    have hc := (hc.call hq).1.know hrep (stab_S _ _)
    refine ⟨_, e1, ?_⟩
    intro g16 wg16 hg16
    have hc := (hc.loc hg16).1
    intro g17 wg17 hg17
    have hc := (hc.loc hg17).1
    refine ⟨hc.may 1 rfl _ _ (nle rfl) rfl, ?_⟩
    intro wS hS
    have hc := (hc.set 1 rfl hS).1
    refine ⟨hc.may 0 rfl _ _ (nle rfl) rfl, ?_⟩
    intro wS hS
    have hc := (hc.set 0 rfl hS).1
    refine call_b (hct _) ?_
    intro wQ hQ
    have hc := (hc.quiet hQ).1
    refine call_b (hro _) ?_
    intro wQ hQ
    have hc := (hc.quiet hQ).1
    refine ⟨_, ?_, hc.cells 4 rfl, ?_⟩
    · rfl
    refine ⟨(bdo_any (cS2 b) (cB tt) (foldS_keys (cS2_may hb) rfl) (mayD_ok (cB_may to)) _ _ _ hc.ctx.lt hc.row.1.1).mono fun en wq hq => ?_⟩
    obtain ⟨c1, e1, hq, hrep⟩ := hq
    rw [c2B hb to] at e1
    obtain ⟨y3, rfl⟩ := hrep.stX
    have hc := (hc.call hq).1.know hrep (stab_S _ _)
    refine ⟨_, e1, ?_⟩
    intro g19 wg19 hg19
    have hc := (hc.loc hg19).1
    intro g20 wg20 hg20
    have hc := (hc.loc hg20).1
    refine ⟨hc.may 1 rfl _ _ (nle rfl) rfl, ?_⟩
    intro wS hS
    have hc := (hc.set 1 rfl hS).1
    refine ⟨hc.may 0 rfl _ _ (nle rfl) rfl, ?_⟩
    intro wS hS
    have hc := (hc.set 0 rfl hS).1
    refine ⟨_, hc.cell 4 rfl _ rfl, ?_⟩
    refine ⟨_, hc.cell 2 rfl _ rfl, ?_⟩
    refine ⟨_, hc.cell 0 rfl _ rfl, ?_⟩
    refine ⟨_, hc.cell 4 rfl _ rfl, ?_⟩
    refine ⟨_, hc.cell 4 rfl _ rfl, ?_⟩
    refine ⟨_, hc.cell 2 rfl _ rfl, ?_⟩
    refine ⟨_, hc.cell 2 rfl _ rfl, ?_⟩
    exact ⟨rfl, hc.below⟩
set_option maxRecDepth 100000 in
theorem bookConds_ct {H : Type} (enc : TypeId × Value → H) (W : World) (hw : Env W) {base : Nat}
    (v0 : Value) (d0 : DataW H) (p0 : List MemPlace) (h0 : DataW.Trod enc Tryz.prog W 0 (fun _ => true) true 9 v0 d0 p0) (k0 : Value.okWide Tryz.prog W .any base 9 v0)
    (v1 : Value) (d1 : DataW H) (p1 : List MemPlace) (h1 : DataW.Trod enc Tryz.prog W 0 (fun _ => true) true 9 v1 d1 p1) (k1 : Value.okWide Tryz.prog W .any base 9 v1)
    (v2 : Value) (d2 : DataW H) (p2 : List MemPlace) (h2 : DataW.Trod enc Tryz.prog W 0 (fun _ => true) true 4 v2 d2 p2) (k2 : Value.okWide Tryz.prog W .any base 4 v2)
    (v3 : Value) (d3 : DataW H) (p3 : List MemPlace) (h3 : DataW.Trod enc Tryz.prog W 0 (fun _ => true) true 4 v3 d3 p3) (k3 : Value.okWide Tryz.prog W .any base 4 v3) :
    Calls Tryz.prog 19 #[v0, v1, v2, v3] W (RetB (.bool true) W) := by
  obtain ⟨a0, rfl, o0⟩ := open_str h0 k0
  obtain ⟨a1, rfl, o1⟩ := open_str h1 k1
  obtain ⟨a2, rfl⟩ := open_b h2 k2
  obtain ⟨a3, rfl⟩ := open_b h3 k3
  exact condsB_any a0 a1 (Nat.le_trans o0 (by decide)) (Nat.le_trans o1 (by decide)) a2 a3 W hw
end Go.Proofs.YtbmoimihnndboaaGreatDoor
