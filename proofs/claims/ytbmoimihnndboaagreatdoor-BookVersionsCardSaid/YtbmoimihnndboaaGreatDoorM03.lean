import Derived.Test.YtbmoimihnndboaaGreatDoorM02
import Derived.Lib.Builder
import Derived.Lib.AppendStr
set_option linter.unusedVariables false
set_option linter.unusedSimpArgs false
namespace Go.Proofs.YtbmoimihnndboaaGreatDoor
open Go.Vc Go.RowKit Go.Fl
def isHex (c : UInt8) : Bool := (decide (48 ≤ c.toNat) && decide (c.toNat ≤ 57)) || (decide (97 ≤ c.toNat) && decide (c.toNat ≤ 102))
def hv (c : UInt8) : Int := if c.toNat ≤ 57 then (c.toNat : Int) - 48 else (c.toNat : Int) - 87
def hval (l : List UInt8) : Int := l.foldl (fun a c => a * 16 + hv c) 0
def pp (l : List UInt8) (k : Nat) : Int × Int := (hval ((l.take k).take 4), hval ((l.take k).drop 4))
def zRead (l : List UInt8) : (Int × Int) × Bool :=
  if l.length = 8 ∧ l.all isHex = true ∧ (pp l 8).1 < 65521 ∧ (pp l 8).2 < 65521 then (pp l 8, true) else ((0, 0), false)
theorem hval_snoc (l : List UInt8) (c : UInt8) : hval (l ++ [c]) = hval l * 16 + hv c := by
  unfold hval
  rw [List.foldl_append]
  rfl
theorem take_snoc {α : Type} (l : List α) (k : Nat) (d : α) (h : k < l.length) : l.take (k + 1) = l.take k ++ [l.getD k d] := by
  rw [List.take_succ_eq_append_getElem h, List.getD_eq_getElem?_getD, List.getElem?_eq_getElem h]
  rfl
theorem pp_lo (l : List UInt8) (k : Nat) (h : k < l.length) (h4 : k < 4) : pp l (k + 1) = ((pp l k).1 * 16 + hv (l.getD k 0), (pp l k).2) := by
  unfold pp
  rw [take_snoc l k 0 h]
  have e1 : (l.take k).length = k := by rw [List.length_take]; omega
  rw [List.take_of_length_le (by rw [List.length_append, e1]; exact h4), hval_snoc, List.take_of_length_le (i := 4) (by omega), List.drop_of_length_le (by rw [List.length_append, e1]; exact h4), List.drop_of_length_le (by omega)]
theorem pp_hi (l : List UInt8) (k : Nat) (h : k < l.length) (h4 : 4 ≤ k) : pp l (k + 1) = ((pp l k).1, (pp l k).2 * 16 + hv (l.getD k 0)) := by
  unfold pp
  rw [take_snoc l k 0 h]
  have e1 : (l.take k).length = k := by rw [List.length_take]; omega
  rw [List.take_append_of_le_length (by omega), List.drop_append_of_le_length (by omega), hval_snoc]
theorem hv_range (c : UInt8) (h : isHex c = true) : 0 ≤ hv c ∧ hv c < 16 := by
  unfold isHex at h
  unfold hv
  simp only [Bool.or_eq_true, Bool.and_eq_true, decide_eq_true_eq] at h
  split <;> omega
theorem pp_range (l : List UInt8) : ∀ k : Nat, k ≤ 8 → k ≤ l.length → (l.take k).all isHex = true → (0 ≤ (pp l k).1 ∧ (pp l k).1 < 16 ^ (min k 4)) ∧ (0 ≤ (pp l k).2 ∧ (pp l k).2 < 16 ^ (k - 4))
  | 0, _, _, _ => ⟨by simp [pp, hval], by simp [pp, hval]⟩
  | k + 1, h8, hl, ha => by
    rw [take_snoc l k 0 (by omega), List.all_append, Bool.and_eq_true] at ha
    obtain ⟨i1, i2⟩ := pp_range l k (by omega) (by omega) ha.1
    have hr := hv_range (l.getD k 0) (by simpa using ha.2)
    by_cases h4 : k < 4
    · rw [pp_lo l k (by omega) h4]
      have e0 : k - 4 = k + 1 - 4 := by omega
      have e1 : min k 4 = k := by omega
      have e2 : min (k + 1) 4 = k + 1 := by omega
      rw [e1] at i1
      rw [e2, ← e0, Int.pow_succ]
      refine ⟨?_, i2⟩
      generalize (16 : Int) ^ k = p at *
      show 0 ≤ (pp l k).1 * 16 + hv (l.getD k 0) ∧ (pp l k).1 * 16 + hv (l.getD k 0) < p * 16
      omega
    · rw [pp_hi l k (by omega) (by omega)]
      have e1 : min k 4 = 4 := by omega
      have e2 : min (k + 1) 4 = 4 := by omega
      have e3 : k + 1 - 4 = (k - 4) + 1 := by omega
      rw [e1] at i1
      rw [e2, e3, show (16 : Int) ^ (k - 4 + 1) = 16 ^ (k - 4) * 16 from Int.pow_succ _ _]
      refine ⟨i1, ?_⟩
      generalize (16 : Int) ^ (k - 4) = p at *
      show 0 ≤ (pp l k).2 * 16 + hv (l.getD k 0) ∧ (pp l k).2 * 16 + hv (l.getD k 0) < p * 16
      omega
theorem pp_lim (l : List UInt8) (k : Nat) (h8 : k ≤ 8) (hl : k ≤ l.length) (ha : (l.take k).all isHex = true) : (0 ≤ (pp l k).1 ∧ (pp l k).1 < 65536) ∧ (0 ≤ (pp l k).2 ∧ (pp l k).2 < 65536) := by
  obtain ⟨i1, i2⟩ := pp_range l k h8 hl ha
  have p1 : (16 : Int) ^ (min k 4) ≤ 65536 := by
    have : (16 : Nat) ^ (min k 4) ≤ 16 ^ 4 := Nat.pow_le_pow_right (by decide) (Nat.min_le_right _ _)
    have h2 : ((16 ^ (min k 4) : Nat) : Int) ≤ ((16 ^ 4 : Nat) : Int) := Int.ofNat_le.2 this
    rw [Int.natCast_pow] at h2
    exact h2
  have p2 : (16 : Int) ^ (k - 4) ≤ 65536 := by
    have : (16 : Nat) ^ (k - 4) ≤ 16 ^ 4 := Nat.pow_le_pow_right (by decide) (by omega)
    have h2 : ((16 ^ (k - 4) : Nat) : Int) ≤ ((16 ^ 4 : Nat) : Int) := Int.ofNat_le.2 this
    rw [Int.natCast_pow] at h2
    exact h2
  omega
theorem zRead_not (l : List UInt8) (h : l.length ≠ 8 ∨ l.all isHex = false) : zRead l = ((0, 0), false) := by
  unfold zRead
  rw [if_neg]
  rintro ⟨h1, h2, _⟩
  rcases h with h | h
  · exact h h1
  · rw [h] at h2; cases h2
theorem dbl0 : dbl 0 = 0 := by kernel_rfl
theorem gread_any (t : ByteArray) (w : World) : Calls Tryz.prog 85 #[.string t] w
    (RetB (.tuple #[.complex .f64 (dbl (zRead t.data.toList).1.1) (dbl (zRead t.data.toList).1.2), .bool (zRead t.data.toList).2]) w) := by
  refine calls_vc lay_ok Tryz.func85 rfl (by kernel_rfl) (by kernel_rfl) ?_
  obtain ⟨l, ht⟩ : ∃ l, t.data.toList = l := ⟨_, rfl⟩
  have hln := ba_len t
  rw [ht] at hln ⊢
  by_cases h8 : l.length = 8
  · refine split_f (by simp; omega) ?_
    intro g w1 h1
    have c1 := ((Ctx.start w no (fun _ h => h.elim)).loc h1).1
    refine ⟨Nat, fun k => [(0, .string t), (4, .pointer (some ⟨g, 0, none⟩)), (12, .int .i64 t.size), (13, .int .i64 k)],
      fun k w' => k ≤ 8 ∧ (l.take k).all isHex = true ∧ Ctx no w no w' [(g, 180, [.int .i64 (pp l k).1, .int .i64 (pp l k).2])], fun k _ => 8 - k, 0,
      ⟨rfl, rfl, rfl, rfl, trivial⟩, ⟨Nat.zero_le _, rfl, c1⟩, ?_⟩
    rintro k w' u ⟨hk, ha, hc⟩
    by_cases hlt : k < 8
    · refine split_t (decide_eq_true (by omega)) ?_
      have hc8 : (l.getD k 0).toNat < 256 := (l.getD k 0).toNat_lt
      have lim := pp_lim l k (by omega) (by omega) ha
      have bad := all_false isHex l k 0 (by omega)
      refine ⟨⟨by omega, by omega⟩, ?_⟩
      have hn' : ((t.data.toList.getD (k : Int).toNat 0).toNat : Int) = ((l.getD k 0).toNat : Int) := by rw [ht]; rfl
      generalize ((t.data.toList.getD (k : Int).toNat 0).toNat : Int) = n at *
      have hw : IntKind.i64.wrap n = n := IntWalk.i64_in _ ⟨by omega, by omega⟩
      by_cases hd : 48 ≤ n ∧ n ≤ 57
      · refine split_t (decide_eq_true (by omega)) ?_
        refine split_t (decide_eq_true (by omega)) ?_
        have hx : isHex (l.getD k 0) = true := by unfold isHex; simp only [Bool.or_eq_true, Bool.and_eq_true, decide_eq_true_eq]; omega
        have hr := hv_range _ hx
        have h6 : IntKind.i64.wrap (IntKind.i64.wrap n - 48) = hv (l.getD k 0) := by rw [hw]; unfold hv; rw [if_pos (by omega), IntWalk.i64_in _ ⟨by omega, by omega⟩]; omega
        by_cases h4 : k < 4
        · have hq : IntKind.i64.wrap ((k : Int).tdiv 4) = 0 := by rw [Int.tdiv_eq_ediv_of_nonneg (by omega), IntWalk.i64_in _ ⟨by omega, by omega⟩]; omega
          have ad : (⟨g, 0, Option.none⟩ : Addr).add ((IntKind.i64.wrap ((k : Int).tdiv 4)).toNat * 1) = ⟨g, 0, Option.none⟩ := by rw [hq]; rfl
          have e7 : IntKind.i64.wrap (IntKind.i64.wrap ((pp l k).1 * 16) + IntKind.i64.wrap (IntKind.i64.wrap n - 48)) = (pp l k).1 * 16 + hv (l.getD k 0) := by
            rw [h6, IntWalk.i64_in ((pp l k).1 * 16) ⟨by omega, by omega⟩]
            exact IntWalk.i64_in _ ⟨by omega, by omega⟩
          refine vc_nz (by decide) ?_
          refine vc_nz (by decide) ?_
          refine ⟨by rw [hq]; decide, ?_⟩
          refine ⟨.int .i64 (pp l k).1, by rw [ad]; exact hc.cell 0 rfl 0 rfl, ?_⟩
          refine ⟨by rw [hq]; decide, ?_⟩
          refine ⟨by rw [ad]; exact hc.may 0 rfl 0 _ (by show 0 + 1 ≤ 2; decide) rfl, ?_⟩
          intro w7 h7
          rw [ad] at h7
          have c7 := (hc.set 0 rfl h7).1
          rw [e7] at c7
          refine ⟨k + 1, ⟨rfl, rfl, rfl, congrArg _ (i_down (by omega)), trivial⟩, ⟨by omega, by rw [take_snoc l k 0 (by omega), List.all_append, ha]; simp only [List.all_cons, List.all_nil, hx]; rfl, ?_⟩, by show 8 - (k + 1) < 8 - k; omega⟩
          rw [pp_lo l k (by omega) h4]
          exact c7
        · have hq : IntKind.i64.wrap ((k : Int).tdiv 4) = 1 := by rw [Int.tdiv_eq_ediv_of_nonneg (by omega), IntWalk.i64_in _ ⟨by omega, by omega⟩]; omega
          have ad : (⟨g, 0, Option.none⟩ : Addr).add ((IntKind.i64.wrap ((k : Int).tdiv 4)).toNat * 1) = ⟨g, 1, Option.none⟩ := by rw [hq]; rfl
          have e7 : IntKind.i64.wrap (IntKind.i64.wrap ((pp l k).2 * 16) + IntKind.i64.wrap (IntKind.i64.wrap n - 48)) = (pp l k).2 * 16 + hv (l.getD k 0) := by
            rw [h6, IntWalk.i64_in ((pp l k).2 * 16) ⟨by omega, by omega⟩]
            exact IntWalk.i64_in _ ⟨by omega, by omega⟩
          refine vc_nz (by decide) ?_
          refine vc_nz (by decide) ?_
          refine ⟨by rw [hq]; decide, ?_⟩
          refine ⟨.int .i64 (pp l k).2, by rw [ad]; exact hc.cell 0 rfl 1 rfl, ?_⟩
          refine ⟨by rw [hq]; decide, ?_⟩
          refine ⟨by rw [ad]; exact hc.may 0 rfl 1 _ (by show 1 + 1 ≤ 2; decide) rfl, ?_⟩
          intro w7 h7
          rw [ad] at h7
          have c7 := (hc.set 0 rfl h7).1
          rw [e7] at c7
          refine ⟨k + 1, ⟨rfl, rfl, rfl, congrArg _ (i_down (by omega)), trivial⟩, ⟨by omega, by rw [take_snoc l k 0 (by omega), List.all_append, ha]; simp only [List.all_cons, List.all_nil, hx]; rfl, ?_⟩, by show 8 - (k + 1) < 8 - k; omega⟩
          rw [pp_hi l k (by omega) (by omega)]
          exact c7
      · by_cases hd2 : 97 ≤ n ∧ n ≤ 102
        · have hx : isHex (l.getD k 0) = true := by unfold isHex; simp only [Bool.or_eq_true, Bool.and_eq_true, decide_eq_true_eq]; omega
          have hr := hv_range _ hx
          have h6 : IntKind.i64.wrap (IntKind.i64.wrap n - 87) = hv (l.getD k 0) := by rw [hw]; unfold hv; rw [if_neg (by omega), IntWalk.i64_in _ ⟨by omega, by omega⟩]; omega
          refine split_t (decide_eq_true (by omega)) ?_
          refine split_f (decide_eq_false (by omega)) ?_
          refine split_t (decide_eq_true (by omega)) ?_
          refine split_t (decide_eq_true (by omega)) ?_
          by_cases h4 : k < 4
          · have hq : IntKind.i64.wrap ((k : Int).tdiv 4) = 0 := by rw [Int.tdiv_eq_ediv_of_nonneg (by omega), IntWalk.i64_in _ ⟨by omega, by omega⟩]; omega
            have ad : (⟨g, 0, Option.none⟩ : Addr).add ((IntKind.i64.wrap ((k : Int).tdiv 4)).toNat * 1) = ⟨g, 0, Option.none⟩ := by rw [hq]; rfl
            have e7 : IntKind.i64.wrap (IntKind.i64.wrap ((pp l k).1 * 16) + IntKind.i64.wrap (IntKind.i64.wrap n - 87)) = (pp l k).1 * 16 + hv (l.getD k 0) := by
              rw [h6, IntWalk.i64_in ((pp l k).1 * 16) ⟨by omega, by omega⟩]
              exact IntWalk.i64_in _ ⟨by omega, by omega⟩
            refine vc_nz (by decide) ?_
            refine vc_nz (by decide) ?_
            refine ⟨by rw [hq]; decide, ?_⟩
            refine ⟨.int .i64 (pp l k).1, by rw [ad]; exact hc.cell 0 rfl 0 rfl, ?_⟩
            refine ⟨by rw [hq]; decide, ?_⟩
            refine ⟨by rw [ad]; exact hc.may 0 rfl 0 _ (by show 0 + 1 ≤ 2; decide) rfl, ?_⟩
            intro w7 h7
            rw [ad] at h7
            have c7 := (hc.set 0 rfl h7).1
            rw [e7] at c7
            refine ⟨k + 1, ⟨rfl, rfl, rfl, congrArg _ (i_down (by omega)), trivial⟩, ⟨by omega, by rw [take_snoc l k 0 (by omega), List.all_append, ha]; simp only [List.all_cons, List.all_nil, hx]; rfl, ?_⟩, by show 8 - (k + 1) < 8 - k; omega⟩
            rw [pp_lo l k (by omega) h4]
            exact c7
          · have hq : IntKind.i64.wrap ((k : Int).tdiv 4) = 1 := by rw [Int.tdiv_eq_ediv_of_nonneg (by omega), IntWalk.i64_in _ ⟨by omega, by omega⟩]; omega
            have ad : (⟨g, 0, Option.none⟩ : Addr).add ((IntKind.i64.wrap ((k : Int).tdiv 4)).toNat * 1) = ⟨g, 1, Option.none⟩ := by rw [hq]; rfl
            have e7 : IntKind.i64.wrap (IntKind.i64.wrap ((pp l k).2 * 16) + IntKind.i64.wrap (IntKind.i64.wrap n - 87)) = (pp l k).2 * 16 + hv (l.getD k 0) := by
              rw [h6, IntWalk.i64_in ((pp l k).2 * 16) ⟨by omega, by omega⟩]
              exact IntWalk.i64_in _ ⟨by omega, by omega⟩
            refine vc_nz (by decide) ?_
            refine vc_nz (by decide) ?_
            refine ⟨by rw [hq]; decide, ?_⟩
            refine ⟨.int .i64 (pp l k).2, by rw [ad]; exact hc.cell 0 rfl 1 rfl, ?_⟩
            refine ⟨by rw [hq]; decide, ?_⟩
            refine ⟨by rw [ad]; exact hc.may 0 rfl 1 _ (by show 1 + 1 ≤ 2; decide) rfl, ?_⟩
            intro w7 h7
            rw [ad] at h7
            have c7 := (hc.set 0 rfl h7).1
            rw [e7] at c7
            refine ⟨k + 1, ⟨rfl, rfl, rfl, congrArg _ (i_down (by omega)), trivial⟩, ⟨by omega, by rw [take_snoc l k 0 (by omega), List.all_append, ha]; simp only [List.all_cons, List.all_nil, hx]; rfl, ?_⟩, by show 8 - (k + 1) < 8 - k; omega⟩
            rw [pp_hi l k (by omega) (by omega)]
            exact c7
        · have hx : isHex (l.getD k 0) = false := by unfold isHex; simp only [Bool.or_eq_false_iff, Bool.and_eq_false_iff, decide_eq_false_iff_not]; omega
          have e0 := zRead_not l (.inr (bad hx))
          rw [e0]
          repeat' (first | refine split_t (by assumption) ?_ | refine split_f (by assumption) ?_ | refine vc_nz (by decide) ?_ | refine split_ (fun _ => ?_) (fun _ => ?_))
          all_goals simp only [decide_eq_true_eq, decide_eq_false_iff_not] at *
          all_goals first | (exfalso; omega) | skip
          all_goals (refine ⟨?_, hc.below⟩; show _ = Ending.returned (.tuple #[.complex .f64 (dbl 0) (dbl 0), .bool false]); rw [dbl0]; rfl)
    · refine split_f (decide_eq_false (by omega)) ?_
      obtain rfl : k = 8 := by omega
      have lim := pp_lim l 8 (by omega) (by omega) ha
      refine ⟨⟨by decide, by decide⟩, ?_⟩
      refine ⟨_, hc.cell 0 rfl 0 rfl, ?_⟩
      refine ⟨_, _, cv_fl3 (by omega) _, ?_⟩
      refine ⟨⟨by decide, by decide⟩, ?_⟩
      refine ⟨_, hc.cell 0 rfl 1 rfl, ?_⟩
      refine ⟨_, _, cv_fl3 (by omega) _, ?_⟩
      refine call_b (gMay_any (dbl_is _ (by omega)) (dbl_is _ (by omega)) (by omega) (by omega) _) ?_
      intro w5 h5
      have c5 := (hc.quiet h5).1
      rw [List.take_of_length_le (by omega)] at ha
      by_cases hin : (pp l 8).1 < 65521 ∧ (pp l 8).2 < 65521
      · refine split_f (by rw [inP_t ⟨lim.1.1, hin.1⟩, inP_t ⟨lim.2.1, hin.2⟩]; rfl) ?_
        refine ⟨?_, c5.below⟩
        unfold zRead
        rw [if_pos ⟨h8, ha, hin⟩]
        rfl
      · refine split_t (by unfold inP; simp; omega) ?_
        refine ⟨?_, c5.below⟩
        unfold zRead
        rw [if_neg (fun h => hin h.2.2)]
        show _ = Ending.returned (.tuple #[.complex .f64 (dbl 0) (dbl 0), .bool false])
        rw [dbl0]; rfl
  · refine split_t (by simp; omega) ?_
    rw [zRead_not l (.inl h8)]
    refine ⟨?_, Below.refl _ _⟩
    show _ = Ending.returned (.tuple #[.complex .f64 (dbl 0) (dbl 0), .bool false])
    rw [dbl0]; rfl
theorem rread_any (t : ByteArray) (w : World) : Calls Tryz.prog 86 #[.string t] w
    (RetB (.tuple #[.agg #[.int .i64 (zRead t.data.toList).1.1, .int .i64 (zRead t.data.toList).1.2], .bool (zRead t.data.toList).2]) w) := by
  refine calls_vc lay_ok Tryz.func86 rfl (by kernel_rfl) (by kernel_rfl) ?_
  intro gz wz hz
  have cz := ((Ctx.start w no (fun _ h => h.elim)).loc hz).1
  obtain ⟨l, ht⟩ : ∃ l, t.data.toList = l := ⟨_, rfl⟩
  have hln := ba_len t
  rw [ht] at hln ⊢
  by_cases h8 : l.length = 8
  · refine split_f (by simp; omega) ?_
    intro g w1 h1
    have c1 := (cz.loc h1).1
    refine ⟨Nat, fun k => [(0, .string t), (2, .pointer (some ⟨gz, 0, none⟩)), (4, .pointer (some ⟨g, 0, none⟩)), (5, .int .i64 k)],
      fun k w' => k ≤ 8 ∧ (l.take k).all isHex = true ∧ Ctx no w no w' [(g, 183, [.int .i64 (pp l k).1, .int .i64 (pp l k).2]), (gz, 54, [.int .i64 0, .int .i64 0])], fun k _ => 8 - k, 0,
      ⟨rfl, rfl, rfl, rfl, trivial⟩, ⟨Nat.zero_le _, rfl, c1⟩, ?_⟩
    rintro k w' u ⟨hk, ha, hc⟩
    by_cases hlt : k < 8
    · refine split_t (decide_eq_true (by omega)) ?_
      have hc8 : (l.getD k 0).toNat < 256 := (l.getD k 0).toNat_lt
      have lim := pp_lim l k (by omega) (by omega) ha
      have bad := all_false isHex l k 0 (by omega)
      refine ⟨⟨by omega, by omega⟩, ?_⟩
      have hn' : ((t.data.toList.getD (k : Int).toNat 0).toNat : Int) = ((l.getD k 0).toNat : Int) := by rw [ht]; rfl
      generalize ((t.data.toList.getD (k : Int).toNat 0).toNat : Int) = n at *
      have hw : IntKind.i64.wrap n = n := IntWalk.i64_in _ ⟨by omega, by omega⟩
      by_cases hd : 48 ≤ n ∧ n ≤ 57
      · refine split_t (decide_eq_true (by omega)) ?_
        refine split_t (decide_eq_true (by omega)) ?_
        have hx : isHex (l.getD k 0) = true := by unfold isHex; simp only [Bool.or_eq_true, Bool.and_eq_true, decide_eq_true_eq]; omega
        have hr := hv_range _ hx
        have h6 : IntKind.i64.wrap (IntKind.i64.wrap n - 48) = hv (l.getD k 0) := by rw [hw]; unfold hv; rw [if_pos (by omega), IntWalk.i64_in _ ⟨by omega, by omega⟩]; omega
        by_cases h4 : k < 4
        · have hq : IntKind.i64.wrap ((k : Int).tdiv 4) = 0 := by rw [Int.tdiv_eq_ediv_of_nonneg (by omega), IntWalk.i64_in _ ⟨by omega, by omega⟩]; omega
          have ad : (⟨g, 0, Option.none⟩ : Addr).add ((IntKind.i64.wrap ((k : Int).tdiv 4)).toNat * 1) = ⟨g, 0, Option.none⟩ := by rw [hq]; rfl
          have e7 : IntKind.i64.wrap (IntKind.i64.wrap ((pp l k).1 * 16) + IntKind.i64.wrap (IntKind.i64.wrap n - 48)) = (pp l k).1 * 16 + hv (l.getD k 0) := by
            rw [h6, IntWalk.i64_in ((pp l k).1 * 16) ⟨by omega, by omega⟩]
            exact IntWalk.i64_in _ ⟨by omega, by omega⟩
          refine vc_nz (by decide) ?_
          refine vc_nz (by decide) ?_
          refine ⟨by rw [hq]; decide, ?_⟩
          refine ⟨.int .i64 (pp l k).1, by rw [ad]; exact hc.cell 0 rfl 0 rfl, ?_⟩
          refine ⟨by rw [hq]; decide, ?_⟩
          refine ⟨by rw [ad]; exact hc.may 0 rfl 0 _ (by show 0 + 1 ≤ 2; decide) rfl, ?_⟩
          intro w7 h7
          rw [ad] at h7
          have c7 := (hc.set 0 rfl h7).1
          rw [e7] at c7
          refine ⟨k + 1, ⟨rfl, rfl, rfl, congrArg _ (i_down (by omega)), trivial⟩, ⟨by omega, by rw [take_snoc l k 0 (by omega), List.all_append, ha]; simp only [List.all_cons, List.all_nil, hx]; rfl, ?_⟩, by show 8 - (k + 1) < 8 - k; omega⟩
          rw [pp_lo l k (by omega) h4]
          exact c7
        · have hq : IntKind.i64.wrap ((k : Int).tdiv 4) = 1 := by rw [Int.tdiv_eq_ediv_of_nonneg (by omega), IntWalk.i64_in _ ⟨by omega, by omega⟩]; omega
          have ad : (⟨g, 0, Option.none⟩ : Addr).add ((IntKind.i64.wrap ((k : Int).tdiv 4)).toNat * 1) = ⟨g, 1, Option.none⟩ := by rw [hq]; rfl
          have e7 : IntKind.i64.wrap (IntKind.i64.wrap ((pp l k).2 * 16) + IntKind.i64.wrap (IntKind.i64.wrap n - 48)) = (pp l k).2 * 16 + hv (l.getD k 0) := by
            rw [h6, IntWalk.i64_in ((pp l k).2 * 16) ⟨by omega, by omega⟩]
            exact IntWalk.i64_in _ ⟨by omega, by omega⟩
          refine vc_nz (by decide) ?_
          refine vc_nz (by decide) ?_
          refine ⟨by rw [hq]; decide, ?_⟩
          refine ⟨.int .i64 (pp l k).2, by rw [ad]; exact hc.cell 0 rfl 1 rfl, ?_⟩
          refine ⟨by rw [hq]; decide, ?_⟩
          refine ⟨by rw [ad]; exact hc.may 0 rfl 1 _ (by show 1 + 1 ≤ 2; decide) rfl, ?_⟩
          intro w7 h7
          rw [ad] at h7
          have c7 := (hc.set 0 rfl h7).1
          rw [e7] at c7
          refine ⟨k + 1, ⟨rfl, rfl, rfl, congrArg _ (i_down (by omega)), trivial⟩, ⟨by omega, by rw [take_snoc l k 0 (by omega), List.all_append, ha]; simp only [List.all_cons, List.all_nil, hx]; rfl, ?_⟩, by show 8 - (k + 1) < 8 - k; omega⟩
          rw [pp_hi l k (by omega) (by omega)]
          exact c7
      · by_cases hd2 : 97 ≤ n ∧ n ≤ 102
        · have hx : isHex (l.getD k 0) = true := by unfold isHex; simp only [Bool.or_eq_true, Bool.and_eq_true, decide_eq_true_eq]; omega
          have hr := hv_range _ hx
          have h6 : IntKind.i64.wrap (IntKind.i64.wrap n - 87) = hv (l.getD k 0) := by rw [hw]; unfold hv; rw [if_neg (by omega), IntWalk.i64_in _ ⟨by omega, by omega⟩]; omega
          refine split_t (decide_eq_true (by omega)) ?_
          refine split_f (decide_eq_false (by omega)) ?_
          refine split_t (decide_eq_true (by omega)) ?_
          refine split_t (decide_eq_true (by omega)) ?_
          by_cases h4 : k < 4
          · have hq : IntKind.i64.wrap ((k : Int).tdiv 4) = 0 := by rw [Int.tdiv_eq_ediv_of_nonneg (by omega), IntWalk.i64_in _ ⟨by omega, by omega⟩]; omega
            have ad : (⟨g, 0, Option.none⟩ : Addr).add ((IntKind.i64.wrap ((k : Int).tdiv 4)).toNat * 1) = ⟨g, 0, Option.none⟩ := by rw [hq]; rfl
            have e7 : IntKind.i64.wrap (IntKind.i64.wrap ((pp l k).1 * 16) + IntKind.i64.wrap (IntKind.i64.wrap n - 87)) = (pp l k).1 * 16 + hv (l.getD k 0) := by
              rw [h6, IntWalk.i64_in ((pp l k).1 * 16) ⟨by omega, by omega⟩]
              exact IntWalk.i64_in _ ⟨by omega, by omega⟩
            refine vc_nz (by decide) ?_
            refine vc_nz (by decide) ?_
            refine ⟨by rw [hq]; decide, ?_⟩
            refine ⟨.int .i64 (pp l k).1, by rw [ad]; exact hc.cell 0 rfl 0 rfl, ?_⟩
            refine ⟨by rw [hq]; decide, ?_⟩
            refine ⟨by rw [ad]; exact hc.may 0 rfl 0 _ (by show 0 + 1 ≤ 2; decide) rfl, ?_⟩
            intro w7 h7
            rw [ad] at h7
            have c7 := (hc.set 0 rfl h7).1
            rw [e7] at c7
            refine ⟨k + 1, ⟨rfl, rfl, rfl, congrArg _ (i_down (by omega)), trivial⟩, ⟨by omega, by rw [take_snoc l k 0 (by omega), List.all_append, ha]; simp only [List.all_cons, List.all_nil, hx]; rfl, ?_⟩, by show 8 - (k + 1) < 8 - k; omega⟩
            rw [pp_lo l k (by omega) h4]
            exact c7
          · have hq : IntKind.i64.wrap ((k : Int).tdiv 4) = 1 := by rw [Int.tdiv_eq_ediv_of_nonneg (by omega), IntWalk.i64_in _ ⟨by omega, by omega⟩]; omega
            have ad : (⟨g, 0, Option.none⟩ : Addr).add ((IntKind.i64.wrap ((k : Int).tdiv 4)).toNat * 1) = ⟨g, 1, Option.none⟩ := by rw [hq]; rfl
            have e7 : IntKind.i64.wrap (IntKind.i64.wrap ((pp l k).2 * 16) + IntKind.i64.wrap (IntKind.i64.wrap n - 87)) = (pp l k).2 * 16 + hv (l.getD k 0) := by
              rw [h6, IntWalk.i64_in ((pp l k).2 * 16) ⟨by omega, by omega⟩]
              exact IntWalk.i64_in _ ⟨by omega, by omega⟩
            refine vc_nz (by decide) ?_
            refine vc_nz (by decide) ?_
            refine ⟨by rw [hq]; decide, ?_⟩
            refine ⟨.int .i64 (pp l k).2, by rw [ad]; exact hc.cell 0 rfl 1 rfl, ?_⟩
            refine ⟨by rw [hq]; decide, ?_⟩
            refine ⟨by rw [ad]; exact hc.may 0 rfl 1 _ (by show 1 + 1 ≤ 2; decide) rfl, ?_⟩
            intro w7 h7
            rw [ad] at h7
            have c7 := (hc.set 0 rfl h7).1
            rw [e7] at c7
            refine ⟨k + 1, ⟨rfl, rfl, rfl, congrArg _ (i_down (by omega)), trivial⟩, ⟨by omega, by rw [take_snoc l k 0 (by omega), List.all_append, ha]; simp only [List.all_cons, List.all_nil, hx]; rfl, ?_⟩, by show 8 - (k + 1) < 8 - k; omega⟩
            rw [pp_hi l k (by omega) (by omega)]
            exact c7
        · have hx : isHex (l.getD k 0) = false := by unfold isHex; simp only [Bool.or_eq_false_iff, Bool.and_eq_false_iff, decide_eq_false_iff_not]; omega
          have e0 := zRead_not l (.inr (bad hx))
          rw [e0]
          repeat' (first | refine split_t (by assumption) ?_ | refine split_f (by assumption) ?_ | refine vc_nz (by decide) ?_ | refine split_ (fun _ => ?_) (fun _ => ?_))
          all_goals simp only [decide_eq_true_eq, decide_eq_false_iff_not] at *
          all_goals first | (exfalso; omega) | skip
          all_goals (refine ⟨hc.may 1 rfl 0 _ (Nat.le_refl 2) rfl, ?_⟩; intro w7 h7; have c7 := (hc.set 1 rfl h7).1; exact ⟨[.int .i64 0, .int .i64 0], rfl, c7.cells 1 rfl, rfl, c7.below⟩)
    · refine split_f (decide_eq_false (by omega)) ?_
      obtain rfl : k = 8 := by omega
      have lim := pp_lim l 8 (by omega) (by omega) ha
      rw [List.take_of_length_le (by omega)] at ha
      refine ⟨⟨by decide, by decide⟩, ?_⟩
      refine ⟨_, hc.cell 0 rfl 0 rfl, ?_⟩
      have ko : ¬ ((pp l 8).1 < 65521 ∧ (pp l 8).2 < 65521) → zRead l = ((0, 0), false) := fun hin => by
        unfold zRead
        rw [if_neg (fun h => hin h.2.2)]
      by_cases i1 : (pp l 8).1 < 65521
      · refine split_f (decide_eq_false (by omega)) ?_
        refine ⟨⟨by decide, by decide⟩, ?_⟩
        refine ⟨_, hc.cell 0 rfl 1 rfl, ?_⟩
        by_cases i2 : (pp l 8).2 < 65521
        · refine split_f (decide_eq_false (by omega)) ?_
          refine ⟨⟨by decide, by decide⟩, ?_⟩
          refine ⟨_, hc.cell 0 rfl 0 rfl, ?_⟩
          refine ⟨⟨by decide, by decide⟩, ?_⟩
          refine ⟨_, hc.cell 0 rfl 1 rfl, ?_⟩
          refine ⟨hc.may 1 rfl 0 _ (Nat.le_refl 2) rfl, ?_⟩
          intro w7 h7
          have c7 := (hc.set 1 rfl h7).1
          refine ⟨_, ?_, c7.cells 1 rfl, ?_⟩
          · rfl
          refine ⟨?_, c7.below⟩
          unfold zRead
          rw [if_pos ⟨h8, ha, i1, i2⟩]
          rfl
        · refine split_t (decide_eq_true (by omega)) ?_
          rw [ko (fun h => i2 h.2)]
          refine ⟨hc.may 1 rfl 0 _ (Nat.le_refl 2) rfl, ?_⟩
          intro w7 h7
          have c7 := (hc.set 1 rfl h7).1
          refine ⟨_, ?_, c7.cells 1 rfl, ?_⟩
          · rfl
          exact ⟨rfl, c7.below⟩
      · refine split_t (decide_eq_true (by omega)) ?_
        rw [ko (fun h => i1 h.1)]
        refine ⟨hc.may 1 rfl 0 _ (Nat.le_refl 2) rfl, ?_⟩
        intro w7 h7
        have c7 := (hc.set 1 rfl h7).1
        refine ⟨_, ?_, c7.cells 1 rfl, ?_⟩
        · rfl
        exact ⟨rfl, c7.below⟩
  · refine split_t (by simp; omega) ?_
    rw [zRead_not l (.inl h8)]
    refine ⟨cz.may 0 rfl 0 _ (Nat.le_refl 2) rfl, ?_⟩
    intro w7 h7
    have c7 := (cz.set 0 rfl h7).1
    refine ⟨_, ?_, c7.cells 0 rfl, ?_⟩
    · rfl
    exact ⟨rfl, c7.below⟩
structure D where
  kind : Int
  key : ByteArray
  body : ByteArray
  ver : Int
  cond : Int
  tag : ByteArray
  req : Int
  low : Int
def i64ok (n : Int) : Prop := -9223372036854775808 ≤ n ∧ n ≤ 9223372036854775807
def strok (s : ByteArray) : Prop := s.size ≤ 9223372036854775807
structure D.Ok (d : D) : Prop where
  kind : i64ok d.kind
  key : strok d.key
  body : strok d.body
  ver : i64ok d.ver
  cond : i64ok d.cond
  tag : strok d.tag
  req : i64ok d.req
  low : i64ok d.low
def tagB (s : ByteArray) : Bool := (zRead s.data.toList).2
def mt (s : ByteArray) : Bool := strEq s ⟨#[]⟩
def mayD (d : D) : Bool :=
  keyB d.key && !(homeI d.req == 0) && !decide (d.low < 0) && !decide (d.req < d.low) &&
  (if d.kind == 1 then d.ver == 0 && decide ((d.body.size : Int) ≤ 300) && decide (0 ≤ d.cond) && decide (d.cond ≤ 2) && (tagB d.tag == (d.cond == 2)) && (tagB d.tag || mt d.tag)
   else if d.kind == 2 then mt d.body && d.cond == 0 && mt d.tag && d.ver == 0
   else if d.kind == 3 then mt d.body && d.cond == 0 && mt d.tag && decide (1 ≤ d.ver) && decide (d.ver ≤ 1099511627776)
   else false)
theorem may_any (d : D) (h : d.Ok) (w : World) : Calls Tryz.prog 32 #[.agg #[.int .i64 d.kind, .string d.key, .string d.body, .int .i64 d.ver, .int .i64 d.cond, .string d.tag, .int .i64 d.req, .int .i64 d.low]] w (RetB (.bool (mayD d)) w) := by
  refine calls_vc lay_ok Tryz.func32 rfl (by kernel_rfl) (by kernel_rfl) ?_
  intro g w1 h1
  have hc := ((Ctx.start w no (fun _ h => h.elim)).loc h1).1
  repeat' (first | refine split_t (by assumption) ?_ | refine split_f (by assumption) ?_ | refine vc_nz (by decide) ?_ | refine ⟨_, hc.cell 0 rfl _ rfl, ?_⟩ | (refine call_b (key_any d.key h.key _) ?_; intro w2 h2; have hc := (hc.quiet h2).1) | (refine call_b (home_any d.req _) ?_; intro w3 h3; have hc := (hc.quiet h3).1) | (refine call_b (gread_any d.tag _) ?_; intro w4 h4; have hc := (hc.quiet h4).1) | refine split_ (fun _ => ?_) (fun _ => ?_))
  all_goals (refine ⟨ret_bool ?_, hc.below⟩)
  all_goals clear hc h1
  all_goals simp only [Bool.not_eq_true', Bool.not_eq_false'] at *
  all_goals simp only [mayD, tagB, mt, *]
  all_goals first | rfl | (simp; done) | skip
  all_goals (rename_i e1 e2 e3; rw [e2] at e1; simp only [e1]; simp)
theorem mt_tag (s : ByteArray) (h : strEq s ⟨#[]⟩ = true) : (zRead s.data.toList).2 = false := by
  have e : s.data.toList = [] := by simpa [strEq] using h
  rw [e]
  rfl
theorem rmay_any (d : D) (h : d.Ok) (w : World) : Calls Tryz.prog 33 #[.agg #[.int .i64 d.kind, .string d.key, .string d.body, .int .i64 d.ver, .int .i64 d.cond, .string d.tag, .int .i64 d.req, .int .i64 d.low]] w (RetB (.bool (mayD d)) w) := by
  refine calls_vc lay_ok Tryz.func33 rfl (by kernel_rfl) (by kernel_rfl) ?_
  intro g w1 h1
  have hc := ((Ctx.start w no (fun _ h => h.elim)).loc h1).1
  repeat' (first | refine split_t (by assumption) ?_ | refine split_f (by assumption) ?_ | refine vc_nz (by decide) ?_ | refine ⟨_, hc.cell 0 rfl _ rfl, ?_⟩ | (refine call_b (rkey_any d.key h.key _) ?_; intro w2 h2; have hc := (hc.quiet h2).1) | (refine call_b (rhome_any d.req _ h.req.1 h.req.2) ?_; intro w3 h3; have hc := (hc.quiet h3).1) | (refine call_b (rread_any d.tag _) ?_; intro w4 h4; have hc := (hc.quiet h4).1; intro g5 w5 h5; have hc := (hc.loc h5).1; refine ⟨hc.may 0 rfl 0 _ (Nat.le_refl 2) rfl, ?_⟩; intro w6 h6; have hc := (hc.set 0 rfl h6).1.drop) | refine split_ (fun _ => ?_) (fun _ => ?_))
  all_goals (refine ⟨ret_bool ?_, hc.below⟩)
  all_goals clear hc h1
  all_goals simp only [Bool.not_eq_true', Bool.not_eq_false'] at *
  all_goals simp only [mayD, tagB, mt, *]
  all_goals first | rfl | (simp; done) | skip
  all_goals first | (exfalso; simp_all; done) | (cases e : strEq d.tag ⟨#[]⟩; (· simp); (· simp [mt_tag d.tag e]))
inductive V where
  | mk (k n : Int) (s : ByteArray) (l : List V)
mutual
def RepC (S : Nat → Prop) (w : World) : V → List Value → Prop
  | .mk k n s l, cs => ∃ A cap xs, cs = [.int .i64 k, .int .i64 n, .string s, .slice A l.length cap] ∧ RepL S w l xs ∧ Row S w A l.length cap xs
def RepL (S : Nat → Prop) (w : World) : List V → List Value → Prop
  | [], xs => xs = []
  | v :: r, xs => ∃ cs ys, RepC S w v cs ∧ RepL S w r ys ∧ xs = cs ++ ys
end
mutual
theorem RepC.map {S S' : Nat → Prop} {w w' : World} (h : ∀ {A : Option Addr} {n cap : Nat} {xs : List Value}, Row S w A n cap xs → Row S' w' A n cap xs) : ∀ {v : V} {cs : List Value}, RepC S w v cs → RepC S' w' v cs
  | .mk k n s l, cs, hr => by
    rw [RepC] at hr ⊢
    obtain ⟨A, cap, xs, e, h1, h2⟩ := hr
    exact ⟨A, cap, xs, e, RepL.map h h1, h h2⟩
theorem RepL.map {S S' : Nat → Prop} {w w' : World} (h : ∀ {A : Option Addr} {n cap : Nat} {xs : List Value}, Row S w A n cap xs → Row S' w' A n cap xs) : ∀ {l : List V} {xs : List Value}, RepL S w l xs → RepL S' w' l xs
  | [], xs, hr => by rw [RepL] at hr ⊢; exact hr
  | v :: r, xs, hr => by
    rw [RepL] at hr ⊢
    obtain ⟨cs, ys, h1, h2, e⟩ := hr
    exact ⟨cs, ys, RepC.map h h1, RepL.map h h2, e⟩
end
theorem RepC.len {S : Nat → Prop} {w : World} : ∀ {v : V} {cs : List Value}, RepC S w v cs → cs.length = 4
  | .mk k n s l, cs, hr => by
    rw [RepC] at hr
    obtain ⟨A, cap, xs, e, _, _⟩ := hr
    rw [e]; rfl
theorem RepL.len {S : Nat → Prop} {w : World} : ∀ {l : List V} {xs : List Value}, RepL S w l xs → xs.length = 4 * l.length
  | [], xs, hr => by rw [RepL] at hr; rw [hr]; rfl
  | v :: r, xs, hr => by
    rw [RepL] at hr
    obtain ⟨cs, ys, h1, h2, e⟩ := hr
    rw [e, List.length_append, h1.len, RepL.len h2, List.length_cons]
    omega
theorem RepL.get {S : Nat → Prop} {w : World} : ∀ {l : List V} {xs : List Value}, RepL S w l xs → ∀ (i : Nat) (hi : i < l.length), ∃ cs, RepC S w l[i] cs ∧ ∀ j u, cs[j]? = some u → xs[i * 4 + j]? = some u
  | v :: r, xs, hr, 0, _ => by
    rw [RepL] at hr
    obtain ⟨cs, ys, h1, h2, e⟩ := hr
    refine ⟨cs, h1, fun j u hu => ?_⟩
    have hj : j < cs.length := by
      rcases Nat.lt_or_ge j cs.length with h | h
      · exact h
      · rw [List.getElem?_eq_none h] at hu; cases hu
    rw [e, Nat.zero_mul, Nat.zero_add, List.getElem?_append_left hj]
    exact hu
  | v :: r, xs, hr, i + 1, hi => by
    rw [RepL] at hr
    obtain ⟨cs, ys, h1, h2, e⟩ := hr
    obtain ⟨ds, h3, h4⟩ := RepL.get h2 i (Nat.lt_of_succ_lt_succ hi)
    refine ⟨ds, h3, fun j u hu => ?_⟩
    rw [e, List.getElem?_append_right (by rw [h1.len]; omega), h1.len, show (i + 1) * 4 + j - 4 = i * 4 + j from by omega]
    exact h4 j u hu
theorem RepC.below {S : Nat → Prop} {w w' : World} {v : V} {cs : List Value} (h : RepC S w v cs) (hb : Below w.heap.size w w') : RepC S w' v cs := RepC.map (fun h => h.below hb) h
theorem RepL.below {S : Nat → Prop} {w w' : World} {l : List V} {xs : List Value} (h : RepL S w l xs) (hb : Below w.heap.size w w') : RepL S w' l xs := RepL.map (fun h => h.below hb) h
theorem Rep.elem {S : Nat → Prop} {w : World} {l : List V} {xs : List Value} {A : Option Addr} {cap : Nat} (h : RepL S w l xs) (hR : Row S w A l.length cap xs) (i : Nat) (hi : i < l.length) :
    ∃ ad cs, A = some ad ∧ RepC S w l[i] cs ∧ cs.length = 4 ∧ Go.Vc.cellsAt w (ad.add (i * 4)) cs 0 := by
  obtain ⟨cs, h1, h2⟩ := h.get i hi
  have hl := h1.len
  have hx := h.len
  obtain ⟨ad, e, hc⟩ := hR.get (i := i * 4) (by omega)
  refine ⟨ad, cs, e, h1, hl, ?_⟩
  exact row_cells hc (i * 4) cs 0 (fun j u hu => by rw [Nat.add_zero]; exact h2 j u hu)
def cntL (g : V → Int) : List V → Int → Int
  | [], n => n
  | x :: r, n => if 6000 < n + g x then 6001 else cntL g r (n + g x)
def cnt : Nat → V → Int
  | 0, _ => 6001
  | f + 1, .mk k n s l =>
    if (k == 1 && mt s && ((l.length : Int) == 0)) || (k == 2 && n == 0 && ((l.length : Int) == 0)) then 1
    else if k != 3 || !(n == 0) || !mt s then 6001
    else cntL (cnt f) l 1
theorem cntL_cons (g : V → Int) (x : V) (r : List V) (n : Int) : cntL g (x :: r) n = if 6000 < n + g x then 6001 else cntL g r (n + g x) := by rw [cntL]
theorem cntL_range (g : V → Int) (hg : ∀ v, 1 ≤ g v) : ∀ (l : List V) (n : Int), 1 ≤ n → n ≤ 6000 → 1 ≤ cntL g l n ∧ cntL g l n ≤ 6001
  | [], n, h1, h2 => by unfold cntL; omega
  | x :: r, n, h1, h2 => by
    unfold cntL
    have := hg x
    split
    · omega
    · exact cntL_range g hg r _ (by omega) (by omega)
theorem cnt_range : ∀ (f : Nat) (v : V), 1 ≤ cnt f v ∧ cnt f v ≤ 6001
  | 0, _ => by unfold cnt; omega
  | f + 1, .mk k n s l => by
    unfold cnt
    split
    · omega
    · split
      · omega
      · exact cntL_range _ (fun v => (cnt_range f v).1) l 1 (by omega) (by omega)
theorem count_any : ∀ (f : Nat) (depth : Int), depth = 7 - f → f ≤ 6 → ∀ (v : V) (cs : List Value) (S : Nat → Prop) (w : World), RepC S w v cs → Calls Tryz.prog 171 #[.agg cs.toArray, .int .i64 depth] w (RetB (.int .i64 (cnt f v)) w) := by
  intro f
  induction f with
  | zero =>
    intro depth hd hf v cs S w hr
    obtain ⟨k, n, s, l⟩ := v
    rw [RepC] at hr
    obtain ⟨A, cap, xs, rfl, hL, hR⟩ := hr
    refine calls_vc lay_ok Tryz.func171 rfl (by kernel_rfl) (by kernel_rfl) ?_
    intro g2 w2 h2
    have hc := ((Ctx.start w no (fun _ h => h.elim)).loc h2).1
    have b2 := hc.blk 0 rfl
    refine drawn lay_ok (by kernel_rfl) (.q 0 (.q 1 (.q 2 (.q 3 (.q 4 (.q 5 (.q 6 (.q 7 (.q 8 (.q 9 (.q 10 (.q 11 (.q 12 .fin))))))))))))) (Keeps (fun b => b = g2) w2) (by kernel_rfl) (Keeps.start _ _) ?_
    refine ⟨_, fun x hx => hx.cell b2 rfl rfl, ?_⟩
    refine ⟨_, fun x hx => hx.cell b2 rfl rfl, ?_⟩
    refine ⟨_, fun x hx => hx.cell b2 rfl rfl, ?_⟩
    refine split_t (decide_eq_true (by omega)) ?_
    exact ⟨rfl, hc.drew.below⟩
  | succ f ih =>
    intro depth hd hf v cs S w hr
    obtain ⟨k, n, s, l⟩ := v
    rw [RepC] at hr
    obtain ⟨A, cap, xs, rfl, hL, hR⟩ := hr
    refine calls_vc lay_ok Tryz.func171 rfl (by kernel_rfl) (by kernel_rfl) ?_
    intro g2 w2 h2
    have hc := ((Ctx.start w no (fun _ h => h.elim)).loc h2).1
    have b2 := hc.blk 0 rfl
    refine drawn lay_ok (by kernel_rfl) (.q 0 (.q 1 (.q 2 (.q 3 (.q 4 (.q 5 (.q 6 (.q 7 (.q 8 (.q 9 (.q 10 (.q 11 (.q 12 .fin))))))))))))) (Keeps (fun b => b = g2) w2) (by kernel_rfl) (Keeps.start _ _) ?_
    refine ⟨_, fun x hx => hx.cell b2 rfl rfl, ?_⟩
    refine ⟨_, fun x hx => hx.cell b2 rfl rfl, ?_⟩
    refine ⟨_, fun x hx => hx.cell b2 rfl rfl, ?_⟩
    refine split_f (decide_eq_false (by omega)) ?_
    have hc := hc.drew
    have out : ∀ x : Int, cnt (f + 1) (.mk k n s l) = x → RetB (.int .i64 (cnt (f + 1) (.mk k n s l))) w (.returned (.int .i64 x)) w2.drew := fun x e => ⟨by rw [e], hc.below⟩
    by_cases k3 : k = 3
    · subst k3
      refine ⟨_, hc.cell 0 rfl _ rfl, ?_⟩
      refine ⟨_, hc.cell 0 rfl _ rfl, ?_⟩
      refine ⟨_, hc.cell 0 rfl _ rfl, ?_⟩
      cases e1 : (n == 0)
      · refine out 6001 ?_
        simp [cnt, e1]
      cases e2 : mt s
      · refine split_t (by show (!strEq s ⟨#[]⟩) = true; rw [show strEq s ⟨#[]⟩ = false from e2]; rfl) ?_
        refine out 6001 ?_
        simp [cnt, e2]
      refine split_f (by show (!strEq s ⟨#[]⟩) = false; rw [show strEq s ⟨#[]⟩ = true from e2]; rfl) ?_
      have ec : cnt (f + 1) (.mk 3 n s l) = cntL (cnt f) l 1 := by simp [cnt, e1, e2]
      rw [ec]
      refine ⟨_, hc.cell 0 rfl _ rfl, ?_⟩
      refine ⟨Nat × Int, fun q => [(1, .int .i64 depth), (8, .int .i64 q.2), (56, .slice A l.length cap), (57, .int .i64 l.length), (58, .int .i64 q.1)],
        fun q w' => q.1 ≤ l.length ∧ 1 ≤ q.2 ∧ q.2 ≤ 6000 ∧ cntL (cnt f) (l.drop q.1) q.2 = cntL (cnt f) l 1 ∧ Below w.heap.size w w', fun q _ => l.length - q.1, (0, 1),
        ⟨rfl, rfl, rfl, rfl, rfl, trivial⟩, ⟨Nat.zero_le _, by decide, by decide, rfl, hc.below⟩, ?_⟩
      rintro ⟨i, m⟩ w' u ⟨hi, hm1, hm2, he, hb⟩
      have hM : l.length ≤ 9223372036854775807 := Nat.le_trans (Nat.le_trans hR.1 hR.2.1) (by decide)
      by_cases hlt : i < l.length
      · refine split_t (decide_eq_true (by show (i : Int) < (l.length : Int); omega)) ?_
        obtain ⟨ad, es, rfl, hre, hl4, hcell⟩ := Rep.elem (hL.below hb) (hR.below hb) i hlt
        rw [List.drop_eq_getElem_cons hlt] at he
        rw [cntL_cons] at he
        generalize l[i] = v at *
        have hre0 := hre
        obtain ⟨k', n', s', l'⟩ := v
        rw [RepC] at hre
        obtain ⟨A', cap', xs', rfl, _, _⟩ := hre
        refine ⟨⟨by omega, by omega⟩, ?_⟩
        refine ⟨_, hl4, hcell, ?_⟩
        intro g5 w5 h5
        have c5 := ((Ctx.start w' no (fun _ h => h.elim)).loc h5).1
        refine ⟨c5.may 0 rfl 0 _ (Nat.le_refl 4) rfl, ?_⟩
        intro w6 h6
        have c6 := (c5.set 0 rfl h6).1
        refine ⟨_, ?_, c6.cells 0 rfl, ?_⟩
        · rfl
        have hd1 : IntKind.i64.wrap (depth + 1) = 7 - (f : Int) := by rw [wrap_add _ _ (by omega) (by omega)]; omega
        refine call_b (ih (IntKind.i64.wrap (depth + 1)) hd1 (by omega) _ _ S w6 (hre0.below c6.below)) ?_
        intro w7 h7
        have c7 := (c6.quiet h7).1
        have hb7 := hb.trans (c7.below.mono hb.size)
        have hr := cnt_range f (.mk k' n' s' l')
        have hw : IntKind.i64.wrap (m + cnt f (.mk k' n' s' l')) = m + cnt f (.mk k' n' s' l') := wrap_add _ _ (by omega) (by omega)
        by_cases hov : 6000 < m + cnt f (.mk k' n' s' l')
        · refine split_t (decide_eq_true (by rw [hw]; exact hov)) ?_
          rw [if_pos hov] at he
          refine ⟨?_, hb7⟩
          rw [← he]
          rfl
        · refine split_f (decide_eq_false (by rw [hw]; exact hov)) ?_
          rw [if_neg hov] at he
          refine ⟨(i + 1, m + cnt f (.mk k' n' s' l')), ⟨rfl, congrArg _ hw, rfl, rfl, congrArg _ (i_down (by omega)), trivial⟩, ⟨hlt, by show 1 ≤ m + cnt f (.mk k' n' s' l'); omega, by show m + cnt f (.mk k' n' s' l') ≤ 6000; omega, he, hb7⟩, by show l.length - (i + 1) < l.length - i; omega⟩
      · refine split_f (decide_eq_false (by show ¬ (i : Int) < (l.length : Int); omega)) ?_
        rw [List.drop_of_length_le (by omega)] at he
        refine ⟨?_, hb⟩
        rw [← he]
        rfl
    · have e3 : (k != 3) = true := by simpa using k3
      repeat' (first | refine split_t (by assumption) ?_ | refine split_f (by assumption) ?_ | refine vc_nz (by decide) ?_ | refine ⟨_, hc.cell 0 rfl _ rfl, ?_⟩ | refine split_ (fun _ => ?_) (fun _ => ?_))
      all_goals refine out _ ?_
      all_goals simp [cnt, mt, *]
def mayV (v : V) : Bool := decide (cnt 6 v ≤ 6000)
theorem vmay_any (v : V) (k n : Int) (s : ByteArray) (A : Option Addr) (len cap : Nat) (S : Nat → Prop) (w : World) (hr : RepC S w v [.int .i64 k, .int .i64 n, .string s, .slice A len cap]) :
    Calls Tryz.prog 148 #[.agg #[.int .i64 k, .int .i64 n, .string s, .slice A len cap]] w (RetB (.bool (mayV v)) w) := by
  refine calls_vc lay_ok Tryz.func148 rfl (by kernel_rfl) (by kernel_rfl) ?_
  intro g2 w2 h2
  have hc := ((Ctx.start w no (fun _ h => h.elim)).loc h2).1
  refine ⟨_, ?_, hc.cells 0 rfl, ?_⟩
  · rfl
  refine call_b (count_any 6 1 (by decide) (by decide) v _ S w2 (hr.below hc.below)) ?_
  intro w3 h3
  exact ⟨rfl, (hc.quiet h3).1.below⟩
def rsL (g : V → Int × Int) : List V → Int → Int → Int × Int
  | [], n, d => (n, d + 1)
  | x :: r, n, d => if (g x).1 < 0 ∨ 6000 < n then (-1, 0) else rsL g r (n + (g x).1) (max d (g x).2)
def rs : Nat → V → Int × Int
  | 0, _ => (-1, 0)
  | f + 1, .mk k n s l =>
    if (k == 1 && mt s && ((l.length : Int) == 0)) || (k == 2 && n == 0 && ((l.length : Int) == 0)) then (1, 1)
    else if k != 3 || n != 0 || !mt s then (-1, 0)
    else rsL (rs f) l 1 0
theorem rsL_cons (g : V → Int × Int) (x : V) (r : List V) (n d : Int) : rsL g (x :: r) n d = if (g x).1 < 0 ∨ 6000 < n then (-1, 0) else rsL g r (n + (g x).1) (max d (g x).2) := by rw [rsL]
def Near (c r : Int) : Prop := (c ≤ 6000 ∧ r = c) ∨ (c = 6001 ∧ (r = -1 ∨ 6000 < r))
theorem rsL_big (g : V → Int × Int) (l : List V) (n d : Int) (h : 6000 < n) : (rsL g l n d).1 = -1 ∨ 6000 < (rsL g l n d).1 := by
  cases l with
  | nil => unfold rsL; exact .inr h
  | cons x r => rw [rsL_cons, if_pos (.inr h)]; exact .inl rfl
theorem near_L (g : V → Int) (h : V → Int × Int) (hg : ∀ v, 1 ≤ g v) (hn : ∀ v, Near (g v) (h v).1) : ∀ (l : List V) (n d : Int), 1 ≤ n → n ≤ 6000 → Near (cntL g l n) (rsL h l n d).1
  | [], n, d, h0, h1 => by unfold cntL rsL; exact .inl ⟨h1, rfl⟩
  | x :: r, n, d, h0, h1 => by
    rw [cntL_cons, rsL_cons]
    have hx := hg x
    by_cases hr : (h x).1 < 0
    · rw [if_pos (show (h x).1 < 0 ∨ 6000 < n from .inl hr)]
      rcases hn x with ⟨h2, h3⟩ | ⟨h2, h3⟩
      · omega
      · rw [if_pos (show 6000 < n + g x by omega)]
        exact .inr ⟨rfl, .inl rfl⟩
    · by_cases h6 : 6000 < n
      · omega
      rw [if_neg (show ¬ ((h x).1 < 0 ∨ 6000 < n) by omega)]
      rcases hn x with ⟨h2, h3⟩ | ⟨h2, h3⟩
      · by_cases hb : 6000 < n + g x
        · rw [if_pos hb]
          exact .inr ⟨rfl, rsL_big h r _ _ (by omega)⟩
        · rw [if_neg hb, h3]
          exact near_L g h hg hn r _ _ (by omega) (by omega)
      · by_cases h7 : 6000 < n + g x
        · rw [if_pos h7]
          by_cases h8 : 6000 < n + (h x).1
          · exact .inr ⟨rfl, rsL_big h r _ _ h8⟩
          · omega
        · omega
theorem near : ∀ (f : Nat) (v : V), Near (cnt f v) (rs f v).1
  | 0, _ => .inr ⟨by unfold cnt; rfl, .inl (by unfold rs; rfl)⟩
  | f + 1, .mk k n s l => by
    unfold cnt rs
    have e : (n != 0) = !(n == 0) := rfl
    rw [e]
    split
    · exact .inl ⟨by decide, rfl⟩
    · split
      · exact .inr ⟨rfl, .inl rfl⟩
      · exact near_L _ _ (fun v => (cnt_range f v).1) (fun v => near f v) l 1 0 (by decide) (by decide)
theorem may_same (v : V) : (decide (1 ≤ (rs 6 v).1) && decide ((rs 6 v).1 ≤ 6000)) = mayV v := by
  unfold mayV
  have h1 := cnt_range 6 v
  rw [Bool.eq_iff_iff]
  simp only [Bool.and_eq_true, decide_eq_true_eq]
  rcases near 6 v with ⟨h2, h3⟩ | ⟨h2, h3⟩
  · rw [h3]; omega
  · omega
theorem rsL_range (g : V → Int × Int) (b : Int) (hb : 0 ≤ b) (hg : ∀ v, -1 ≤ (g v).1 ∧ (g v).1 ≤ b ∧ 0 ≤ (g v).2 ∧ (g v).2 ≤ b) : ∀ (l : List V) (n d : Int), 1 ≤ n → n ≤ b + 6000 → 0 ≤ d → d ≤ b →
    -1 ≤ (rsL g l n d).1 ∧ (rsL g l n d).1 ≤ b + 6000 ∧ 0 ≤ (rsL g l n d).2 ∧ (rsL g l n d).2 ≤ b + 1
  | [], n, d, h1, h2, h3, h4 => by unfold rsL; omega
  | x :: r, n, d, h1, h2, h3, h4 => by
    rw [rsL_cons]
    have hx := hg x
    split
    · omega
    · exact rsL_range g b hb hg r _ _ (by omega) (by omega) (by omega) (by omega)
theorem rs_range : ∀ (f : Nat) (v : V), -1 ≤ (rs f v).1 ∧ (rs f v).1 ≤ 1 + 6000 * f ∧ 0 ≤ (rs f v).2 ∧ (rs f v).2 ≤ 1 + 6000 * f
  | 0, _ => by unfold rs; omega
  | f + 1, .mk k n s l => by
    unfold rs
    split
    · omega
    · split
      · omega
      · have := rsL_range (rs f) (1 + 6000 * f) (by omega) (fun v => by have := rs_range f v; omega) l 1 0 (by omega) (by omega) (by omega) (by omega)
        omega
theorem size_any : ∀ (f : Nat) (left : Int), left = f → f ≤ 6 → ∀ (v : V) (cs : List Value) (S : Nat → Prop) (w : World), RepC S w v cs →
    Calls Tryz.prog 153 #[.agg cs.toArray, .int .i64 left] w (RetB (.tuple #[.int .i64 (rs f v).1, .int .i64 (rs f v).2]) w) := by
  intro f
  induction f with
  | zero =>
    intro left hleft hf v cs S w hr
    obtain ⟨k, n, s, l⟩ := v
    rw [RepC] at hr
    obtain ⟨A, cap, xs, rfl, hL, hR⟩ := hr
    refine calls_vc lay_ok Tryz.func153 rfl (by kernel_rfl) (by kernel_rfl) ?_
    intro g2 w2 h2
    have hc := ((Ctx.start w no (fun _ h => h.elim)).loc h2).1
    refine split_t (decide_eq_true (by omega)) ?_
    exact ⟨rfl, hc.below⟩
  | succ f ih =>
    intro left hleft hf v cs S w hr
    obtain ⟨k, n, s, l⟩ := v
    rw [RepC] at hr
    obtain ⟨A, cap, xs, rfl, hL, hR⟩ := hr
    refine calls_vc lay_ok Tryz.func153 rfl (by kernel_rfl) (by kernel_rfl) ?_
    intro g2 w2 h2
    have hc := ((Ctx.start w no (fun _ h => h.elim)).loc h2).1
    refine split_f (decide_eq_false (by omega)) ?_
    have out : ∀ x : Int × Int, rs (f + 1) (.mk k n s l) = x → RetB (.tuple #[.int .i64 (rs (f + 1) (.mk k n s l)).1, .int .i64 (rs (f + 1) (.mk k n s l)).2]) w (.returned (.tuple #[.int .i64 x.1, .int .i64 x.2])) w2 := fun x e => ⟨by rw [e], hc.below⟩
    by_cases k3 : k = 3
    · subst k3
      refine ⟨_, hc.cell 0 rfl _ rfl, ?_⟩
      refine ⟨_, hc.cell 0 rfl _ rfl, ?_⟩
      refine ⟨_, hc.cell 0 rfl _ rfl, ?_⟩
      refine ⟨_, hc.cell 0 rfl _ rfl, ?_⟩
      cases e1 : (n != 0)
      rotate_left
      · refine split_t e1 ?_
        refine out (-1, 0) ?_
        simp [rs, e1]
      refine split_f e1 ?_
      refine ⟨_, hc.cell 0 rfl _ rfl, ?_⟩
      cases e2 : mt s
      · refine split_t (by show (!strEq s ⟨#[]⟩) = true; rw [show strEq s ⟨#[]⟩ = false from e2]; rfl) ?_
        refine out (-1, 0) ?_
        simp [rs, e2]
      refine split_f (by show (!strEq s ⟨#[]⟩) = false; rw [show strEq s ⟨#[]⟩ = true from e2]; rfl) ?_
      have ec : rs (f + 1) (.mk 3 n s l) = rsL (rs f) l 1 0 := by simp [rs, e1, e2]
      rw [ec]
      have hM : l.length ≤ 9223372036854775807 := Nat.le_trans (Nat.le_trans hR.1 hR.2.1) (by decide)
      refine ⟨Nat × Int × Int, fun q => [(1, .int .i64 left), (2, .pointer (some ⟨g2, 0, none⟩)), (6, .int .i64 q.2.1), (7, .int .i64 q.2.2), (8, .int .i64 q.1)],
        fun q w' => q.1 ≤ l.length ∧ 1 ≤ q.2.1 ∧ q.2.1 ≤ 50000 ∧ 0 ≤ q.2.2 ∧ q.2.2 ≤ 50000 ∧ rsL (rs f) (l.drop q.1) q.2.1 q.2.2 = rsL (rs f) l 1 0 ∧ Ctx no w no w' [(g2, 45, [.int .i64 3, .int .i64 n, .string s, .slice A l.length cap])], fun q _ => l.length - q.1, (0, 1, 0),
        ⟨rfl, rfl, rfl, rfl, rfl, trivial⟩, ⟨Nat.zero_le _, by decide, by decide, by decide, by decide, rfl, hc⟩, ?_⟩
      rintro ⟨i, m, d⟩ w' u ⟨hi, hm1, hm2, hd1, hd2, he, hc⟩
      simp only at hi hm1 hm2 hd1 hd2 he
      refine ⟨_, hc.cell 0 rfl _ rfl, ?_⟩
      have hb := hc.below
      by_cases hlt : i < l.length
      · refine split_t (decide_eq_true (by show (i : Int) < (l.length : Int); omega)) ?_
        obtain ⟨ad, es, rfl, hre, hl4, hcell⟩ := Rep.elem (hL.below hb) (hR.below hb) i hlt
        rw [List.drop_eq_getElem_cons hlt, rsL_cons] at he
        generalize l[i] = v at *
        have hre0 := hre
        obtain ⟨k', n', s', l'⟩ := v
        rw [RepC] at hre
        obtain ⟨A', cap', xs', rfl, _, _⟩ := hre
        refine ⟨_, hc.cell 0 rfl _ rfl, ?_⟩
        refine ⟨⟨by omega, by omega⟩, ?_⟩
        refine ⟨_, hl4, hcell, ?_⟩
        have hw1 : IntKind.i64.wrap (left - 1) = (f : Int) := by rw [IntWalk.i64_in _ ⟨by omega, by omega⟩]; omega
        refine call_b (ih (IntKind.i64.wrap (left - 1)) hw1 (by omega) _ _ S w' hre0) ?_
        intro w7 h7
        have c7 := (hc.quiet h7).1
        have hr := rs_range f (.mk k' n' s' l')
        generalize rs f (.mk k' n' s' l') = q at *
        obtain ⟨q1, q2⟩ := q
        simp only at hr he
        by_cases hneg : q1 < 0
        · refine split_t (decide_eq_true hneg) ?_
          rw [if_pos (show q1 < 0 ∨ 6000 < m from .inl hneg)] at he
          refine ⟨?_, c7.below⟩
          rw [← he]
          rfl
        · refine split_f (decide_eq_false hneg) ?_
          by_cases hov : 6000 < m
          · refine split_t (decide_eq_true hov) ?_
            rw [if_pos (show q1 < 0 ∨ 6000 < m from .inr hov)] at he
            refine ⟨?_, c7.below⟩
            rw [← he]
            rfl
          · refine split_f (decide_eq_false hov) ?_
            rw [if_neg (show ¬ (q1 < 0 ∨ 6000 < m) by omega)] at he
            have hw : IntKind.i64.wrap (m + q1) = m + q1 := wrap_add _ _ (by omega) (by omega)
            have hmx : (if q2 > d then q2 else d) = max d q2 := by omega
            refine ⟨(i + 1, m + q1, max d q2), ⟨rfl, rfl, congrArg _ hw, congrArg _ hmx, congrArg _ (i_down (by omega)), trivial⟩, ⟨hlt, ?_, ?_, ?_, ?_, he, c7⟩, by show l.length - (i + 1) < l.length - i; omega⟩
            · show 1 ≤ m + q1; omega
            · show m + q1 ≤ 50000; omega
            · show 0 ≤ max d q2; omega
            · show max d q2 ≤ 50000; omega
      · refine split_f (decide_eq_false (by show ¬ (i : Int) < (l.length : Int); omega)) ?_
        rw [List.drop_of_length_le (by omega)] at he
        refine ⟨?_, hb⟩
        rw [← he]
        show Ending.returned (.tuple #[.int .i64 m, .int .i64 (IntKind.i64.wrap (d + 1))]) = _
        rw [wrap_add _ _ (by omega) (by omega)]
        rfl
    · have e3 : (k != 3) = true := by simpa using k3
      repeat' (first | refine split_t (by assumption) ?_ | refine split_f (by assumption) ?_ | refine vc_nz (by decide) ?_ | refine ⟨_, hc.cell 0 rfl _ rfl, ?_⟩ | refine split_ (fun _ => ?_) (fun _ => ?_))
      all_goals first | refine out (1, 1) ?_ | refine out (-1, 0) ?_
      all_goals simp [rs, mt, *]
theorem rvmay_any (v : V) (k n : Int) (s : ByteArray) (A : Option Addr) (len cap : Nat) (S : Nat → Prop) (w : World) (hr : RepC S w v [.int .i64 k, .int .i64 n, .string s, .slice A len cap]) :
    Calls Tryz.prog 95 #[.agg #[.int .i64 k, .int .i64 n, .string s, .slice A len cap]] w (RetB (.bool (mayV v)) w) := by
  refine calls_vc lay_ok Tryz.func95 rfl (by kernel_rfl) (by kernel_rfl) ?_
  intro g2 w2 h2
  have hc := ((Ctx.start w no (fun _ h => h.elim)).loc h2).1
  refine ⟨_, ?_, hc.cells 0 rfl, ?_⟩
  · rfl
  refine call_b (size_any 6 6 rfl (by decide) v _ S w2 (hr.below hc.below)) ?_
  intro w3 h3
  have hc := (hc.quiet h3).1
  have e := may_same v
  by_cases h : 1 ≤ (rs 6 v).1
  · refine split_t (decide_eq_true h) ?_
    refine ⟨ret_bool ?_, hc.below⟩
    rw [← e, decide_eq_true h]; rfl
  · refine split_f (decide_eq_false h) ?_
    refine ⟨ret_bool ?_, hc.below⟩
    rw [← e, decide_eq_false h]; rfl
mutual
def eqV : V → V → Bool
  | .mk k n s l, .mk k' n' s' l' => k == k' && n == n' && strEq s s' && eqL l l'
def eqL : List V → List V → Bool
  | [], [] => true
  | x :: r, y :: t => eqV x y && eqL r t
  | [], _ :: _ => false
  | _ :: _, [] => false
end
theorem eqL_len : ∀ (l m : List V), l.length ≠ m.length → eqL l m = false
  | [], [], h => absurd rfl h
  | x :: r, y :: t, h => by rw [eqL, eqL_len r t (fun e => h (by rw [List.length_cons, List.length_cons, e])), Bool.and_false]
  | [], _ :: _, _ => by rw [eqL]
  | _ :: _, [], _ => by rw [eqL]
theorem V.kid {k n : Int} {s : ByteArray} {l : List V} {x : V} (h : x ∈ l) : SizeOf.sizeOf x < SizeOf.sizeOf (V.mk k n s l) := by
  have := List.sizeOf_lt_of_mem h
  simp only [V.mk.sizeOf_spec]
  omega
theorem cellsAt_later {w w' : World} (hb : Below w.heap.size w w') {a : Addr} : ∀ (cs : List Value) (i : Nat), Go.Vc.cellsAt w a cs i → Go.Vc.cellsAt w' a cs i
  | [], _, _ => trivial
  | _ :: r, i, h => ⟨cell_later hb h.1, cellsAt_later hb r (i + 1) h.2⟩
theorem equalFunc_any (l m : List V) (S : Nat → Prop) (w : World) {A B : Option Addr} {cap cap' : Nat} {xs ys : List Value} (hL : RepL S w l xs) (hR : Row S w A l.length cap xs) (hL' : RepL S w m ys) (hR' : Row S w B m.length cap' ys)
    (hE : ∀ x ∈ l, ∀ (y : V) (cx cy : List Value) (w' : World), RepC S w' x cx → RepC S w' y cy → Calls Tryz.prog 94 #[.agg cx.toArray, .agg cy.toArray] w' (RetB (.bool (eqV x y)) w')) :
    Calls Tryz.prog 152 #[.slice A l.length cap, .slice B m.length cap', .func (.func 94) #[] #[]] w (RetB (.bool (eqL l m)) w) := by
  refine calls_vc lay_ok Tryz.func152 rfl (by kernel_rfl) (by kernel_rfl) ?_
  by_cases hlen : l.length = m.length
  rotate_left
  · refine split_t (by simp; omega) ?_
    exact ⟨ret_bool (eqL_len l m hlen).symm, Below.refl _ _⟩
  refine split_f (by simp; omega) ?_
  have hM : l.length ≤ 9223372036854775807 := Nat.le_trans (Nat.le_trans hR.1 hR.2.1) (by decide)
  refine ⟨Nat, fun i => [(1, .slice B m.length cap'), (2, .func (.func 94) #[] #[]), (15, .slice A l.length cap), (16, .int .i64 l.length), (17, .int .i64 i)],
    fun i w' => i ≤ l.length ∧ eqL (l.drop i) (m.drop i) = eqL l m ∧ Below w.heap.size w w', fun i _ => l.length - i, 0,
    ⟨rfl, rfl, rfl, rfl, rfl, trivial⟩, ⟨Nat.zero_le _, rfl, Below.refl _ _⟩, ?_⟩
  rintro i w' u ⟨hi, he, hb⟩
  by_cases hlt : i < l.length
  · refine split_t (decide_eq_true (by omega)) ?_
    obtain ⟨ad, es, rfl, hre, hl4, hcell⟩ := Rep.elem (hL.below hb) (hR.below hb) i hlt
    obtain ⟨bd, fs, rfl, hrf, hf4, hcelf⟩ := Rep.elem (hL'.below hb) (hR'.below hb) i (by omega)
    rw [List.drop_eq_getElem_cons hlt, List.drop_eq_getElem_cons (show i < m.length by omega), eqL] at he
    have hx := hE l[i] (List.getElem_mem hlt)
    generalize l[i] = x at *
    generalize m[i]'(by omega) = y at *
    have hre0 := hre
    have hrf0 := hrf
    obtain ⟨k1, n1, s1, l1⟩ := x
    obtain ⟨k2, n2, s2, l2⟩ := y
    rw [RepC] at hre hrf
    obtain ⟨A1, cap1, xs1, rfl, _, _⟩ := hre
    obtain ⟨A2, cap2, xs2, rfl, _, _⟩ := hrf
    refine ⟨⟨by omega, by omega⟩, ?_⟩
    refine ⟨_, hl4, hcell, ?_⟩
    intro g5 w5 h5
    have c5 := ((Ctx.start w' no (fun _ h => h.elim)).loc h5).1
    refine ⟨c5.may 0 rfl 0 _ (Nat.le_refl 4) rfl, ?_⟩
    intro w6 h6
    have c6 := (c5.set 0 rfl h6).1
    refine ⟨⟨by omega, by omega⟩, ?_⟩
    refine ⟨_, hf4, cellsAt_later c6.below _ 0 hcelf, ?_⟩
    intro g7 w7 h7
    have c7 := (c6.loc h7).1
    refine ⟨c7.may 0 rfl 0 _ (Nat.le_refl 4) rfl, ?_⟩
    intro w8 h8
    have c8 := (c7.set 0 rfl h8).1
    refine ⟨_, ?_, c8.cells 1 rfl, ?_⟩
    · rfl
    refine ⟨_, ?_, c8.cells 0 rfl, ?_⟩
    · rfl
    refine call_b (hx _ _ _ w8 (hre0.below c8.below) (hrf0.below c8.below)) ?_
    intro w9 h9
    have c9 := (c8.quiet h9).1
    have hb9 := hb.trans (c9.below.mono hb.size)
    cases e : eqV (.mk k1 n1 s1 l1) (.mk k2 n2 s2 l2)
    · refine ⟨ret_bool ?_, hb9⟩
      rw [← he, e]; rfl
    · refine ⟨i + 1, ⟨rfl, rfl, rfl, rfl, congrArg _ (i_down (by omega)), trivial⟩, ⟨hlt, ?_, hb9⟩, by show l.length - (i + 1) < l.length - i; omega⟩
      rw [← he, e]; rfl
  · refine split_f (decide_eq_false (by omega)) ?_
    rw [List.drop_of_length_le (by omega), List.drop_of_length_le (by omega)] at he
    refine ⟨ret_bool ?_, hb⟩
    rw [← he, eqL]
theorem veq_any : ∀ (N : Nat) (a : V), SizeOf.sizeOf a < N → ∀ (b : V) (ca cb : List Value) (S : Nat → Prop) (w : World), RepC S w a ca → RepC S w b cb →
    Calls Tryz.prog 94 #[.agg ca.toArray, .agg cb.toArray] w (RetB (.bool (eqV a b)) w) := by
  intro N
  induction N with
  | zero => intro a h; exact absurd h (Nat.not_lt_zero _)
  | succ N ih =>
    intro a hN b ca cb S w ha hb
    obtain ⟨k1, n1, s1, l1⟩ := a
    obtain ⟨k2, n2, s2, l2⟩ := b
    rw [RepC] at ha hb
    obtain ⟨A1, cap1, xs1, rfl, hL, hR⟩ := ha
    obtain ⟨A2, cap2, xs2, rfl, hL', hR'⟩ := hb
    refine calls_vc lay_ok Tryz.func94 rfl (by kernel_rfl) (by kernel_rfl) ?_
    intro g2 w2 h2 g3 w3 h3
    have hc := (((Ctx.start w no (fun _ h => h.elim)).loc h2).1.loc h3).1
    have kids : ∀ x ∈ l1, ∀ (y : V) (cx cy : List Value) (w' : World), RepC S w' x cx → RepC S w' y cy → Calls Tryz.prog 94 #[.agg cx.toArray, .agg cy.toArray] w' (RetB (.bool (eqV x y)) w') :=
      fun x hx y cx cy w' h1 h2 => ih x (by have := V.kid (k := k1) (n := n1) (s := s1) hx; omega) y cx cy S w' h1 h2
    repeat' (first | refine split_t (by assumption) ?_ | refine split_f (by assumption) ?_ | refine vc_nz (by decide) ?_ | refine ⟨_, hc.cell 0 rfl _ rfl, ?_⟩ | (refine ⟨_, hc.cell 1 rfl _ rfl, ?_⟩) | (refine call_b (equalFunc_any l1 l2 S w3 (hL.below hc.below) (hR.below hc.below) (hL'.below hc.below) (hR'.below hc.below) kids) ?_; intro w4 h4; have hc := (hc.quiet h4).1) | refine split_ (fun _ => ?_) (fun _ => ?_))
    all_goals (refine ⟨ret_bool ?_, hc.below⟩)
    all_goals simp only [eqV, *]
    all_goals rfl
theorem reqv_any : ∀ (N : Nat) (a : V), SizeOf.sizeOf a < N → ∀ (b : V) (ca cb : List Value) (S : Nat → Prop) (w : World), RepC S w a ca → RepC S w b cb →
    Calls Tryz.prog 42 #[.agg ca.toArray, .agg cb.toArray] w (RetB (.bool (eqV a b)) w) := by
  intro N
  induction N with
  | zero => intro a h; exact absurd h (Nat.not_lt_zero _)
  | succ N ih =>
    intro a hN b ca cb S w ha hb
    obtain ⟨k1, n1, s1, l1⟩ := a
    obtain ⟨k2, n2, s2, l2⟩ := b
    rw [RepC] at ha hb
    obtain ⟨A1, cap1, xs1, rfl, hL, hR⟩ := ha
    obtain ⟨A2, cap2, xs2, rfl, hL', hR'⟩ := hb
    refine calls_vc lay_ok Tryz.func42 rfl (by kernel_rfl) (by kernel_rfl) ?_
    intro g2 w2 h2 g3 w3 h3
    have hc := (((Ctx.start w no (fun _ h => h.elim)).loc h2).1.loc h3).1
    have kids : ∀ x ∈ l1, ∀ (y : V) (cx cy : List Value) (w' : World), RepC S w' x cx → RepC S w' y cy → Calls Tryz.prog 42 #[.agg cx.toArray, .agg cy.toArray] w' (RetB (.bool (eqV x y)) w') :=
      fun x hx y cx cy w' h1 h2 => ih x (by have := V.kid (k := k1) (n := n1) (s := s1) hx; omega) y cx cy S w' h1 h2
    by_cases hlen : l1.length = l2.length
    rotate_left
    · have e9 := eqL_len l1 l2 hlen
      have e8 : ((l1.length : Int) != (l2.length : Int)) = true := by simp; omega
      repeat' (first | refine split_t (by assumption) ?_ | refine split_f (by assumption) ?_ | refine vc_nz (by decide) ?_ | refine ⟨_, hc.cell 0 rfl _ rfl, ?_⟩ | (refine ⟨_, hc.cell 1 rfl _ rfl, ?_⟩) | refine split_ (fun _ => ?_) (fun _ => ?_))
      all_goals (refine ⟨ret_bool ?_, hc.below⟩)
      all_goals simp only [eqV, e9, Bool.and_false]
    have e8 : ((l1.length : Int) != (l2.length : Int)) = false := by simp; omega
    have out : ∀ (wx : World), Below w.heap.size w wx → (k1 != k2) = true ∨ (n1 != n2) = true ∨ (!strEq s1 s2) = true → RetB (.bool (eqV (.mk k1 n1 s1 l1) (.mk k2 n2 s2 l2))) w (.returned (.bool false)) wx := fun wx hb h => by
      refine ⟨ret_bool ?_, hb⟩
      rw [eqV]
      simp only [bne, Bool.not_eq_true'] at h
      rcases h with h | h | h <;> simp [h]
    repeat' (first | refine split_t (by assumption) ?_ | refine split_f (by assumption) ?_ | refine vc_nz (by decide) ?_ | refine ⟨_, hc.cell 0 rfl _ rfl, ?_⟩ | (refine ⟨_, hc.cell 1 rfl _ rfl, ?_⟩) | refine split_ (fun _ => ?_) (fun _ => ?_))
    all_goals first | (refine out _ hc.below ?_; first | exact .inl (by assumption) | exact .inr (.inl (by assumption)) | exact .inr (.inr (by assumption))) | skip
    have hM : l1.length ≤ 9223372036854775807 := Nat.le_trans (Nat.le_trans hR.1 hR.2.1) (by decide)
    rename_i e1 e2 e3
    have ev : eqV (.mk k1 n1 s1 l1) (.mk k2 n2 s2 l2) = eqL l1 l2 := by
      rw [eqV]
      simp only [bne, Bool.not_eq_false'] at e1 e2 e3
      rw [e1, e2, e3]; rfl
    rw [ev]
    refine ⟨Nat, fun i => [(2, .pointer (some ⟨g2, 0, none⟩)), (3, .pointer (some ⟨g3, 0, none⟩)), (5, .int .i64 i)],
      fun i w' => i ≤ l1.length ∧ eqL (l1.drop i) (l2.drop i) = eqL l1 l2 ∧ Ctx no w no w' [(g3, 45, [.int .i64 k2, .int .i64 n2, .string s2, .slice A2 l2.length cap2]), (g2, 45, [.int .i64 k1, .int .i64 n1, .string s1, .slice A1 l1.length cap1])], fun i _ => l1.length - i, 0,
      ⟨rfl, rfl, rfl, trivial⟩, ⟨Nat.zero_le _, rfl, hc⟩, ?_⟩
    rintro i w' u ⟨hi, he, hc⟩
    refine ⟨_, hc.cell 1 rfl _ rfl, ?_⟩
    have hb := hc.below
    by_cases hlt : i < l1.length
    · refine split_t (decide_eq_true (by omega)) ?_
      obtain ⟨ad, es, rfl, hre, hl4, hcell⟩ := Rep.elem (hL.below hb) (hR.below hb) i hlt
      obtain ⟨bd, fs, rfl, hrf, hf4, hcelf⟩ := Rep.elem (hL'.below hb) (hR'.below hb) i (by omega)
      rw [List.drop_eq_getElem_cons hlt, List.drop_eq_getElem_cons (show i < l2.length by omega), eqL] at he
      have hx := kids l1[i] (List.getElem_mem hlt)
      generalize l1[i] = x at *
      generalize l2[i]'(by omega) = y at *
      refine drawn lay_ok (by kernel_rfl) (.q 0 (.q 1 (.q 2 (.q 3 (.q 4 (.q 5 (.q 6 (.q 7 (.q 8 (.q 9 (.n 10 (.q 11 .fin) .stop))))))))))) (fun x => Below w'.heap.size w' x) (by kernel_rfl) ((Below.refl _ _).drew) ?_
      refine ⟨_, fun x hx => (hc.quiet hx).1.cell 1 rfl _ rfl, ?_⟩
      refine ⟨⟨by omega, by omega⟩, ?_⟩
      refine ⟨_, hl4, fun x hx => cellsAt_later hx _ 0 hcell, ?_⟩
      refine ⟨_, fun x hx => (hc.quiet hx).1.cell 0 rfl _ rfl, ?_⟩
      refine ⟨⟨by omega, by omega⟩, ?_⟩
      refine ⟨_, hf4, fun x hx => cellsAt_later hx _ 0 hcelf, ?_⟩
      refine ⟨?_, trivial⟩
      refine call_b (hx _ _ _ w'.drew (hre.below ((Below.refl _ _).drew)) (hrf.below ((Below.refl _ _).drew))) ?_
      intro w9 h9
      have hb9 : Below w'.heap.size w' w9 := ((Below.refl _ _).drew).trans h9
      have c9 := (hc.quiet hb9).1
      refine ⟨hb9, ?_⟩
      cases e : eqV x y
      · refine ⟨ret_bool ?_, c9.below⟩
        rw [← he, e]; rfl
      · refine ⟨i + 1, ⟨rfl, rfl, congrArg _ (i_down (by omega)), trivial⟩, ⟨hlt, ?_, c9⟩, by show l1.length - (i + 1) < l1.length - i; omega⟩
        rw [← he, e]; rfl
    · refine split_f (decide_eq_false (by omega)) ?_
      rw [List.drop_of_length_le (by omega), List.drop_of_length_le (by omega)] at he
      refine ⟨ret_bool ?_, hb⟩
      rw [← he, eqL]
theorem pnil_run (p : Option Addr) (w : World) (ox oy : Operand) : (do eqGuard .eql 208 ox oy (.pointer p) (.pointer none); Go.binOp .eql 208 (.pointer p) (.pointer none) : Sem Value).run Tryz.prog w = .ok (.bool p.isNone) w := by
  have h : ∀ d : Nat, (Op.equalIn (d + 1) 208 (.pointer p) (.pointer none)).run Tryz.prog w = .ok p.isNone w := fun d => by
    cases p <;> simp [Op.equalIn, run_underlying Tryz.underlying208]
  cases p <;> simp [eqGuard, Go.binOp, Op.equal, Op.maxDepth, h 9999]
theorem noEscape_run (x : Value) (w : World) : (callFunc 207 #[x]).run Tryz.prog w = .ok (.value x) w := by
  rw [run_callFunc_extern Tryz.func207 (by kernel_rfl) (by kernel_rfl) (by kernel_rfl) (show Extern.find _ = some Extern.AbiNoEscape.same by kernel_rfl)]
  rfl
theorem pself_run (a : Addr) (w : World) (ox oy : Operand) : (do eqGuard .neq 208 ox oy (.pointer (some a)) (.pointer (some a)); Go.binOp .neq 208 (.pointer (some a)) (.pointer (some a)) : Sem Value).run Tryz.prog w = .ok (.bool false) w := by
  obtain ⟨j, hj, _, _, _⟩ := info_parts (show (Tryz.prog.info? 210).map (fun i => (i.zero, i.size, i.bytes)) = some (some (.agg #[.pointer none, .slice none 0 0]), 2, 32) by kernel_rfl)
  have h := Lib.run_neq_ptr_same (P := Tryz.prog) w a Tryz.underlying208 hj
  simp only [eqGuard]
  simpa using h
theorem copyCheck_any (B b : Nat) (bs : List Value) (w : World) (h : Lib.IsBuilder 210 5 B b bs w) :
    Calls Tryz.prog 191 #[.pointer (some ⟨b, 0, none⟩)] w (fun e w' => e = .returned (.tuple #[]) ∧ Lib.BuilderAt 210 5 B b (.pointer (some ⟨b, 0, none⟩)) bs w' ∧ Below B w w') := by
  refine calls_vc lay_ok Tryz.func191 rfl (by kernel_rfl) (by kernel_rfl) ?_
  rcases h with h | h
  · refine ⟨_, h.cell0, ?_⟩
    refine ⟨_, fun w => pnil_run _ w _ _, ?_⟩
    obtain ⟨j, hj, _, hj2, _⟩ := info_parts (show (Tryz.prog.info? 210).map (fun i => (i.zero, i.size, i.bytes)) = some (some (.agg #[.pointer none, .slice none 0 0]), 2, 32) by kernel_rfl)
    refine ⟨_, _, Lib.run_to_unsafe w _ Tryz.underlying208 Tryz.underlying239 hj (by rw [hj2]; decide) h.shape (by show (0 : Nat) < 2; decide), ?_⟩
    refine ⟨_, _, noEscape_run _ w, ?_⟩
    refine ⟨_, _, Lib.run_from_unsafe w _ Tryz.underlying239 Tryz.underlying208 hj h.shape (by kernel_rfl), ?_⟩
    refine ⟨⟨⟨_, h.cell0⟩, h.frozen0, rfl, trivial⟩, ?_⟩
    intro w1 h1
    have e1 : w1 = w.setCell ⟨b, 0, none⟩ (.pointer (some ⟨b, 0, none⟩)) := h1
    subst e1
    exact ⟨rfl, h.used _, (Below.refl B w).setCell (p := ⟨b, 0, none⟩) h.1 _⟩
  · refine ⟨_, h.cell0, ?_⟩
    refine ⟨_, fun w => pnil_run _ w _ _, ?_⟩
    refine ⟨_, h.cell0, ?_⟩
    refine ⟨_, fun w => pself_run _ w _ _, ?_⟩
    exact ⟨rfl, h, Below.refl _ _⟩
theorem wstr_any (B b : Nat) (l : List UInt8) (s : ByteArray) (w : World) (h : Lib.IsBuilder 210 5 B b (bv l) w) (hB : B ≤ w.heap.size) (hs : l.length + s.size ≤ 34359738368) :
    Calls Tryz.prog 173 #[.pointer (some ⟨b, 0, none⟩), .string s] w (fun e w' => e = .returned (.tuple #[.int .i64 s.size, .nilIface]) ∧ Lib.IsBuilder 210 5 B b (bv (l ++ s.data.toList)) w' ∧ Below B w w') := by
  refine calls_vc lay_ok Tryz.func173 rfl (by kernel_rfl) (by kernel_rfl) ?_
  refine ⟨(copyCheck_any B b (bv l) w h).mono fun e w1 he => ⟨_, he.1, ?_⟩⟩
  obtain ⟨_, hw1, hb1⟩ := he
  have hlt := hw1.lt
  obtain ⟨hBb, v, hbk, hown, hne⟩ := hw1
  have shape : ∃ A cap, v = .slice A l.length cap := by
    obtain ⟨_, h6⟩ := hown
    rw [bv_len] at h6
    rcases h6 with ⟨h6, h7⟩ | ⟨g, cp, cur, h6, _⟩
    · exact ⟨none, 0, by rw [h7]; exact h6⟩
    · exact ⟨_, _, h6⟩
  obtain ⟨A, cap, rfl⟩ := shape
  refine ⟨.slice A l.length cap, Lib.cell_of_heap hbk 1, ?_⟩
  obtain ⟨i, hi, hi1, hi2, hi3⟩ := info_parts info_u8
  obtain ⟨v', w2, hrun, hown2, hg, _⟩ := Lib.run_append_own_string (P := Tryz.prog) w1 B 50 9 50 5 i Tryz.underlying50 Tryz.underlying9 hi hi1 hi2 hi3 _ _ _ hown s (by rw [bv_len]; simp only [maxLen]; omega) (by rw [bv_len]; omega) (Nat.le_trans hB hb1.size)
  have shape2 : ∃ A' n' cap', v' = .slice A' n' cap' := by
    obtain ⟨_, h6⟩ := hown2
    rcases h6 with ⟨h6, h7⟩ | ⟨g, cp, cur, h6, _⟩
    · exact ⟨_, _, _, h6⟩
    · exact ⟨_, _, _, h6⟩
  obtain ⟨A', n', cap', rfl⟩ := shape2
  refine ⟨.slice A' n' cap', w2, ?_, ?_⟩
  · show (do pure (Next.value (← Builtin.append_ #[50, 9] 50 #[.slice A l.length cap, .string s])) : Sem Next).run Tryz.prog w1 = _
    simp only [Sem.run_bind, hrun, Result.andThen_ok, Sem.run_pure]
  have hbk2 : w2.heap[b]? = some (.cells #[.pointer (some ⟨b, 0, none⟩), .slice A l.length cap] 210 (0, 0)) := (hg.block b hlt (fun e => hne e.symm)).trans hbk
  refine ⟨⟨⟨_, Lib.cell_of_heap hbk2 1⟩, Lib.frozen_of_heap hbk2 1, rfl, trivial⟩, ?_⟩
  intro w3 h3
  have e3 : w3 = w2.setCell ⟨b, 1, none⟩ (.slice A' n' cap') := h3
  subst e3
  have hbs : bv l ++ Lib.strCells s = bv (l ++ s.data.toList) := by rw [bv_append]; rfl
  have hown3 : w2.ownsRow B 5 1 (.slice A' n' cap') (bv (l ++ s.data.toList)).length (bv (l ++ s.data.toList)) := by
    rw [← hbs, List.length_append, Lib.strCells_length]
    exact hown2
  have hb2 : Below B w w2 := hb1.grown hg (Nat.le_trans hB hb1.size) (fun k hk => by
    have := hown.lt k hk
    exact this.1)
  refine ⟨rfl, .inr (Lib.BuilderAt.put hBb hbk2 hown3 (by decide)), hb2.setCell (p := ⟨b, 1, none⟩) hBb _⟩
end Go.Proofs.YtbmoimihnndboaaGreatDoor
