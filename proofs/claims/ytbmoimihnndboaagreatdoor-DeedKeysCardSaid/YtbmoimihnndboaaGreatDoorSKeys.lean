import Derived.Test.YtbmoimihnndboaaGreatDoorM13
set_option linter.unusedVariables false
set_option linter.unusedSimpArgs false
/- Walk: armariumlaw5.DeedKeys. -/
namespace Go.Proofs.YtbmoimihnndboaaGreatDoor
open Go.Vc Go.RowKit Go.Fl Go.ChangeShapes Go.WideShapes Go.ChangeAt
def fillK (n k : Nat) : List UInt8 := List.replicate k 107 ++ List.replicate (n - k) 0
theorem fillK_len {n k : Nat} (h : k ≤ n) : (fillK n k).length = n := by
  unfold fillK
  rw [List.length_append, List.length_replicate, List.length_replicate]
  omega
theorem fillK_set {n k : Nat} (h : k < n) : (fillK n k).set k 107 = fillK n (k + 1) := by
  unfold fillK
  rw [List.set_append_right _ _ (by rw [List.length_replicate]; exact Nat.le_refl _), List.length_replicate, Nat.sub_self, show n - k = (n - (k + 1)) + 1 by omega, List.replicate_succ, List.set_cons_zero, List.replicate_succ', List.append_assoc]
  rfl
theorem fillK_all (n : Nat) : fillK n n = List.replicate n 107 := by
  unfold fillK
  rw [Nat.sub_self]
  simp
theorem lett107 : lett 107 = true := by decide
theorem keyL_fill (n : Nat) : keyL (List.replicate n 107) = (decide (1 ≤ n) && decide (n ≤ 40)) := by
  unfold keyL
  rw [List.length_replicate, List.all_replicate]
  cases n <;> simp [lett107]
theorem keyL_set (n i : Nat) (hi : i < n) (c : UInt8) : keyL ((List.replicate n 107).set i c) = (decide (n ≤ 40) && lett c) := by
  unfold keyL
  rw [List.length_set, List.length_replicate]
  have h1 : ((List.replicate n 107).set i c).all lett = lett c := by
    rw [Bool.eq_iff_iff, List.all_eq_true]
    constructor
    · intro h
      refine h c ?_
      rw [List.mem_iff_getElem?]
      exact ⟨i, by rw [List.getElem?_set_self (by rw [List.length_replicate]; exact hi)]⟩
    · intro h x hx
      rcases List.mem_or_eq_of_mem_set hx with hx | hx
      · rw [List.eq_of_mem_replicate hx]
        exact lett107
      · rw [hx]
        exact h
  rw [h1, show decide (1 ≤ n) = true from decide_eq_true (by omega), Bool.and_true, Bool.and_comm]
set_option maxHeartbeats 8000000 in
theorem keys5_any (n x : Int) (hn : i64ok n) (hx : 0 ≤ x ∧ x ≤ 255) (w : World) (hw : Env w) : Calls Tryz.prog 14 #[.int .i64 n, .int .u8 x] w (RetB (.bool true) w) := by
  obtain ⟨c, rfl⟩ := u8_of x hx
  clear hx
  refine calls_vc lay_ok Tryz.func14 rfl (by kernel_rfl) (by kernel_rfl) ?_
  have hc := CtxF.start w no (fun _ h => h.elim) (R := fun _ _ => True) trivial Stab.true
  refine call_b (begun5_any _ hw) ?_
  intro wQ hQ
  have hc := (hc.quiet hQ).1
  refine split_ (fun h0 => ?_) (fun h0 => ?_)
  · exact ⟨rfl, hc.below⟩
  have h0 : 0 ≤ n := by simpa using h0
  by_cases h45 : 45 < n
  · refine split_t (decide_eq_true h45) ?_
    exact ⟨rfl, hc.below⟩
  refine split_f (decide_eq_false h45) ?_
  obtain ⟨m, rfl⟩ : ∃ m : Nat, n = (m : Int) := ⟨n.toNat, by omega⟩
  obtain ⟨wM, hr, ho, hg⟩ := mkU8 m (by omega) wQ
  refine ⟨_, _, hr, ?_⟩
  have hM := (Below.refl wQ.heap.size wQ).grown hg (Nat.le_refl _) (fun k h => by cases h)
  have hc := hc.fresh hM ho
  obtain ⟨g, cur, eg, hc, hl1, hl2, -, -⟩ := hc.opened rfl
  obtain rfl : wQ.heap.size = g := by
    have := congrArg (fun a => (a.getD ⟨0, 0, none⟩).block) eg
    exact this
  rw [List.take_of_length_le (by omega), ← bvz] at hl2
  subst hl2
  generalize wQ.heap.size = g at *
  refine ⟨Nat, fun k => [(0, .int .i64 m), (1, .int .u8 c.toNat), (6, .slice (some ⟨g, 0, none⟩) m m), (22, .int .i64 m), (23, .int .i64 k)],
    fun k w' => k ≤ m ∧ CtxF no w no w' [(g, 5, bv (fillK m k))] [] (fun _ _ => True), fun k _ => m - k, 0,
    ⟨rfl, rfl, rfl, rfl, rfl, trivial⟩, ⟨Nat.zero_le _, hc⟩, ?_⟩
  clear hc
  rintro k w4 u ⟨hk, hc⟩
  by_cases hlt : k < m
  · refine split_t (decide_eq_true (by first | omega | (simp only; omega))) ?_
    refine ⟨⟨by first | omega | (simp only; omega), by first | omega | (simp only; omega)⟩, ?_⟩
    refine ⟨mayB hc 0 rfl k (by rw [bv_len, fillK_len hk]; exact hlt) _ rfl, ?_⟩
    intro wS hS
    have hc := setB hc 0 rfl k hS
    have e1 : (bv (fillK m k)).set k (.int .u8 107) = bv (fillK m (k + 1)) := by
      rw [← fillK_set hlt, ← bv_set]
      rfl
    rw [e1] at hc
    exact ⟨k + 1, ⟨rfl, rfl, rfl, rfl, congrArg _ (i_down (by omega)), trivial⟩, ⟨hlt, hc⟩, by show m - (k + 1) < m - k; omega⟩
  refine split_f (decide_eq_false (by first | omega | (simp only; omega))) ?_
  obtain rfl : k = m := by omega
  rw [fillK_all] at hc
  have hrow := blk_row (hc.blk 0 rfl) k (Nat.le_trans (show k ≤ 45 by omega) (by decide))
  have hkf := keyL_fill k
  rcases Nat.eq_zero_or_pos k with hz | hz
  · subst hz
    refine bytes_str (l := List.replicate 0 107) Tryz.underlying50 Tryz.underlying5 Tryz.underlying9 hrow (by rfl) ?_
    have hK := key_any ⟨(List.replicate 0 107).toArray⟩ (by decide) w4
    rw [show keyB ⟨(List.replicate 0 107).toArray⟩ = false from hkf] at hK
    refine call_b (hK) ?_
    intro wQ hQ
    have hc := (hc.quiet hQ).1
    exact ⟨rfl, hc.below⟩
  refine split_t (decide_eq_true (by omega)) ?_
  refine bytes_str (l := List.replicate k 107) Tryz.underlying50 Tryz.underlying5 Tryz.underlying9 hrow (by rw [List.length_replicate]) ?_
  have hK := key_any ⟨(List.replicate k 107).toArray⟩ (by show (List.replicate k 107).toArray.size ≤ _; rw [List.size_toArray, List.length_replicate]; omega) w4
  rw [show keyB ⟨(List.replicate k 107).toArray⟩ = (decide (1 ≤ k) && decide (k ≤ 40)) from hkf] at hK
  refine call_b (hK) ?_
  intro wQ hQ
  have hc := (hc.quiet hQ).1
  refine split_f (by
    rw [show decide (1 ≤ k) = true from decide_eq_true hz, Bool.true_and, show decide ((k : Int) ≤ 40) = decide (k ≤ 40) by rw [decide_eq_decide]; omega]
    cases decide (k ≤ 40) <;> rfl) ?_
  refine split_f (by rw [beq_eq_false_iff_ne]; omega) ?_
  refine vc_nz (by decide) ?_
  have hq : IntKind.i64.wrap ((k : Int).tdiv 2) = ((k / 2 : Nat) : Int) := by
    rw [Int.tdiv_eq_ediv_of_nonneg (by omega), IntWalk.i64_in _ ⟨by omega, by omega⟩]
    omega
  rw [hq]
  refine ⟨⟨by omega, by omega⟩, ?_⟩
  refine ⟨mayB hc 0 rfl (k / 2) (by rw [bv_len, List.length_replicate]; omega) _ rfl, ?_⟩
  intro wS hS
  have hc := setB hc 0 rfl (k / 2) hS
  have hc : CtxF no w no wS [(g, 5, (bv (List.replicate k 107)).set (k / 2) (.int .u8 c.toNat))] [] (fun _ _ => True) := hc
  rw [bv_set] at hc
  have hrow := blk_row (hc.blk 0 rfl) k (Nat.le_trans (show k ≤ 45 by omega) (by decide))
  have hks := keyL_set k (k / 2) (by omega) c
  have hlc : ((List.replicate k 107).set (k / 2) c).length = k := by rw [List.length_set, List.length_replicate]
  generalize (List.replicate k (107 : UInt8)).set (k / 2) c = z at *
  have hks' : True → keyL z = (decide (k ≤ 40) && lett c) := fun _ => hks
  clear hks hkf hq hK
  repeat' (refine split_ (fun _ => ?_) (fun _ => ?_))
  all_goals
    have hks := hks' trivial
    have hlet : lett c = letter (c.toNat : Int) := rfl
    refine bytes_str (l := z) Tryz.underlying50 Tryz.underlying5 Tryz.underlying9 hrow (by rw [hlc]) ?_
    have hK := key_any ⟨z.toArray⟩ (by show z.toArray.size ≤ _; rw [List.size_toArray, hlc]; omega) wS
    refine call_b (hK) ?_
    intro wQ hQ
    have hc := (hc.quiet hQ).1
    refine split_ (fun h1 => ?_) (fun h1 => ?_)
    all_goals
      refine ⟨ret_bool ?_, hc.below⟩
      rw [show keyB ⟨z.toArray⟩ = _ from hks, hlet, show decide (k ≤ 40) = decide ((k : Int) ≤ 40) by rw [decide_eq_decide]; omega, h1]
      unfold letter
      simp_all
      try omega
set_option maxRecDepth 100000 in
theorem deedKeys_ct {H : Type} (enc : TypeId × Value → H) (W : World) (hw : Env W) {base : Nat}
    (v0 : Value) (d0 : DataW H) (p0 : List MemPlace) (h0 : DataW.Trod enc Tryz.prog W 0 (fun _ => true) true 3 v0 d0 p0) (k0 : Value.okWide Tryz.prog W .any base 3 v0)
    (v1 : Value) (d1 : DataW H) (p1 : List MemPlace) (h1 : DataW.Trod enc Tryz.prog W 0 (fun _ => true) true 5 v1 d1 p1) (k1 : Value.okWide Tryz.prog W .any base 5 v1) :
    Calls Tryz.prog 14 #[v0, v1] W (RetB (.bool true) W) := by
  obtain ⟨a0, rfl, o0⟩ := open_i64 Tryz.underlying3 h0 k0
  obtain ⟨a1, rfl, o1⟩ := open_u8 h1 k1
  exact keys5_any a0 a1 o0 o1 W hw
end Go.Proofs.YtbmoimihnndboaaGreatDoor
