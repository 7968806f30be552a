import Derived.Test.YtbmoimihnndboaaGreatDoorM12
set_option linter.unusedVariables false
set_option linter.unusedSimpArgs false
/- Walk: armariumlaw5.DeedHomes. -/
namespace Go.Proofs.YtbmoimihnndboaaGreatDoor
open Go.Vc Go.RowKit Go.Fl Go.ChangeShapes Go.WideShapes Go.ChangeAt
set_option linter.unusedVariables false

theorem makeI_nz {a n : Int} (h : makeI a n ≠ 0) : 1 ≤ a ∧ a ≤ 5 ∧ 1 ≤ n ∧ n < 4294967296 ∧ makeI a n = a * 4294967296 + n := by
  unfold makeI at h ⊢
  split at h
  · exact absurd rfl h
  · rename_i hn
    rw [if_neg hn]
    omega
theorem home_make {a n : Int} (h : makeI a n ≠ 0) : homeI (makeI a n) = a := by
  obtain ⟨h1, h2, h3, h4, e⟩ := makeI_nz h
  rw [e]
  unfold homeI
  rw [if_neg (by omega)]
  omega
theorem make_eq {a b n m : Int} (h : makeI a n ≠ 0) (k : makeI b m ≠ 0) : (makeI a n == makeI b m) = ((a == b) && (n == m)) := by
  obtain ⟨h1, h2, h3, h4, e⟩ := makeI_nz h
  obtain ⟨k1, k2, k3, k4, e'⟩ := makeI_nz k
  rw [e, e', Bool.eq_iff_iff, Bool.and_eq_true, beq_iff_eq, beq_iff_eq, beq_iff_eq]
  omega
theorem make_lt {a n m : Int} (h : makeI a n ≠ 0) (k : makeI a m ≠ 0) : decide (makeI a n < makeI a m) = decide (n < m) := by
  obtain ⟨h1, h2, h3, h4, e⟩ := makeI_nz h
  obtain ⟨k1, k2, k3, k4, e'⟩ := makeI_nz k
  rw [e, e', Bool.eq_iff_iff, decide_eq_true_eq, decide_eq_true_eq]
  omega
theorem homes_any (a b n m : Int) (w : World) (hw : Env w) : Calls Tryz.prog 15 #[.int .i64 a, .int .i64 b, .int .i64 n, .int .i64 m] w (RetB (.bool true) w) := by
  refine calls_vc lay_ok Tryz.func15 rfl (by kernel_rfl) (by kernel_rfl) ?_
  have hc := CtxF.start w no (fun _ h => h.elim) (R := fun _ _ => True) trivial Stab.true
  refine call_b (begun5_any _ hw) ?_
  intro wQ hQ
  have hc := (hc.quiet hQ).1
  refine call_b (make_any a n _) ?_
  intro wQ hQ
  have hc := (hc.quiet hQ).1
  refine call_b (make_any b m _) ?_
  intro wQ hQ
  have hc := (hc.quiet hQ).1
  refine split_ (fun hx => ?_) (fun hx => ?_)
  · refine call_b (rmake_any a n _) ?_
    intro wQ hQ
    have hc := (hc.quiet hQ).1
    refine split_t (by simp) ?_
    refine call_b (rmake_any b m _) ?_
    intro wQ hQ
    have hc := (hc.quiet hQ).1
    exact ⟨ret_bool (by simp), hc.below⟩
  · refine split_ (fun hy => ?_) (fun hy => ?_)
    · refine call_b (rmake_any a n _) ?_
      intro wQ hQ
      have hc := (hc.quiet hQ).1
      refine split_t (by simp) ?_
      refine call_b (rmake_any b m _) ?_
      intro wQ hQ
      have hc := (hc.quiet hQ).1
      exact ⟨ret_bool (by simp), hc.below⟩
    · have hx : makeI a n ≠ 0 := by simpa using hx
      have hy : makeI b m ≠ 0 := by simpa using hy
      have ha := home_make hx
      have hb := home_make hy
      refine call_b (home_any (makeI a n) _) ?_
      intro wQ hQ
      have hc := (hc.quiet hQ).1
      refine split_t (by rw [ha]; simp) ?_
      refine call_b (home_any (makeI b m) _) ?_
      intro wQ hQ
      have hc := (hc.quiet hQ).1
      refine split_t (by rw [hb]; simp) ?_
      have hq := make_eq hx hy
      repeat' (first | refine split_t (by assumption) ?_ | refine split_f (by assumption) ?_ | refine vc_nz (by decide) ?_ | refine split_ (fun _ => ?_) (fun _ => ?_))
      all_goals refine ⟨ret_bool ?_, hc.below⟩
      all_goals clear hc
      all_goals first
        | rfl
        | (have hab : a = b := by simpa using ‹(a != b) = false›
           subst hab
           rw [make_lt hx hy]
           simp)
        | (simp_all; done)
set_option maxRecDepth 100000 in
theorem deedHomes_ct {H : Type} (enc : TypeId × Value → H) (W : World) (hw : Env W) {base : Nat} (v0 : Value) (d0 : DataW H) (p0 : List MemPlace) (h0 : DataW.Trod enc Tryz.prog W 0 (fun _ => true) true 3 v0 d0 p0) (k0 : Value.okWide Tryz.prog W .any base 3 v0)
    (v1 : Value) (d1 : DataW H) (p1 : List MemPlace) (h1 : DataW.Trod enc Tryz.prog W 0 (fun _ => true) true 3 v1 d1 p1) (k1 : Value.okWide Tryz.prog W .any base 3 v1)
    (v2 : Value) (d2 : DataW H) (p2 : List MemPlace) (h2 : DataW.Trod enc Tryz.prog W 0 (fun _ => true) true 2 v2 d2 p2) (k2 : Value.okWide Tryz.prog W .any base 2 v2)
    (v3 : Value) (d3 : DataW H) (p3 : List MemPlace) (h3 : DataW.Trod enc Tryz.prog W 0 (fun _ => true) true 2 v3 d3 p3) (k3 : Value.okWide Tryz.prog W .any base 2 v3) :
    Calls Tryz.prog 15 #[v0, v1, v2, v3] W (RetB (.bool true) W) := by
  obtain ⟨a, rfl, -, -, -⟩ := open_int Tryz.underlying3 k0 h0
  obtain ⟨b, rfl, -, -, -⟩ := open_int Tryz.underlying3 k1 h1
  obtain ⟨n, rfl, -, -, -⟩ := open_int Tryz.underlying2 k2 h2
  obtain ⟨m, rfl, -, -, -⟩ := open_int Tryz.underlying2 k3 h3
  exact homes_any a b n m W hw
end Go.Proofs.YtbmoimihnndboaaGreatDoor
