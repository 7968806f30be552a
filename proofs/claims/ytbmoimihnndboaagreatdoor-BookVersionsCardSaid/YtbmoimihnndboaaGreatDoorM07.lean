import Derived.Test.YtbmoimihnndboaaGreatDoorM06
set_option linter.unusedVariables false
set_option linter.unusedSimpArgs false
namespace Go.Proofs.YtbmoimihnndboaaGreatDoor
open Go.Vc Go.RowKit Go.Fl
theorem tmay_any (e : Ent) (hk : strok e.key) (A : Option Addr) (cap : Nat) (S : Nat → Prop) (w : World) (hR : Row S w A e.vs.length cap (e.vs.map verC).flatten) :
    Calls Tryz.prog 55 #[.agg #[.string e.key, .slice A e.vs.length cap]] w (RetB (.bool (mayE e)) w) := by
  refine calls_vc lay_ok Tryz.func55 rfl (by kernel_rfl) (by kernel_rfl) ?_
  intro g1 w1 h1
  have hc := ((Ctx.start w no (fun _ h => h.elim)).loc h1).1
  refine ⟨_, hc.cell 0 rfl _ rfl, ?_⟩
  have hM := row_max hR
  refine ⟨Nat × Int, fun x => [(1, .pointer (some ⟨g1, 0, none⟩)), (3, .int .i64 x.2), (7, .slice A e.vs.length cap), (8, .int .i64 e.vs.length), (9, .int .i64 x.1)],
    fun x w' => x.1 ≤ e.vs.length ∧ risV x.2 (e.vs.drop x.1) = risV 0 e.vs ∧ Ctx no w no w' [(g1, 58, [.string e.key, .slice A e.vs.length cap])], fun x _ => e.vs.length - x.1, (0, 0),
    ⟨rfl, rfl, rfl, rfl, rfl, trivial⟩, ⟨Nat.zero_le _, rfl, hc⟩, ?_⟩
  rintro ⟨i, last⟩ w' u ⟨hi, he, hc⟩
  simp only at hi he
  by_cases hlt : i < e.vs.length
  · refine split_t (decide_eq_true (by show (i : Int) < (e.vs.length : Int); omega)) ?_
    obtain ⟨ad, rfl, hcell⟩ := RowV.elem (hR.below hc.below) i hlt
    rw [List.drop_eq_getElem_cons hlt, risV] at he
    generalize e.vs[i] = v at *
    refine ⟨⟨by omega, by omega⟩, ?_⟩
    refine ⟨verC v, rfl, hcell, ?_⟩
    intro g5 w5 h5
    have hc := (hc.loc h5).1
    refine ⟨hc.may 0 rfl 0 _ (Nat.le_refl 3) rfl, ?_⟩
    intro w6 h6
    have hc := (hc.set 0 rfl h6).1
    refine ⟨verC v, rfl, hc.cells 0 rfl, ?_⟩
    refine call_b (version_any v _) ?_
    intro w7 h7
    have hc := (hc.quiet h7).1
    have out : (verOk v && decide (last < v.ver)) = false → RetB (.bool (mayE e)) w (.returned (.bool false)) w7 := fun h => ⟨by rw [h] at he; rw [mayE, ← he]; rfl, hc.below⟩
    cases hv : verOk v
    · refine out ?_
      rw [hv]; rfl
    · refine ⟨_, hc.cell 0 rfl _ rfl, ?_⟩
      by_cases hl : last < v.ver
      · refine split_f (decide_eq_false (by show ¬ v.ver ≤ last; omega)) ?_
        refine ⟨_, hc.cell 0 rfl _ rfl, ?_⟩
        refine ⟨(i + 1, v.ver), ⟨rfl, rfl, rfl, rfl, congrArg _ (i_down (by omega)), trivial⟩, ⟨hlt, ?_, hc.drop⟩, by show e.vs.length - (i + 1) < e.vs.length - i; omega⟩
        rw [← he, hv, decide_eq_true hl]
        rfl
      · refine split_t (decide_eq_true (by show v.ver ≤ last; omega)) ?_
        refine out ?_
        rw [decide_eq_false hl, Bool.and_false]
  · refine split_f (decide_eq_false (by show ¬ (i : Int) < (e.vs.length : Int); omega)) ?_
    rw [List.drop_of_length_le (by omega), risV] at he
    have em : mayE e = (keyB e.key && decide (1 ≤ e.vs.length) && decide (e.vs.length ≤ 12)) := by rw [mayE, ← he]; rfl
    rw [em]
    refine ⟨_, hc.cell 0 rfl _ rfl, ?_⟩
    refine call_b (key_any e.key hk _) ?_
    intro w3 h3
    have hc := (hc.quiet h3).1
    cases hkk : keyB e.key
    · exact ⟨rfl, hc.below⟩
    refine ⟨_, hc.cell 0 rfl _ rfl, ?_⟩
    by_cases h1 : 1 ≤ e.vs.length
    · refine split_t (decide_eq_true (by show (1 : Int) ≤ (e.vs.length : Int); omega)) ?_
      refine ⟨_, hc.cell 0 rfl _ rfl, ?_⟩
      refine ⟨ret_bool ?_, hc.below⟩
      rw [decide_eq_true h1, Bool.true_and, Bool.true_and]
      by_cases h12 : e.vs.length ≤ 12
      · rw [decide_eq_true h12]; exact decide_eq_true (by omega)
      · rw [decide_eq_false h12]; exact decide_eq_false (by omega)
    · refine split_f (decide_eq_false (by show ¬ (1 : Int) ≤ (e.vs.length : Int); omega)) ?_
      refine ⟨ret_bool ?_, hc.below⟩
      rw [decide_eq_false h1]
      rfl
def prevV (l : List Ver) (i : Nat) : Int := if i = 0 then 0 else ((l[i - 1]?).getD Ver0).ver
theorem rmayE_any (e : Ent) (hk : strok e.key) (A : Option Addr) (cap : Nat) (S : Nat → Prop) (w : World) (hR : Row S w A e.vs.length cap (e.vs.map verC).flatten) :
    Calls Tryz.prog 56 #[.agg #[.string e.key, .slice A e.vs.length cap]] w (RetB (.bool (mayE e)) w) := by
  refine calls_vc lay_ok Tryz.func56 rfl (by kernel_rfl) (by kernel_rfl) ?_
  intro g1 w1 h1
  have hc := ((Ctx.start w no (fun _ h => h.elim)).loc h1).1
  have hM := row_max hR
  refine ⟨Nat, fun i => [(1, .pointer (some ⟨g1, 0, none⟩)), (3, .int .i64 i)],
    fun i w' => i ≤ e.vs.length ∧ risV (prevV e.vs i) (e.vs.drop i) = risV 0 e.vs ∧ Ctx no w no w' [(g1, 58, [.string e.key, .slice A e.vs.length cap])], fun i _ => e.vs.length - i, 0,
    ⟨rfl, rfl, trivial⟩, ⟨Nat.zero_le _, rfl, hc⟩, ?_⟩
  rintro i w' u ⟨hi, he, hc⟩
  refine ⟨_, hc.cell 0 rfl _ rfl, ?_⟩
  by_cases hlt : i < e.vs.length
  · refine split_t (decide_eq_true (by omega)) ?_
    obtain ⟨ad, rfl, hcell⟩ := RowV.elem (hR.below hc.below) i hlt
    have hnext : prevV e.vs (i + 1) = e.vs[i].ver := by
      rw [prevV, if_neg (by omega), Nat.add_sub_cancel, List.getElem?_eq_getElem hlt]; rfl
    rw [List.drop_eq_getElem_cons hlt, risV] at he
    generalize e.vs[i] = v at *
    refine ⟨_, hc.cell 0 rfl _ rfl, ?_⟩
    refine ⟨⟨by omega, by omega⟩, ?_⟩
    refine ⟨verC v, rfl, hcell, ?_⟩
    intro g4 w4 h4
    have hc := (hc.loc h4).1
    refine ⟨hc.may 0 rfl 0 _ (Nat.le_refl 3) rfl, ?_⟩
    intro w5 h5
    have hc := (hc.set 0 rfl h5).1
    have out : (verOk v && decide (prevV e.vs i < v.ver)) = false → RetB (.bool (mayE e)) w (.returned (.bool false)) w5.drew := fun h => ⟨by rw [h] at he; rw [mayE, ← he]; rfl, hc.drew.below⟩
    refine drawn lay_ok (by kernel_rfl) (.q 0 (.q 1 (.q 2 (.q 3 (.q 4 (.q 5 (.q 6 (.q 7 (.q 8 (.q 9 (.q 10 (.q 11 (.q 12 (.q 13 (.q 14 (.q 15 (.q 16 (.q 17 (.q 18 (.q 19 (.q 20 (.q 21 (.q 22 (.q 23 (.q 24 (.q 25 (.q 26 (.q 27 (.q 28 (.q 29 (.q 30 (.q 31 (.q 32 (.q 33 (.q 34 (.q 35 (.q 36 (.q 37 (.q 38 .fin))))))))))))))))))))))))))))))))))))))) (Keeps (fun b => b < w5.heap.size) w5) (by kernel_rfl) (Keeps.start _ _) ?_
    refine ⟨_, fun x hx => hx.look (hc.cell 0 rfl _ rfl), ?_⟩
    rcases Int.lt_or_le v.ver 1 with c1 | c1
    · refine split_t (decide_eq_true c1) ?_
      refine out ?_
      rw [verOk, decide_eq_false (show ¬ 1 ≤ v.ver by omega)]; rfl
    refine split_f (decide_eq_false (show ¬ v.ver < 1 by omega)) ?_
    refine ⟨_, fun x hx => hx.look (hc.cell 0 rfl _ rfl), ?_⟩
    rcases Int.lt_or_le 1099511627776 v.ver with c2 | c2
    · refine split_t (decide_eq_true c2) ?_
      refine out ?_
      rw [verOk, decide_eq_false (show ¬ v.ver ≤ 1099511627776 by omega), Bool.and_false]; rfl
    refine split_f (decide_eq_false (show ¬ 1099511627776 < v.ver by omega)) ?_
    have hprev : ∀ x : Int, prevV e.vs i = x → x < v.ver → decide (prevV e.vs i < v.ver) = true := fun x e1 h => decide_eq_true (by rw [e1]; exact h)
    have tail : decide (prevV e.vs i < v.ver) = true → True := fun _ => trivial
    rcases Nat.eq_zero_or_pos i with h3 | h3
    all_goals first
      | (refine split_f (decide_eq_false (show ¬ (0 : Int) < (i : Int) by omega)) ?_; have hp : decide (prevV e.vs i < v.ver) = true := hprev 0 (by rw [prevV, if_pos h3]) (by omega))
      | (refine split_t (decide_eq_true (show (0 : Int) < (i : Int) by omega)) ?_
         have hj : i - 1 < e.vs.length := by omega
         have hw : IntKind.i64.wrap ((i : Int) - 1) = ((i - 1 : Nat) : Int) := by rw [IntWalk.i64_in _ ⟨by omega, by omega⟩]; omega
         have hpv : prevV e.vs i = e.vs[i - 1].ver := by rw [prevV, if_neg (by omega), List.getElem?_eq_getElem hj]; rfl
         obtain ⟨ad', e', hcell'⟩ := RowV.elem (hR.below hc.below) (i - 1) hj
         cases e'
         refine ⟨_, fun x hx => hx.look (hc.cell 0 rfl _ rfl), ?_⟩
         refine ⟨_, fun x hx => hx.look (hc.cell 1 rfl _ rfl), ?_⟩
         refine ⟨⟨by rw [hw]; omega, by rw [hw]; omega⟩, ?_⟩
         have h0 : w5.cell? (ad.add ((IntKind.i64.wrap ((i : Int) - 1)).toNat * 3)) = some (.int .i64 e.vs[i - 1].ver) := by
           have := hcell'.1
           rw [add_add, Nat.add_zero] at this
           rw [hw, Int.toNat_natCast]
           exact this
         generalize ad.add ((IntKind.i64.wrap ((i : Int) - 1)).toNat * 3) = ae at h0 ⊢
         obtain ⟨ab, ao, asub⟩ := ae
         refine ⟨_, fun x hx => hx.look h0, ?_⟩
         rcases Int.lt_or_le e.vs[i - 1].ver v.ver with c4 | c4
         rotate_left
         · refine split_t (decide_eq_true c4) ?_
           refine out ?_
           rw [hpv, decide_eq_false (show ¬ e.vs[i - 1].ver < v.ver by omega), Bool.and_false]
         refine split_f (decide_eq_false (show ¬ v.ver ≤ e.vs[i - 1].ver by omega)) ?_
         have hp : decide (prevV e.vs i < v.ver) = true := hprev _ hpv c4)
    all_goals refine ⟨_, fun x hx => hx.look (hc.cell 0 rfl _ rfl), ?_⟩
    all_goals rcases Int.lt_or_le 300 (v.body.size : Int) with c5 | c5
    all_goals first
      | (refine split_t (decide_eq_true c5) ?_
         refine out ?_
         rw [verOk, decide_eq_false (show ¬ (v.body.size : Int) ≤ 300 by omega), Bool.and_false]; rfl)
      | (refine split_f (decide_eq_false (show ¬ 300 < (v.body.size : Int) by omega)) ?_)
    all_goals refine ⟨_, fun x hx => hx.look (hc.cell 0 rfl _ rfl), ?_⟩
    all_goals have hok3 : (decide (1 ≤ v.ver) && decide (v.ver ≤ 1099511627776) && decide ((v.body.size : Int) ≤ 300)) = true := by rw [decide_eq_true c1, decide_eq_true c2, decide_eq_true c5]; rfl
    all_goals rcases Bool.eq_false_or_eq_true v.gone with hg | hg
    all_goals first
      | (refine split_f hg ?_
         have hok : verOk v = true := by rw [verOk, hok3, hg]; rfl
         refine ⟨i + 1, ⟨rfl, congrArg _ (i_down (by omega)), trivial⟩, ⟨hlt, by rw [hnext, ← he, hok, hp]; rfl, hc.drew.drop⟩, by show e.vs.length - (i + 1) < e.vs.length - i; omega⟩)
      | (refine split_t hg ?_
         refine ⟨_, fun x hx => hx.look (hc.cell 0 rfl _ rfl), ?_⟩
         cases hm : mt v.body
         · refine split_t (by show (!strEq v.body ⟨#[]⟩) = true; rw [show strEq v.body ⟨#[]⟩ = false from hm]; rfl) ?_
           refine out ?_
           rw [verOk, hok3, hg, hm]; rfl
         · refine split_f (by show (!strEq v.body ⟨#[]⟩) = false; rw [show strEq v.body ⟨#[]⟩ = true from hm]; rfl) ?_
           have hok : verOk v = true := by rw [verOk, hok3, hm, Bool.or_true]; rfl
           refine ⟨i + 1, ⟨rfl, congrArg _ (i_down (by omega)), trivial⟩, ⟨hlt, by rw [hnext, ← he, hok, hp]; rfl, hc.drew.drop⟩, by show e.vs.length - (i + 1) < e.vs.length - i; omega⟩)
  · refine split_f (decide_eq_false (by omega)) ?_
    rw [List.drop_of_length_le (by omega), risV] at he
    have em : mayE e = (keyB e.key && decide (1 ≤ e.vs.length) && decide (e.vs.length ≤ 12)) := by rw [mayE, ← he]; rfl
    rw [em]
    refine ⟨_, hc.cell 0 rfl _ rfl, ?_⟩
    refine call_b (rkey_any e.key hk _) ?_
    intro w3 h3
    have hc := (hc.quiet h3).1
    cases hkk : keyB e.key
    · exact ⟨rfl, hc.below⟩
    refine ⟨_, hc.cell 0 rfl _ rfl, ?_⟩
    by_cases h1 : 1 ≤ e.vs.length
    · refine split_t (decide_eq_true (by show (1 : Int) ≤ (e.vs.length : Int); omega)) ?_
      refine ⟨_, hc.cell 0 rfl _ rfl, ?_⟩
      refine ⟨ret_bool ?_, hc.below⟩
      rw [decide_eq_true h1, Bool.true_and, Bool.true_and]
      by_cases h12 : e.vs.length ≤ 12
      · rw [decide_eq_true h12]; exact decide_eq_true (by omega)
      · rw [decide_eq_false h12]; exact decide_eq_false (by omega)
    · refine split_f (decide_eq_false (by show ¬ (1 : Int) ≤ (e.vs.length : Int); omega)) ?_
      refine ⟨ret_bool ?_, hc.below⟩
      rw [decide_eq_false h1]
      rfl
theorem eqAll_drop {α : Type} (p : α → α → Bool) : ∀ (a b : List α) (i : Nat), a.length = b.length → (∀ j (h1 : j < a.length) (h2 : j < b.length), j < i → p a[j] b[j] = true) → eqAll p (a.drop i) (b.drop i) = eqAll p a b
  | [], [], i, _, _ => by simp
  | x :: r, y :: t, 0, _, _ => by simp
  | x :: r, y :: t, i + 1, hl, h => by
    have h0 := h 0 (by simp) (by simp) (by omega)
    simp only [List.getElem_cons_zero] at h0
    rw [List.drop_succ_cons, List.drop_succ_cons, eqAll_drop p r t i (by simpa using hl) (fun j h1 h2 hj => h (j + 1) (by simpa using h1) (by simpa using h2) (by omega)), eqAll, h0]
    rfl
  | [], _ :: _, _, hl, _ => by simp at hl
  | _ :: _, [], _, hl, _ => by simp at hl
theorem reqE_any (a b : Ent) (A B : Option Addr) (cap cap' : Nat) (S : Nat → Prop) (w : World) (hR : Row S w A a.vs.length cap (a.vs.map verC).flatten) (hR' : Row S w B b.vs.length cap' (b.vs.map verC).flatten) :
    Calls Tryz.prog 57 #[.agg #[.string a.key, .slice A a.vs.length cap], .agg #[.string b.key, .slice B b.vs.length cap']] w (RetB (.bool (eqE a b)) w) := by
  refine calls_vc lay_ok Tryz.func57 rfl (by kernel_rfl) (by kernel_rfl) ?_
  intro g1 w1 h1
  have hc := ((Ctx.start w no (fun _ h => h.elim)).loc h1).1
  intro g2 w2 h2
  have hc := (hc.loc h2).1
  have hM := row_max hR
  refine ⟨_, hc.cell 1 rfl _ rfl, ?_⟩
  refine ⟨_, hc.cell 0 rfl _ rfl, ?_⟩
  unfold eqE
  cases hk : strEq a.key b.key
  · refine split_t (by show (!strEq a.key b.key) = true; rw [hk]; rfl) ?_
    exact ⟨rfl, hc.below⟩
  refine split_f (by show (!strEq a.key b.key) = false; rw [hk]; rfl) ?_
  refine ⟨_, hc.cell 1 rfl _ rfl, ?_⟩
  refine ⟨_, hc.cell 0 rfl _ rfl, ?_⟩
  by_cases hl : a.vs.length = b.vs.length
  rotate_left
  · refine split_t (by show ((a.vs.length : Int) != (b.vs.length : Int)) = true; rw [bne_iff_ne]; omega) ?_
    rw [eqAll_len _ _ _ hl]
    exact ⟨rfl, hc.below⟩
  refine split_f (by show ((a.vs.length : Int) != (b.vs.length : Int)) = false; rw [hl]; simp) ?_
  refine ⟨Nat, fun i => [(2, .pointer (some ⟨g1, 0, none⟩)), (3, .pointer (some ⟨g2, 0, none⟩)), (5, .int .i64 i)],
    fun i w' => i ≤ a.vs.length ∧ eqAll eqVer (a.vs.drop i) (b.vs.drop i) = eqAll eqVer a.vs b.vs ∧ Ctx no w no w' [(g2, 58, [.string b.key, .slice B b.vs.length cap']), (g1, 58, [.string a.key, .slice A a.vs.length cap])], fun i _ => a.vs.length - i, 0,
    ⟨rfl, rfl, rfl, trivial⟩, ⟨Nat.zero_le _, rfl, hc⟩, ?_⟩
  rintro i w' u ⟨hi, he, hc⟩
  refine ⟨_, hc.cell 1 rfl _ rfl, ?_⟩
  by_cases hlt : i < a.vs.length
  · refine split_t (decide_eq_true (by omega)) ?_
    obtain ⟨ad, rfl, hcell⟩ := RowV.elem (hR.below hc.below) i hlt
    obtain ⟨bd, rfl, hcell'⟩ := RowV.elem (hR'.below hc.below) i (by omega)
    rw [List.drop_eq_getElem_cons hlt, List.drop_eq_getElem_cons (show i < b.vs.length by omega), eqAll] at he
    generalize a.vs[i] = x at *
    generalize b.vs[i]'(by omega) = y at *
    refine drawn lay_ok (by kernel_rfl) (.q 0 (.q 1 (.q 2 (.q 3 (.q 4 (.q 5 (.q 6 (.q 7 (.q 8 (.q 9 (.q 10 .fin))))))))))) (Keeps (fun b => b < w'.heap.size) w') (by kernel_rfl) (Keeps.start _ _) ?_
    refine ⟨_, fun z hz => hz.look (hc.cell 1 rfl _ rfl), ?_⟩
    refine ⟨⟨by omega, by omega⟩, ?_⟩
    refine ⟨verC x, rfl, fun z hz => hz.looks _ _ hcell, ?_⟩
    refine ⟨_, fun z hz => hz.look (hc.cell 0 rfl _ rfl), ?_⟩
    refine ⟨⟨by omega, by omega⟩, ?_⟩
    refine ⟨verC y, rfl, fun z hz => hz.looks _ _ hcell', ?_⟩
    refine ⟨_, fun w => neq_run gd_ver (eqVer_in 9998 · x y) _ _ w, ?_⟩
    have hc := hc.drew
    cases hv : eqVer x y
    · rw [hv] at he
      refine ⟨?_, hc.below⟩
      rw [← he]
      rfl
    · rw [hv] at he
      refine ⟨i + 1, ⟨rfl, rfl, congrArg _ (i_down (by omega)), trivial⟩, ⟨hlt, he, hc⟩, by show a.vs.length - (i + 1) < a.vs.length - i; omega⟩
  · refine split_f (decide_eq_false (by omega)) ?_
    rw [List.drop_of_length_le (by omega), List.drop_of_length_le (by omega), eqAll] at he
    rw [← he]
    exact ⟨rfl, hc.below⟩
def RetO (e sz n : Nat) (xs : List Value) (w : World) (en : Ending) (w' : World) : Prop := ∃ A cap, en = .returned (.slice A n cap) ∧ Below w.heap.size w w' ∧ w'.ownsRow w.heap.size e sz (.slice A n cap) n xs
theorem Row.cut {S : Nat → Prop} {w : World} {A : Option Addr} {n cap k : Nat} {css : List (List Value)} (hR : Row S w A n cap css.flatten) (hF : Flat k css) (hk : 0 < k) (hn : css.length = n) (hA : A = none) : n = 0 ∧ css.flatten = [] := by
  subst hA
  rcases Nat.eq_zero_or_pos n with h | h
  · refine ⟨h, List.eq_nil_of_length_eq_zero ?_⟩
    rw [hF.len, hn, h, Nat.zero_mul]
  · obtain ⟨ad, e, _⟩ := Row.elemF hR hk hF 0 (by omega)
    cases e
theorem info_V : (Tryz.prog.info? 60).map (fun i => (i.zero, i.size, i.bytes)) = some (some (.agg #[.int .i64 0, .bool false, .string ⟨#[]⟩]), 3, 32) := by kernel_rfl
theorem slnil_V (a : Option Addr) (n c : Nat) (ox oy : Operand) (w : World) : (do eqGuard .eql 56 ox oy (.slice a n c) (.slice none 0 0); Go.binOp .eql 56 (.slice a n c) (.slice none 0 0) : Sem Value).run Tryz.prog w = .ok (.bool a.isNone) w := by
  have h := Lib.run_eql_slice_nil (P := Tryz.prog) w 56 60 a n c 0 0 Tryz.underlying56
  simp only [eqGuard]
  simpa using h
theorem cloneV_any (A : Option Addr) (n cap : Nat) (css : List (List Value)) (hF : Flat 3 css) (hn : css.length = n) (hb : n ≤ 1000000) (S : Nat → Prop) (w : World) (hR : Row S w A n cap css.flatten) :
    Calls Tryz.prog 102 #[.slice A n cap] w (RetO 60 3 n css.flatten w) := by
  refine calls_vc lay_ok Tryz.func102 rfl (by kernel_rfl) (by kernel_rfl) ?_
  refine ⟨_, fun w => slnil_V A n cap _ _ w, ?_⟩
  cases A with
  | none =>
    obtain ⟨h0, h1⟩ := Row.cut hR hF (by decide) hn rfl
    subst h0
    rw [h1]
    exact ⟨none, 0, rfl, Below.refl _ _, World.ownsRow_nil _ _ _ _⟩
  | some ad =>
    intro g w1 h1
    have hc := Ctx.start w no (fun _ h => h.elim)
    obtain ⟨hc, hf, ho⟩ := Own.made hc h1 3 0 rfl (Nat.zero_le _)
    refine app_row Tryz.underlying56 info_V rfl (by decide) hc ho (hR.below h1.below) (by rw [hF.len, hn]) hF.ones (by omega) (by decide) ?_
    intro A' cap' w2 hc hf ho _
    rw [Nat.zero_add] at ho ⊢
    rw [List.nil_append] at ho
    exact ⟨A', cap', rfl, hc.below, ho.row⟩
theorem deleteV_any {S0 S : Nat → Prop} {w0 w : World} {l : List LB} (hc : Ctx S0 w0 S w l) (css : List (List Value)) (hF : Flat 3 css) {A : Option Addr} {cap : Nat} (ho : Own S w0.heap.size w l 60 3 A css.length cap css.flatten) (i : Nat) (hi : i < css.length) (j : Int) (hj : j = i + 1) :
    Calls Tryz.prog 103 #[.slice A css.length cap, .int .i64 i, .int .i64 j] w (fun en w' => ∃ A', en = .returned (.slice A' (css.length - 1) cap) ∧ Ctx S0 w0 S w' l ∧ Fut S w S w' ∧ Own S w0.heap.size w' l 60 3 A' (css.length - 1) cap (css.take i ++ css.drop (i + 1)).flatten) := by
  cases hA : A with
  | none =>
    obtain ⟨h0, _⟩ := ho.none' hA
    omega
  | some a =>
  obtain ⟨g, cur, e1, hc, hcl, hct, hnc, hcm⟩ := ho.opened hc hA
  rw [hA] at e1
  cases e1
  have hM : cap ≤ 9223372036854775807 := Nat.le_trans hcm (by decide)
  generalize hn : css.length = n at *
  refine calls_vc lay_ok Tryz.func103 rfl (by kernel_rfl) (by kernel_rfl) ?_
  refine ⟨⟨by omega, by omega, by omega, by omega⟩, ?_⟩
  refine split_f (by show ((i : Int) == j) = false; rw [beq_eq_false_iff_ne]; omega) ?_
  refine drawn lay_ok (by kernel_rfl) (.q 0 (.q 1 (.q 2 (.q 3 (.q 4 (.q 5 (.n 6 (.q 7 .fin) .stop))))))) (fun _ => True) (by kernel_rfl) trivial ?_
  have hc := hc.drew
  refine ⟨⟨by omega, by omega, by omega, by omega⟩, ?_⟩
  refine ⟨⟨by omega, by omega, by omega, by omega⟩, ?_⟩
  refine ⟨?_, trivial⟩
  have hjn : j.toNat = i + 1 := by omega
  have hyl : ((css.drop (i + 1)).flatten).length = (n - (i + 1)) * 3 := by rw [(hF.drop _).len, List.length_drop, hn]
  have hcd : (cur.drop ((i + 1) * 3)).take ((css.drop (i + 1)).flatten).length = (css.drop (i + 1)).flatten := by
    rw [hF.flat_drop, ← hct, List.drop_take, List.length_take, List.length_drop, hcl]
    congr 1
    omega
  have hcells : ∀ ad : Addr, ad = (if (cap : Int) = j then (⟨g, 0, none⟩ : Addr) else (⟨g, 0, none⟩ : Addr).add (j.toNat * 3)) → Go.Vc.cellsAt w.drew ad (css.drop (i + 1)).flatten 0 := by
    intro ad had
    by_cases hcj : (cap : Int) = j
    · have : (css.drop (i + 1)).flatten = [] := List.eq_nil_of_length_eq_zero (by rw [hyl]; omega)
      rw [this]; trivial
    · rw [if_neg hcj, Addr.add_lit, Nat.zero_add, hjn] at had
      rw [had]
      exact hc.cellsAt 0 rfl _ _ hcd
  refine app_room Tryz.underlying56 info_V hc hcl (n := i) (m := n - (i + 1)) (c := ((cap : Int) - j).toNat) (by omega) hyl (hcells _ rfl) (hF.drop _).ones ?_ ?_ ?_
  · have e0 : (if (cap : Int) = 0 then some (⟨g, 0, none⟩ : Addr) else (some (⟨g, 0, none⟩ : Addr)).map (·.add ((0 : Int).toNat * 3))) = some ⟨g, 0, none⟩ := by split <;> rfl
    show Value.slice (if (cap : Int) = 0 then some (⟨g, 0, none⟩ : Addr) else (some (⟨g, 0, none⟩ : Addr)).map (·.add ((0 : Int).toNat * 3))) ((i : Int) - 0).toNat ((cap : Int) - 0).toNat = _
    rw [e0]
    congr 1 <;> omega
  · show Value.slice (if (cap : Int) = j then some (⟨g, 0, none⟩ : Addr) else (some (⟨g, 0, none⟩ : Addr)).map (·.add (j.toNat * 3))) ((n : Int) - j).toNat ((cap : Int) - j).toNat = _
    have e0 : (if (cap : Int) = j then some (⟨g, 0, none⟩ : Addr) else (some (⟨g, 0, none⟩ : Addr)).map (·.add (j.toNat * 3))) = some (if (cap : Int) = j then (⟨g, 0, none⟩ : Addr) else (⟨g, 0, none⟩ : Addr).add (j.toNat * 3)) := by split <;> rfl
    rw [e0]
    congr 1
    omega
  intro w2 hc hf2
  refine ⟨trivial, ?_⟩
  have hn1 : i + (n - (i + 1)) = n - 1 := by omega
  rw [hn1]
  have hcur2 : (cur.take (i * 3) ++ (css.drop (i + 1)).flatten ++ cur.drop ((i + (n - (i + 1))) * 3)).length = cap * 3 := by
    rw [List.length_append, List.length_append, List.length_take, List.length_drop, hyl, hcl]
    omega
  have htk2 : (cur.take (i * 3) ++ (css.drop (i + 1)).flatten ++ cur.drop ((i + (n - (i + 1))) * 3)).take ((n - 1) * 3) = (css.take i ++ css.drop (i + 1)).flatten := by
    have e1 : (cur.take (i * 3) ++ (css.drop (i + 1)).flatten).length = (n - 1) * 3 := by rw [List.length_append, List.length_take, hyl, hcl]; omega
    rw [List.take_left' e1, List.flatten_append, hF.flat_take, ← hct, List.take_take]
    congr 2
    omega
  generalize cur.take (i * 3) ++ (css.drop (i + 1)).flatten ++ cur.drop ((i + (n - (i + 1))) * 3) = cur2 at *
  refine ⟨⟨by omega, by omega, by omega, by omega⟩, ?_⟩
  refine clear_run Tryz.underlying56 (z := .agg #[.int .i64 0, .bool false, .string ⟨#[]⟩]) (fun w => by kernel_rfl) (a := ⟨g, (n - 1) * 3, none⟩) (n := 1) (c := cap - (n - 1)) (by decide) ?_ (zs := [.int .i64 0, .bool false, .string ⟨#[]⟩]) (by kernel_rfl) (hc.may 0 rfl ((n - 1) * 3) [.int .i64 0, .bool false, .string ⟨#[]⟩] (by rw [hcur2]; show (n - 1) * 3 + 3 ≤ _; omega) rfl) ?_
  · show Value.slice (if (cap : Int) = ((n - 1 : Nat) : Int) then some (⟨g, 0, none⟩ : Addr) else (some (⟨g, 0, none⟩ : Addr)).map (·.add (((n - 1 : Nat) : Int).toNat * 3))) ((n : Int) - ((n - 1 : Nat) : Int)).toNat ((cap : Int) - ((n - 1 : Nat) : Int)).toNat = _
    rw [if_neg (by omega), Option.map_some, Addr.add_lit, Nat.zero_add, Int.toNat_natCast]
    congr 1 <;> omega
  intro w3 h3
  have hC := hc.set 0 rfl h3
  have hc := hC.1
  have hlen3 : (putAt cur2 ((n - 1) * 3) [.int .i64 0, .bool false, .string ⟨#[]⟩]).length = cap * 3 := by rw [putAt_len, hcur2]
  obtain ⟨hc, ho⟩ := Ctx.closed hc 3 (n - 1) cap (by omega) hcm hlen3
  refine ⟨some ⟨g, 0, none⟩, rfl, hc, hf2.trans hC.2, ?_⟩
  rw [← htk2]
  have e3 : (putAt cur2 ((n - 1) * 3) [.int .i64 0, .bool false, .string ⟨#[]⟩]).take ((n - 1) * 3) = cur2.take ((n - 1) * 3) := by
    rw [putAt_eq _ _ _ (by rw [hcur2]; show (n - 1) * 3 + 3 ≤ _; omega), List.append_assoc, List.take_left' (by rw [List.length_take, hcur2]; omega)]
  rw [← e3]
  exact ho
theorem info_E : (Tryz.prog.info? 58).map (fun i => (i.zero, i.size, i.bytes)) = some (some (.agg #[.string ⟨#[]⟩, .slice none 0 0]), 2, 40) := by kernel_rfl
theorem slnil_E (a : Option Addr) (n c : Nat) (ox oy : Operand) (w : World) : (do eqGuard .eql 74 ox oy (.slice a n c) (.slice none 0 0); Go.binOp .eql 74 (.slice a n c) (.slice none 0 0) : Sem Value).run Tryz.prog w = .ok (.bool a.isNone) w := by
  have h := Lib.run_eql_slice_nil (P := Tryz.prog) w 74 58 a n c 0 0 Tryz.underlying74
  simp only [eqGuard]
  simpa using h
theorem cloneE_any (A : Option Addr) (n cap : Nat) (css : List (List Value)) (hF : Flat 2 css) (hn : css.length = n) (hb : n ≤ 1000000) (S : Nat → Prop) (w : World) (hR : Row S w A n cap css.flatten) :
    Calls Tryz.prog 161 #[.slice A n cap] w (RetO 58 2 n css.flatten w) := by
  refine calls_vc lay_ok Tryz.func161 rfl (by kernel_rfl) (by kernel_rfl) ?_
  refine ⟨_, fun w => slnil_E A n cap _ _ w, ?_⟩
  cases A with
  | none =>
    obtain ⟨h0, h1⟩ := Row.cut hR hF (by decide) hn rfl
    subst h0
    rw [h1]
    exact ⟨none, 0, rfl, Below.refl _ _, World.ownsRow_nil _ _ _ _⟩
  | some ad =>
    intro g w1 h1
    have hc := Ctx.start w no (fun _ h => h.elim)
    obtain ⟨hc, hf, ho⟩ := Own.made hc h1 2 0 rfl (Nat.zero_le _)
    refine app_row Tryz.underlying74 info_E rfl (by decide) hc ho (hR.below h1.below) (by rw [hF.len, hn]) hF.ones (by omega) (by decide) ?_
    intro A' cap' w2 hc hf ho _
    rw [Nat.zero_add] at ho ⊢
    rw [List.nil_append] at ho
    exact ⟨A', cap', rfl, hc.below, ho.row⟩
theorem deleteE_any {S0 S : Nat → Prop} {w0 w : World} {l : List LB} (hc : Ctx S0 w0 S w l) (css : List (List Value)) (hF : Flat 2 css) {A : Option Addr} {cap : Nat} (ho : Own S w0.heap.size w l 58 2 A css.length cap css.flatten) (i : Nat) (hi : i < css.length) (j : Int) (hj : j = i + 1) :
    Calls Tryz.prog 182 #[.slice A css.length cap, .int .i64 i, .int .i64 j] w (fun en w' => ∃ A', en = .returned (.slice A' (css.length - 1) cap) ∧ Ctx S0 w0 S w' l ∧ Fut S w S w' ∧ Own S w0.heap.size w' l 58 2 A' (css.length - 1) cap (css.take i ++ css.drop (i + 1)).flatten) := by
  cases hA : A with
  | none =>
    obtain ⟨h0, _⟩ := ho.none' hA
    omega
  | some a =>
  obtain ⟨g, cur, e1, hc, hcl, hct, hnc, hcm⟩ := ho.opened hc hA
  rw [hA] at e1
  cases e1
  have hM : cap ≤ 9223372036854775807 := Nat.le_trans hcm (by decide)
  generalize hn : css.length = n at *
  refine calls_vc lay_ok Tryz.func182 rfl (by kernel_rfl) (by kernel_rfl) ?_
  refine ⟨⟨by omega, by omega, by omega, by omega⟩, ?_⟩
  refine split_f (by show ((i : Int) == j) = false; rw [beq_eq_false_iff_ne]; omega) ?_
  refine drawn lay_ok (by kernel_rfl) (.q 0 (.q 1 (.q 2 (.q 3 (.q 4 (.q 5 (.n 6 (.q 7 .fin) .stop))))))) (fun _ => True) (by kernel_rfl) trivial ?_
  have hc := hc.drew
  refine ⟨⟨by omega, by omega, by omega, by omega⟩, ?_⟩
  refine ⟨⟨by omega, by omega, by omega, by omega⟩, ?_⟩
  refine ⟨?_, trivial⟩
  have hjn : j.toNat = i + 1 := by omega
  have hyl : ((css.drop (i + 1)).flatten).length = (n - (i + 1)) * 2 := by rw [(hF.drop _).len, List.length_drop, hn]
  have hcd : (cur.drop ((i + 1) * 2)).take ((css.drop (i + 1)).flatten).length = (css.drop (i + 1)).flatten := by
    rw [hF.flat_drop, ← hct, List.drop_take, List.length_take, List.length_drop, hcl]
    congr 1
    omega
  have hcells : ∀ ad : Addr, ad = (if (cap : Int) = j then (⟨g, 0, none⟩ : Addr) else (⟨g, 0, none⟩ : Addr).add (j.toNat * 2)) → Go.Vc.cellsAt w.drew ad (css.drop (i + 1)).flatten 0 := by
    intro ad had
    by_cases hcj : (cap : Int) = j
    · have : (css.drop (i + 1)).flatten = [] := List.eq_nil_of_length_eq_zero (by rw [hyl]; omega)
      rw [this]; trivial
    · rw [if_neg hcj, Addr.add_lit, Nat.zero_add, hjn] at had
      rw [had]
      exact hc.cellsAt 0 rfl _ _ hcd
  refine app_room Tryz.underlying74 info_E hc hcl (n := i) (m := n - (i + 1)) (c := ((cap : Int) - j).toNat) (by omega) hyl (hcells _ rfl) (hF.drop _).ones ?_ ?_ ?_
  · have e0 : (if (cap : Int) = 0 then some (⟨g, 0, none⟩ : Addr) else (some (⟨g, 0, none⟩ : Addr)).map (·.add ((0 : Int).toNat * 2))) = some ⟨g, 0, none⟩ := by split <;> rfl
    show Value.slice (if (cap : Int) = 0 then some (⟨g, 0, none⟩ : Addr) else (some (⟨g, 0, none⟩ : Addr)).map (·.add ((0 : Int).toNat * 2))) ((i : Int) - 0).toNat ((cap : Int) - 0).toNat = _
    rw [e0]
    congr 1 <;> omega
  · show Value.slice (if (cap : Int) = j then some (⟨g, 0, none⟩ : Addr) else (some (⟨g, 0, none⟩ : Addr)).map (·.add (j.toNat * 2))) ((n : Int) - j).toNat ((cap : Int) - j).toNat = _
    have e0 : (if (cap : Int) = j then some (⟨g, 0, none⟩ : Addr) else (some (⟨g, 0, none⟩ : Addr)).map (·.add (j.toNat * 2))) = some (if (cap : Int) = j then (⟨g, 0, none⟩ : Addr) else (⟨g, 0, none⟩ : Addr).add (j.toNat * 2)) := by split <;> rfl
    rw [e0]
    congr 1
    omega
  intro w2 hc hf2
  refine ⟨trivial, ?_⟩
  have hn1 : i + (n - (i + 1)) = n - 1 := by omega
  rw [hn1]
  have hcur2 : (cur.take (i * 2) ++ (css.drop (i + 1)).flatten ++ cur.drop ((i + (n - (i + 1))) * 2)).length = cap * 2 := by
    rw [List.length_append, List.length_append, List.length_take, List.length_drop, hyl, hcl]
    omega
  have htk2 : (cur.take (i * 2) ++ (css.drop (i + 1)).flatten ++ cur.drop ((i + (n - (i + 1))) * 2)).take ((n - 1) * 2) = (css.take i ++ css.drop (i + 1)).flatten := by
    have e1 : (cur.take (i * 2) ++ (css.drop (i + 1)).flatten).length = (n - 1) * 2 := by rw [List.length_append, List.length_take, hyl, hcl]; omega
    rw [List.take_left' e1, List.flatten_append, hF.flat_take, ← hct, List.take_take]
    congr 2
    omega
  generalize cur.take (i * 2) ++ (css.drop (i + 1)).flatten ++ cur.drop ((i + (n - (i + 1))) * 2) = cur2 at *
  refine ⟨⟨by omega, by omega, by omega, by omega⟩, ?_⟩
  refine clear_run Tryz.underlying74 (z := .agg #[.string ⟨#[]⟩, .slice none 0 0]) (fun w => by kernel_rfl) (a := ⟨g, (n - 1) * 2, none⟩) (n := 1) (c := cap - (n - 1)) (by decide) ?_ (zs := [.string ⟨#[]⟩, .slice none 0 0]) (by kernel_rfl) (hc.may 0 rfl ((n - 1) * 2) [.string ⟨#[]⟩, .slice none 0 0] (by rw [hcur2]; show (n - 1) * 2 + 2 ≤ _; omega) rfl) ?_
  · show Value.slice (if (cap : Int) = ((n - 1 : Nat) : Int) then some (⟨g, 0, none⟩ : Addr) else (some (⟨g, 0, none⟩ : Addr)).map (·.add (((n - 1 : Nat) : Int).toNat * 2))) ((n : Int) - ((n - 1 : Nat) : Int)).toNat ((cap : Int) - ((n - 1 : Nat) : Int)).toNat = _
    rw [if_neg (by omega), Option.map_some, Addr.add_lit, Nat.zero_add, Int.toNat_natCast]
    congr 1 <;> omega
  intro w3 h3
  have hC := hc.set 0 rfl h3
  have hc := hC.1
  have hlen3 : (putAt cur2 ((n - 1) * 2) [.string ⟨#[]⟩, .slice none 0 0]).length = cap * 2 := by rw [putAt_len, hcur2]
  obtain ⟨hc, ho⟩ := Ctx.closed hc 2 (n - 1) cap (by omega) hcm hlen3
  refine ⟨some ⟨g, 0, none⟩, rfl, hc, hf2.trans hC.2, ?_⟩
  rw [← htk2]
  have e3 : (putAt cur2 ((n - 1) * 2) [.string ⟨#[]⟩, .slice none 0 0]).take ((n - 1) * 2) = cur2.take ((n - 1) * 2) := by
    rw [putAt_eq _ _ _ (by rw [hcur2]; show (n - 1) * 2 + 2 ≤ _; omega), List.append_assoc, List.take_left' (by rw [List.length_take, hcur2]; omega)]
  rw [← e3]
  exact ho
theorem info_M : (Tryz.prog.info? 147).map (fun i => (i.zero, i.size, i.bytes)) = some (some (.agg #[.int .i64 0, .int .i64 0, .int .i64 0]), 3, 24) := by kernel_rfl
theorem slnil_M (a : Option Addr) (n c : Nat) (ox oy : Operand) (w : World) : (do eqGuard .eql 75 ox oy (.slice a n c) (.slice none 0 0); Go.binOp .eql 75 (.slice a n c) (.slice none 0 0) : Sem Value).run Tryz.prog w = .ok (.bool a.isNone) w := by
  have h := Lib.run_eql_slice_nil (P := Tryz.prog) w 75 147 a n c 0 0 Tryz.underlying75
  simp only [eqGuard]
  simpa using h
theorem cloneM_any (A : Option Addr) (n cap : Nat) (css : List (List Value)) (hF : Flat 3 css) (hn : css.length = n) (hb : n ≤ 1000000) (S : Nat → Prop) (w : World) (hR : Row S w A n cap css.flatten) :
    Calls Tryz.prog 130 #[.slice A n cap] w (RetO 147 3 n css.flatten w) := by
  refine calls_vc lay_ok Tryz.func130 rfl (by kernel_rfl) (by kernel_rfl) ?_
  refine ⟨_, fun w => slnil_M A n cap _ _ w, ?_⟩
  cases A with
  | none =>
    obtain ⟨h0, h1⟩ := Row.cut hR hF (by decide) hn rfl
    subst h0
    rw [h1]
    exact ⟨none, 0, rfl, Below.refl _ _, World.ownsRow_nil _ _ _ _⟩
  | some ad =>
    intro g w1 h1
    have hc := Ctx.start w no (fun _ h => h.elim)
    obtain ⟨hc, hf, ho⟩ := Own.made hc h1 3 0 rfl (Nat.zero_le _)
    refine app_row Tryz.underlying75 info_M rfl (by decide) hc ho (hR.below h1.below) (by rw [hF.len, hn]) hF.ones (by omega) (by decide) ?_
    intro A' cap' w2 hc hf ho _
    rw [Nat.zero_add] at ho ⊢
    rw [List.nil_append] at ho
    exact ⟨A', cap', rfl, hc.below, ho.row⟩
def RetA (A : Option Addr) (cap : Nat) (e : Ent) (q : Ent × Bool) (w : World) (en : Ending) (w' : World) : Prop :=
  if q.2 then ∃ A' cap', en = .returned (.tuple #[.agg #[.string q.1.key, .slice A' q.1.vs.length cap'], .bool true]) ∧ Below w.heap.size w w' ∧ w'.ownsRow w.heap.size 60 3 (.slice A' q.1.vs.length cap') q.1.vs.length (q.1.vs.map verC).flatten
  else en = .returned (.tuple #[.agg #[.string e.key, .slice A e.vs.length cap], .bool false]) ∧ Below w.heap.size w w'
theorem snocC (l : List Ver) (v : Ver) : (l.map verC).flatten ++ verC v = ((l ++ [v]).map verC).flatten := by simp
theorem cutC (l : List Ver) (i : Nat) : ((l.map verC).take i ++ (l.map verC).drop (i + 1)).flatten = ((l.take i ++ l.drop (i + 1)).map verC).flatten := by simp
set_option maxHeartbeats 1000000 in
theorem add_any (e : Ent) (v : Ver) (A : Option Addr) (cap : Nat) (hb : e.vs.length ≤ 1000000) (S : Nat → Prop) (w : World) (hR : Row S w A e.vs.length cap (e.vs.map verC).flatten) :
    Calls Tryz.prog 51 #[.agg #[.string e.key, .slice A e.vs.length cap], .agg (verC v).toArray] w (RetA A cap e (addE e v) w) := by
  refine calls_vc lay_ok Tryz.func51 rfl (by kernel_rfl) (by kernel_rfl) ?_
  intro g1 w1 h1
  have hc := ((Ctx.start w no (fun _ h => h.elim)).loc h1).1
  intro g2 w2 h2
  have hc := (hc.loc h2).1
  intro g3 w3 h3
  have hc := (hc.loc h3).1
  refine ⟨_, ?_, hc.cells 2 rfl, ?_⟩
  · rfl
  refine call_b (now_any e A cap S w3 (hR.below hc.below)) ?_
  intro w4 h4
  have hc := (hc.quiet h4).1
  have hM := row_max hR
  intro g5 w5 h5
  have hc := (hc.loc h5).1
  refine ⟨hc.may 0 rfl 0 _ (Nat.le_refl 3) rfl, ?_⟩
  intro w6 h6
  have hc := (hc.set 0 rfl h6).1
  refine ⟨_, hc.cell 3 rfl _ rfl, ?_⟩
  have bad : ((e.vs.length ≠ 0 ∧ v.ver ≤ (lastV e.vs).ver) ∨ 12 ≤ e.vs.length) → addE e v = (e, false) := fun h => by rw [addE, if_pos h]
  have full : ∀ h : e.vs.length ≠ 0 → ¬ v.ver ≤ (lastV e.vs).ver, 12 ≤ e.vs.length ∨ addE e v = (⟨e.key, e.vs ++ [v]⟩, true) := fun h => by
    rcases Nat.lt_or_ge e.vs.length 12 with h12 | h12
    · right
      rw [addE, if_neg]
      rintro (h' | h')
      · exact h h'.1 h'.2
      · omega
    · exact .inl h12
  rcases Nat.eq_zero_or_pos e.vs.length with h0 | h0
  all_goals first
    | (refine split_f (decide_eq_false (show ¬ (0 : Int) < (e.vs.length : Int) by omega)) ?_
       have full := full (fun h => absurd h0 h))
    | (refine split_t (decide_eq_true (show (0 : Int) < (e.vs.length : Int) by omega)) ?_
       have hn : nowE e = (lastV e.vs, !(lastV e.vs).gone) := by rw [nowE, if_neg (by omega)]
       rw [hn] at hc
       refine ⟨_, hc.cell 2 rfl _ rfl, ?_⟩
       have hlv : w6.cell? ⟨g5, 0, none⟩ = some (.int .i64 (lastV e.vs).ver) := hc.cell 0 rfl _ rfl
       refine ⟨_, hlv, ?_⟩
       rcases Int.lt_or_le (lastV e.vs).ver v.ver with hl | hl
       rotate_left
       · refine split_t (decide_eq_true hl) ?_
         repeat (first | (intro gA wA hA; have hc := (hc.loc hA).1) | refine ⟨_, hc.cell 0 rfl _ rfl, ?_⟩ | (refine ⟨_, ?_, hc.cells 0 rfl, ?_⟩; (· rfl)) | (refine ⟨hc.may 0 rfl _ _ (nle rfl) rfl, ?_⟩; intro wA hA; have hc := (hc.set 0 rfl hA).1) | refine ⟨_, hc.cell 1 rfl _ rfl, ?_⟩ | (refine ⟨_, ?_, hc.cells 1 rfl, ?_⟩; (· rfl)) | (refine ⟨hc.may 1 rfl _ _ (nle rfl) rfl, ?_⟩; intro wA hA; have hc := (hc.set 1 rfl hA).1) | refine ⟨_, hc.cell 2 rfl _ rfl, ?_⟩ | (refine ⟨_, ?_, hc.cells 2 rfl, ?_⟩; (· rfl)) | (refine ⟨hc.may 2 rfl _ _ (nle rfl) rfl, ?_⟩; intro wA hA; have hc := (hc.set 2 rfl hA).1) | refine ⟨_, hc.cell 3 rfl _ rfl, ?_⟩ | (refine ⟨_, ?_, hc.cells 3 rfl, ?_⟩; (· rfl)) | (refine ⟨hc.may 3 rfl _ _ (nle rfl) rfl, ?_⟩; intro wA hA; have hc := (hc.set 3 rfl hA).1) | refine ⟨_, hc.cell 4 rfl _ rfl, ?_⟩ | (refine ⟨_, ?_, hc.cells 4 rfl, ?_⟩; (· rfl)) | (refine ⟨hc.may 4 rfl _ _ (nle rfl) rfl, ?_⟩; intro wA hA; have hc := (hc.set 4 rfl hA).1))
         rw [bad (.inl ⟨by omega, hl⟩)]
         exact ⟨rfl, hc.below⟩
       refine split_f (decide_eq_false (show ¬ v.ver ≤ (lastV e.vs).ver by omega)) ?_
       have full := full (fun _ => by omega))
  all_goals refine ⟨_, hc.cell 3 rfl _ rfl, ?_⟩
  all_goals rcases Nat.lt_or_ge e.vs.length 12 with h12 | h12
  all_goals first
    | (refine split_t (decide_eq_true (show (12 : Int) ≤ (e.vs.length : Int) by omega)) ?_
       repeat (first | (intro gA wA hA; have hc := (hc.loc hA).1) | refine ⟨_, hc.cell 0 rfl _ rfl, ?_⟩ | (refine ⟨_, ?_, hc.cells 0 rfl, ?_⟩; (· rfl)) | (refine ⟨hc.may 0 rfl _ _ (nle rfl) rfl, ?_⟩; intro wA hA; have hc := (hc.set 0 rfl hA).1) | refine ⟨_, hc.cell 1 rfl _ rfl, ?_⟩ | (refine ⟨_, ?_, hc.cells 1 rfl, ?_⟩; (· rfl)) | (refine ⟨hc.may 1 rfl _ _ (nle rfl) rfl, ?_⟩; intro wA hA; have hc := (hc.set 1 rfl hA).1) | refine ⟨_, hc.cell 2 rfl _ rfl, ?_⟩ | (refine ⟨_, ?_, hc.cells 2 rfl, ?_⟩; (· rfl)) | (refine ⟨hc.may 2 rfl _ _ (nle rfl) rfl, ?_⟩; intro wA hA; have hc := (hc.set 2 rfl hA).1) | refine ⟨_, hc.cell 3 rfl _ rfl, ?_⟩ | (refine ⟨_, ?_, hc.cells 3 rfl, ?_⟩; (· rfl)) | (refine ⟨hc.may 3 rfl _ _ (nle rfl) rfl, ?_⟩; intro wA hA; have hc := (hc.set 3 rfl hA).1) | refine ⟨_, hc.cell 4 rfl _ rfl, ?_⟩ | (refine ⟨_, ?_, hc.cells 4 rfl, ?_⟩; (· rfl)) | (refine ⟨hc.may 4 rfl _ _ (nle rfl) rfl, ?_⟩; intro wA hA; have hc := (hc.set 4 rfl hA).1))
       rw [bad (.inr h12)]
       exact ⟨rfl, hc.below⟩)
    | (refine split_f (decide_eq_false (show ¬ (12 : Int) ≤ (e.vs.length : Int) by omega)) ?_
       have full := full.resolve_left (by omega)
       rw [full]
       refine drawn lay_ok (by kernel_rfl) (.q 0 (.q 1 (.q 2 (.q 3 (.q 5 (.n 4 (.n 6 (.n 7 (.q 8 (.n 9 (.q 10 .fin) .stop)) .stop) .stop) (.n 6 (.n 4 (.n 7 (.q 8 (.n 9 (.q 10 .fin) .stop)) .stop) .stop) .stop))))))) (fun x => Blk x g1 58 [.string e.key, .slice A e.vs.length cap] ∧ Blk x g2 60 (verC v)) (by kernel_rfl) ⟨hc.blk 3 rfl, hc.blk 2 rfl⟩ ?_
       have hc := hc.drew
       refine ⟨_, fun x hx => hx.1.cell 0, ?_⟩
       refine ⟨_, fun x hx => hx.1.cell 1, ?_⟩
       refine ⟨verC v, rfl, fun x hx => ⟨hx.2.cell 0, hx.2.cell 1, hx.2.cell 2, trivial⟩, ?_⟩
       refine ⟨?_, ?_, trivial⟩
       · refine ⟨(cloneV_any A e.vs.length cap (e.vs.map verC) (verC_flat _) (by rw [List.length_map]) hb S _ (hR.below hc.below)).mono fun en w7 hq => ?_⟩
         obtain ⟨A1, cap1, e1, h7, ho⟩ := hq
         obtain ⟨hc, _, ho⟩ := hc.fresh h7 ho
         refine ⟨_, e1, ⟨hc.blk 3 rfl, hc.blk 2 rfl⟩, ?_⟩
         refine ⟨?_, trivial⟩
         intro g8 w8 h8
         have ho := ho.loc h8
         have hc := (hc.loc h8).1
         refine ⟨⟨hc.blk 4 rfl, hc.blk 3 rfl⟩, ?_⟩
         refine ⟨?_, trivial⟩
         refine app_own Tryz.underlying56 info_V rfl (by decide) hc ho (ys := verC v) rfl (hc.cells 0 rfl) rfl (by omega) (by decide) ?_
         intro A2 cap2 w9 hc _ ho _
         refine ⟨⟨hc.blk 4 rfl, hc.blk 3 rfl⟩, ?_⟩
         refine ⟨?_, trivial⟩
         refine ⟨hc.may 2 rfl 0 _ (Nat.le_refl 2) rfl, ?_⟩
         intro w10 h10
         have ho := ho.set hc 2 rfl h10
         have hc := (hc.set 2 rfl h10).1
         refine ⟨⟨hc.blk 4 rfl, hc.blk 3 rfl⟩, ?_⟩
         refine ⟨_, ?_, hc.cells 2 rfl, ?_⟩
         · rfl
         have ho := ho.row
         rw [snocC] at ho
         have hlen : (e.vs ++ [v]).length = e.vs.length + 1 := by simp
         refine ⟨A2, cap2, ?_, hc.below, ?_⟩
         · simp only [hlen]; rfl
         · simp only [hlen]; exact ho
       · intro g8 w8 h8
         have hc := (hc.loc h8).1
         refine ⟨⟨hc.blk 4 rfl, hc.blk 3 rfl⟩, ?_⟩
         refine ⟨?_, trivial⟩
         refine ⟨(cloneV_any A e.vs.length cap (e.vs.map verC) (verC_flat _) (by rw [List.length_map]) hb S _ (hR.below hc.below)).mono fun en w7 hq => ?_⟩
         obtain ⟨A1, cap1, e1, h7, ho⟩ := hq
         obtain ⟨hc, _, ho⟩ := hc.fresh h7 ho
         refine ⟨_, e1, ⟨hc.blk 4 rfl, hc.blk 3 rfl⟩, ?_⟩
         refine ⟨?_, trivial⟩
         refine app_own Tryz.underlying56 info_V rfl (by decide) hc ho (ys := verC v) rfl (hc.cells 0 rfl) rfl (by omega) (by decide) ?_
         intro A2 cap2 w9 hc _ ho _
         refine ⟨⟨hc.blk 4 rfl, hc.blk 3 rfl⟩, ?_⟩
         refine ⟨?_, trivial⟩
         refine ⟨hc.may 2 rfl 0 _ (Nat.le_refl 2) rfl, ?_⟩
         intro w10 h10
         have ho := ho.set hc 2 rfl h10
         have hc := (hc.set 2 rfl h10).1
         refine ⟨⟨hc.blk 4 rfl, hc.blk 3 rfl⟩, ?_⟩
         refine ⟨_, ?_, hc.cells 2 rfl, ?_⟩
         · rfl
         have ho := ho.row
         rw [snocC] at ho
         have hlen : (e.vs ++ [v]).length = e.vs.length + 1 := by simp
         refine ⟨A2, cap2, ?_, hc.below, ?_⟩
         · simp only [hlen]; rfl
         · simp only [hlen]; exact ho)
theorem purge_any (e : Ent) (n : Int) (A : Option Addr) (cap : Nat) (hb : e.vs.length ≤ 1000000) (S : Nat → Prop) (w : World) (hR : Row S w A e.vs.length cap (e.vs.map verC).flatten) :
    Calls Tryz.prog 53 #[.agg #[.string e.key, .slice A e.vs.length cap], .int .i64 n] w (RetA A cap e (purgeE e n) w) := by
  refine calls_vc lay_ok Tryz.func53 rfl (by kernel_rfl) (by kernel_rfl) ?_
  intro g1 w1 h1
  have hc := ((Ctx.start w no (fun _ h => h.elim)).loc h1).1
  intro g2 w2 h2
  have hc := (hc.loc h2).1
  refine ⟨_, ?_, hc.cells 1 rfl, ?_⟩
  · rfl
  refine call_b (place_any e n A cap S w2 (hR.below hc.below)) ?_
  intro w3 h3
  have hc := (hc.quiet h3).1
  have hM := row_max hR
  unfold purgeE
  cases hi : idxV e.vs n with
  | none =>
    repeat (first | (intro gA wA hA; have hc := (hc.loc hA).1) | refine ⟨_, hc.cell 0 rfl _ rfl, ?_⟩ | (refine ⟨_, ?_, hc.cells 0 rfl, ?_⟩; (· rfl)) | (refine ⟨hc.may 0 rfl _ _ (nle rfl) rfl, ?_⟩; intro wA hA; have hc := (hc.set 0 rfl hA).1) | refine ⟨_, hc.cell 1 rfl _ rfl, ?_⟩ | (refine ⟨_, ?_, hc.cells 1 rfl, ?_⟩; (· rfl)) | (refine ⟨hc.may 1 rfl _ _ (nle rfl) rfl, ?_⟩; intro wA hA; have hc := (hc.set 1 rfl hA).1) | refine ⟨_, hc.cell 2 rfl _ rfl, ?_⟩ | (refine ⟨_, ?_, hc.cells 2 rfl, ?_⟩; (· rfl)) | (refine ⟨hc.may 2 rfl _ _ (nle rfl) rfl, ?_⟩; intro wA hA; have hc := (hc.set 2 rfl hA).1) | refine ⟨_, hc.cell 3 rfl _ rfl, ?_⟩ | (refine ⟨_, ?_, hc.cells 3 rfl, ?_⟩; (· rfl)) | (refine ⟨hc.may 3 rfl _ _ (nle rfl) rfl, ?_⟩; intro wA hA; have hc := (hc.set 3 rfl hA).1) | refine ⟨_, hc.cell 4 rfl _ rfl, ?_⟩ | (refine ⟨_, ?_, hc.cells 4 rfl, ?_⟩; (· rfl)) | (refine ⟨hc.may 4 rfl _ _ (nle rfl) rfl, ?_⟩; intro wA hA; have hc := (hc.set 4 rfl hA).1))
    exact ⟨rfl, hc.below⟩
  | some i =>
    obtain ⟨hlt, _⟩ := idxV_lt hi
    refine drawn lay_ok (by kernel_rfl) (.q 0 (.q 1 (.q 2 (.q 3 (.q 5 (.q 6 (.q 7 (.n 4 (.n 8 (.q 9 (.n 10 (.q 11 .fin) .stop)) .stop) .stop)))))))) (fun x => Blk x g1 58 [.string e.key, .slice A e.vs.length cap]) (by kernel_rfl) (hc.blk 1 rfl) ?_
    have hc := hc.drew
    refine ⟨_, fun x hx => hx.cell 0, ?_⟩
    refine ⟨_, fun x hx => hx.cell 1, ?_⟩
    refine ⟨?_, trivial⟩
    refine ⟨(cloneV_any A e.vs.length cap (e.vs.map verC) (verC_flat _) (by rw [List.length_map]) hb S _ (hR.below hc.below)).mono fun en w7 hq => ?_⟩
    obtain ⟨A1, cap1, e1, h7, ho⟩ := hq
    obtain ⟨hc, _, ho⟩ := hc.fresh h7 ho
    refine ⟨_, e1, hc.blk 1 rfl, ?_⟩
    refine ⟨?_, trivial⟩
    have hml : (e.vs.map verC).length = e.vs.length := List.length_map ..
    have hd := deleteV_any hc (e.vs.map verC) (verC_flat _) (A := A1) (cap := cap1) (by rw [hml]; exact ho) i (by rw [hml]; exact hlt) (IntKind.i64.wrap ((i : Int) + 1)) (by rw [wrap_add _ _ (by omega) (by omega)])
    rw [hml] at hd
    refine ⟨hd.mono fun en w8 hq => ?_⟩
    obtain ⟨A2, e2, hc, _, ho⟩ := hq
    refine ⟨_, e2, hc.blk 1 rfl, ?_⟩
    refine ⟨?_, trivial⟩
    refine ⟨hc.may 0 rfl 0 _ (Nat.le_refl 2) rfl, ?_⟩
    intro w10 h10
    have ho := ho.set hc 0 rfl h10
    have hc := (hc.set 0 rfl h10).1
    refine ⟨hc.blk 1 rfl, ?_⟩
    refine ⟨_, ?_, hc.cells 0 rfl, ?_⟩
    · rfl
    have ho := ho.row
    rw [cutC] at ho
    have hlen : (e.vs.take i ++ e.vs.drop (i + 1)).length = e.vs.length - 1 := by rw [List.length_append, List.length_take, List.length_drop]; omega
    refine ⟨A2, cap1, ?_, hc.below, ?_⟩
    · simp only [hlen]; rfl
    · simp only [hlen]; exact ho
set_option maxHeartbeats 1000000 in
theorem radd_any' (e : Ent) (v : Ver) (A : Option Addr) (cap : Nat) (hb : e.vs.length ≤ 1000000) (S : Nat → Prop) (w : World) (hR : Row S w A e.vs.length cap (e.vs.map verC).flatten) :
    Calls Tryz.prog 52 #[.agg #[.string e.key, .slice A e.vs.length cap], .agg (verC v).toArray] w (RetA A cap e (addE e v) w) := by
  refine calls_vc lay_ok Tryz.func52 rfl (by kernel_rfl) (by kernel_rfl) ?_
  intro g1 w1 h1
  have hc := ((Ctx.start w no (fun _ h => h.elim)).loc h1).1
  intro g2 w2 h2
  have hc := (hc.loc h2).1
  intro g3 w3 h3
  have hc := (hc.loc h3).1
  have hM := row_max hR
  refine ⟨_, hc.cell 2 rfl _ rfl, ?_⟩
  have bad : ((e.vs.length ≠ 0 ∧ v.ver ≤ (lastV e.vs).ver) ∨ 12 ≤ e.vs.length) → addE e v = (e, false) := fun h => by rw [addE, if_pos h]
  refine drawn lay_ok (by kernel_rfl) (.q 0 (.q 1 (.q 2 (.q 3 (.q 4 (.q 5 (.q 6 (.q 7 (.q 8 (.q 9 (.q 10 (.q 11 (.q 12 (.q 13 (.q 14 (.q 15 (.q 16 (.q 17 .fin)))))))))))))))))) (Keeps (fun b => b < w3.heap.size) w3) (by kernel_rfl) (Keeps.start _ _) ?_
  rcases Nat.lt_or_ge e.vs.length 12 with h12 | h12
  rotate_left
  · refine split_t (decide_eq_true (show (12 : Int) ≤ (e.vs.length : Int) by omega)) ?_
    have hc := hc.drew
    repeat (first | (intro gA wA hA; have hc := (hc.loc hA).1) | refine ⟨_, hc.cell 0 rfl _ rfl, ?_⟩ | (refine ⟨_, ?_, hc.cells 0 rfl, ?_⟩; (· rfl)) | (refine ⟨hc.may 0 rfl _ _ (nle rfl) rfl, ?_⟩; intro wA hA; have hc := (hc.set 0 rfl hA).1) | refine ⟨_, hc.cell 1 rfl _ rfl, ?_⟩ | (refine ⟨_, ?_, hc.cells 1 rfl, ?_⟩; (· rfl)) | (refine ⟨hc.may 1 rfl _ _ (nle rfl) rfl, ?_⟩; intro wA hA; have hc := (hc.set 1 rfl hA).1) | refine ⟨_, hc.cell 2 rfl _ rfl, ?_⟩ | (refine ⟨_, ?_, hc.cells 2 rfl, ?_⟩; (· rfl)) | (refine ⟨hc.may 2 rfl _ _ (nle rfl) rfl, ?_⟩; intro wA hA; have hc := (hc.set 2 rfl hA).1) | refine ⟨_, hc.cell 3 rfl _ rfl, ?_⟩ | (refine ⟨_, ?_, hc.cells 3 rfl, ?_⟩; (· rfl)) | (refine ⟨hc.may 3 rfl _ _ (nle rfl) rfl, ?_⟩; intro wA hA; have hc := (hc.set 3 rfl hA).1) | refine ⟨_, hc.cell 4 rfl _ rfl, ?_⟩ | (refine ⟨_, ?_, hc.cells 4 rfl, ?_⟩; (· rfl)) | (refine ⟨hc.may 4 rfl _ _ (nle rfl) rfl, ?_⟩; intro wA hA; have hc := (hc.set 4 rfl hA).1))
    rw [bad (.inr h12)]
    exact ⟨rfl, hc.below⟩
  refine split_f (decide_eq_false (show ¬ (12 : Int) ≤ (e.vs.length : Int) by omega)) ?_
  have good : (e.vs.length ≠ 0 → (lastV e.vs).ver < v.ver) → addE e v = (⟨e.key, e.vs ++ [v]⟩, true) := fun h => by
    rw [addE, if_neg]
    rintro (h' | h')
    · have := h h'.1; omega
    · omega
  rcases Nat.eq_zero_or_pos e.vs.length with h0 | h0
  all_goals first
    | (refine split_f (decide_eq_false (show ¬ (0 : Int) < (e.vs.length : Int) by omega)) ?_
       have good := good (fun h => absurd h0 h))
    | (refine split_t (decide_eq_true (show (0 : Int) < (e.vs.length : Int) by omega)) ?_
       have hlt : e.vs.length - 1 < e.vs.length := by omega
       have hw : IntKind.i64.wrap ((e.vs.length : Int) - 1) = ((e.vs.length - 1 : Nat) : Int) := by rw [IntWalk.i64_in _ ⟨by omega, by omega⟩]; omega
       obtain ⟨ad, rfl, hcell⟩ := RowV.elem (hR.below hc.below) (e.vs.length - 1) hlt
       rw [← lastV_get hlt] at hcell
       refine ⟨_, fun x hx => hx.look (hc.cell 1 rfl _ rfl), ?_⟩
       refine ⟨_, fun x hx => hx.look (hc.cell 2 rfl _ rfl), ?_⟩
       refine ⟨⟨by rw [hw]; omega, by rw [hw]; omega⟩, ?_⟩
       have hl0 : w3.cell? (ad.add ((IntKind.i64.wrap ((e.vs.length : Int) - 1)).toNat * 3)) = some (.int .i64 (lastV e.vs).ver) := by
         have := hcell.1
         rw [add_add, Nat.add_zero] at this
         rw [hw, Int.toNat_natCast]
         exact this
       generalize ad.add ((IntKind.i64.wrap ((e.vs.length : Int) - 1)).toNat * 3) = ae at hl0 ⊢
       obtain ⟨ab, ao, asub⟩ := ae
       refine ⟨_, fun x hx => hx.look hl0, ?_⟩
       rcases Int.lt_or_le (lastV e.vs).ver v.ver with hl | hl
       rotate_left
       · refine split_t (decide_eq_true hl) ?_
         have hc := hc.drew
         repeat (first | (intro gA wA hA; have hc := (hc.loc hA).1) | refine ⟨_, hc.cell 0 rfl _ rfl, ?_⟩ | (refine ⟨_, ?_, hc.cells 0 rfl, ?_⟩; (· rfl)) | (refine ⟨hc.may 0 rfl _ _ (nle rfl) rfl, ?_⟩; intro wA hA; have hc := (hc.set 0 rfl hA).1) | refine ⟨_, hc.cell 1 rfl _ rfl, ?_⟩ | (refine ⟨_, ?_, hc.cells 1 rfl, ?_⟩; (· rfl)) | (refine ⟨hc.may 1 rfl _ _ (nle rfl) rfl, ?_⟩; intro wA hA; have hc := (hc.set 1 rfl hA).1) | refine ⟨_, hc.cell 2 rfl _ rfl, ?_⟩ | (refine ⟨_, ?_, hc.cells 2 rfl, ?_⟩; (· rfl)) | (refine ⟨hc.may 2 rfl _ _ (nle rfl) rfl, ?_⟩; intro wA hA; have hc := (hc.set 2 rfl hA).1) | refine ⟨_, hc.cell 3 rfl _ rfl, ?_⟩ | (refine ⟨_, ?_, hc.cells 3 rfl, ?_⟩; (· rfl)) | (refine ⟨hc.may 3 rfl _ _ (nle rfl) rfl, ?_⟩; intro wA hA; have hc := (hc.set 3 rfl hA).1) | refine ⟨_, hc.cell 4 rfl _ rfl, ?_⟩ | (refine ⟨_, ?_, hc.cells 4 rfl, ?_⟩; (· rfl)) | (refine ⟨hc.may 4 rfl _ _ (nle rfl) rfl, ?_⟩; intro wA hA; have hc := (hc.set 4 rfl hA).1))
         rw [bad (.inl ⟨by omega, hl⟩)]
         exact ⟨rfl, hc.below⟩
       refine split_f (decide_eq_false (show ¬ v.ver ≤ (lastV e.vs).ver by omega)) ?_
       have good := good (fun _ => hl))
  all_goals rw [good]
  all_goals try (refine forget [(2, .pointer (some ⟨g1, 0, none⟩)), (3, .pointer (some ⟨g2, 0, none⟩)), (4, .pointer (some ⟨g3, 0, none⟩))] ?_ ?_; (· exact ⟨rfl, rfl, rfl, trivial⟩); intro u)
  all_goals have hc := hc.drew
  all_goals refine drawn lay_ok (by kernel_rfl) (.q 0 (.q 1 (.q 3 (.n 2 (.n 4 (.n 5 (.q 6 (.z 7)) .stop) .stop) (.n 4 (.n 2 (.n 5 (.q 6 (.z 7)) .stop) .stop) .stop))))) (fun x => Blk x g1 58 [.string e.key, .slice _ e.vs.length cap] ∧ Blk x g2 60 (verC v)) (by kernel_rfl) ⟨hc.blk 2 rfl, hc.blk 1 rfl⟩ ?_
  all_goals have hc := hc.drew
  all_goals refine ⟨_, fun x hx => hx.1.cell 1, ?_⟩
  all_goals refine ⟨verC v, rfl, fun x hx => ⟨hx.2.cell 0, hx.2.cell 1, hx.2.cell 2, trivial⟩, ?_⟩
  all_goals have hlen : (e.vs ++ [v]).length = e.vs.length + 1 := by simp
  all_goals refine ⟨?_, ?_, trivial⟩
  all_goals first
    | (intro g8 w8 h8
       have hc := (hc.loc h8).1
       refine ⟨⟨hc.blk 3 rfl, hc.blk 2 rfl⟩, ?_⟩
       refine ⟨?_, trivial⟩
       refine app_row2 Tryz.underlying56 info_V rfl (by decide) hc (Own.nil (e := 60) (sz := 3)) (hR.below hc.below) (by rw [(verC_flat _).len, List.length_map]) (verC_flat _).ones (by omega) (by decide) rfl rfl ?_
       intro A1 cap1 w7 hc _ ho _
       rw [Nat.zero_add e.vs.length] at ho ⊢
       rw [List.nil_append] at ho
       refine ⟨⟨hc.blk 3 rfl, hc.blk 2 rfl⟩, ?_⟩
       refine ⟨?_, trivial⟩
       refine app_own Tryz.underlying56 info_V rfl (by decide) hc ho (ys := verC v) rfl (hc.cells 0 rfl) rfl (by omega) (by decide) ?_
       intro A2 cap2 w9 hc _ ho _
       refine ⟨⟨hc.blk 3 rfl, hc.blk 2 rfl⟩, ?_⟩
       refine ⟨hc.may 3 rfl 1 _ (Nat.le_refl 2) rfl, ?_⟩
       intro w10 h10
       have ho := ho.set hc 3 rfl h10
       have hc := (hc.set 3 rfl h10).1
       refine ⟨_, ?_, hc.cells 3 rfl, ?_⟩
       · rfl
       refine ⟨hc.may 1 rfl 0 _ (Nat.le_refl 2) rfl, ?_⟩
       intro w11 h11
       have ho := ho.set hc 1 rfl h11
       have hc := (hc.set 1 rfl h11).1
       refine ⟨_, ?_, hc.cells 1 rfl, ?_⟩
       · rfl
       have ho := ho.row
       rw [snocC] at ho
       refine ⟨A2, cap2, ?_, hc.below, ?_⟩
       · simp only [hlen]; rfl
       · simp only [hlen]; exact ho)
    | (refine app_row2 Tryz.underlying56 info_V rfl (by decide) hc (Own.nil (e := 60) (sz := 3)) (hR.below hc.below) (by rw [(verC_flat _).len, List.length_map]) (verC_flat _).ones (by omega) (by decide) rfl rfl ?_
       intro A1 cap1 w7 hc _ ho _
       rw [Nat.zero_add e.vs.length] at ho ⊢
       rw [List.nil_append] at ho
       refine ⟨⟨hc.blk 2 rfl, hc.blk 1 rfl⟩, ?_⟩
       refine ⟨?_, trivial⟩
       intro g8 w8 h8
       have ho := ho.loc h8
       have hc := (hc.loc h8).1
       refine ⟨⟨hc.blk 3 rfl, hc.blk 2 rfl⟩, ?_⟩
       refine ⟨?_, trivial⟩
       refine app_own Tryz.underlying56 info_V rfl (by decide) hc ho (ys := verC v) rfl (hc.cells 0 rfl) rfl (by omega) (by decide) ?_
       intro A2 cap2 w9 hc _ ho _
       refine ⟨⟨hc.blk 3 rfl, hc.blk 2 rfl⟩, ?_⟩
       refine ⟨hc.may 3 rfl 1 _ (Nat.le_refl 2) rfl, ?_⟩
       intro w10 h10
       have ho := ho.set hc 3 rfl h10
       have hc := (hc.set 3 rfl h10).1
       refine ⟨_, ?_, hc.cells 3 rfl, ?_⟩
       · rfl
       refine ⟨hc.may 1 rfl 0 _ (Nat.le_refl 2) rfl, ?_⟩
       intro w11 h11
       have ho := ho.set hc 1 rfl h11
       have hc := (hc.set 1 rfl h11).1
       refine ⟨_, ?_, hc.cells 1 rfl, ?_⟩
       · rfl
       have ho := ho.row
       rw [snocC] at ho
       refine ⟨A2, cap2, ?_, hc.below, ?_⟩
       · simp only [hlen]; rfl
       · simp only [hlen]; exact ho)
theorem rpurge_any (e : Ent) (n : Int) (A : Option Addr) (cap : Nat) (hb : e.vs.length ≤ 1000000) (S : Nat → Prop) (w : World) (hR : Row S w A e.vs.length cap (e.vs.map verC).flatten) :
    Calls Tryz.prog 54 #[.agg #[.string e.key, .slice A e.vs.length cap], .int .i64 n] w (RetA A cap e (purgeE e n) w) := by
  refine calls_vc lay_ok Tryz.func54 rfl (by kernel_rfl) (by kernel_rfl) ?_
  intro g1 w1 h1
  have hc := ((Ctx.start w no (fun _ h => h.elim)).loc h1).1
  intro g2 w2 h2
  have hc := (hc.loc h2).1
  refine ⟨_, ?_, hc.cells 1 rfl, ?_⟩
  · rfl
  refine call_b (rat_any e n A cap S w2 (hR.below hc.below)) ?_
  intro w3 h3
  have hc := (hc.quiet h3).1
  have hM := row_max hR
  unfold purgeE
  cases hi : idxV e.vs n with
  | none =>
    repeat (first | (intro gA wA hA; have hc := (hc.loc hA).1) | refine ⟨_, hc.cell 0 rfl _ rfl, ?_⟩ | (refine ⟨_, ?_, hc.cells 0 rfl, ?_⟩; (· rfl)) | (refine ⟨hc.may 0 rfl _ _ (nle rfl) rfl, ?_⟩; intro wA hA; have hc := (hc.set 0 rfl hA).1) | refine ⟨_, hc.cell 1 rfl _ rfl, ?_⟩ | (refine ⟨_, ?_, hc.cells 1 rfl, ?_⟩; (· rfl)) | (refine ⟨hc.may 1 rfl _ _ (nle rfl) rfl, ?_⟩; intro wA hA; have hc := (hc.set 1 rfl hA).1) | refine ⟨_, hc.cell 2 rfl _ rfl, ?_⟩ | (refine ⟨_, ?_, hc.cells 2 rfl, ?_⟩; (· rfl)) | (refine ⟨hc.may 2 rfl _ _ (nle rfl) rfl, ?_⟩; intro wA hA; have hc := (hc.set 2 rfl hA).1) | refine ⟨_, hc.cell 3 rfl _ rfl, ?_⟩ | (refine ⟨_, ?_, hc.cells 3 rfl, ?_⟩; (· rfl)) | (refine ⟨hc.may 3 rfl _ _ (nle rfl) rfl, ?_⟩; intro wA hA; have hc := (hc.set 3 rfl hA).1) | refine ⟨_, hc.cell 4 rfl _ rfl, ?_⟩ | (refine ⟨_, ?_, hc.cells 4 rfl, ?_⟩; (· rfl)) | (refine ⟨hc.may 4 rfl _ _ (nle rfl) rfl, ?_⟩; intro wA hA; have hc := (hc.set 4 rfl hA).1))
    exact ⟨rfl, hc.below⟩
  | some i =>
    obtain ⟨hlt, _⟩ := idxV_lt hi
    have hnc := hR.1
    refine drawn lay_ok (by kernel_rfl) (.q 0 (.q 1 (.q 2 (.q 3 (.q 5 (.q 6 (.q 7 (.q 8 (.q 9 (.n 4 (.n 10 (.q 11 (.z 12)) .stop) .stop)))))))))) (fun x => Blk x g1 58 [.string e.key, .slice A e.vs.length cap]) (by kernel_rfl) (hc.blk 1 rfl) ?_
    have hc := hc.drew
    have hwi : IntKind.i64.wrap (((some i).getD 0 : Nat) + (1 : Int)) = (i : Int) + 1 := wrap_add _ _ (by simp only [Option.getD_some]; omega) (by simp only [Option.getD_some]; omega)
    refine ⟨_, fun x hx => hx.cell 1, ?_⟩
    refine ⟨⟨Int.le_refl _, Int.natCast_nonneg _, Int.ofNat_le.2 (by show i ≤ cap; omega), Int.le_refl _⟩, ?_⟩
    refine ⟨_, fun x hx => hx.cell 1, ?_⟩
    refine ⟨⟨by rw [hwi]; omega, by rw [hwi]; omega, by omega, by omega⟩, ?_⟩
    refine ⟨?_, trivial⟩
    have hfl : (e.vs.map verC).flatten.length = e.vs.length * 3 := by rw [(verC_flat _).len, List.length_map]
    have hfr := hR.front 3 (k := i) (by omega)
    have hbk := hR.back 3 hfl (i + 1) (IntKind.i64.wrap (((some i).getD 0 : Nat) + (1 : Int))) (by rw [hwi]; omega) (by omega)
    refine app_row2 Tryz.underlying56 info_V rfl (by decide) hc (Own.nil (e := 60) (sz := 3)) (hfr.below hc.below) (by rw [List.length_take, hfl]; omega) (by rw [← (verC_flat _).flat_take]; exact ((verC_flat _).take _).ones) (by omega) (by decide) rfl ?_ ?_
    · show Value.slice (if (cap : Int) = 0 then A else A.map (·.add ((0 : Int).toNat * 3))) ((i : Int) - 0).toNat ((cap : Int) - 0).toNat = _
      rw [front_eq]
      congr 1 <;> omega
    intro A1 cap1 w7 hc _ ho _
    rw [Nat.zero_add i] at ho ⊢
    rw [List.nil_append] at ho
    refine ⟨hc.blk 1 rfl, ?_⟩
    refine ⟨?_, trivial⟩
    refine app_row2 Tryz.underlying56 info_V rfl (by decide) hc ho (hbk.below hc.below) (by rw [List.length_drop, hfl]; omega) (by rw [← (verC_flat _).flat_drop]; exact ((verC_flat _).drop _).ones) (by omega) (by decide) rfl ?_ ?_
    · show Value.slice (if (cap : Int) = IntKind.i64.wrap (((some i).getD 0 : Nat) + (1 : Int)) then A else A.map (·.add ((IntKind.i64.wrap (((some i).getD 0 : Nat) + (1 : Int))).toNat * 3))) ((e.vs.length : Int) - IntKind.i64.wrap (((some i).getD 0 : Nat) + (1 : Int))).toNat ((cap : Int) - IntKind.i64.wrap (((some i).getD 0 : Nat) + (1 : Int))).toNat = _
      congr 1 <;> (rw [hwi]; omega)
    intro A2 cap2 w8 hc _ ho _
    refine ⟨hc.blk 1 rfl, ?_⟩
    refine ⟨hc.may 1 rfl 1 _ (Nat.le_refl 2) rfl, ?_⟩
    intro w10 h10
    have ho := ho.set hc 1 rfl h10
    have hc := (hc.set 1 rfl h10).1
    refine ⟨_, ?_, hc.cells 1 rfl, ?_⟩
    · rfl
    refine ⟨hc.may 0 rfl 0 _ (Nat.le_refl 2) rfl, ?_⟩
    intro w11 h11
    have ho := ho.set hc 0 rfl h11
    have hc := (hc.set 0 rfl h11).1
    refine ⟨_, ?_, hc.cells 0 rfl, ?_⟩
    · rfl
    have ho := ho.row
    rw [← (verC_flat _).flat_take, ← (verC_flat _).flat_drop, ← List.flatten_append, cutC] at ho
    have hlen : (e.vs.take i ++ e.vs.drop (i + 1)).length = i + (e.vs.length - (i + 1)) := by rw [List.length_append, List.length_take, List.length_drop]; omega
    refine ⟨A2, cap2, ?_, hc.below, ?_⟩
    · simp only [hlen]; rfl
    · simp only [hlen]; exact ho
theorem memC_flat (l : List Mem) : Flat 3 (l.map memC) := Flat.map memC (fun _ => ⟨rfl, rfl⟩) l
theorem RowM.elem {S : Nat → Prop} {w : World} {A : Option Addr} {n cap : Nat} {l : List Mem} (hR : Row S w A n cap (l.map memC).flatten) (i : Nat) (hi : i < l.length) : ∃ ad, A = some ad ∧ Go.Vc.cellsAt w (ad.add (i * 3)) (memC l[i]) 0 := by
  obtain ⟨ad, e, h⟩ := Row.elemF hR (by decide) (memC_flat l) i (by rw [List.length_map]; exact hi)
  rw [List.getElem_map] at h
  exact ⟨ad, e, h⟩
theorem RowE.elem {S : Nat → Prop} {w : World} {A : Option Addr} {n cap : Nat} {l : List Ent} {css : List (List Value)} (hR : Row S w A n cap css.flatten) (hE : RepEs S w l css) (i : Nat) (hi : i < l.length) :
    ∃ ad A' cap', A = some ad ∧ Go.Vc.cellsAt w (ad.add (i * 2)) [.string l[i].key, .slice A' l[i].vs.length cap'] 0 ∧ Row S w A' l[i].vs.length cap' (l[i].vs.map verC).flatten := by
  have hl := hE.len
  obtain ⟨ad, e, h⟩ := Row.elemF hR (by decide) hE.flat i (by omega)
  obtain ⟨A', cap', e1, h1⟩ := hE.get i hi (by omega)
  rw [e1] at h
  exact ⟨ad, A', cap', e, h, h1⟩
theorem RepS.shape {S : Nat → Prop} {w : World} {s : Stt} {cs : List Value} (h : RepS S w s cs) : ∃ A cap css B cap' l0 l1 l2 l3 l4, cs = [.int .i64 s.seq, .slice A s.l.length cap, .slice B s.ms.length cap', .int .i64 l0, .int .i64 l1, .int .i64 l2, .int .i64 l3, .int .i64 l4] ∧
    s.lows = [l0, l1, l2, l3, l4] ∧ RepEs S w s.l css ∧ Row S w A s.l.length cap css.flatten ∧ Row S w B s.ms.length cap' (s.ms.map memC).flatten := by
  obtain ⟨A, cap, css, B, cap', e1, e2, e3, e4, e5⟩ := h
  match hl : s.lows, e2 with
  | [l0, l1, l2, l3, l4], _ =>
    rw [hl] at e1
    exact ⟨A, cap, css, B, cap', l0, l1, l2, l3, l4, e1, rfl, e3, e4, e5⟩
theorem lows_in (d : Nat) (w : World) (a0 a1 a2 a3 a4 b0 b1 b2 b3 b4 : Int) : (Op.equalIn (d + 2) 76 (.agg #[.int .i64 a0, .int .i64 a1, .int .i64 a2, .int .i64 a3, .int .i64 a4]) (.agg #[.int .i64 b0, .int .i64 b1, .int .i64 b2, .int .i64 b3, .int .i64 b4])).run Tryz.prog w = .ok ([a0, a1, a2, a3, a4] == [b0, b1, b2, b3, b4]) w := by
  have hs : ∀ w, (Go.sizeOf 2).run Tryz.prog w = .ok 1 w := fun w => by kernel_rfl
  have step : ∀ (x y : Int) w, (Op.equalIn (d + 1) 2 (.int .i64 x) (.int .i64 y)).run Tryz.prog w = .ok (x == y) w := fun x y w => run_equalIn_int w d 2 .i64 .i64 x y Tryz.underlying2
  rw [Op.equalIn]
  generalize Op.equalIn (d + 1) = F at step ⊢
  simp only [Sem.run_bind, run_underlying Tryz.underlying76, Result.andThen_ok, hs, Std.Legacy.Range.forIn_eq_forIn_range', Std.Legacy.Range.size]
  simp [List.range', part, isAgg, run_underlying Tryz.underlying2, step]
  by_cases h0 : a0 = b0
  rotate_left
  · simp [h0]
  by_cases h1 : a1 = b1
  rotate_left
  · simp [h0, h1]
  by_cases h2 : a2 = b2
  rotate_left
  · simp [h0, h1, h2]
  by_cases h3 : a3 = b3 <;> by_cases h4 : a4 = b4 <;> simp [h0, h1, h2, h3, h4]
theorem gd_lows : Tryz.prog.eqGuardType Tryz.prog.depth 76 = false := by kernel_rfl
theorem equalV_any (a b : List Ver) (A B : Option Addr) (cap cap' : Nat) (S : Nat → Prop) (w : World) (hR : Row S w A a.length cap (a.map verC).flatten) (hR' : Row S w B b.length cap' (b.map verC).flatten) :
    Calls Tryz.prog 106 #[.slice A a.length cap, .slice B b.length cap'] w (RetB (.bool (eqAll eqVer a b)) w) := by
  refine calls_vc lay_ok Tryz.func106 rfl (by kernel_rfl) (by kernel_rfl) ?_
  have hM := row_max hR
  by_cases hl : a.length = b.length
  rotate_left
  · refine split_t (by show ((a.length : Int) != (b.length : Int)) = true; rw [bne_iff_ne]; omega) ?_
    rw [eqAll_len _ _ _ hl]
    exact ⟨rfl, Below.refl _ _⟩
  refine split_f (by show ((a.length : Int) != (b.length : Int)) = false; rw [hl]; simp) ?_
  refine ⟨Nat, fun i => [(0, .slice A a.length cap), (1, .slice B b.length cap'), (12, .int .i64 a.length), (13, .int .i64 i)],
    fun i w' => i ≤ a.length ∧ eqAll eqVer (a.drop i) (b.drop i) = eqAll eqVer a b ∧ Below w.heap.size w w', fun i _ => a.length - i, 0,
    ⟨rfl, rfl, rfl, rfl, trivial⟩, ⟨Nat.zero_le _, rfl, Below.refl _ _⟩, ?_⟩
  rintro i w' u ⟨hi, he, hb⟩
  by_cases hlt : i < a.length
  · refine split_t (decide_eq_true (by omega)) ?_
    obtain ⟨ad, rfl, hcell⟩ := RowV.elem (hR.below hb) i hlt
    obtain ⟨bd, rfl, hcell'⟩ := RowV.elem (hR'.below hb) i (by omega)
    rw [List.drop_eq_getElem_cons hlt, List.drop_eq_getElem_cons (show i < b.length by omega), eqAll] at he
    generalize a[i] = x at *
    generalize b[i]'(by omega) = y at *
    refine drawn lay_ok (by kernel_rfl) (.q 0 (.q 1 (.q 2 (.q 3 (.q 4 (.q 5 (.q 6 (.q 7 (.q 8 .fin))))))))) (Keeps (fun b => b < w'.heap.size) w') (by kernel_rfl) (Keeps.start _ _) ?_
    refine ⟨⟨by omega, by omega⟩, ?_⟩
    refine ⟨verC x, rfl, fun z hz => hz.looks _ _ hcell, ?_⟩
    refine ⟨⟨by omega, by omega⟩, ?_⟩
    refine ⟨verC y, rfl, fun z hz => hz.looks _ _ hcell', ?_⟩
    refine ⟨_, fun w => neq_run gd_ver (eqVer_in 9998 · x y) _ _ w, ?_⟩
    have hb := hb.drew
    cases hv : eqVer x y
    · rw [hv] at he
      refine ⟨?_, hb⟩
      rw [← he]
      rfl
    · rw [hv] at he
      refine ⟨i + 1, ⟨rfl, rfl, rfl, congrArg _ (i_down (by omega)), trivial⟩, ⟨hlt, he, hb⟩, by show a.length - (i + 1) < a.length - i; omega⟩
  · refine split_f (decide_eq_false (by omega)) ?_
    rw [List.drop_of_length_le (by omega), List.drop_of_length_le (by omega), eqAll] at he
    rw [← he]
    exact ⟨rfl, hb⟩
theorem equalM_any (a b : List Mem) (A B : Option Addr) (cap cap' : Nat) (S : Nat → Prop) (w : World) (hR : Row S w A a.length cap (a.map memC).flatten) (hR' : Row S w B b.length cap' (b.map memC).flatten) :
    Calls Tryz.prog 107 #[.slice A a.length cap, .slice B b.length cap'] w (RetB (.bool (eqAll eqMem a b)) w) := by
  refine calls_vc lay_ok Tryz.func107 rfl (by kernel_rfl) (by kernel_rfl) ?_
  have hM := row_max hR
  by_cases hl : a.length = b.length
  rotate_left
  · refine split_t (by show ((a.length : Int) != (b.length : Int)) = true; rw [bne_iff_ne]; omega) ?_
    rw [eqAll_len _ _ _ hl]
    exact ⟨rfl, Below.refl _ _⟩
  refine split_f (by show ((a.length : Int) != (b.length : Int)) = false; rw [hl]; simp) ?_
  refine ⟨Nat, fun i => [(0, .slice A a.length cap), (1, .slice B b.length cap'), (12, .int .i64 a.length), (13, .int .i64 i)],
    fun i w' => i ≤ a.length ∧ eqAll eqMem (a.drop i) (b.drop i) = eqAll eqMem a b ∧ Below w.heap.size w w', fun i _ => a.length - i, 0,
    ⟨rfl, rfl, rfl, rfl, trivial⟩, ⟨Nat.zero_le _, rfl, Below.refl _ _⟩, ?_⟩
  rintro i w' u ⟨hi, he, hb⟩
  by_cases hlt : i < a.length
  · refine split_t (decide_eq_true (by omega)) ?_
    obtain ⟨ad, rfl, hcell⟩ := RowM.elem (hR.below hb) i hlt
    obtain ⟨bd, rfl, hcell'⟩ := RowM.elem (hR'.below hb) i (by omega)
    rw [List.drop_eq_getElem_cons hlt, List.drop_eq_getElem_cons (show i < b.length by omega), eqAll] at he
    generalize a[i] = x at *
    generalize b[i]'(by omega) = y at *
    refine drawn lay_ok (by kernel_rfl) (.q 0 (.q 1 (.q 2 (.q 3 (.q 4 (.q 5 (.q 6 (.q 7 (.q 8 .fin))))))))) (Keeps (fun b => b < w'.heap.size) w') (by kernel_rfl) (Keeps.start _ _) ?_
    refine ⟨⟨by omega, by omega⟩, ?_⟩
    refine ⟨memC x, rfl, fun z hz => hz.looks _ _ hcell, ?_⟩
    refine ⟨⟨by omega, by omega⟩, ?_⟩
    refine ⟨memC y, rfl, fun z hz => hz.looks _ _ hcell', ?_⟩
    refine ⟨_, fun w => neq_run gd_mem (eqMem_in 9997 · x y) _ _ w, ?_⟩
    have hb := hb.drew
    cases hv : eqMem x y
    · rw [hv] at he
      refine ⟨?_, hb⟩
      rw [← he]
      rfl
    · rw [hv] at he
      refine ⟨i + 1, ⟨rfl, rfl, rfl, congrArg _ (i_down (by omega)), trivial⟩, ⟨hlt, he, hb⟩, by show a.length - (i + 1) < a.length - i; omega⟩
  · refine split_f (decide_eq_false (by omega)) ?_
    rw [List.drop_of_length_le (by omega), List.drop_of_length_le (by omega), eqAll] at he
    rw [← he]
    exact ⟨rfl, hb⟩
theorem eq1_any (a b : Ent) (A B : Option Addr) (cap cap' : Nat) (S : Nat → Prop) (w : World) (hR : Row S w A a.vs.length cap (a.vs.map verC).flatten) (hR' : Row S w B b.vs.length cap' (b.vs.map verC).flatten) :
    Calls Tryz.prog 105 #[.agg #[.string a.key, .slice A a.vs.length cap], .agg #[.string b.key, .slice B b.vs.length cap']] w (RetB (.bool (eqE a b)) w) := by
  refine calls_vc lay_ok Tryz.func105 rfl (by kernel_rfl) (by kernel_rfl) ?_
  intro g1 w1 h1
  have hc := ((Ctx.start w no (fun _ h => h.elim)).loc h1).1
  intro g2 w2 h2
  have hc := (hc.loc h2).1
  refine ⟨_, hc.cell 1 rfl _ rfl, ?_⟩
  refine ⟨_, hc.cell 0 rfl _ rfl, ?_⟩
  unfold eqE
  cases hk : strEq a.key b.key
  · refine split_f hk ?_
    exact ⟨rfl, hc.below⟩
  refine split_t hk ?_
  refine ⟨_, hc.cell 1 rfl _ rfl, ?_⟩
  refine ⟨_, hc.cell 0 rfl _ rfl, ?_⟩
  refine call_b (equalV_any a.vs b.vs A B cap cap' S w2 (hR.below hc.below) (hR'.below hc.below)) ?_
  intro w3 h3
  have hc := (hc.quiet h3).1
  exact ⟨rfl, hc.below⟩
theorem equalFuncE_any (a b : List Ent) (A B : Option Addr) (cap cap' : Nat) (css css' : List (List Value)) (S : Nat → Prop) (w : World) (hE : RepEs S w a css) (hR : Row S w A a.length cap css.flatten) (hE' : RepEs S w b css') (hR' : Row S w B b.length cap' css'.flatten) :
    Calls Tryz.prog 108 #[.slice A a.length cap, .slice B b.length cap', .func (.func 105) #[] #[]] w (RetB (.bool (eqAll eqE a b)) w) := by
  refine calls_vc lay_ok Tryz.func108 rfl (by kernel_rfl) (by kernel_rfl) ?_
  have hM := row_max hR
  by_cases hl : a.length = b.length
  rotate_left
  · refine split_t (by show ((a.length : Int) != (b.length : Int)) = true; rw [bne_iff_ne]; omega) ?_
    rw [eqAll_len _ _ _ hl]
    exact ⟨rfl, Below.refl _ _⟩
  refine split_f (by show ((a.length : Int) != (b.length : Int)) = false; rw [hl]; simp) ?_
  refine ⟨Nat, fun i => [(1, .slice B b.length cap'), (2, .func (.func 105) #[] #[]), (15, .slice A a.length cap), (16, .int .i64 a.length), (17, .int .i64 i)],
    fun i w' => i ≤ a.length ∧ eqAll eqE (a.drop i) (b.drop i) = eqAll eqE a b ∧ Below w.heap.size w w', fun i _ => a.length - i, 0,
    ⟨rfl, rfl, rfl, rfl, rfl, trivial⟩, ⟨Nat.zero_le _, rfl, Below.refl _ _⟩, ?_⟩
  rintro i w' u ⟨hi, he, hb⟩
  by_cases hlt : i < a.length
  · refine split_t (decide_eq_true (by omega)) ?_
    obtain ⟨ad, A1, cap1, rfl, hcell, hr1⟩ := RowE.elem (hR.below hb) (hE.below hb) i hlt
    obtain ⟨bd, B1, cap2, rfl, hcell', hr2⟩ := RowE.elem (hR'.below hb) (hE'.below hb) i (by omega)
    rw [List.drop_eq_getElem_cons hlt, List.drop_eq_getElem_cons (show i < b.length by omega), eqAll] at he
    generalize a[i] = x at *
    generalize b[i]'(by omega) = y at *
    refine ⟨⟨by omega, by omega⟩, ?_⟩
    refine ⟨[.string x.key, .slice A1 x.vs.length cap1], rfl, hcell, ?_⟩
    intro g5 w5 h5
    have hc := ((Ctx.start w' no (fun _ h => h.elim)).loc h5).1
    refine ⟨hc.may 0 rfl 0 _ (Nat.le_refl 2) rfl, ?_⟩
    intro w6 h6
    have hc := (hc.set 0 rfl h6).1
    refine ⟨⟨by omega, by omega⟩, ?_⟩
    refine ⟨[.string y.key, .slice B1 y.vs.length cap2], rfl, cellsAt_later hc.below _ _ hcell', ?_⟩
    intro g7 w7 h7
    have hc := (hc.loc h7).1
    refine ⟨hc.may 0 rfl 0 _ (Nat.le_refl 2) rfl, ?_⟩
    intro w8 h8
    have hc := (hc.set 0 rfl h8).1
    refine ⟨[.string x.key, .slice A1 x.vs.length cap1], rfl, hc.cells 1 rfl, ?_⟩
    refine ⟨[.string y.key, .slice B1 y.vs.length cap2], rfl, hc.cells 0 rfl, ?_⟩
    refine call_b (eq1_any x y A1 B1 cap1 cap2 S w8 (hr1.below hc.below) (hr2.below hc.below)) ?_
    intro w9 h9
    have hc := (hc.quiet h9).1
    have hb9 := hb.trans (hc.below.mono hb.size)
    cases hv : eqE x y
    · rw [hv] at he
      refine ⟨?_, hb9⟩
      rw [← he]
      rfl
    · rw [hv] at he
      exact ⟨i + 1, ⟨rfl, rfl, rfl, rfl, congrArg _ (i_down (by omega)), trivial⟩, ⟨hlt, he, hb9⟩, by show a.length - (i + 1) < a.length - i; omega⟩
  · refine split_f (decide_eq_false (by omega)) ?_
    rw [List.drop_of_length_le (by omega), List.drop_of_length_le (by omega), eqAll] at he
    rw [← he]
    exact ⟨rfl, hb⟩
theorem beqS_any (a b : Stt) (ca cb : List Value) (S : Nat → Prop) (w : World) (ha : RepS S w a ca) (hb : RepS S w b cb) : Calls Tryz.prog 63 #[.agg ca.toArray, .agg cb.toArray] w (RetB (.bool (eqS a b)) w) := by
  obtain ⟨A, cap, css, B, cap', l0, l1, l2, l3, l4, rfl, el, hE, hR, hM⟩ := ha.shape
  obtain ⟨A', cap2, css', B', cap3, k0, k1, k2, k3, k4, rfl, ek, hE', hR', hM'⟩ := hb.shape
  refine calls_vc lay_ok Tryz.func63 rfl (by kernel_rfl) (by kernel_rfl) ?_
  intro g1 w1 h1
  have hc := ((Ctx.start w no (fun _ h => h.elim)).loc h1).1
  intro g2 w2 h2
  have hc := (hc.loc h2).1
  refine ⟨_, hc.cell 1 rfl _ rfl, ?_⟩
  refine ⟨_, hc.cell 0 rfl _ rfl, ?_⟩
  have e0 : eqS a b = (a.seq == b.seq && a.lows == b.lows && eqAll eqMem a.ms b.ms && eqAll eqE a.l b.l) := rfl
  generalize eqS a b = r at e0 ⊢
  rcases Bool.eq_false_or_eq_true (a.seq == b.seq) with hs | hs
  rotate_left
  · refine split_f hs ?_
    rw [hs] at e0
    exact ⟨ret_bool e0.symm, hc.below⟩
  refine split_t hs ?_
  refine ⟨[.int .i64 l0, .int .i64 l1, .int .i64 l2, .int .i64 l3, .int .i64 l4], rfl, hc.cellsAt 1 rfl (0 + 3) _ rfl, ?_⟩
  refine ⟨[.int .i64 k0, .int .i64 k1, .int .i64 k2, .int .i64 k3, .int .i64 k4], rfl, hc.cellsAt 0 rfl (0 + 3) _ rfl, ?_⟩
  refine ⟨_, fun w => eql_run gd_lows (fun w => lows_in 9998 w l0 l1 l2 l3 l4 k0 k1 k2 k3 k4) _ _ w, ?_⟩
  rw [el, ek] at e0
  rcases Bool.eq_false_or_eq_true ([l0, l1, l2, l3, l4] == [k0, k1, k2, k3, k4]) with hl | hl
  rotate_left
  · refine split_f hl ?_
    rw [hs, hl] at e0
    exact ⟨ret_bool e0.symm, hc.below⟩
  refine split_t hl ?_
  rw [hs, hl, Bool.and_self, Bool.true_and] at e0
  refine ⟨_, hc.cell 1 rfl _ rfl, ?_⟩
  refine ⟨_, hc.cell 0 rfl _ rfl, ?_⟩
  refine call_b (equalM_any a.ms b.ms B B' cap' cap3 S w2 (hM.below hc.below) (hM'.below hc.below)) ?_
  intro w3 h3
  have hc := (hc.quiet h3).1
  generalize eqAll eqMem a.ms b.ms = q at e0 ⊢
  cases q
  · exact ⟨ret_bool e0.symm, hc.below⟩
  rw [Bool.true_and] at e0
  refine ⟨_, hc.cell 1 rfl _ rfl, ?_⟩
  refine ⟨_, hc.cell 0 rfl _ rfl, ?_⟩
  refine call_b (equalFuncE_any a.l b.l A A' cap cap2 css css' S w3 (hE.below hc.below) (hR.below hc.below) (hE'.below hc.below) (hR'.below hc.below)) ?_
  intro w4 h4
  have hc := (hc.quiet h4).1
  exact ⟨ret_bool e0.symm, hc.below⟩
set_option maxHeartbeats 1000000 in
theorem reqS_any (a b : Stt) (ca cb : List Value) (S : Nat → Prop) (w : World) (ha : RepS S w a ca) (hb : RepS S w b cb) : Calls Tryz.prog 64 #[.agg ca.toArray, .agg cb.toArray] w (RetB (.bool (eqS a b)) w) := by
  obtain ⟨A, cap, css, B, cap', l0, l1, l2, l3, l4, rfl, el, hE, hR, hM⟩ := ha.shape
  obtain ⟨A', cap2, css', B', cap3, k0, k1, k2, k3, k4, rfl, ek, hE', hR', hM'⟩ := hb.shape
  have hMa := row_max hR
  have hMm := row_max hM
  refine calls_vc lay_ok Tryz.func64 rfl (by kernel_rfl) (by kernel_rfl) ?_
  intro g1 w1 h1
  have hc := ((Ctx.start w no (fun _ h => h.elim)).loc h1).1
  intro g2 w2 h2
  have hc := (hc.loc h2).1
  refine ⟨_, hc.cell 1 rfl _ rfl, ?_⟩
  refine ⟨_, hc.cell 0 rfl _ rfl, ?_⟩
  have e0 : eqS a b = (a.seq == b.seq && a.lows == b.lows && eqAll eqMem a.ms b.ms && eqAll eqE a.l b.l) := rfl
  generalize eqS a b = r at e0 ⊢
  rcases Bool.eq_false_or_eq_true (a.seq == b.seq) with hs | hs
  rotate_left
  · refine split_t (by show (!(a.seq == b.seq)) = true; rw [hs]; rfl) ?_
    rw [hs] at e0
    exact ⟨ret_bool e0.symm, hc.below⟩
  refine split_f (by show (!(a.seq == b.seq)) = false; rw [hs]; rfl) ?_
  refine ⟨[.int .i64 l0, .int .i64 l1, .int .i64 l2, .int .i64 l3, .int .i64 l4], rfl, hc.cellsAt 1 rfl (0 + 3) _ rfl, ?_⟩
  refine ⟨[.int .i64 k0, .int .i64 k1, .int .i64 k2, .int .i64 k3, .int .i64 k4], rfl, hc.cellsAt 0 rfl (0 + 3) _ rfl, ?_⟩
  refine ⟨_, fun w => neq_run gd_lows (fun w => lows_in 9998 w l0 l1 l2 l3 l4 k0 k1 k2 k3 k4) _ _ w, ?_⟩
  rw [el, ek] at e0
  rcases Bool.eq_false_or_eq_true ([l0, l1, l2, l3, l4] == [k0, k1, k2, k3, k4]) with hl | hl
  rotate_left
  · refine split_t (by show (!([l0, l1, l2, l3, l4] == [k0, k1, k2, k3, k4])) = true; rw [hl]; rfl) ?_
    rw [hs, hl] at e0
    exact ⟨ret_bool e0.symm, hc.below⟩
  refine split_f (by show (!([l0, l1, l2, l3, l4] == [k0, k1, k2, k3, k4])) = false; rw [hl]; rfl) ?_
  rw [hs, hl, Bool.and_self, Bool.true_and] at e0
  refine ⟨_, hc.cell 1 rfl _ rfl, ?_⟩
  refine ⟨_, hc.cell 0 rfl _ rfl, ?_⟩
  rcases Nat.decEq a.l.length b.l.length with hle | hle
  · refine split_t (by show ((a.l.length : Int) != (b.l.length : Int)) = true; rw [bne_iff_ne]; omega) ?_
    rw [eqAll_len eqE _ _ hle, Bool.and_false] at e0
    exact ⟨ret_bool e0.symm, hc.below⟩
  refine split_f (by show ((a.l.length : Int) != (b.l.length : Int)) = false; rw [hle]; simp) ?_
  refine ⟨_, hc.cell 1 rfl _ rfl, ?_⟩
  refine ⟨_, hc.cell 0 rfl _ rfl, ?_⟩
  rcases Nat.decEq a.ms.length b.ms.length with hlm | hlm
  · refine split_t (by show ((a.ms.length : Int) != (b.ms.length : Int)) = true; rw [bne_iff_ne]; omega) ?_
    rw [eqAll_len eqMem _ _ hlm, Bool.false_and] at e0
    exact ⟨ret_bool e0.symm, hc.below⟩
  refine split_f (by show ((a.ms.length : Int) != (b.ms.length : Int)) = false; rw [hlm]; simp) ?_
  refine ⟨Nat, fun i => [(2, .pointer (some ⟨g1, 0, none⟩)), (3, .pointer (some ⟨g2, 0, none⟩)), (5, .int .i64 i)],
    fun i w' => i ≤ a.l.length ∧ eqAll eqE (a.l.drop i) (b.l.drop i) = eqAll eqE a.l b.l ∧ Ctx no w no w' [(g2, 78, [.int .i64 b.seq, .slice A' b.l.length cap2, .slice B' b.ms.length cap3, .int .i64 k0, .int .i64 k1, .int .i64 k2, .int .i64 k3, .int .i64 k4]), (g1, 78, [.int .i64 a.seq, .slice A a.l.length cap, .slice B a.ms.length cap', .int .i64 l0, .int .i64 l1, .int .i64 l2, .int .i64 l3, .int .i64 l4])], fun i _ => a.l.length - i, 0,
    ⟨rfl, rfl, rfl, trivial⟩, ⟨Nat.zero_le _, rfl, hc⟩, ?_⟩
  rintro i w' u ⟨hi, he, hc⟩
  refine ⟨_, hc.cell 1 rfl _ rfl, ?_⟩
  rcases Nat.lt_or_ge i a.l.length with hlt | hlt
  · refine split_t (decide_eq_true (by omega)) ?_
    obtain ⟨ad, A1, cap1, e1, hcell, hr1⟩ := RowE.elem (hR.below hc.below) (hE.below hc.below) i hlt
    obtain ⟨bd, B1, capb, e2, hcell', hr2⟩ := RowE.elem (hR'.below hc.below) (hE'.below hc.below) i (by omega)
    subst e1
    subst e2
    rw [List.drop_eq_getElem_cons hlt, List.drop_eq_getElem_cons (show i < b.l.length by omega), eqAll] at he
    generalize a.l[i] = x at *
    generalize b.l[i]'(by omega) = y at *
    refine drawn lay_ok (by kernel_rfl) (.q 0 (.q 1 (.q 2 (.q 3 (.q 4 (.q 5 (.q 6 (.q 7 (.q 8 (.q 9 (.n 10 (.q 11 .fin) .stop))))))))))) (Keeps (fun b => b < w'.heap.size) w') (by kernel_rfl) (Keeps.start _ _) ?_
    refine ⟨_, fun z hz => hz.look (hc.cell 1 rfl _ rfl), ?_⟩
    refine ⟨⟨by omega, by omega⟩, ?_⟩
    refine ⟨[.string x.key, .slice A1 x.vs.length cap1], rfl, fun z hz => hz.looks _ _ hcell, ?_⟩
    refine ⟨_, fun z hz => hz.look (hc.cell 0 rfl _ rfl), ?_⟩
    refine ⟨⟨by omega, by omega⟩, ?_⟩
    refine ⟨[.string y.key, .slice B1 y.vs.length capb], rfl, fun z hz => hz.looks _ _ hcell', ?_⟩
    refine ⟨?_, trivial⟩
    refine call_b (reqE_any x y A1 B1 cap1 capb S _ (hr1.below (Below.refl _ _).drew) (hr2.below (Below.refl _ _).drew)) ?_
    intro w3 h3
    have hcq := (hc.drew.quiet h3).1
    refine ⟨(Keeps.start _ _).below (fun b hb => hb) h3, ?_⟩
    rcases Bool.eq_false_or_eq_true (eqE x y) with hv | hv
    · refine split_f (by rw [hv]; rfl) ?_
      rw [hv, Bool.true_and] at he
      refine ⟨i + 1, ⟨rfl, rfl, congrArg _ (i_down (by omega)), trivial⟩, ⟨hlt, he, hcq⟩, by show a.l.length - (i + 1) < a.l.length - i; omega⟩
    · refine split_t (by rw [hv]; rfl) ?_
      rw [hv, Bool.false_and] at he
      rw [← he, Bool.and_false] at e0
      exact ⟨ret_bool e0.symm, hcq.below⟩
  refine split_f (decide_eq_false (by omega)) ?_
  rw [List.drop_of_length_le (by omega), List.drop_of_length_le (by omega), eqAll] at he
  rw [← he, Bool.and_true] at e0
  refine ⟨Nat, fun i => [(2, .pointer (some ⟨g1, 0, none⟩)), (3, .pointer (some ⟨g2, 0, none⟩)), (6, .int .i64 i)],
    fun i w' => i ≤ a.ms.length ∧ eqAll eqMem (a.ms.drop i) (b.ms.drop i) = eqAll eqMem a.ms b.ms ∧ Ctx no w no w' [(g2, 78, [.int .i64 b.seq, .slice A' b.l.length cap2, .slice B' b.ms.length cap3, .int .i64 k0, .int .i64 k1, .int .i64 k2, .int .i64 k3, .int .i64 k4]), (g1, 78, [.int .i64 a.seq, .slice A a.l.length cap, .slice B a.ms.length cap', .int .i64 l0, .int .i64 l1, .int .i64 l2, .int .i64 l3, .int .i64 l4])], fun i _ => a.ms.length - i, 0,
    ⟨rfl, rfl, rfl, trivial⟩, ⟨Nat.zero_le _, rfl, hc⟩, ?_⟩
  rintro i w' u ⟨hi, he, hc⟩
  refine ⟨_, hc.cell 1 rfl _ rfl, ?_⟩
  rcases Nat.lt_or_ge i a.ms.length with hlt | hlt
  · refine split_t (decide_eq_true (by omega)) ?_
    obtain ⟨ad, e1, hcell⟩ := RowM.elem (hM.below hc.below) i hlt
    obtain ⟨bd, e2, hcell'⟩ := RowM.elem (hM'.below hc.below) i (by omega)
    subst e1
    subst e2
    rw [List.drop_eq_getElem_cons hlt, List.drop_eq_getElem_cons (show i < b.ms.length by omega), eqAll] at he
    generalize a.ms[i] = x at *
    generalize b.ms[i]'(by omega) = y at *
    refine drawn lay_ok (by kernel_rfl) (.q 0 (.q 1 (.q 2 (.q 3 (.q 4 (.q 5 (.q 6 (.q 7 (.q 8 (.q 9 (.q 10 .fin))))))))))) (Keeps (fun b => b < w'.heap.size) w') (by kernel_rfl) (Keeps.start _ _) ?_
    refine ⟨_, fun z hz => hz.look (hc.cell 1 rfl _ rfl), ?_⟩
    refine ⟨⟨by omega, by omega⟩, ?_⟩
    refine ⟨memC x, rfl, fun z hz => hz.looks _ _ hcell, ?_⟩
    refine ⟨_, fun z hz => hz.look (hc.cell 0 rfl _ rfl), ?_⟩
    refine ⟨⟨by omega, by omega⟩, ?_⟩
    refine ⟨memC y, rfl, fun z hz => hz.looks _ _ hcell', ?_⟩
    refine ⟨_, fun w => neq_run gd_mem (eqMem_in 9997 · x y) _ _ w, ?_⟩
    have hc := hc.drew
    rcases Bool.eq_false_or_eq_true (eqMem x y) with hv | hv
    · refine split_f (by rw [hv]; rfl) ?_
      rw [hv, Bool.true_and] at he
      refine ⟨i + 1, ⟨rfl, rfl, congrArg _ (i_down (by omega)), trivial⟩, ⟨hlt, he, hc⟩, by show a.ms.length - (i + 1) < a.ms.length - i; omega⟩
    · refine split_t (by rw [hv]; rfl) ?_
      rw [hv, Bool.false_and] at he
      rw [← he] at e0
      exact ⟨ret_bool e0.symm, hc.below⟩
  · refine split_f (decide_eq_false (by omega)) ?_
    rw [List.drop_of_length_le (by omega), List.drop_of_length_le (by omega), eqAll] at he
    rw [← he] at e0
    exact ⟨ret_bool e0.symm, hc.below⟩
theorem lows_cell {w : World} {g T : Nat} {a b c : Value} {l0 l1 l2 l3 l4 : Int} (hB : Blk w g T [a, b, c, .int .i64 l0, .int .i64 l1, .int .i64 l2, .int .i64 l3, .int .i64 l4]) (h j : Int) (hr : 1 ≤ h ∧ h ≤ 5) (hj : j = h - 1) :
    w.cell? ((⟨g, 0 + 3, none⟩ : Addr).add (j.toNat * 1)) = some (.int .i64 (lowAt [l0, l1, l2, l3, l4] h)) := by
  subst hj
  have hh : h = 1 ∨ h = 2 ∨ h = 3 ∨ h = 4 ∨ h = 5 := by omega
  rcases hh with rfl | rfl | rfl | rfl | rfl
  · exact hB.cell 3
  · exact hB.cell 4
  · exact hB.cell 5
  · exact hB.cell 6
  · exact hB.cell 7
theorem lows_index (l0 l1 l2 l3 l4 : Int) (i : Nat) (hi : i < 5) (w : World) : (Instr.index 76 (.agg #[.int .i64 l0, .int .i64 l1, .int .i64 l2, .int .i64 l3, .int .i64 l4]) (.int .i64 i)).run Tryz.prog w = .ok (.int .i64 ([l0, l1, l2, l3, l4].getD i 0)) w := by
  obtain ⟨ti, hsz, _, hs1, _⟩ := info_parts (show (Tryz.prog.info? 2).map (fun i => (i.zero, i.size, i.bytes)) = some (some (.int .i64 0), 1, 8) by kernel_rfl)
  unfold Instr.index
  simp only [Sem.run_bind, asIntOf, Sem.run_pure, Result.andThen_ok, run_underlying Tryz.underlying76]
  rw [if_pos ⟨by omega, by omega⟩]
  match i, hi with
  | 0, _ => simp [part, isAgg, sizeOf, typeInfo, run_underlying Tryz.underlying2, hsz, hs1]
  | 1, _ => simp [part, isAgg, sizeOf, typeInfo, run_underlying Tryz.underlying2, hsz, hs1]
  | 2, _ => simp [part, isAgg, sizeOf, typeInfo, run_underlying Tryz.underlying2, hsz, hs1]
  | 3, _ => simp [part, isAgg, sizeOf, typeInfo, run_underlying Tryz.underlying2, hsz, hs1]
  | 4, _ => simp [part, isAgg, sizeOf, typeInfo, run_underlying Tryz.underlying2, hsz, hs1]
def prevK (l : List Ent) (i : Nat) : Option ByteArray := if i = 0 then none else (l[i - 1]?).map (·.key)
def prevM (l : List Mem) (i : Nat) : Option Int := if i = 0 then none else (l[i - 1]?).map (·.req)
def leK (p : Option ByteArray) (k : ByteArray) : Bool := match p with | none => true | some q => strLt q k
def leM (p : Option Int) (n : Int) : Bool := match p with | none => true | some q => decide (q < n)
theorem risE_cons (seq : Int) (p : Option ByteArray) (e : Ent) (r : List Ent) : risE seq p (e :: r) = (mayE e && decide ((lastV e.vs).ver ≤ seq) && leK p e.key && risE seq (some e.key) r) := by
  cases p <;> simp only [risE, leK]
theorem memB_cons (lows : List Int) (seq : Int) (p : Option Int) (m : Mem) (r : List Mem) : memB lows seq p (m :: r) = (!(homeI m.req == 0) && decide (lowAt lows (homeI m.req) ≤ m.req) && leM p m.req &&
    decide (0 ≤ m.res.err) && decide (m.res.err ≤ 13) && decide (0 ≤ m.res.ver) && decide (m.res.ver ≤ seq) && memB lows seq (some m.req) r) := by
  cases p <;> simp only [memB, leM]
def stC (s : Stt) (A : Option Addr) (cap : Nat) (B : Option Addr) (cap' : Nat) (l0 l1 l2 l3 l4 : Int) : List Value := [.int .i64 s.seq, .slice A s.l.length cap, .slice B s.ms.length cap', .int .i64 l0, .int .i64 l1, .int .i64 l2, .int .i64 l3, .int .i64 l4]
set_option maxHeartbeats 2000000 in
theorem bmay_any (s : Stt) (hk : ∀ e ∈ s.l, strok e.key) (cs : List Value) (S : Nat → Prop) (w : World) (hs : RepS S w s cs) : Calls Tryz.prog 61 #[.agg cs.toArray] w (RetB (.bool (mayS s)) w) := by
  obtain ⟨A, cap, css, B, cap', l0, l1, l2, l3, l4, rfl, el, hE, hR, hM⟩ := hs.shape
  have hMa := row_max hR
  have hMm := row_max hM
  refine calls_vc lay_ok Tryz.func61 rfl (by kernel_rfl) (by kernel_rfl) ?_
  intro g1 w1 h1
  have hc := ((Ctx.start w no (fun _ h => h.elim)).loc h1).1
  have e0 : mayS s = (decide (0 ≤ s.seq) && decide (s.seq ≤ maxN) && decide (s.l.length ≤ 40) && decide (s.ms.length ≤ 100) && risE s.seq none s.l && lowsB 0 s.lows && memB s.lows s.seq none s.ms) := rfl
  have hmax : maxN = 1099511627776 := rfl
  rw [el] at e0
  generalize mayS s = r at e0 ⊢
  refine ⟨_, hc.cell 0 rfl _ rfl, ?_⟩
  rcases Int.lt_or_le s.seq 0 with c1 | c1
  · refine split_t (decide_eq_true c1) ?_
    rw [decide_eq_false (show ¬ 0 ≤ s.seq by omega)] at e0
    exact ⟨ret_bool e0.symm, hc.below⟩
  refine split_f (decide_eq_false (show ¬ s.seq < 0 by omega)) ?_
  refine ⟨_, hc.cell 0 rfl _ rfl, ?_⟩
  rcases Int.lt_or_le 1099511627776 s.seq with c2 | c2
  · refine split_t (decide_eq_true c2) ?_
    rw [decide_eq_true c1, decide_eq_false (show ¬ s.seq ≤ maxN by omega)] at e0
    exact ⟨ret_bool e0.symm, hc.below⟩
  refine split_f (decide_eq_false (show ¬ 1099511627776 < s.seq by omega)) ?_
  refine ⟨_, hc.cell 0 rfl _ rfl, ?_⟩
  rcases Nat.lt_or_ge 40 s.l.length with c3 | c3
  · refine split_t (decide_eq_true (show (40 : Int) < (s.l.length : Int) by omega)) ?_
    rw [decide_eq_false (show ¬ s.l.length ≤ 40 by omega), Bool.and_false] at e0
    exact ⟨ret_bool e0.symm, hc.below⟩
  refine split_f (decide_eq_false (show ¬ (40 : Int) < (s.l.length : Int) by omega)) ?_
  refine ⟨_, hc.cell 0 rfl _ rfl, ?_⟩
  rcases Nat.lt_or_ge 100 s.ms.length with c4 | c4
  · refine split_t (decide_eq_true (show (100 : Int) < (s.ms.length : Int) by omega)) ?_
    rw [decide_eq_false (show ¬ s.ms.length ≤ 100 by omega), Bool.and_false] at e0
    exact ⟨ret_bool e0.symm, hc.below⟩
  refine split_f (decide_eq_false (show ¬ (100 : Int) < (s.ms.length : Int) by omega)) ?_
  rw [decide_eq_true c1, decide_eq_true (show s.seq ≤ maxN by omega), decide_eq_true c3, decide_eq_true c4, Bool.and_self, Bool.and_self, Bool.and_self, Bool.true_and] at e0
  refine ⟨_, hc.cell 0 rfl _ rfl, ?_⟩
  refine ⟨Nat, fun i => [(1, .pointer (some ⟨g1, 0, none⟩)), (31, .slice A s.l.length cap), (32, .int .i64 s.l.length), (33, .int .i64 i)],
    fun i w' => i ≤ s.l.length ∧ risE s.seq (prevK s.l i) (s.l.drop i) = risE s.seq none s.l ∧ Ctx no w no w' [(g1, 78, stC s A cap B cap' l0 l1 l2 l3 l4)], fun i _ => s.l.length - i, 0,
    ⟨rfl, rfl, rfl, rfl, trivial⟩, ⟨Nat.zero_le _, rfl, hc⟩, ?_⟩
  rintro i w' u ⟨hi, he, hc⟩
  rcases Nat.lt_or_ge i s.l.length with hlt | hlt
  · refine split_t (decide_eq_true (by omega)) ?_
    obtain ⟨ad, A1, cap1, e1, hcell, hr1⟩ := RowE.elem (hR.below hc.below) (hE.below hc.below) i hlt
    subst e1
    have hnext : prevK s.l (i + 1) = some s.l[i].key := by rw [prevK, if_neg (by omega), Nat.add_sub_cancel, List.getElem?_eq_getElem hlt]; rfl
    have hkk := hk _ (List.getElem_mem hlt)
    rw [List.drop_eq_getElem_cons hlt, risE_cons] at he
    generalize s.l[i] = e at *
    refine ⟨⟨by omega, by omega⟩, ?_⟩
    refine ⟨[.string e.key, .slice A1 e.vs.length cap1], rfl, hcell, ?_⟩
    intro g4 w4 h4
    have hc := (hc.loc h4).1
    refine ⟨hc.may 0 rfl 0 _ (Nat.le_refl 2) rfl, ?_⟩
    intro w5 h5
    have hc := (hc.set 0 rfl h5).1
    have cz := ((Ctx.start w' no (fun _ h => h.elim)).loc h4).1
    have cz := (cz.set 0 rfl h5).1
    have hr1 := hr1.below cz.below
    have hMv := row_max hr1
    have out : ∀ w6 : World, Below w.heap.size w w6 → (mayE e && decide ((lastV e.vs).ver ≤ s.seq) && leK (prevK s.l i) e.key) = false → RetB (.bool r) w (.returned (.bool false)) w6 := fun w6 hb h => by
      rw [h, Bool.false_and] at he
      rw [← he, Bool.false_and, Bool.false_and] at e0
      exact ⟨ret_bool e0.symm, hb⟩
    refine drawn lay_ok (by kernel_rfl) (.q 0 (.n 1 (.q 2 (.q 3 (.q 4 (.q 5 (.q 6 (.q 7 (.q 8 (.q 9 (.q 10 (.q 11 (.q 12 (.q 13 (.q 14 (.q 15 (.q 16 (.q 17 (.q 18 (.q 19 (.q 20 (.q 21 (.q 22 (.q 23 (.q 24 (.q 25 (.q 26 (.q 27 (.q 28 (.q 29 (.q 30 (.q 31 (.q 32 .fin))))))))))))))))))))))))))))))) .stop)) (Keeps (fun b => b < w5.heap.size) w5) (by kernel_rfl) (Keeps.start _ _) ?_
    refine ⟨_, ?_, fun x hx => hx.looks _ _ (hc.cells 0 rfl), ?_⟩
    · rfl
    refine ⟨?_, trivial⟩
    refine call_b (tmay_any e hkk A1 cap1 S _ (hr1.below (Below.refl _ _).drew)) ?_
    intro w6 h6
    have hcq := (hc.drew.quiet h6).1
    refine ⟨(Keeps.start _ _).below (fun b hb => hb) h6, ?_⟩
    rcases Bool.eq_false_or_eq_true (mayE e) with hm | hm
    rotate_left
    · refine split_t (by rw [hm]; rfl) ?_
      exact out _ hcq.below (by rw [hm]; rfl)
    refine split_f (by rw [hm]; rfl) ?_
    have hpos := (mayE_parts.1 hm).2.2.1
    have hlv : e.vs.length - 1 < e.vs.length := by omega
    have hw : IntKind.i64.wrap ((e.vs.length : Int) - 1) = ((e.vs.length - 1 : Nat) : Int) := by rw [IntWalk.i64_in _ ⟨by omega, by omega⟩]; omega
    obtain ⟨ed, e2, hcl⟩ := RowV.elem hr1 (e.vs.length - 1) hlv
    subst e2
    rw [← lastV_get hlv] at hcl
    refine ⟨_, fun x hx => hx.look (hc.cell 0 rfl _ rfl), ?_⟩
    refine ⟨_, fun x hx => hx.look (hc.cell 0 rfl _ rfl), ?_⟩
    refine ⟨⟨by rw [hw]; omega, by rw [hw]; omega⟩, ?_⟩
    have hl0 : w5.cell? (ed.add ((IntKind.i64.wrap ((e.vs.length : Int) - 1)).toNat * 3)) = some (.int .i64 (lastV e.vs).ver) := by
      have := hcl.1
      rw [add_add, Nat.add_zero] at this
      rw [hw, Int.toNat_natCast]
      exact this
    generalize ed.add ((IntKind.i64.wrap ((e.vs.length : Int) - 1)).toNat * 3) = ae at hl0 ⊢
    obtain ⟨ab, ao, asub⟩ := ae
    refine ⟨_, fun x hx => hx.look hl0, ?_⟩
    refine ⟨_, fun x hx => hx.look (hc.cell 1 rfl _ rfl), ?_⟩
    rcases Int.lt_or_le s.seq (lastV e.vs).ver with c5 | c5
    · refine split_t (decide_eq_true c5) ?_
      exact out _ hcq.below (by rw [decide_eq_false (show ¬ (lastV e.vs).ver ≤ s.seq by omega), Bool.and_false]; rfl)
    refine split_f (decide_eq_false (show ¬ s.seq < (lastV e.vs).ver by omega)) ?_
    have next : leK (prevK s.l i) e.key = true → risE s.seq (prevK s.l (i + 1)) (s.l.drop (i + 1)) = risE s.seq none s.l := fun h => by
      rw [hnext, ← he, hm, decide_eq_true c5, h]; rfl
    rcases Nat.eq_zero_or_pos i with c6 | c6
    · refine split_f (decide_eq_false (show ¬ (0 : Int) < (i : Int) by omega)) ?_
      exact ⟨i + 1, ⟨rfl, rfl, rfl, congrArg _ (i_down (by omega)), trivial⟩, ⟨hlt, next (by rw [prevK, if_pos c6]; rfl), hcq.drop⟩, by show s.l.length - (i + 1) < s.l.length - i; omega⟩
    refine split_t (decide_eq_true (show (0 : Int) < (i : Int) by omega)) ?_
    have hj : i - 1 < s.l.length := by omega
    have hwi : IntKind.i64.wrap ((i : Int) - 1) = ((i - 1 : Nat) : Int) := by rw [IntWalk.i64_in _ ⟨by omega, by omega⟩]; omega
    obtain ⟨ad', A2, cap2, e3, hcellp, _⟩ := RowE.elem (hR.below hc.below) (hE.below hc.below) (i - 1) hj
    cases e3
    have hpk : prevK s.l i = some s.l[i - 1].key := by rw [prevK, if_neg (by omega), List.getElem?_eq_getElem hj]; rfl
    refine ⟨_, fun x hx => hx.look (hc.cell 1 rfl _ rfl), ?_⟩
    refine ⟨⟨by rw [hwi]; omega, by rw [hwi]; omega⟩, ?_⟩
    have hp0 : w5.cell? (ad.add ((IntKind.i64.wrap ((i : Int) - 1)).toNat * 2)) = some (.string s.l[i - 1].key) := by
      have := hcellp.1
      rw [add_add, Nat.add_zero] at this
      rw [hwi, Int.toNat_natCast]
      exact this
    generalize ad.add ((IntKind.i64.wrap ((i : Int) - 1)).toNat * 2) = ap at hp0 ⊢
    obtain ⟨pb, po, psub⟩ := ap
    refine ⟨_, fun x hx => hx.look hp0, ?_⟩
    refine ⟨_, fun x hx => hx.look (hc.cell 0 rfl _ rfl), ?_⟩
    rcases Bool.eq_false_or_eq_true (strLt s.l[i - 1].key e.key) with c7 | c7
    · refine split_f (by rw [c7]; rfl) ?_
      exact ⟨i + 1, ⟨rfl, rfl, rfl, congrArg _ (i_down (by omega)), trivial⟩, ⟨hlt, next (by rw [hpk]; exact c7), hcq.drop⟩, by show s.l.length - (i + 1) < s.l.length - i; omega⟩
    · refine split_t (by rw [c7]; rfl) ?_
      exact out _ hcq.below (by rw [hpk]; show (_ && strLt s.l[i - 1].key e.key) = false; rw [c7, Bool.and_false])
  refine split_f (decide_eq_false (by omega)) ?_
  rw [List.drop_of_length_le (by omega), risE] at he
  rw [← he, Bool.true_and] at e0
  refine ⟨[.int .i64 l0, .int .i64 l1, .int .i64 l2, .int .i64 l3, .int .i64 l4], rfl, hc.cellsAt 0 rfl (0 + 3) _ rfl, ?_⟩
  refine ⟨Nat, fun i => [(1, .pointer (some ⟨g1, 0, none⟩)), (73, .agg #[.int .i64 l0, .int .i64 l1, .int .i64 l2, .int .i64 l3, .int .i64 l4]), (74, .int .i64 i)],
    fun i w' => i ≤ 5 ∧ lowsB i ([l0, l1, l2, l3, l4].drop i) = lowsB 0 [l0, l1, l2, l3, l4] ∧ Ctx no w no w' [(g1, 78, stC s A cap B cap' l0 l1 l2 l3 l4)], fun i _ => 5 - i, 0,
    ⟨rfl, rfl, rfl, trivial⟩, ⟨Nat.zero_le _, rfl, hc⟩, ?_⟩
  rintro i w' u ⟨hi, he, hc⟩
  rcases Nat.lt_or_ge i 5 with hlt | hlt
  · refine split_t (decide_eq_true (by omega)) ?_
    refine ⟨_, fun w => lows_index l0 l1 l2 l3 l4 i hlt w, ?_⟩
    have hd : [l0, l1, l2, l3, l4].drop i = [l0, l1, l2, l3, l4].getD i 0 :: [l0, l1, l2, l3, l4].drop (i + 1) := by
      match i, hlt with
      | 0, _ => rfl
      | 1, _ => rfl
      | 2, _ => rfl
      | 3, _ => rfl
      | 4, _ => rfl
    rw [hd, lowsB] at he
    generalize [l0, l1, l2, l3, l4].getD i 0 = x at *
    have hwi : IntKind.i64.wrap ((i : Int) + 1) = (i : Int) + 1 := wrap_add _ _ (by omega) (by omega)
    rcases Int.decEq x 0 with c1 | c1
    · refine split_t (by show (x != 0) = true; rw [bne_iff_ne]; exact c1) ?_
      refine call_b (home_any x _) ?_
      intro w3 h3
      have hc := (hc.quiet h3).1
      have hx0 : (x == 0) = false := by rw [beq_eq_false_iff_ne]; exact c1
      rcases Int.decEq (homeI x) ((i : Int) + 1) with c2 | c2
      · refine split_t (by show (homeI x != IntKind.i64.wrap ((i : Int) + 1)) = true; rw [hwi, bne_iff_ne]; exact c2) ?_
        have : (homeI x == (i : Int) + 1) = false := by rw [beq_eq_false_iff_ne]; exact c2
        rw [hx0, this] at he
        rw [← he] at e0
        exact ⟨ret_bool e0.symm, hc.below⟩
      · refine split_f (by show (homeI x != IntKind.i64.wrap ((i : Int) + 1)) = false; rw [hwi, c2]; simp) ?_
        have : (homeI x == (i : Int) + 1) = true := by rw [beq_iff_eq]; exact c2
        rw [this, Bool.or_true, Bool.true_and] at he
        exact ⟨i + 1, ⟨rfl, rfl, congrArg _ (i_down (by omega)), trivial⟩, ⟨hlt, he, hc⟩, by show 5 - (i + 1) < 5 - i; omega⟩
    · subst c1
      exact ⟨i + 1, ⟨rfl, rfl, congrArg _ (i_down (by omega)), trivial⟩, ⟨hlt, he, hc⟩, by show 5 - (i + 1) < 5 - i; omega⟩
  refine split_f (decide_eq_false (by omega)) ?_
  rw [List.drop_of_length_le (by show 5 ≤ i; exact hlt), lowsB] at he
  rw [← he, Bool.true_and] at e0
  refine ⟨_, hc.cell 0 rfl _ rfl, ?_⟩
  refine ⟨Nat, fun i => [(1, .pointer (some ⟨g1, 0, none⟩)), (89, .slice B s.ms.length cap'), (90, .int .i64 s.ms.length), (91, .int .i64 i)],
    fun i w' => i ≤ s.ms.length ∧ memB [l0, l1, l2, l3, l4] s.seq (prevM s.ms i) (s.ms.drop i) = memB [l0, l1, l2, l3, l4] s.seq none s.ms ∧ Ctx no w no w' [(g1, 78, stC s A cap B cap' l0 l1 l2 l3 l4)], fun i _ => s.ms.length - i, 0,
    ⟨rfl, rfl, rfl, rfl, trivial⟩, ⟨Nat.zero_le _, rfl, hc⟩, ?_⟩
  rintro i w' u ⟨hi, he, hc⟩
  rcases Nat.lt_or_ge i s.ms.length with hlt | hlt
  · refine split_t (decide_eq_true (by omega)) ?_
    obtain ⟨ad, e1, hcell⟩ := RowM.elem (hM.below hc.below) i hlt
    subst e1
    have hnext : prevM s.ms (i + 1) = some s.ms[i].req := by rw [prevM, if_neg (by omega), Nat.add_sub_cancel, List.getElem?_eq_getElem hlt]; rfl
    rw [List.drop_eq_getElem_cons hlt, memB_cons] at he
    generalize s.ms[i] = m at *
    refine ⟨⟨by omega, by omega⟩, ?_⟩
    refine ⟨memC m, rfl, hcell, ?_⟩
    intro g8 w4 h4
    have hc := (hc.loc h4).1
    refine ⟨hc.may 0 rfl 0 _ (Nat.le_refl 3) rfl, ?_⟩
    intro w5 h5
    have hc := (hc.set 0 rfl h5).1
    refine ⟨_, hc.cell 0 rfl _ rfl, ?_⟩
    refine call_b (home_any m.req _) ?_
    intro w6 h6
    have hc := (hc.quiet h6).1
    have hh := homeI_range m.req
    have out : ∀ w6 : World, Below w.heap.size w w6 → (!(homeI m.req == 0) && decide (lowAt [l0, l1, l2, l3, l4] (homeI m.req) ≤ m.req) && leM (prevM s.ms i) m.req && decide (0 ≤ m.res.err) && decide (m.res.err ≤ 13) && decide (0 ≤ m.res.ver) && decide (m.res.ver ≤ s.seq)) = false → RetB (.bool r) w (.returned (.bool false)) w6 := fun w6 hb h => by
      rw [h, Bool.false_and] at he
      rw [← he] at e0
      exact ⟨ret_bool e0.symm, hb⟩
    generalize homeI m.req = hm at *
    refine drawn lay_ok (by kernel_rfl) (.q 0 (.q 1 (.q 2 (.q 3 (.q 4 (.q 5 (.q 6 (.q 7 (.q 8 (.q 9 (.q 10 (.q 11 (.q 12 (.q 13 (.q 14 (.q 15 (.q 16 (.q 17 (.q 18 (.q 19 (.q 20 (.q 21 (.q 22 (.q 23 (.q 24 (.q 25 (.q 26 (.q 27 .fin)))))))))))))))))))))))))))) (Keeps (fun b => b < w6.heap.size) w6) (by kernel_rfl) (Keeps.start _ _) ?_
    have hcd := hc.drew
    rcases Int.decEq hm 0 with c1 | c1
    rotate_left
    · subst c1
      exact out _ hcd.below rfl
    refine split_f (by show (hm == 0) = false; rw [beq_eq_false_iff_ne]; exact c1) ?_
    have hwm : IntKind.i64.wrap (hm - 1) = hm - 1 := IntWalk.i64_in _ ⟨by omega, by omega⟩
    refine ⟨_, fun x hx => hx.look (hc.cell 0 rfl _ rfl), ?_⟩
    refine ⟨⟨by rw [hwm]; omega, by rw [hwm]; omega⟩, ?_⟩
    have hl0 := lows_cell (hc.blk 1 rfl) hm (IntKind.i64.wrap (hm - 1)) ⟨by omega, by omega⟩ hwm
    have hm0 : (hm == 0) = false := by rw [beq_eq_false_iff_ne]; exact c1
    generalize lowAt [l0, l1, l2, l3, l4] hm = lo at *
    generalize (⟨g1, 0 + 3, none⟩ : Addr).add ((IntKind.i64.wrap (hm - 1)).toNat * 1) = al at hl0 ⊢
    obtain ⟨lb, lof, lsub⟩ := al
    refine ⟨_, fun x hx => hx.look hl0, ?_⟩
    rcases Int.lt_or_le m.req lo with c2 | c2
    · refine split_t (decide_eq_true c2) ?_
      exact out _ hcd.below (by rw [decide_eq_false (show ¬ lo ≤ m.req by omega), Bool.and_false]; rfl)
    refine split_f (decide_eq_false (show ¬ m.req < lo by omega)) ?_
    have hfar : leM (prevM s.ms i) m.req = true → (!(hm == 0) && decide (lo ≤ m.req) && leM (prevM s.ms i) m.req) = true := fun h => by rw [hm0, decide_eq_true c2, h]; rfl
    rcases Nat.eq_zero_or_pos i with c3 | c3
    all_goals first
      | (refine split_f (decide_eq_false (show ¬ (0 : Int) < (i : Int) by omega)) ?_
         have hle := hfar (by rw [prevM, if_pos c3]; rfl))
      | (refine split_t (decide_eq_true (show (0 : Int) < (i : Int) by omega)) ?_
         have hj : i - 1 < s.ms.length := by omega
         have hwi : IntKind.i64.wrap ((i : Int) - 1) = ((i - 1 : Nat) : Int) := by rw [IntWalk.i64_in _ ⟨by omega, by omega⟩]; omega
         obtain ⟨ad', e3, hcellp⟩ := RowM.elem (hM.below hc.below) (i - 1) hj
         cases e3
         have hpk : prevM s.ms i = some s.ms[i - 1].req := by rw [prevM, if_neg (by omega), List.getElem?_eq_getElem hj]; rfl
         refine ⟨_, fun x hx => hx.look (hc.cell 1 rfl _ rfl), ?_⟩
         refine ⟨⟨by rw [hwi]; omega, by rw [hwi]; omega⟩, ?_⟩
         have hp0 : w6.cell? (ad.add ((IntKind.i64.wrap ((i : Int) - 1)).toNat * 3)) = some (.int .i64 s.ms[i - 1].req) := by
           have := hcellp.1
           rw [add_add, Nat.add_zero] at this
           rw [hwi, Int.toNat_natCast]
           exact this
         generalize ad.add ((IntKind.i64.wrap ((i : Int) - 1)).toNat * 3) = ap at hp0 ⊢
         obtain ⟨pb, po, psub⟩ := ap
         refine ⟨_, fun x hx => hx.look hp0, ?_⟩
         refine ⟨_, fun x hx => hx.look (hc.cell 0 rfl _ rfl), ?_⟩
         rcases Int.lt_or_le s.ms[i - 1].req m.req with c7 | c7
         rotate_left
         · refine split_t (decide_eq_true c7) ?_
           exact out _ hcd.below (by
             have : leM (prevM s.ms i) m.req = false := by rw [hpk]; exact decide_eq_false (by omega)
             rw [this, Bool.and_false]; rfl)
         refine split_f (decide_eq_false (show ¬ m.req ≤ s.ms[i - 1].req by omega)) ?_
         have hle := hfar (by rw [hpk]; exact decide_eq_true c7))
    all_goals rw [hle, Bool.true_and] at out he
    all_goals refine ⟨_, hcd.cell 0 rfl _ rfl, ?_⟩
    all_goals rcases Int.lt_or_le m.res.err 0 with d1 | d1
    all_goals first
      | (refine split_t (decide_eq_true d1) ?_
         exact out _ hcd.below (by rw [decide_eq_false (show ¬ 0 ≤ m.res.err by omega)]; rfl))
      | (refine split_f (decide_eq_false (show ¬ m.res.err < 0 by omega)) ?_)
    all_goals refine ⟨_, hcd.cell 0 rfl _ rfl, ?_⟩
    all_goals rcases Int.lt_or_le 13 m.res.err with d2 | d2
    all_goals first
      | (refine split_t (decide_eq_true d2) ?_
         exact out _ hcd.below (by rw [decide_eq_false (show ¬ m.res.err ≤ 13 by omega), Bool.and_false]; rfl))
      | (refine split_f (decide_eq_false (show ¬ 13 < m.res.err by omega)) ?_)
    all_goals refine ⟨_, hcd.cell 0 rfl _ rfl, ?_⟩
    all_goals rcases Int.lt_or_le m.res.ver 0 with d3 | d3
    all_goals first
      | (refine split_t (decide_eq_true d3) ?_
         exact out _ hcd.below (by rw [decide_eq_false (show ¬ 0 ≤ m.res.ver by omega), Bool.and_false]; rfl))
      | (refine split_f (decide_eq_false (show ¬ m.res.ver < 0 by omega)) ?_)
    all_goals refine ⟨_, hcd.cell 0 rfl _ rfl, ?_⟩
    all_goals refine ⟨_, hcd.cell 1 rfl _ rfl, ?_⟩
    all_goals rcases Int.lt_or_le s.seq m.res.ver with d4 | d4
    all_goals first
      | (refine split_t (decide_eq_true d4) ?_
         exact out _ hcd.below (by rw [decide_eq_false (show ¬ m.res.ver ≤ s.seq by omega), Bool.and_false]))
      | (refine split_f (decide_eq_false (show ¬ s.seq < m.res.ver by omega)) ?_
         rw [decide_eq_true d1, decide_eq_true d2, decide_eq_true d3, decide_eq_true d4] at he
         exact ⟨i + 1, ⟨rfl, rfl, rfl, congrArg _ (i_down (by omega)), trivial⟩, ⟨hlt, by rw [hnext]; exact he, hcd.drop⟩, by show s.ms.length - (i + 1) < s.ms.length - i; omega⟩)
  · refine split_f (decide_eq_false (by omega)) ?_
    rw [List.drop_of_length_le (by omega), memB] at he
    rw [← he] at e0
    exact ⟨ret_bool e0.symm, hc.below⟩
structure Ver.Ok (v : Ver) : Prop where
  ver : i64ok v.ver
  body : strok v.body
structure Ent.Ok (e : Ent) : Prop where
  key : strok e.key
  vs : ∀ v ∈ e.vs, v.Ok
structure Mem.Ok (m : Mem) : Prop where
  req : i64ok m.req
  err : i64ok m.res.err
  ver : i64ok m.res.ver
structure Stt.Ok (s : Stt) : Prop where
  seq : i64ok s.seq
  l : ∀ e ∈ s.l, e.Ok
  ms : ∀ m ∈ s.ms, m.Ok
  lows : ∀ x ∈ s.lows, i64ok x
theorem lows_cellN {w : World} {g T : Nat} {a b c : Value} {l0 l1 l2 l3 l4 : Int} (hB : Blk w g T [a, b, c, .int .i64 l0, .int .i64 l1, .int .i64 l2, .int .i64 l3, .int .i64 l4]) (i : Nat) (hi : i < 5) :
    w.cell? ((⟨g, 0 + 3, none⟩ : Addr).add ((i : Int).toNat * 1)) = some (.int .i64 ([l0, l1, l2, l3, l4].getD i 0)) := by
  match i, hi with
  | 0, _ => exact hB.cell 3
  | 1, _ => exact hB.cell 4
  | 2, _ => exact hB.cell 5
  | 3, _ => exact hB.cell 6
  | 4, _ => exact hB.cell 7
theorem leK_leq (q k : ByteArray) : (strLt k q || strEq k q) = !strLt q k := (strLt_tri q k).symm
set_option maxHeartbeats 4000000 in
theorem rmayS_any (s : Stt) (hk : s.Ok) (cs : List Value) (S : Nat → Prop) (w : World) (hs : RepS S w s cs) : Calls Tryz.prog 62 #[.agg cs.toArray] w (RetB (.bool (mayS s)) w) := by
  obtain ⟨A, cap, css, B, cap', l0, l1, l2, l3, l4, rfl, el, hE, hR, hM⟩ := hs.shape
  have hMa := row_max hR
  have hMm := row_max hM
  refine calls_vc lay_ok Tryz.func62 rfl (by kernel_rfl) (by kernel_rfl) ?_
  intro g1 w1 h1
  have hc := ((Ctx.start w no (fun _ h => h.elim)).loc h1).1
  have e0 : mayS s = (decide (0 ≤ s.seq) && decide (s.seq ≤ maxN) && decide (s.l.length ≤ 40) && decide (s.ms.length ≤ 100) && risE s.seq none s.l && lowsB 0 s.lows && memB s.lows s.seq none s.ms) := rfl
  have hmax : maxN = 1099511627776 := rfl
  have hlows := hk.lows
  rw [el] at e0 hlows
  generalize mayS s = r at e0 ⊢
  refine ⟨_, hc.cell 0 rfl _ rfl, ?_⟩
  rcases Int.lt_or_le s.seq 0 with c1 | c1
  · refine split_t (decide_eq_true c1) ?_
    rw [decide_eq_false (show ¬ 0 ≤ s.seq by omega)] at e0
    exact ⟨ret_bool e0.symm, hc.below⟩
  refine split_f (decide_eq_false (show ¬ s.seq < 0 by omega)) ?_
  refine ⟨_, hc.cell 0 rfl _ rfl, ?_⟩
  rcases Int.lt_or_le 1099511627776 s.seq with c2 | c2
  · refine split_t (decide_eq_true c2) ?_
    rw [decide_eq_true c1, decide_eq_false (show ¬ s.seq ≤ maxN by omega)] at e0
    exact ⟨ret_bool e0.symm, hc.below⟩
  refine split_f (decide_eq_false (show ¬ 1099511627776 < s.seq by omega)) ?_
  refine ⟨_, hc.cell 0 rfl _ rfl, ?_⟩
  rcases Nat.lt_or_ge 40 s.l.length with c3 | c3
  · refine split_t (decide_eq_true (show (40 : Int) < (s.l.length : Int) by omega)) ?_
    rw [decide_eq_false (show ¬ s.l.length ≤ 40 by omega), Bool.and_false] at e0
    exact ⟨ret_bool e0.symm, hc.below⟩
  refine split_f (decide_eq_false (show ¬ (40 : Int) < (s.l.length : Int) by omega)) ?_
  refine ⟨_, hc.cell 0 rfl _ rfl, ?_⟩
  rcases Nat.lt_or_ge 100 s.ms.length with c4 | c4
  · refine split_t (decide_eq_true (show (100 : Int) < (s.ms.length : Int) by omega)) ?_
    rw [decide_eq_false (show ¬ s.ms.length ≤ 100 by omega), Bool.and_false] at e0
    exact ⟨ret_bool e0.symm, hc.below⟩
  refine split_f (decide_eq_false (show ¬ (100 : Int) < (s.ms.length : Int) by omega)) ?_
  rw [decide_eq_true c1, decide_eq_true (show s.seq ≤ maxN by omega), decide_eq_true c3, decide_eq_true c4, Bool.and_self, Bool.and_self, Bool.and_self, Bool.true_and] at e0
  refine ⟨Nat, fun i => [(1, .pointer (some ⟨g1, 0, none⟩)), (3, .int .i64 i)],
    fun i w' => i ≤ s.l.length ∧ risE s.seq (prevK s.l i) (s.l.drop i) = risE s.seq none s.l ∧ Ctx no w no w' [(g1, 78, stC s A cap B cap' l0 l1 l2 l3 l4)], fun i _ => s.l.length - i, 0,
    ⟨rfl, rfl, trivial⟩, ⟨Nat.zero_le _, rfl, hc⟩, ?_⟩
  rintro i w5 u ⟨hi, he, hc⟩
  refine ⟨_, hc.cell 0 rfl _ rfl, ?_⟩
  rcases Nat.lt_or_ge i s.l.length with hlt | hlt
  · refine split_t (decide_eq_true (by omega)) ?_
    obtain ⟨ad, A1, cap1, e1, hcell, hr1⟩ := RowE.elem (hR.below hc.below) (hE.below hc.below) i hlt
    subst e1
    have hnext : prevK s.l (i + 1) = some s.l[i].key := by rw [prevK, if_neg (by omega), Nat.add_sub_cancel, List.getElem?_eq_getElem hlt]; rfl
    have hkk := (hk.l _ (List.getElem_mem hlt)).key
    rw [List.drop_eq_getElem_cons hlt, risE_cons] at he
    generalize s.l[i] = e at *
    have hMv := row_max hr1
    have out : ∀ w6 : World, Below w.heap.size w w6 → (mayE e && decide ((lastV e.vs).ver ≤ s.seq) && leK (prevK s.l i) e.key) = false → RetB (.bool r) w (.returned (.bool false)) w6 := fun w6 hb h => by
      rw [h, Bool.false_and] at he
      rw [← he, Bool.false_and, Bool.false_and] at e0
      exact ⟨ret_bool e0.symm, hb⟩
    have hkey : w5.cell? (ad.add ((i : Int).toNat * 2)) = some (.string e.key) := by
      have := hcell.1
      rw [add_add, Nat.add_zero] at this
      exact this
    have hsl : w5.cell? ((ad.add ((i : Int).toNat * 2)).add 1) = some (.slice A1 e.vs.length cap1) := hcell.2.1
    refine drawn lay_ok (by kernel_rfl) (.q 0 (.q 1 (.q 2 (.q 3 (.q 4 (.n 5 (.q 6 (.q 7 (.q 8 (.q 9 (.q 10 (.q 11 (.q 12 (.q 13 (.q 14 (.q 15 (.q 16 (.q 17 (.q 18 (.q 19 (.q 20 (.q 21 (.q 22 (.q 23 (.q 24 (.q 25 (.q 26 (.q 27 (.q 28 (.q 29 (.q 30 (.q 31 (.q 32 (.q 33 (.q 34 (.q 35 (.q 36 (.q 37 (.q 38 (.q 39 (.q 40 (.q 41 (.q 42 (.q 43 (.q 44 (.q 45 (.q 46 (.q 47 (.q 48 .fin))))))))))))))))))))))))))))))))))))))))))) .stop)))))) (Keeps (fun b => b < w5.heap.size) w5) (by kernel_rfl) (Keeps.start _ _) ?_
    refine ⟨_, fun x hx => hx.look (hc.cell 0 rfl _ rfl), ?_⟩
    refine ⟨⟨by omega, by omega⟩, ?_⟩
    refine ⟨[.string e.key, .slice A1 e.vs.length cap1], rfl, fun x hx => hx.looks _ _ hcell, ?_⟩
    refine ⟨?_, trivial⟩
    refine call_b (rmayE_any e hkk A1 cap1 S _ (hr1.below (Below.refl _ _).drew)) ?_
    intro w6 h6
    have hcq := (hc.drew.quiet h6).1
    refine ⟨(Keeps.start _ _).below (fun b hb => hb) h6, ?_⟩
    rcases Bool.eq_false_or_eq_true (mayE e) with hm | hm
    rotate_left
    · refine split_t (by rw [hm]; rfl) ?_
      exact out _ hcq.below (by rw [hm]; rfl)
    refine split_f (by rw [hm]; rfl) ?_
    have hpos := (mayE_parts.1 hm).2.2.1
    have hlv : e.vs.length - 1 < e.vs.length := by omega
    have hw : IntKind.i64.wrap ((e.vs.length : Int) - 1) = ((e.vs.length - 1 : Nat) : Int) := by rw [IntWalk.i64_in _ ⟨by omega, by omega⟩]; omega
    obtain ⟨ed, e2, hcl⟩ := RowV.elem hr1 (e.vs.length - 1) hlv
    subst e2
    rw [← lastV_get hlv] at hcl
    have hl0 : w5.cell? (ed.add ((IntKind.i64.wrap ((e.vs.length : Int) - 1)).toNat * 3)) = some (.int .i64 (lastV e.vs).ver) := by
      have := hcl.1
      rw [add_add, Nat.add_zero] at this
      rw [hw, Int.toNat_natCast]
      exact this
    rcases Nat.eq_zero_or_pos i with c6 | c6
    all_goals first
      | (refine split_f (decide_eq_false (show ¬ (0 : Int) < (i : Int) by omega)) ?_
         have hle : leK (prevK s.l i) e.key = true := by rw [prevK, if_pos c6]; rfl)
      | (refine split_t (decide_eq_true (show (0 : Int) < (i : Int) by omega)) ?_
         have hj : i - 1 < s.l.length := by omega
         have hwi : IntKind.i64.wrap ((i : Int) - 1) = ((i - 1 : Nat) : Int) := by rw [IntWalk.i64_in _ ⟨by omega, by omega⟩]; omega
         obtain ⟨ad', A2, cap2, e3, hcellp, _⟩ := RowE.elem (hR.below hc.below) (hE.below hc.below) (i - 1) hj
         cases e3
         have hpk : prevK s.l i = some s.l[i - 1].key := by rw [prevK, if_neg (by omega), List.getElem?_eq_getElem hj]; rfl
         have hp0 : w5.cell? (ad.add ((IntKind.i64.wrap ((i : Int) - 1)).toNat * 2)) = some (.string s.l[i - 1].key) := by
           have := hcellp.1
           rw [add_add, Nat.add_zero] at this
           rw [hwi, Int.toNat_natCast]
           exact this
         refine ⟨_, fun x hx => hx.look (hc.cell 0 rfl _ rfl), ?_⟩
         refine ⟨⟨by omega, by omega⟩, ?_⟩
         generalize ad.add ((i : Int).toNat * 2) = ae at hkey ⊢
         obtain ⟨ab, ao, asub⟩ := ae
         refine ⟨_, fun x hx => hx.look hkey, ?_⟩
         refine ⟨_, fun x hx => hx.look (hc.cell 0 rfl _ rfl), ?_⟩
         refine ⟨⟨by rw [hwi]; omega, by rw [hwi]; omega⟩, ?_⟩
         generalize ad.add ((IntKind.i64.wrap ((i : Int) - 1)).toNat * 2) = ap at hp0 ⊢
         obtain ⟨pb, po, psub⟩ := ap
         refine ⟨_, fun x hx => hx.look hp0, ?_⟩
         rcases Bool.eq_false_or_eq_true (strLt s.l[i - 1].key e.key) with c7 | c7
         rotate_left
         · refine split_t (by rw [leK_leq, c7]; rfl) ?_
           exact out _ hcq.below (by rw [hpk]; show (_ && strLt s.l[i - 1].key e.key) = false; rw [c7, Bool.and_false])
         refine split_f (by rw [leK_leq, c7]; rfl) ?_
         have hle : leK (prevK s.l i) e.key = true := by rw [hpk]; exact c7)
    all_goals refine ⟨_, fun x hx => hx.look (hc.cell 0 rfl _ rfl), ?_⟩
    all_goals refine ⟨⟨by omega, by omega⟩, ?_⟩
    all_goals have hsl2 := hsl
    all_goals generalize ad.add ((i : Int).toNat * 2) = af at hsl ⊢
    all_goals obtain ⟨fb, fo, fsub⟩ := af
    all_goals refine ⟨_, fun x hx => hx.look (show w5.cell? ⟨fb, fo + 1, none⟩ = _ from hsl), ?_⟩
    all_goals refine ⟨_, fun x hx => hx.look (hc.cell 0 rfl _ rfl), ?_⟩
    all_goals refine ⟨⟨by omega, by omega⟩, ?_⟩
    all_goals generalize ad.add ((i : Int).toNat * 2) = ag at hsl2 ⊢
    all_goals obtain ⟨gb, go, gsub⟩ := ag
    all_goals refine ⟨_, fun x hx => hx.look (show w5.cell? ⟨gb, go + 1, none⟩ = _ from hsl2), ?_⟩
    all_goals refine ⟨⟨by rw [hw]; omega, by rw [hw]; omega⟩, ?_⟩
    all_goals generalize ed.add ((IntKind.i64.wrap ((e.vs.length : Int) - 1)).toNat * 3) = al at hl0 ⊢
    all_goals obtain ⟨lb, lo, lsub⟩ := al
    all_goals refine ⟨_, fun x hx => hx.look hl0, ?_⟩
    all_goals refine ⟨_, fun x hx => hx.look (hc.cell 0 rfl _ rfl), ?_⟩
    all_goals rcases Int.lt_or_le s.seq (lastV e.vs).ver with c5 | c5
    all_goals first
      | (refine split_t (decide_eq_true c5) ?_
         exact out _ hcq.below (by rw [decide_eq_false (show ¬ (lastV e.vs).ver ≤ s.seq by omega), Bool.and_false]; rfl))
      | (refine split_f (decide_eq_false (show ¬ s.seq < (lastV e.vs).ver by omega)) ?_
         exact ⟨i + 1, ⟨rfl, congrArg _ (i_down (by omega)), trivial⟩, ⟨hlt, by rw [hnext, ← he, hm, decide_eq_true c5, hle]; rfl, hcq⟩, by show s.l.length - (i + 1) < s.l.length - i; omega⟩)
  refine split_f (decide_eq_false (by omega)) ?_
  rw [List.drop_of_length_le (by omega), risE] at he
  rw [← he, Bool.true_and] at e0
  refine ⟨Nat, fun i => [(1, .pointer (some ⟨g1, 0, none⟩)), (4, .int .i64 i)],
    fun i w' => i ≤ 5 ∧ lowsB i ([l0, l1, l2, l3, l4].drop i) = lowsB 0 [l0, l1, l2, l3, l4] ∧ Ctx no w no w' [(g1, 78, stC s A cap B cap' l0 l1 l2 l3 l4)], fun i _ => 5 - i, 0,
    ⟨rfl, rfl, trivial⟩, ⟨Nat.zero_le _, rfl, hc⟩, ?_⟩
  rintro i w' u ⟨hi, he, hc⟩
  rcases Nat.lt_or_ge i 5 with hlt | hlt
  · refine split_t (decide_eq_true (by omega)) ?_
    have hd : [l0, l1, l2, l3, l4].drop i = [l0, l1, l2, l3, l4].getD i 0 :: [l0, l1, l2, l3, l4].drop (i + 1) := by
      match i, hlt with
      | 0, _ => rfl
      | 1, _ => rfl
      | 2, _ => rfl
      | 3, _ => rfl
      | 4, _ => rfl
    have hx64 : i64ok ([l0, l1, l2, l3, l4].getD i 0) := by
      match i, hlt with
      | 0, _ => exact hlows _ (by simp)
      | 1, _ => exact hlows _ (by simp)
      | 2, _ => exact hlows _ (by simp)
      | 3, _ => exact hlows _ (by simp)
      | 4, _ => exact hlows _ (by simp)
    have hcellx := lows_cellN (hc.blk 0 rfl) i hlt
    rw [hd, lowsB] at he
    generalize [l0, l1, l2, l3, l4].getD i 0 = x at *
    have hcelly := hcellx
    have hwi : IntKind.i64.wrap ((i : Int) + 1) = (i : Int) + 1 := wrap_add _ _ (by omega) (by omega)
    refine ⟨⟨by omega, by omega⟩, ?_⟩
    generalize (⟨g1, 0 + 3, none⟩ : Addr).add ((i : Int).toNat * 1) = al at hcellx ⊢
    obtain ⟨lb, lo, lsub⟩ := al
    refine ⟨_, hcellx, ?_⟩
    rcases Int.decEq x 0 with c1 | c1
    · refine split_t (by show (x != 0) = true; rw [bne_iff_ne]; exact c1) ?_
      refine ⟨⟨by omega, by omega⟩, ?_⟩
      generalize (⟨g1, 0 + 3, none⟩ : Addr).add ((i : Int).toNat * 1) = am at hcelly ⊢
      obtain ⟨mb, mo, msub⟩ := am
      refine ⟨_, hcelly, ?_⟩
      refine call_b (rhome_any x _ hx64.1 hx64.2) ?_
      intro w3 h3
      have hc := (hc.quiet h3).1
      have hx0 : (x == 0) = false := by rw [beq_eq_false_iff_ne]; exact c1
      rcases Int.decEq (homeI x) ((i : Int) + 1) with c2 | c2
      · refine split_t (by show (homeI x != IntKind.i64.wrap ((i : Int) + 1)) = true; rw [hwi, bne_iff_ne]; exact c2) ?_
        have : (homeI x == (i : Int) + 1) = false := by rw [beq_eq_false_iff_ne]; exact c2
        rw [hx0, this] at he
        rw [← he] at e0
        exact ⟨ret_bool e0.symm, hc.below⟩
      · refine split_f (by show (homeI x != IntKind.i64.wrap ((i : Int) + 1)) = false; rw [hwi, c2]; simp) ?_
        have : (homeI x == (i : Int) + 1) = true := by rw [beq_iff_eq]; exact c2
        rw [this, Bool.or_true, Bool.true_and] at he
        exact ⟨i + 1, ⟨rfl, congrArg _ (i_down (by omega)), trivial⟩, ⟨hlt, he, hc⟩, by show 5 - (i + 1) < 5 - i; omega⟩
    · refine split_f (by show (x != 0) = false; rw [c1]; rfl) ?_
      rw [c1] at he
      exact ⟨i + 1, ⟨rfl, congrArg _ (i_down (by omega)), trivial⟩, ⟨hlt, he, hc⟩, by show 5 - (i + 1) < 5 - i; omega⟩
  refine split_f (decide_eq_false (by omega)) ?_
  rw [List.drop_of_length_le (by show 5 ≤ i; exact hlt), lowsB] at he
  rw [← he, Bool.true_and] at e0
  refine ⟨Nat, fun i => [(1, .pointer (some ⟨g1, 0, none⟩)), (5, .int .i64 i)],
    fun i w' => i ≤ s.ms.length ∧ memB [l0, l1, l2, l3, l4] s.seq (prevM s.ms i) (s.ms.drop i) = memB [l0, l1, l2, l3, l4] s.seq none s.ms ∧ Ctx no w no w' [(g1, 78, stC s A cap B cap' l0 l1 l2 l3 l4)], fun i _ => s.ms.length - i, 0,
    ⟨rfl, rfl, trivial⟩, ⟨Nat.zero_le _, rfl, hc⟩, ?_⟩
  rintro i w' u ⟨hi, he, hc⟩
  refine ⟨_, hc.cell 0 rfl _ rfl, ?_⟩
  rcases Nat.lt_or_ge i s.ms.length with hlt | hlt
  · refine split_t (decide_eq_true (by omega)) ?_
    obtain ⟨ad, e1, hcell⟩ := RowM.elem (hM.below hc.below) i hlt
    subst e1
    have hnext : prevM s.ms (i + 1) = some s.ms[i].req := by rw [prevM, if_neg (by omega), Nat.add_sub_cancel, List.getElem?_eq_getElem hlt]; rfl
    have hmok := hk.ms _ (List.getElem_mem hlt)
    rw [List.drop_eq_getElem_cons hlt, memB_cons] at he
    generalize s.ms[i] = m at *
    refine ⟨_, hc.cell 0 rfl _ rfl, ?_⟩
    refine ⟨⟨by omega, by omega⟩, ?_⟩
    refine ⟨memC m, rfl, hcell, ?_⟩
    intro g8 w4 h4
    have hc := (hc.loc h4).1
    refine ⟨hc.may 0 rfl 0 _ (Nat.le_refl 3) rfl, ?_⟩
    intro w5 h5
    have hc := (hc.set 0 rfl h5).1
    refine ⟨_, hc.cell 0 rfl _ rfl, ?_⟩
    refine call_b (rhome_any m.req _ hmok.req.1 hmok.req.2) ?_
    intro w6 h6
    have hc := (hc.quiet h6).1
    have hh := homeI_range m.req
    have out : ∀ w6 : World, Below w.heap.size w w6 → (!(homeI m.req == 0) && decide (lowAt [l0, l1, l2, l3, l4] (homeI m.req) ≤ m.req) && leM (prevM s.ms i) m.req && decide (0 ≤ m.res.err) && decide (m.res.err ≤ 13) && decide (0 ≤ m.res.ver) && decide (m.res.ver ≤ s.seq)) = false → RetB (.bool r) w (.returned (.bool false)) w6 := fun w6 hb h => by
      rw [h, Bool.false_and] at he
      rw [← he] at e0
      exact ⟨ret_bool e0.symm, hb⟩
    generalize homeI m.req = hm at *
    refine drawn lay_ok (by kernel_rfl) (.q 0 (.q 1 (.q 2 (.q 3 (.q 4 (.q 5 (.q 6 (.q 7 (.q 8 (.q 9 (.q 10 (.q 11 (.q 12 (.q 13 (.q 14 (.q 15 (.q 16 (.q 17 (.q 18 (.q 19 (.q 20 (.q 21 (.q 22 (.q 23 (.q 24 (.q 25 (.q 26 (.q 27 (.q 28 (.q 29 (.q 30 (.q 31 (.q 32 (.q 33 (.q 34 (.q 35 (.q 36 (.q 37 (.q 38 (.q 39 (.q 40 (.q 41 (.q 42 (.q 43 (.q 44 (.q 45 (.q 46 (.q 47 (.q 48 (.q 49 (.q 50 (.q 51 (.q 52 (.q 53 .fin)))))))))))))))))))))))))))))))))))))))))))))))))))))) (Keeps (fun b => b < w6.heap.size) w6) (by kernel_rfl) (Keeps.start _ _) ?_
    have hcd := hc.drew
    rcases Int.decEq hm 0 with c1 | c1
    rotate_left
    · subst c1
      exact out _ hcd.below rfl
    refine split_f (by show (hm == 0) = false; rw [beq_eq_false_iff_ne]; exact c1) ?_
    have hwm : IntKind.i64.wrap (hm - 1) = hm - 1 := IntWalk.i64_in _ ⟨by omega, by omega⟩
    have hl0 := lows_cell (hc.blk 1 rfl) hm (IntKind.i64.wrap (hm - 1)) ⟨by omega, by omega⟩ hwm
    have hm0 : (hm == 0) = false := by rw [beq_eq_false_iff_ne]; exact c1
    generalize lowAt [l0, l1, l2, l3, l4] hm = lo at *
    rcases Nat.eq_zero_or_pos i with c3 | c3
    all_goals first
      | (refine split_f (decide_eq_false (show ¬ (0 : Int) < (i : Int) by omega)) ?_
         have hle : leM (prevM s.ms i) m.req = true := by rw [prevM, if_pos c3]; rfl)
      | (refine split_t (decide_eq_true (show (0 : Int) < (i : Int) by omega)) ?_
         have hj : i - 1 < s.ms.length := by omega
         have hwi : IntKind.i64.wrap ((i : Int) - 1) = ((i - 1 : Nat) : Int) := by rw [IntWalk.i64_in _ ⟨by omega, by omega⟩]; omega
         obtain ⟨ad', e3, hcellp⟩ := RowM.elem (hM.below hc.below) (i - 1) hj
         cases e3
         have hpk : prevM s.ms i = some s.ms[i - 1].req := by rw [prevM, if_neg (by omega), List.getElem?_eq_getElem hj]; rfl
         refine ⟨_, fun x hx => hx.look (hc.cell 0 rfl _ rfl), ?_⟩
         refine ⟨_, fun x hx => hx.look (hc.cell 1 rfl _ rfl), ?_⟩
         refine ⟨⟨by rw [hwi]; omega, by rw [hwi]; omega⟩, ?_⟩
         have hp0 : w6.cell? (ad.add ((IntKind.i64.wrap ((i : Int) - 1)).toNat * 3)) = some (.int .i64 s.ms[i - 1].req) := by
           have := hcellp.1
           rw [add_add, Nat.add_zero] at this
           rw [hwi, Int.toNat_natCast]
           exact this
         generalize ad.add ((IntKind.i64.wrap ((i : Int) - 1)).toNat * 3) = ap at hp0 ⊢
         obtain ⟨pb, po, psub⟩ := ap
         refine ⟨_, fun x hx => hx.look hp0, ?_⟩
         rcases Int.lt_or_le s.ms[i - 1].req m.req with c7 | c7
         rotate_left
         · refine split_t (decide_eq_true c7) ?_
           exact out _ hcd.below (by
             have : leM (prevM s.ms i) m.req = false := by rw [hpk]; exact decide_eq_false (by omega)
             rw [this, Bool.and_false]; rfl)
         refine split_f (decide_eq_false (show ¬ m.req ≤ s.ms[i - 1].req by omega)) ?_
         have hle : leM (prevM s.ms i) m.req = true := by rw [hpk]; exact decide_eq_true c7)
    all_goals refine ⟨_, fun x hx => hx.look (hc.cell 0 rfl _ rfl), ?_⟩
    all_goals refine ⟨⟨by rw [hwm]; omega, by rw [hwm]; omega⟩, ?_⟩
    all_goals generalize (⟨g1, 0 + 3, none⟩ : Addr).add ((IntKind.i64.wrap (hm - 1)).toNat * 1) = al at hl0 ⊢
    all_goals obtain ⟨lb, lof, lsub⟩ := al
    all_goals refine ⟨_, fun x hx => hx.look hl0, ?_⟩
    all_goals rcases Int.lt_or_le m.req lo with c2 | c2
    all_goals first
      | (refine split_t (decide_eq_true c2) ?_
         exact out _ hcd.below (by rw [decide_eq_false (show ¬ lo ≤ m.req by omega), Bool.and_false]; rfl))
      | (refine split_f (decide_eq_false (show ¬ m.req < lo by omega)) ?_)
    all_goals rw [hm0, decide_eq_true c2, hle] at out he
    all_goals simp only [Bool.not_false, Bool.true_and] at out he
    all_goals refine ⟨_, fun x hx => hx.look (hc.cell 0 rfl _ rfl), ?_⟩
    all_goals rcases Int.lt_or_le m.res.err 0 with d1 | d1
    all_goals first
      | (refine split_t (decide_eq_true d1) ?_
         exact out _ hcd.below (by rw [decide_eq_false (show ¬ 0 ≤ m.res.err by omega)]; rfl))
      | (refine split_f (decide_eq_false (show ¬ m.res.err < 0 by omega)) ?_)
    all_goals refine ⟨_, fun x hx => hx.look (hc.cell 0 rfl _ rfl), ?_⟩
    all_goals rcases Int.lt_or_le 13 m.res.err with d2 | d2
    all_goals first
      | (refine split_t (decide_eq_true d2) ?_
         exact out _ hcd.below (by rw [decide_eq_false (show ¬ m.res.err ≤ 13 by omega), Bool.and_false]; rfl))
      | (refine split_f (decide_eq_false (show ¬ 13 < m.res.err by omega)) ?_)
    all_goals refine ⟨_, fun x hx => hx.look (hc.cell 0 rfl _ rfl), ?_⟩
    all_goals rcases Int.lt_or_le m.res.ver 0 with d3 | d3
    all_goals first
      | (refine split_t (decide_eq_true d3) ?_
         exact out _ hcd.below (by rw [decide_eq_false (show ¬ 0 ≤ m.res.ver by omega), Bool.and_false]; rfl))
      | (refine split_f (decide_eq_false (show ¬ m.res.ver < 0 by omega)) ?_)
    all_goals refine ⟨_, fun x hx => hx.look (hc.cell 0 rfl _ rfl), ?_⟩
    all_goals refine ⟨_, fun x hx => hx.look (hc.cell 1 rfl _ rfl), ?_⟩
    all_goals rcases Int.lt_or_le s.seq m.res.ver with d4 | d4
    all_goals first
      | (refine split_t (decide_eq_true d4) ?_
         exact out _ hcd.below (by rw [decide_eq_false (show ¬ m.res.ver ≤ s.seq by omega), Bool.and_false]))
      | (refine split_f (decide_eq_false (show ¬ s.seq < m.res.ver by omega)) ?_
         rw [decide_eq_true d1, decide_eq_true d2, decide_eq_true d3, decide_eq_true d4] at he
         exact ⟨i + 1, ⟨rfl, congrArg _ (i_down (by omega)), trivial⟩, ⟨hlt, by rw [hnext]; exact he, hcd.drop⟩, by show s.ms.length - (i + 1) < s.ms.length - i; omega⟩)
  · refine split_f (decide_eq_false (by omega)) ?_
    rw [List.drop_of_length_le (by omega), memB] at he
    rw [← he] at e0
    exact ⟨ret_bool e0.symm, hc.below⟩
end Go.Proofs.YtbmoimihnndboaaGreatDoor
