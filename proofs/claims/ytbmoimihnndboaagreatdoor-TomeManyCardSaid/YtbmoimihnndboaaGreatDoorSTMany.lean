import Derived.Test.YtbmoimihnndboaaGreatDoorM13
set_option linter.unusedVariables false
set_option linter.unusedSimpArgs false
/- Walk: armariumlaw5.TomeMany. -/
namespace Go.Proofs.YtbmoimihnndboaaGreatDoor
open Go.Vc Go.RowKit Go.Fl Go.ChangeShapes Go.WideShapes Go.ChangeAt
theorem ver_selfN (a : Ver) (ox oy : Operand) (w : World) : (do eqGuard BinOp.neq 60 ox oy (.agg (verC a).toArray) (.agg (verC a).toArray); Go.binOp BinOp.neq 60 (.agg (verC a).toArray) (.agg (verC a).toArray) : Sem Value).run Tryz.prog w = .ok (.bool false) w := by
  have h := neq_run gd_ver (eqVer_in 9998 · a a) ox oy w
  rw [eqVer_iff.2 rfl] at h
  exact h
theorem RowI.elem {S : Nat → Prop} {w : World} {A : Option Addr} {n cap : Nat} {l : List Int} (hR : Row S w A n cap (l.map fun n => [Value.int .i64 n]).flatten) (i : Nat) (hi : i < l.length) : ∃ ad, A = some ad ∧ Go.Vc.cellsAt w (ad.add (i * 1)) [.int .i64 l[i]] 0 := by
  obtain ⟨ad, e, h⟩ := Row.elemF hR (by decide) (Flat.map (fun n : Int => [Value.int .i64 n]) (fun e => ⟨rfl, rfl⟩) l) i (by rw [List.length_map]; exact hi)
  rw [List.getElem_map] at h
  exact ⟨ad, e, h⟩
theorem idxV_snoc (v : Ver) (n : Int) (hn : v.ver = n) : ∀ l : List Ver, (∀ x ∈ l, x.ver ≠ n) → idxV (l ++ [v]) n = some l.length
  | [], _ => by
    show (if v.ver == n then some 0 else _) = some 0
    rw [if_pos (by rw [beq_iff_eq]; exact hn)]
  | x :: r, h => by
    show (if x.ver == n then some 0 else (idxV (r ++ [v]) n).map (· + 1)) = some (r.length + 1)
    rw [if_neg (by rw [beq_iff_eq]; exact h x (List.mem_cons_self ..)), idxV_snoc v n hn r fun y hy => h y (List.mem_cons_of_mem _ hy)]
    rfl
structure MInv (e : Ent) (ver : Int) (i : Nat) : Prop where
  key : e.key = ⟨#[107]⟩
  ris : risV 0 e.vs = true
  len : e.vs.length ≤ 12
  v0 : 0 ≤ ver
  v1 : ver ≤ 3 * i
  last : e.vs ≠ [] → (lastV e.vs).ver = ver
theorem MInv.next {e : Ent} {ver : Int} {i : Nat} (h : MInv e ver i) : MInv e ver (i + 1) := ⟨h.key, h.ris, h.len, h.v0, by have := h.v1; push_cast; omega, h.last⟩
theorem MInv.yes {e : Ent} {ver by' : Int} {i : Nat} (h : MInv e ver i) (hb : by' ≤ 3) {v : Ver} (hv : v.ver = ver + by') (hv1 : 1 ≤ v.ver) (hvo : verOk v = true) (hg : v.gone = false) (ha : (addE e v).2 = true) :
    (e.vs.length < 12 ∧ (0 < by' ∨ e.vs.length = 0)) ∧ (addE e v).1 = ⟨e.key, e.vs ++ [v]⟩ ∧ MInv ⟨e.key, e.vs ++ [v]⟩ v.ver (i + 1) ∧ atE ⟨e.key, e.vs ++ [v]⟩ v.ver = (v, true) ∧ nowE ⟨e.key, e.vs ++ [v]⟩ = (v, true) := by
  unfold addE at ha ⊢
  split at ha
  · cases ha
  rename_i hc
  rw [if_neg hc]
  rw [not_or, Decidable.not_and_iff_not_or_not] at hc
  have hlt : ∀ x ∈ e.vs, x.ver < v.ver := fun x hx => by
    have hne : e.vs ≠ [] := fun h0 => by rw [h0] at hx; cases hx
    have h1 := lastV_ge ((risV_iff _ _).1 h.ris).2.1 x hx
    have h2 := h.last hne
    have h3 := List.length_pos_of_mem hx
    omega
  have hl := h.last
  have h1 := h.v1
  refine ⟨⟨by omega, ?_⟩, rfl, ⟨h.key, ?_, ?_, by omega, by push_cast; omega, fun _ => by rw [lastV_snoc]⟩, ?_, ?_⟩
  · rcases Nat.eq_zero_or_pos e.vs.length with h0 | h0
    · exact .inr h0
    · have := hl (fun h => by rw [h] at h0; cases h0)
      omega
  · rw [risV_iff]
    obtain ⟨a, b, c⟩ := (risV_iff _ _).1 h.ris
    refine ⟨fun x hx => ?_, ?_, fun x hx => ?_⟩
    · rw [List.mem_append, List.mem_singleton] at hx
      rcases hx with hx | rfl
      · exact a x hx
      · exact hvo
    · rw [List.pairwise_append]
      exact ⟨b, List.pairwise_singleton .., fun x hx y hy => by rw [List.mem_singleton] at hy; rw [hy]; exact hlt x hx⟩
    · rw [List.mem_append, List.mem_singleton] at hx
      rcases hx with hx | rfl
      · exact c x hx
      · omega
  · show (e.vs ++ [v]).length ≤ 12
    rw [List.length_append, List.length_singleton]
    omega
  · unfold atE
    rw [idxV_snoc v v.ver rfl e.vs fun x hx => by have := hlt x hx; omega]
    simp
  · unfold nowE
    rw [if_neg (by simp), lastV_snoc, hg]
    rfl
theorem MInv.not {e : Ent} {ver by' : Int} {i : Nat} (h : MInv e ver i) {v : Ver} (hv : v.ver = ver + by') (ha : (addE e v).2 = false) : ¬ (e.vs.length < 12 ∧ (0 < by' ∨ e.vs.length = 0)) := by
  unfold addE at ha
  split at ha
  · rename_i hc
    rintro ⟨h1, h2⟩
    rcases hc with ⟨h3, h4⟩ | hc
    · have := h.last (fun h => h3 (by rw [h]; rfl))
      omega
    · omega
  · cases ha
theorem MInv.may {e : Ent} {ver : Int} {i : Nat} (h : MInv e ver i) (h0 : e.vs.length ≠ 0) : mayE e = true := by
  refine mayE_parts.2 ⟨h.ris, ?_, by omega, h.len⟩
  rw [h.key]
  kernel_rfl
set_option maxHeartbeats 16000000 in
theorem many_any (l : List Int) (hl : ∀ a ∈ l, i64ok a) (A : Option Addr) (cap : Nat) (w : World) (hw : Env w) (hR : Row (inW w) w A l.length cap (l.map fun n => [.int .i64 n]).flatten) :
    Calls Tryz.prog 17 #[.slice A l.length cap] w (RetB (.bool true) w) := by
  have hM := row_max hR
  refine calls_vc lay_ok Tryz.func17 rfl (by kernel_rfl) (by kernel_rfl) ?_
  have hc := CtxF.start w no (fun _ h => h.elim) (R := fun _ _ => True) trivial Stab.true
  refine call_b (begun5_any _ hw) ?_
  intro wQ hQ
  have hc := (hc.quiet hQ).1
  intro g4 wg4 hg4
  have hc := (hc.loc hg4).1
  refine ⟨hc.may 0 rfl _ _ (nle rfl) rfl, ?_⟩
  intro wS hS
  have hc := (hc.set 0 rfl hS).1
  refine ⟨Nat × Ent × Int × Option Addr × Nat, fun x => [(0, .slice A l.length cap), (4, .pointer (some ⟨g4, 0, none⟩)), (5, .int .i64 x.2.2.1), (6, .int .i64 x.1)],
    fun x w' => x.1 ≤ l.length ∧ x.1 ≤ 20 ∧ MInv x.2.1 x.2.2.1 x.1 ∧ ∃ S, CtxF no w S w' [(g4, 58, [.string x.2.1.key, .slice x.2.2.2.1 x.2.1.vs.length x.2.2.2.2])] [] (fun S w => Row S w x.2.2.2.1 x.2.1.vs.length x.2.2.2.2 (x.2.1.vs.map verC).flatten),
    fun x _ => l.length - x.1, (0, ⟨⟨#[107]⟩, []⟩, 0, none, 0), ⟨rfl, rfl, rfl, rfl, trivial⟩,
    ⟨Nat.zero_le _, Nat.zero_le _, ⟨rfl, rfl, Nat.zero_le _, Int.le_refl _, Int.le_refl _, fun h => absurd rfl h⟩, _, hc.now (fun _ => row0 _ _) (stab_row _ _ _ _)⟩, ?_⟩
  clear hc
  rintro ⟨i, e, ver, A', c'⟩ w4 u ⟨hi, h20, hI, S, hc⟩
  simp only at hi h20 hI hc
  by_cases hgo : i < l.length ∧ i < 20
  · obtain ⟨hlt, hlt2⟩ := hgo
    refine split_t (decide_eq_true (by first | omega | (simp only; omega))) ?_
    refine split_t (decide_eq_true (show (i : Int) < 20 by omega)) ?_
    obtain ⟨ad, rfl, hcell⟩ := RowI.elem hR i hlt
    generalize l[i] = n at hcell
    refine ⟨⟨by first | omega | (simp only; omega), by first | omega | (simp only; omega)⟩, ?_⟩
    refine ⟨_, (cellsAt_later hc.below _ _ hcell).1, ?_⟩
    refine vc_nz (by decide) ?_
    obtain ⟨b, hb⟩ : ∃ b, b = n.tmod 4 := ⟨_, rfl⟩
    have hb3 : -3 ≤ b ∧ b ≤ 3 := by
      have h1 := Int.tmod_lt_of_pos n (show (0 : Int) < 4 by decide)
      have h2 := Int.neg_lt_of_neg_lt (show -(4 : Int) < n.tmod 4 by have := Int.neg_tmod n 4; have h3 := Int.tmod_lt_of_pos (-n) (show (0 : Int) < 4 by decide); omega)
      omega
    rw [← hb]
    refine call_b (dgs_any i (by omega) _) ?_
    intro wQ hQ
    have hc := (hc.quiet hQ).1
    intro g8 wg8 hg8
    have hc := (hc.loc hg8).1
    refine ⟨hc.may 0 rfl _ _ (nle rfl) rfl, ?_⟩
    intro wS hS
    have hc := (hc.set 0 rfl hS).1
    have h1 := hI.v0
    have h2 := hI.v1
    have hwv : IntKind.i64.wrap (ver + b) = ver + b := IntWalk.i64_in _ ⟨by omega, by omega⟩
    obtain ⟨v, hv⟩ : ∃ v : Ver, v = ⟨IntKind.i64.wrap (ver + b), false, ⟨(dgs i).toArray⟩⟩ := ⟨_, rfl⟩
    have hvv : v.ver = ver + b := by rw [hv]; exact hwv
    have hvg : v.gone = false := by rw [hv]
    have hc : CtxF no w S wS [(g8, 60, verC v), (g4, 58, [.string e.key, .slice A' e.vs.length c'])] [] (fun S w => Row S w A' e.vs.length c' (e.vs.map verC).flatten) := by
      rw [hv]
      exact hc
    refine ⟨_, hc.cell 0 rfl _ rfl, ?_⟩
    by_cases hv1 : v.ver < 1
    · refine split_t (decide_eq_true hv1) ?_
      exact ⟨(i + 1, e, ver, A', c'), ⟨rfl, rfl, rfl, congrArg _ (i_down (by omega)), trivial⟩, ⟨hlt, by omega, hI.next, _, hc.drop⟩, by show l.length - (i + 1) < l.length - i; omega⟩
    refine split_f (decide_eq_false hv1) ?_
    have hvo : verOk v = true := by
      unfold verOk
      have hs : (v.body.size : Int) ≤ 300 := by
        rw [hv]
        have := dgs_len i
        have h1 : (⟨(dgs i).toArray⟩ : ByteArray).size = (dgs i).length := by simp [ByteArray.size]
        show ((⟨(dgs i).toArray⟩ : ByteArray).size : Int) ≤ 300
        omega
      rw [decide_eq_true (show 1 ≤ v.ver by omega), decide_eq_true (show v.ver ≤ 1099511627776 by omega), decide_eq_true hs, hvg]
      rfl
    refine ⟨_, ?_, hc.cells 1 rfl, ?_⟩
    · rfl
    refine ⟨_, ?_, hc.cells 0 rfl, ?_⟩
    · rfl
    have hyes := hI.yes hb3.2 hvv (by omega) hvo hvg
    have hnot := hI.not (v := v) hvv
    obtain ⟨f, ok, hq0, hfn⟩ : ∃ f ok, addE e v = (f, ok) ∧ (ok = false → f = e) := ⟨_, _, rfl, addE_not⟩
    rw [hq0] at hyes hnot
    refine ⟨(add_any e v A' c' (by have := hI.len; omega) _ _ hc.row).mono fun en wq hq => ?_⟩
    rw [hq0] at hq
    obtain ⟨A3, c3, e1, hq, ho⟩ := hq.row hfn hc.row
    have hc := (hc.call hq).1.know ho (stab_row _ _ _ _)
    refine ⟨_, e1, ?_⟩
    intro g9 wg9 hg9
    have hc := (hc.loc hg9).1
    refine ⟨hc.may 0 rfl _ _ (nle rfl) rfl, ?_⟩
    intro wS hS
    have hc := (hc.set 0 rfl hS).1
    cases ok
    · have hn := hnot rfl
      refine ⟨_, hc.cell 2 rfl _ rfl, ?_⟩
      by_cases h12 : e.vs.length < 12
      · refine split_t (decide_eq_true (show (e.vs.length : Int) < 12 by omega)) ?_
        have hbn : ¬ 0 < b := fun h => hn ⟨h12, .inl h⟩
        have hl0 : e.vs.length ≠ 0 := fun h => hn ⟨h12, .inr h⟩
        refine split_f (decide_eq_false hbn) ?_
        refine ⟨_, hc.cell 2 rfl _ rfl, ?_⟩
        refine split_f (by rw [beq_eq_false_iff_ne.2 (show (e.vs.length : Int) ≠ 0 by omega)]; rfl) ?_
        exact ⟨(i + 1, e, ver, A', c'), ⟨rfl, rfl, rfl, congrArg _ (i_down (by omega)), trivial⟩, ⟨hlt, by omega, hI.next, _, hc.drop.drop.now (fun h => h.1) (stab_row _ _ _ _)⟩, by show l.length - (i + 1) < l.length - i; omega⟩
      · refine split_f (decide_eq_false (show ¬ (e.vs.length : Int) < 12 by omega)) ?_
        exact ⟨(i + 1, e, ver, A', c'), ⟨rfl, rfl, rfl, congrArg _ (i_down (by omega)), trivial⟩, ⟨hlt, by omega, hI.next, _, hc.drop.drop.now (fun h => h.1) (stab_row _ _ _ _)⟩, by show l.length - (i + 1) < l.length - i; omega⟩
    · obtain ⟨⟨h12, hor⟩, hf, hI', hat, hnow⟩ := hyes rfl
      rw [← hf] at hI' hat hnow
      refine ⟨_, hc.cell 2 rfl _ rfl, ?_⟩
      refine split_t (decide_eq_true (show (e.vs.length : Int) < 12 by omega)) ?_
      by_cases hbp : 0 < b
      refine split_t (decide_eq_true hbp) ?_
      rotate_left
      refine split_f (decide_eq_false hbp) ?_
      refine ⟨_, hc.cell 2 rfl _ rfl, ?_⟩
      refine split_f (by rw [beq_iff_eq.2 (show (e.vs.length : Int) = 0 by have := hor.resolve_left hbp; omega)]; rfl) ?_
      rotate_left
      all_goals
        refine Drawn.join (α := Unit) (fun _ => [(0, .slice (some ad) l.length cap), (4, .pointer (some ⟨g4, 0, none⟩)), (5, .int .i64 v.ver), (6, .int .i64 i), (8, .pointer (some ⟨g8, 0, none⟩))])
          (fun _ wS => ∃ S, CtxF no w S wS [(g9, 58, [.string f.key, .slice A3 f.vs.length c3]), (g8, 60, verC v), (g4, 58, [.string f.key, .slice A3 f.vs.length c3])] [] (fun S w => Row S w A3 f.vs.length c3 (f.vs.map verC).flatten)) ?_ ?_
        · refine drawn lay_ok (by kernel_rfl) (.q 1 (.n 0 (.n 2 (.n 3 (.q 4 .fin) .stop) (.n 3 (.n 2 (.q 4 .fin) .stop) .stop)) (.n 2 (.n 0 (.n 3 (.q 4 .fin) .stop) .stop) .stop))) (fun _ => True) (by kernel_rfl) trivial ?_
          have hc := hc.drew
          refine ⟨?_, ?_⟩
          · skip
            refine ⟨_, ?_, hc.cells 0 rfl, trivial, ?_⟩
            · rfl
            refine ⟨?_, ?_⟩
            · skip
              refine ⟨_, hc.cell 1 rfl _ rfl, trivial, ?_⟩
              refine ⟨?_, trivial⟩
              refine ⟨hc.may 2 rfl _ _ (nle rfl) rfl, ?_⟩
              intro wS hS
              have hc := (hc.set 2 rfl hS).1
              refine ⟨trivial, ?_⟩
              exact ⟨(), ⟨rfl, rfl, rfl, rfl, rfl, trivial⟩, _, hc.now (fun h => h.2) (stab_row _ _ _ _)⟩
            refine ⟨?_, trivial⟩
            refine ⟨hc.may 2 rfl _ _ (nle rfl) rfl, ?_⟩
            intro wS hS
            have hc := (hc.set 2 rfl hS).1
            refine ⟨trivial, ?_⟩
            refine ⟨?_, trivial⟩
            refine ⟨_, hc.cell 1 rfl _ rfl, trivial, ?_⟩
            exact ⟨(), ⟨rfl, rfl, rfl, rfl, rfl, trivial⟩, _, hc.now (fun h => h.2) (stab_row _ _ _ _)⟩
          refine ⟨?_, trivial⟩
          refine ⟨_, hc.cell 1 rfl _ rfl, trivial, ?_⟩
          refine ⟨?_, trivial⟩
          refine ⟨_, ?_, hc.cells 0 rfl, trivial, ?_⟩
          · rfl
          refine ⟨?_, trivial⟩
          refine ⟨hc.may 2 rfl _ _ (nle rfl) rfl, ?_⟩
          intro wS hS
          have hc := (hc.set 2 rfl hS).1
          refine ⟨trivial, ?_⟩
          exact ⟨(), ⟨rfl, rfl, rfl, rfl, rfl, trivial⟩, _, hc.now (fun h => h.2) (stab_row _ _ _ _)⟩
        clear hc
        rintro - u wS ⟨S, hc⟩
        refine ⟨_, ?_, hc.cells 2 rfl, ?_⟩
        · rfl
        have ha := at_any f v.ver A3 c3 _ _ hc.row
        rw [hat] at ha
        refine call_b (ha) ?_
        intro wQ hQ
        have hc := (hc.quiet hQ).1
        intro g11 wg11 hg11
        have hc := (hc.loc hg11).1
        refine ⟨hc.may 0 rfl _ _ (nle rfl) rfl, ?_⟩
        intro wS hS
        have hc := (hc.set 0 rfl hS).1
        refine ⟨_, ?_, hc.cells 3 rfl, ?_⟩
        · rfl
        have ha := now_any f A3 c3 _ _ hc.row
        rw [hnow] at ha
        refine call_b (ha) ?_
        intro wQ hQ
        have hc := (hc.quiet hQ).1
        intro g13 wg13 hg13
        have hc := (hc.loc hg13).1
        refine ⟨hc.may 0 rfl _ _ (nle rfl) rfl, ?_⟩
        intro wS hS
        have hc := (hc.set 0 rfl hS).1
        refine ⟨_, ?_, hc.cells 1 rfl, ?_⟩
        · rfl
        refine ⟨_, ?_, hc.cells 3 rfl, ?_⟩
        · rfl
        refine ⟨.bool false, fun w => ver_selfN v _ _ w, ?_⟩
        refine ⟨_, ?_, hc.cells 0 rfl, ?_⟩
        · rfl
        refine ⟨_, ?_, hc.cells 3 rfl, ?_⟩
        · rfl
        refine ⟨.bool false, fun w => ver_selfN v _ _ w, ?_⟩
        exact ⟨(i + 1, f, v.ver, A3, c3), ⟨rfl, rfl, rfl, congrArg _ (i_down (by omega)), trivial⟩, ⟨hlt, by omega, hI', _, hc.drop.drop.drop.drop⟩, by show l.length - (i + 1) < l.length - i; omega⟩
  by_cases hlt : i < l.length
  refine split_t (decide_eq_true (by first | omega | (simp only; omega))) ?_
  refine split_f (decide_eq_false (show ¬ (i : Int) < 20 by omega)) ?_
  rotate_left
  refine split_f (decide_eq_false (by first | omega | (simp only; omega))) ?_
  rotate_left
  all_goals
    refine ⟨_, hc.cell 0 rfl _ rfl, ?_⟩
    refine split_ (fun h0 => ?_) (fun h0 => ?_)
    · exact ⟨rfl, hc.below⟩
    have h0 : e.vs.length ≠ 0 := fun h => by rw [h] at h0; cases h0
    refine ⟨_, ?_, hc.cells 0 rfl, ?_⟩
    · rfl
    have hE := tmay_any e (by rw [hI.key]; unfold strok; decide) A' c' _ _ hc.row
    rw [hI.may h0] at hE
    refine call_b (hE) ?_
    intro wQ hQ
    have hc := (hc.quiet hQ).1
    exact ⟨rfl, hc.below⟩
set_option maxRecDepth 100000 in
theorem tomeMany_ct {H : Type} (enc : TypeId × Value → H) (W : World) (hw : Env W) {base : Nat}
    (v0 : Value) (d0 : DataW H) (p0 : List MemPlace) (h0 : DataW.Trod enc Tryz.prog W 0 (fun _ => true) true 110 v0 d0 p0) (k0 : Value.okWide Tryz.prog W .any base 110 v0) :
    Calls Tryz.prog 17 #[v0] W (RetB (.bool true) W) := by
  obtain ⟨A0, c0, a0, rfl, r0, o0⟩ := open_i64s h0 k0
  exact many_any a0 o0 A0 c0 W hw r0
end Go.Proofs.YtbmoimihnndboaaGreatDoor
