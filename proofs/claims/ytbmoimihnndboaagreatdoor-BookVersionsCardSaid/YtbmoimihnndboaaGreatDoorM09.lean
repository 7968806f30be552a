import Derived.Test.YtbmoimihnndboaaGreatDoorM08
set_option linter.unusedVariables false
set_option linter.unusedSimpArgs false
namespace Go.Proofs.YtbmoimihnndboaaGreatDoor
open Go.Vc Go.RowKit Go.Fl
theorem doK_eq (l : List Ent) (seq : Int) (d : D) (has : Bool) (e : Ent) (h1 : (entAt l d.key).isSome = has) (h2 : (entAt l d.key).getD ⟨d.key, []⟩ = e) :
    doK l seq d = if d.kind == 3 then purgeK l (posK l d.key) e d.ver else if d.kind == 1 && !holdsE e d.cond d.tag then (l, ⟨9, 0⟩) else if d.kind == 2 && !has then (l, ⟨6, 0⟩)
      else if 12 ≤ e.vs.length || (!has && decide (40 ≤ l.length)) then (l, ⟨5, 0⟩) else (putK l d.key has [⟨e.key, e.vs ++ [⟨seq, d.kind == 2, d.body⟩]⟩], ⟨0, seq⟩) := by
  unfold doK
  simp only [h1, h2]
  cases hk : (d.kind == 3)
  · rfl
  · cases has with
    | true =>
      unfold purgeK putK
      cases idxV e.vs d.ver <;> rfl
    | false =>
      cases he : entAt l d.key with
      | some x => rw [he] at h1; cases h1
      | none =>
        rw [he] at h2
        subst h2
        rfl
theorem Row.cutS {S : Nat → Prop} {w : World} {A : Option Addr} {n cap : Nat} {xs : List Value} (h : Row S w A n cap xs) : Row (fun b => S b ∧ b < w.heap.size) w A n cap xs :=
  ⟨h.1, h.2.1, fun hx => by
    obtain ⟨ad, e, hs, hc⟩ := h.2.2 hx
    refine ⟨ad, e, ⟨hs, ?_⟩, hc⟩
    cases xs with
    | nil => exact absurd rfl hx
    | cons v r =>
      have h0 := hc 0 v rfl
      have := World.block_lt_of_cell? w _ h0
      rwa [add_block] at this⟩
theorem ext_cut {S : Nat → Prop} {w w' : World} : ∀ b, ext (fun b => S b ∧ b < w.heap.size) w w' b → ext S w w' b := fun b h => by
  rcases h with h | h
  · exact .inl h.1
  · exact .inr h
theorem RepEs.cutS {S : Nat → Prop} {w : World} {l : List Ent} {css : List (List Value)} (h : RepEs S w l css) : RepEs (fun b => S b ∧ b < w.heap.size) w l css := h.map (fun h => Row.cutS h)
theorem RepEs.wide {S S' : Nat → Prop} {w : World} {l : List Ent} {css : List (List Value)} (h : RepEs S w l css) (f : ∀ b, S b → S' b) : RepEs S' w l css := h.map (fun h => h.wide f)
theorem RepEs.fut {S S' : Nat → Prop} {w w' : World} {l : List Ent} {css : List (List Value)} (h : RepEs S w l css) (f : Fut S w S' w') : RepEs S' w' l css := h.map (fun h => h.fut f)
theorem RetK.wide {s : Stt} {B : Option Addr} {cap' : Nat} {l0 l1 l2 l3 l4 : Int} {S : Nat → Prop} {q : List Ent × Res} {w w' : World} {en : Ending} (h : RetK s B cap' l0 l1 l2 l3 l4 (fun b => S b ∧ b < w.heap.size) q w en w') : RetK s B cap' l0 l1 l2 l3 l4 S q w en w' := by
  obtain ⟨A, c, css, h1, h2, h3, h4⟩ := h
  exact ⟨A, c, css, h1, h2, h3.wide ext_cut, h4.wide ext_cut⟩
theorem posK_le : ∀ (l : List Ent) (k : ByteArray), posK l k ≤ l.length
  | [], _ => Nat.le_refl _
  | e :: r, k => by
    rw [posK]
    split
    · exact Nat.succ_le_succ (posK_le r k)
    · exact Nat.zero_le _
theorem RepEs.stab (l : List Ent) (css : List (List Value)) : Stab (fun S w => RepEs S w l css) := fun _ _ _ _ h f => RepEs.fut h f
def know0 (l : List Ent) (css : List (List Value)) (A : Option Addr) (cap : Nat) : Kn := fun S w => RepEs S w l css ∧ Row S w A l.length cap css.flatten
theorem know0_stab (l : List Ent) (css : List (List Value)) (A : Option Addr) (cap : Nat) : Stab (know0 l css A cap) := fun _ _ _ _ h f => ⟨RepEs.fut h.1 f, h.2.fut f⟩
set_option maxHeartbeats 4000000 in
theorem doK_none (s : Stt) (d : D) (A B : Option Addr) (cap cap' : Nat) (l0 l1 l2 l3 l4 : Int) (el : s.lows = [l0, l1, l2, l3, l4]) (css : List (List Value)) (S : Nat → Prop) (w : World) (hlt : ∀ b, S b → b < w.heap.size) (hE : RepEs S w s.l css) (hR : Row S w A s.l.length cap css.flatten) (hM : Row S w B s.ms.length cap' (s.ms.map memC).flatten)
    (hn : s.l.length ≤ 1000000) (hp : s.l.Pairwise (fun a b => strLt a.key b.key = true)) (hok : ∀ e ∈ s.l, e.vs.length ≤ 1000000 ∧ (e.vs.length ≠ 0 → (lastV e.vs).ver < s.seq) ∧ (nowE e).1.body.size ≤ maxLen) (hq : entAt s.l d.key = none) :
    Calls Tryz.prog 128 #[.agg (stC s A cap B cap' l0 l1 l2 l3 l4).toArray, .agg (dC d).toArray] w (RetK s B cap' l0 l1 l2 l3 l4 S (doK s.l s.seq d) w) := by
  have hrep : RepS S w s (stC s A cap B cap' l0 l1 l2 l3 l4) := ⟨A, cap, css, B, cap', by rw [el]; rfl, by rw [el]; rfl, hE, hR, hM⟩
  have hRm := row_max hR
  refine calls_vc lay_ok Tryz.func128 rfl (by kernel_rfl) (by kernel_rfl) ?_
  intro g2 w1 h1
  have hc := ((CtxF.start w S hlt (R := know0 s.l css A cap) ⟨hE, hR⟩ (know0_stab _ _ _ _)).loc h1).1
  intro g3 w2 h2
  have hc := (hc.loc h2).1
  intro g4 w3 h3
  have hc := (hc.loc h3).1
  intro g5 w4 h4
  have hc := (hc.loc h4).1
  refine ⟨_, ?_, hc.cells 3 rfl, ?_⟩
  · rfl
  refine ⟨_, hc.cell 2 rfl _ rfl, ?_⟩
  have hfind := find_any s d.key hp hn _ S w4 (hrep.below hc.below)
  rw [hq] at hfind
  refine call_b hfind ?_
  clear hfind
  intro w5 h5
  have hc := (hc.quiet h5).1
  refine ⟨_, hc.cell 2 rfl _ rfl, ?_⟩
  intro g8 w6 h6
  have hc := (hc.loc h6).1
  refine ⟨hc.may 0 rfl _ _ (Nat.le_refl 2) rfl, ?_⟩
  intro w7 h7
  have hc := (hc.set 0 rfl h7).1
  have hD := doK_eq s.l s.seq d
  rw [hq] at hD
  obtain ⟨e, he⟩ : ∃ e : Ent, e = ⟨d.key, []⟩ := ⟨_, rfl⟩
  have hD := hD false e rfl (by rw [he]; rfl)
  have hev : e.vs = [] := by rw [he]
  have heb : (nowE e).1.body.size ≤ maxLen := by rw [he]; exact Nat.zero_le _
  have hRe : Row S w none 0 0 (([] : List Ver).map verC).flatten := ⟨Nat.le_refl _, Nat.zero_le _, fun h => absurd rfl h⟩
  obtain ⟨A1, cap1, hRe, hc⟩ : ∃ (A1 : Option Addr) (cap1 : Nat), Row S w A1 e.vs.length cap1 (e.vs.map verC).flatten ∧ CtxF S w S w7 [(g8, 58, [.string e.key, .slice A1 e.vs.length cap1]), (g5, 89, [.int .i64 0, .int .i64 0]), (g4, 78, (lay.ty 78).zero), (g3, 23, dC d), (g2, 78, stC s A cap B cap' l0 l1 l2 l3 l4)] [] (know0 s.l css A cap) := ⟨none, 0, by rw [hev]; exact hRe, by rw [he]; exact hc⟩
  have hel : e.vs.length ≤ 1000000 := by rw [hev]; exact Nat.zero_le _
  have h12 : ¬ 12 ≤ e.vs.length := by rw [hev]; decide
  refine ⟨_, hc.cell 0 rfl _ rfl, ?_⟩
  refine split_f (decide_eq_false (show ¬ (12 : Int) ≤ (e.vs.length : Int) by omega)) ?_
  refine ⟨_, hc.cell 4 rfl _ rfl, ?_⟩
  refine ⟨_, hc.cell 4 rfl _ rfl, ?_⟩
  refine ⟨_, hc.cell 3 rfl _ rfl, ?_⟩
  refine ⟨_, hc.cell 3 rfl _ rfl, ?_⟩
  intro g10 w10 h10
  have hc := (hc.loc h10).1
  refine ⟨hc.may 0 rfl _ _ (Nat.le_refl 3) rfl, ?_⟩
  intro w11 h11
  have hc := (hc.set 0 rfl h11).1
  refine ⟨_, hc.cell 4 rfl _ rfl, ?_⟩
  cases k3 : (d.kind == 3)
  rotate_left
  · refine split_t k3 ?_
    rw [show doK s.l s.seq d = purgeK s.l (posK s.l d.key) e d.ver by rw [hD, k3]; rfl]
    refine ⟨_, ?_, hc.cells 5 rfl, ?_⟩
    · rfl
    refine ⟨_, ?_, hc.cells 1 rfl, ?_⟩
    · rfl
    refine ⟨_, hc.cell 4 rfl _ rfl, ?_⟩
    refine ⟨(purgeK_any s A B cap cap' l0 l1 l2 l3 l4 css S w11 (hE.below hc.below) (hR.below hc.below) hn (posK s.l d.key) e A1 cap1 (hRe.below hc.below) hel d.ver (fun h => by rw [hev] at h; cases h)).mono fun en w12 hq => ?_⟩
    obtain ⟨A5, c5, css5, e5, h12, hE5, hR5⟩ := hq
    have hc := (hc.call h12).1.know (X := fun S w => RepEs S w (purgeK s.l (posK s.l d.key) e d.ver).1 css5 ∧ Row S w A5 (purgeK s.l (posK s.l d.key) e d.ver).1.length c5 css5.flatten) ⟨hE5, hR5⟩ (fun _ _ _ _ h f => ⟨RepEs.fut h.1 f, h.2.fut f⟩)
    refine ⟨_, e5, ?_⟩
    refine ⟨hc.may 3 rfl 0 _ (nle rfl) rfl, ?_⟩
    intro w20 h20
    have hc := (hc.set 3 rfl h20).1
    refine ⟨hc.may 2 rfl 0 _ (nle rfl) rfl, ?_⟩
    intro w21 h21
    have hc := (hc.set 2 rfl h21).1
    refine ⟨_, ?_, hc.cells 3 rfl, ?_⟩
    · rfl
    refine ⟨_, ?_, hc.cells 2 rfl, ?_⟩
    · rfl
    exact ⟨A5, c5, css5, rfl, hc.below, hc.out.2.1, hc.out.2.2⟩
  refine split_f k3 ?_
  refine ⟨_, hc.cell 4 rfl _ rfl, ?_⟩
  cases k1 : (d.kind == 1)
  · refine split_f k1 ?_
    have hH : (d.kind == 1 && !holdsE e d.cond d.tag) = false := by rw [k1]; rfl
    cases k2 : (d.kind == 2)
    · skip
      refine ⟨_, hc.cell 4 rfl _ rfl, ?_⟩
      refine split_f k2 ?_
      have hN : (d.kind == 2 && !false) = false := by rw [k2]; rfl
      rcases Nat.lt_or_ge s.l.length 40 with h40 | h40
      rotate_left
      · refine split_t (decide_eq_true (show (40 : Int) ≤ (s.l.length : Int) by omega)) ?_
        rw [show doK s.l s.seq d = (s.l, ⟨5, 0⟩) by rw [hD, k3, hH, hN, decide_eq_true h40, Bool.not_false, Bool.true_and, Bool.or_true]; rfl]
        refine ⟨_, ?_, hc.cells 5 rfl, ?_⟩
        · rfl
        refine ⟨hc.may 3 rfl 0 _ (nle rfl) rfl, ?_⟩
        intro w20 h20
        have hc := (hc.set 3 rfl h20).1
        refine ⟨hc.may 2 rfl 0 _ (nle rfl) rfl, ?_⟩
        intro w21 h21
        have hc := (hc.set 2 rfl h21).1
        refine ⟨_, ?_, hc.cells 3 rfl, ?_⟩
        · rfl
        refine ⟨_, ?_, hc.cells 2 rfl, ?_⟩
        · rfl
        exact ⟨A, cap, css, rfl, hc.below, hc.out.1, hc.out.2⟩
      refine split_f (decide_eq_false (show ¬ (40 : Int) ≤ (s.l.length : Int) by omega)) ?_
      have ek : doK s.l s.seq d = (putK s.l d.key false [⟨e.key, e.vs ++ [⟨s.seq, d.kind == 2, d.body⟩]⟩], ⟨0, s.seq⟩) := by rw [hD, k3, hH, hN, decide_eq_false (show ¬ 40 ≤ s.l.length by omega), decide_eq_false h12]; rfl
      have hadd : addE e ⟨s.seq, d.kind == 2, d.body⟩ = (⟨e.key, e.vs ++ [⟨s.seq, d.kind == 2, d.body⟩]⟩, true) := by
        rw [addE, if_neg]
        rintro (h' | h')
        · exact absurd (by rw [hev]; rfl) h'.1
        · omega
      obtain ⟨vs, hvs⟩ : ∃ vs : List Ver, vs = e.vs ++ [⟨s.seq, d.kind == 2, d.body⟩] := ⟨_, rfl⟩
      rw [← hvs] at hadd ek
      clear hvs
      rw [ek]
      clear ek
      refine ⟨_, ?_, hc.cells 1 rfl, ?_⟩
      · rfl
      refine ⟨_, ?_, hc.cells 0 rfl, ?_⟩
      · rfl
      refine ⟨(add_any e ⟨s.seq, d.kind == 2, d.body⟩ A1 cap1 hel S _ (hRe.below hc.below)).mono fun en w13 hq => ?_⟩
      rw [hadd] at hq
      obtain ⟨A2, cap2, e1, h13, ho⟩ := hq
      simp only at e1 ho
      have hc := hc.fresh h13 ho
      obtain ⟨S1, hs1, hc⟩ := hc.told
      refine ⟨_, e1, ?_⟩
      refine ⟨hc.may 1 rfl 0 _ (Nat.le_refl 2) rfl, ?_⟩
      intro w14 h14
      have hc := (hc.set 1 rfl h14).1
      refine ⟨_, hc.cell 5 rfl _ rfl, ?_⟩
      refine ⟨(cloneE_any A s.l.length cap css hE.flat hE.len hn S w14 (hR.below hc.below)).mono fun en w15 hq => ?_⟩
      obtain ⟨A3, cap3, e3, h15, ho⟩ := hq
      have hc := hc.fresh h15 ho
      refine ⟨_, e3, ?_⟩
      refine ⟨hc.may 5 rfl _ _ (nle rfl) rfl, ?_⟩
      intro w16 h16
      have hc := (hc.set 5 rfl h16).1
      refine ⟨_, hc.cell 5 rfl _ rfl, ?_⟩
      refine ⟨_, ?_, hc.cells 1 rfl, ?_⟩
      · rfl
      intro g17 w17 h17
      have hc := (hc.loc h17).1
      have hcel := hE.len
      obtain ⟨hcx, hox⟩ := hc.others
      have hd := insertE_any hcx css hE.flat (by rw [hcel]; exact hn) (A := A3) (cap := cap3) (by rw [hcel]; exact hox) (posK s.l d.key) (by rw [hcel]; exact posK_le _ _) 0 g17 [.string e.key, .slice A2 vs.length cap2] rfl rfl rfl
      rw [hcel] at hd
      refine ⟨hd.mono fun en w18 hq => ?_⟩
      obtain ⟨A4, cap4, e4, hcx, hfx, hox⟩ := hq
      have hc := hc.back (o' := ⟨58, 2, A4, s.l.length + 1, cap4, (css.take (posK s.l d.key)).flatten ++ [.string e.key, .slice A2 vs.length cap2] ++ (css.drop (posK s.l d.key)).flatten⟩) hcx hfx hox (fun x hx => ⟨x, hx, rfl⟩)
      refine ⟨_, e4, ?_⟩
      refine ⟨hc.may 6 rfl _ _ (nle rfl) rfl, ?_⟩
      intro w19 h19
      have hc := (hc.set 6 rfl h19).1.drop
      obtain ⟨S2, hs2, hc⟩ := hc.told
      refine drawn lay_ok (by kernel_rfl) (.q 0 (.q 1 (.q 2 (.q 3 (.n 4 (.z 5) .stop))))) (fun x => Blk x g2 78 _) (by kernel_rfl) (hc.blk 5 rfl) ?_
      have hc := hc.drew
      refine ⟨_, ?_, fun x hx => drop_cells hx 0 _ 0 (fun j v hj => by simpa using hj), ?_⟩
      · rfl
      refine ⟨_, fun x hx => hx.cell 0, ?_⟩
      refine ⟨?_, trivial⟩
      refine ⟨hc.may 3 rfl 0 _ (nle rfl) rfl, ?_⟩
      intro w20 h20
      have hc := (hc.set 3 rfl h20).1
      refine ⟨hc.blk 5 rfl, ?_⟩
      refine ⟨hc.may 2 rfl 0 _ (nle rfl) rfl, ?_⟩
      intro w21 h21
      have hc := (hc.set 2 rfl h21).1
      refine ⟨_, ?_, hc.cells 3 rfl, ?_⟩
      · rfl
      refine ⟨_, ?_, hc.cells 2 rfl, ?_⟩
      · rfl
      have ho := hc.out
      have hpe : putK s.l d.key false [⟨e.key, vs⟩] = s.l.take (posK s.l d.key) ++ [⟨e.key, vs⟩] ++ s.l.drop (posK s.l d.key) := rfl
      have hlen : (putK s.l d.key false [⟨e.key, vs⟩]).length = s.l.length + 1 := by
        have := posK_le s.l d.key
        rw [hpe, List.length_append, List.length_append, List.length_take, List.length_drop]; show min (posK s.l d.key) s.l.length + 1 + _ = _; omega
      refine ⟨A4, cap4, css.take (posK s.l d.key) ++ [[.string e.key, .slice A2 vs.length cap2]] ++ css.drop (posK s.l d.key), ?_, hc.below, ?_, ?_⟩
      · simp only [hlen]
        rfl
      · refine ((ho.1.1.1.take _).append ?_).append (ho.1.1.1.drop _)
        exact ⟨_, _, rfl, ⟨A2, cap2, rfl, ho.1.2⟩, rfl⟩
      · simp only [hlen]
        rw [List.flatten_append, List.flatten_append, List.flatten_cons, List.flatten_nil, List.append_nil]
        exact ho.2
    · skip
      refine ⟨_, hc.cell 4 rfl _ rfl, ?_⟩
      refine split_t k2 ?_
      rw [show doK s.l s.seq d = (s.l, ⟨6, 0⟩) by rw [hD, k3, hH, k2]; rfl]
      refine ⟨_, ?_, hc.cells 5 rfl, ?_⟩
      · rfl
      refine ⟨hc.may 3 rfl 0 _ (nle rfl) rfl, ?_⟩
      intro w20 h20
      have hc := (hc.set 3 rfl h20).1
      refine ⟨hc.may 2 rfl 0 _ (nle rfl) rfl, ?_⟩
      intro w21 h21
      have hc := (hc.set 2 rfl h21).1
      refine ⟨_, ?_, hc.cells 3 rfl, ?_⟩
      · rfl
      refine ⟨_, ?_, hc.cells 2 rfl, ?_⟩
      · rfl
      exact ⟨A, cap, css, rfl, hc.below, hc.out.1, hc.out.2⟩
  · refine split_t k1 ?_
    have k2 : (d.kind == 2) = false := by
      have : d.kind = 1 := by simpa using k1
      rw [this]; rfl
    refine ⟨_, ?_, hc.cells 1 rfl, ?_⟩
    · rfl
    refine ⟨_, hc.cell 4 rfl _ rfl, ?_⟩
    refine ⟨_, hc.cell 4 rfl _ rfl, ?_⟩
    refine call_b (holds_any e d.cond d.tag A1 cap1 S w11 (hRe.below hc.below) heb) ?_
    intro w12 h12w
    have hc := (hc.quiet h12w).1
    rcases Bool.eq_false_or_eq_true (holdsE e d.cond d.tag) with hh | hh
    rotate_left
    · refine split_t (by show (!holdsE e d.cond d.tag) = true; rw [hh]; rfl) ?_
      rw [show doK s.l s.seq d = (s.l, ⟨9, 0⟩) by rw [hD, k3, k1, hh]; rfl]
      refine ⟨_, ?_, hc.cells 5 rfl, ?_⟩
      · rfl
      refine ⟨hc.may 3 rfl 0 _ (nle rfl) rfl, ?_⟩
      intro w20 h20
      have hc := (hc.set 3 rfl h20).1
      refine ⟨hc.may 2 rfl 0 _ (nle rfl) rfl, ?_⟩
      intro w21 h21
      have hc := (hc.set 2 rfl h21).1
      refine ⟨_, ?_, hc.cells 3 rfl, ?_⟩
      · rfl
      refine ⟨_, ?_, hc.cells 2 rfl, ?_⟩
      · rfl
      exact ⟨A, cap, css, rfl, hc.below, hc.out.1, hc.out.2⟩
    refine split_f (by show (!holdsE e d.cond d.tag) = false; rw [hh]; rfl) ?_
    have hH : (d.kind == 1 && !holdsE e d.cond d.tag) = false := by rw [hh, Bool.not_true, Bool.and_false]
    refine ⟨_, hc.cell 4 rfl _ rfl, ?_⟩
    refine split_f k2 ?_
    have hN : (d.kind == 2 && !false) = false := by rw [k2]; rfl
    rcases Nat.lt_or_ge s.l.length 40 with h40 | h40
    rotate_left
    · refine split_t (decide_eq_true (show (40 : Int) ≤ (s.l.length : Int) by omega)) ?_
      rw [show doK s.l s.seq d = (s.l, ⟨5, 0⟩) by rw [hD, k3, hH, hN, decide_eq_true h40, Bool.not_false, Bool.true_and, Bool.or_true]; rfl]
      refine ⟨_, ?_, hc.cells 5 rfl, ?_⟩
      · rfl
      refine ⟨hc.may 3 rfl 0 _ (nle rfl) rfl, ?_⟩
      intro w20 h20
      have hc := (hc.set 3 rfl h20).1
      refine ⟨hc.may 2 rfl 0 _ (nle rfl) rfl, ?_⟩
      intro w21 h21
      have hc := (hc.set 2 rfl h21).1
      refine ⟨_, ?_, hc.cells 3 rfl, ?_⟩
      · rfl
      refine ⟨_, ?_, hc.cells 2 rfl, ?_⟩
      · rfl
      exact ⟨A, cap, css, rfl, hc.below, hc.out.1, hc.out.2⟩
    refine split_f (decide_eq_false (show ¬ (40 : Int) ≤ (s.l.length : Int) by omega)) ?_
    have ek : doK s.l s.seq d = (putK s.l d.key false [⟨e.key, e.vs ++ [⟨s.seq, d.kind == 2, d.body⟩]⟩], ⟨0, s.seq⟩) := by rw [hD, k3, hH, hN, decide_eq_false (show ¬ 40 ≤ s.l.length by omega), decide_eq_false h12]; rfl
    have hadd : addE e ⟨s.seq, d.kind == 2, d.body⟩ = (⟨e.key, e.vs ++ [⟨s.seq, d.kind == 2, d.body⟩]⟩, true) := by
      rw [addE, if_neg]
      rintro (h' | h')
      · exact absurd (by rw [hev]; rfl) h'.1
      · omega
    obtain ⟨vs, hvs⟩ : ∃ vs : List Ver, vs = e.vs ++ [⟨s.seq, d.kind == 2, d.body⟩] := ⟨_, rfl⟩
    rw [← hvs] at hadd ek
    clear hvs
    rw [ek]
    clear ek
    refine ⟨_, ?_, hc.cells 1 rfl, ?_⟩
    · rfl
    refine ⟨_, ?_, hc.cells 0 rfl, ?_⟩
    · rfl
    refine ⟨(add_any e ⟨s.seq, d.kind == 2, d.body⟩ A1 cap1 hel S _ (hRe.below hc.below)).mono fun en w13 hq => ?_⟩
    rw [hadd] at hq
    obtain ⟨A2, cap2, e1, h13, ho⟩ := hq
    simp only at e1 ho
    have hc := hc.fresh h13 ho
    obtain ⟨S1, hs1, hc⟩ := hc.told
    refine ⟨_, e1, ?_⟩
    refine ⟨hc.may 1 rfl 0 _ (Nat.le_refl 2) rfl, ?_⟩
    intro w14 h14
    have hc := (hc.set 1 rfl h14).1
    refine ⟨_, hc.cell 5 rfl _ rfl, ?_⟩
    refine ⟨(cloneE_any A s.l.length cap css hE.flat hE.len hn S w14 (hR.below hc.below)).mono fun en w15 hq => ?_⟩
    obtain ⟨A3, cap3, e3, h15, ho⟩ := hq
    have hc := hc.fresh h15 ho
    refine ⟨_, e3, ?_⟩
    refine ⟨hc.may 5 rfl _ _ (nle rfl) rfl, ?_⟩
    intro w16 h16
    have hc := (hc.set 5 rfl h16).1
    refine ⟨_, hc.cell 5 rfl _ rfl, ?_⟩
    refine ⟨_, ?_, hc.cells 1 rfl, ?_⟩
    · rfl
    intro g17 w17 h17
    have hc := (hc.loc h17).1
    have hcel := hE.len
    obtain ⟨hcx, hox⟩ := hc.others
    have hd := insertE_any hcx css hE.flat (by rw [hcel]; exact hn) (A := A3) (cap := cap3) (by rw [hcel]; exact hox) (posK s.l d.key) (by rw [hcel]; exact posK_le _ _) 0 g17 [.string e.key, .slice A2 vs.length cap2] rfl rfl rfl
    rw [hcel] at hd
    refine ⟨hd.mono fun en w18 hq => ?_⟩
    obtain ⟨A4, cap4, e4, hcx, hfx, hox⟩ := hq
    have hc := hc.back (o' := ⟨58, 2, A4, s.l.length + 1, cap4, (css.take (posK s.l d.key)).flatten ++ [.string e.key, .slice A2 vs.length cap2] ++ (css.drop (posK s.l d.key)).flatten⟩) hcx hfx hox (fun x hx => ⟨x, hx, rfl⟩)
    refine ⟨_, e4, ?_⟩
    refine ⟨hc.may 6 rfl _ _ (nle rfl) rfl, ?_⟩
    intro w19 h19
    have hc := (hc.set 6 rfl h19).1.drop
    obtain ⟨S2, hs2, hc⟩ := hc.told
    refine drawn lay_ok (by kernel_rfl) (.q 0 (.q 1 (.q 2 (.q 3 (.n 4 (.z 5) .stop))))) (fun x => Blk x g2 78 _) (by kernel_rfl) (hc.blk 5 rfl) ?_
    have hc := hc.drew
    refine ⟨_, ?_, fun x hx => drop_cells hx 0 _ 0 (fun j v hj => by simpa using hj), ?_⟩
    · rfl
    refine ⟨_, fun x hx => hx.cell 0, ?_⟩
    refine ⟨?_, trivial⟩
    refine ⟨hc.may 3 rfl 0 _ (nle rfl) rfl, ?_⟩
    intro w20 h20
    have hc := (hc.set 3 rfl h20).1
    refine ⟨hc.blk 5 rfl, ?_⟩
    refine ⟨hc.may 2 rfl 0 _ (nle rfl) rfl, ?_⟩
    intro w21 h21
    have hc := (hc.set 2 rfl h21).1
    refine ⟨_, ?_, hc.cells 3 rfl, ?_⟩
    · rfl
    refine ⟨_, ?_, hc.cells 2 rfl, ?_⟩
    · rfl
    have ho := hc.out
    have hpe : putK s.l d.key false [⟨e.key, vs⟩] = s.l.take (posK s.l d.key) ++ [⟨e.key, vs⟩] ++ s.l.drop (posK s.l d.key) := rfl
    have hlen : (putK s.l d.key false [⟨e.key, vs⟩]).length = s.l.length + 1 := by
      have := posK_le s.l d.key
      rw [hpe, List.length_append, List.length_append, List.length_take, List.length_drop]; show min (posK s.l d.key) s.l.length + 1 + _ = _; omega
    refine ⟨A4, cap4, css.take (posK s.l d.key) ++ [[.string e.key, .slice A2 vs.length cap2]] ++ css.drop (posK s.l d.key), ?_, hc.below, ?_, ?_⟩
    · simp only [hlen]
      rfl
    · refine ((ho.1.1.1.take _).append ?_).append (ho.1.1.1.drop _)
      exact ⟨_, _, rfl, ⟨A2, cap2, rfl, ho.1.2⟩, rfl⟩
    · simp only [hlen]
      rw [List.flatten_append, List.flatten_append, List.flatten_cons, List.flatten_nil, List.append_nil]
      exact ho.2
set_option maxHeartbeats 4000000 in
theorem doK_has (s : Stt) (d : D) (A B : Option Addr) (cap cap' : Nat) (l0 l1 l2 l3 l4 : Int) (el : s.lows = [l0, l1, l2, l3, l4]) (css : List (List Value)) (S : Nat → Prop) (w : World) (hlt : ∀ b, S b → b < w.heap.size) (hE : RepEs S w s.l css) (hR : Row S w A s.l.length cap css.flatten) (hM : Row S w B s.ms.length cap' (s.ms.map memC).flatten)
    (hn : s.l.length ≤ 1000000) (hp : s.l.Pairwise (fun a b => strLt a.key b.key = true)) (hok : ∀ e ∈ s.l, e.vs.length ≤ 1000000 ∧ (e.vs.length ≠ 0 → (lastV e.vs).ver < s.seq) ∧ (nowE e).1.body.size ≤ maxLen) (e : Ent) (hq : entAt s.l d.key = some e) :
    Calls Tryz.prog 128 #[.agg (stC s A cap B cap' l0 l1 l2 l3 l4).toArray, .agg (dC d).toArray] w (RetK s B cap' l0 l1 l2 l3 l4 S (doK s.l s.seq d) w) := by
  have hrep : RepS S w s (stC s A cap B cap' l0 l1 l2 l3 l4) := ⟨A, cap, css, B, cap', by rw [el]; rfl, by rw [el]; rfl, hE, hR, hM⟩
  have hRm := row_max hR
  refine calls_vc lay_ok Tryz.func128 rfl (by kernel_rfl) (by kernel_rfl) ?_
  intro g2 w1 h1
  have hc := ((CtxF.start w S hlt (R := know0 s.l css A cap) ⟨hE, hR⟩ (know0_stab _ _ _ _)).loc h1).1
  intro g3 w2 h2
  have hc := (hc.loc h2).1
  intro g4 w3 h3
  have hc := (hc.loc h3).1
  intro g5 w4 h4
  have hc := (hc.loc h4).1
  refine ⟨_, ?_, hc.cells 3 rfl, ?_⟩
  · rfl
  refine ⟨_, hc.cell 2 rfl _ rfl, ?_⟩
  have hfind := find_any s d.key hp hn _ S w4 (hrep.below hc.below)
  rw [hq] at hfind
  refine call_b hfind ?_
  clear hfind
  intro w5 h5
  have hc := (hc.quiet h5).1
  refine ⟨_, hc.cell 2 rfl _ rfl, ?_⟩
  intro g8 w6 h6
  have hc := (hc.loc h6).1
  refine ⟨hc.may 0 rfl _ _ (Nat.le_refl 2) rfl, ?_⟩
  intro w7 h7
  have hc := (hc.set 0 rfl h7).1
  have hD := doK_eq s.l s.seq d
  rw [hq] at hD
  have hD := hD true e rfl rfl
  obtain ⟨hg, _⟩ := entAt_some hq
  have hpl : posK s.l d.key < s.l.length := (List.getElem?_eq_some_iff.1 hg).1
  have hge : s.l[posK s.l d.key] = e := (List.getElem?_eq_some_iff.1 hg).2
  obtain ⟨hel, hev, heb⟩ := hok e (entAt_mem hq)
  refine ⟨_, hc.cell 4 rfl _ rfl, ?_⟩
  obtain ⟨ad, A1, cap1, e1, hcell, hRe⟩ := RowE.elem hR hE (posK s.l d.key) hpl
  have hcell := cellsAt_later hc.below _ _ hcell
  rw [hge] at hcell hRe
  subst e1
  refine ⟨⟨Int.natCast_nonneg _, Int.ofNat_lt.2 hpl⟩, ?_⟩
  refine ⟨[.string e.key, .slice A1 e.vs.length cap1], rfl, hcell, ?_⟩
  refine ⟨hc.may 0 rfl _ _ (Nat.le_refl 2) rfl, ?_⟩
  intro w8 h8
  have hc := (hc.set 0 rfl h8).1
  have hc : CtxF S w S w8 [(g8, 58, [.string e.key, .slice A1 e.vs.length cap1]), (g5, 89, [.int .i64 0, .int .i64 0]), (g4, 78, (lay.ty 78).zero), (g3, 23, dC d), (g2, 78, stC s (some ad) cap B cap' l0 l1 l2 l3 l4)] [] (know0 s.l css (some ad) cap) := hc
  refine ⟨_, hc.cell 0 rfl _ rfl, ?_⟩
  rcases Nat.lt_or_ge e.vs.length 12 with h12' | h12
  rotate_left
  · refine split_t (decide_eq_true (show (12 : Int) ≤ (e.vs.length : Int) by omega)) ?_
    refine ⟨_, hc.cell 4 rfl _ rfl, ?_⟩
    refine ⟨_, hc.cell 3 rfl _ rfl, ?_⟩
    refine ⟨_, hc.cell 3 rfl _ rfl, ?_⟩
    intro g10 w10 h10
    have hc := (hc.loc h10).1
    refine ⟨hc.may 0 rfl _ _ (Nat.le_refl 3) rfl, ?_⟩
    intro w11 h11
    have hc := (hc.set 0 rfl h11).1
    refine ⟨_, hc.cell 4 rfl _ rfl, ?_⟩
    cases k3 : (d.kind == 3)
    rotate_left
    · refine split_t k3 ?_
      rw [show doK s.l s.seq d = purgeK s.l (posK s.l d.key) e d.ver by rw [hD, k3]; rfl]
      refine ⟨_, ?_, hc.cells 5 rfl, ?_⟩
      · rfl
      refine ⟨_, ?_, hc.cells 1 rfl, ?_⟩
      · rfl
      refine ⟨_, hc.cell 4 rfl _ rfl, ?_⟩
      refine ⟨(purgeK_any s (some ad) B cap cap' l0 l1 l2 l3 l4 css S w11 (hE.below hc.below) (hR.below hc.below) hn (posK s.l d.key) e A1 cap1 (hRe.below hc.below) hel d.ver (fun h => hpl)).mono fun en w12 hq => ?_⟩
      obtain ⟨A5, c5, css5, e5, h12, hE5, hR5⟩ := hq
      have hc := (hc.call h12).1.know (X := fun S w => RepEs S w (purgeK s.l (posK s.l d.key) e d.ver).1 css5 ∧ Row S w A5 (purgeK s.l (posK s.l d.key) e d.ver).1.length c5 css5.flatten) ⟨hE5, hR5⟩ (fun _ _ _ _ h f => ⟨RepEs.fut h.1 f, h.2.fut f⟩)
      refine ⟨_, e5, ?_⟩
      refine ⟨hc.may 3 rfl 0 _ (nle rfl) rfl, ?_⟩
      intro w20 h20
      have hc := (hc.set 3 rfl h20).1
      refine ⟨hc.may 2 rfl 0 _ (nle rfl) rfl, ?_⟩
      intro w21 h21
      have hc := (hc.set 2 rfl h21).1
      refine ⟨_, ?_, hc.cells 3 rfl, ?_⟩
      · rfl
      refine ⟨_, ?_, hc.cells 2 rfl, ?_⟩
      · rfl
      exact ⟨A5, c5, css5, rfl, hc.below, hc.out.2.1, hc.out.2.2⟩
    refine split_f k3 ?_
    refine ⟨_, hc.cell 4 rfl _ rfl, ?_⟩
    cases k1 : (d.kind == 1)
    · refine split_f k1 ?_
      have hH : (d.kind == 1 && !holdsE e d.cond d.tag) = false := by rw [k1]; rfl
      cases k2 : (d.kind == 2)
      · skip
        refine ⟨_, hc.cell 4 rfl _ rfl, ?_⟩
        refine split_f k2 ?_
        have hN : (d.kind == 2 && !true) = false := by rw [Bool.not_true, Bool.and_false]
        rw [show doK s.l s.seq d = (s.l, ⟨5, 0⟩) by rw [hD, k3, hH, hN, decide_eq_true h12]; rfl]
        refine ⟨_, ?_, hc.cells 5 rfl, ?_⟩
        · rfl
        refine ⟨hc.may 3 rfl 0 _ (nle rfl) rfl, ?_⟩
        intro w20 h20
        have hc := (hc.set 3 rfl h20).1
        refine ⟨hc.may 2 rfl 0 _ (nle rfl) rfl, ?_⟩
        intro w21 h21
        have hc := (hc.set 2 rfl h21).1
        refine ⟨_, ?_, hc.cells 3 rfl, ?_⟩
        · rfl
        refine ⟨_, ?_, hc.cells 2 rfl, ?_⟩
        · rfl
        exact ⟨(some ad), cap, css, rfl, hc.below, hc.out.1, hc.out.2⟩
      · skip
        refine ⟨_, hc.cell 4 rfl _ rfl, ?_⟩
        refine split_t k2 ?_
        have hN : (d.kind == 2 && !true) = false := by rw [Bool.not_true, Bool.and_false]
        rw [show doK s.l s.seq d = (s.l, ⟨5, 0⟩) by rw [hD, k3, hH, hN, decide_eq_true h12]; rfl]
        refine ⟨_, ?_, hc.cells 5 rfl, ?_⟩
        · rfl
        refine ⟨hc.may 3 rfl 0 _ (nle rfl) rfl, ?_⟩
        intro w20 h20
        have hc := (hc.set 3 rfl h20).1
        refine ⟨hc.may 2 rfl 0 _ (nle rfl) rfl, ?_⟩
        intro w21 h21
        have hc := (hc.set 2 rfl h21).1
        refine ⟨_, ?_, hc.cells 3 rfl, ?_⟩
        · rfl
        refine ⟨_, ?_, hc.cells 2 rfl, ?_⟩
        · rfl
        exact ⟨(some ad), cap, css, rfl, hc.below, hc.out.1, hc.out.2⟩
    · refine split_t k1 ?_
      have k2 : (d.kind == 2) = false := by
        have : d.kind = 1 := by simpa using k1
        rw [this]; rfl
      refine ⟨_, ?_, hc.cells 1 rfl, ?_⟩
      · rfl
      refine ⟨_, hc.cell 4 rfl _ rfl, ?_⟩
      refine ⟨_, hc.cell 4 rfl _ rfl, ?_⟩
      refine call_b (holds_any e d.cond d.tag A1 cap1 S w11 (hRe.below hc.below) heb) ?_
      intro w12 h12w
      have hc := (hc.quiet h12w).1
      rcases Bool.eq_false_or_eq_true (holdsE e d.cond d.tag) with hh | hh
      rotate_left
      · refine split_t (by show (!holdsE e d.cond d.tag) = true; rw [hh]; rfl) ?_
        rw [show doK s.l s.seq d = (s.l, ⟨9, 0⟩) by rw [hD, k3, k1, hh]; rfl]
        refine ⟨_, ?_, hc.cells 5 rfl, ?_⟩
        · rfl
        refine ⟨hc.may 3 rfl 0 _ (nle rfl) rfl, ?_⟩
        intro w20 h20
        have hc := (hc.set 3 rfl h20).1
        refine ⟨hc.may 2 rfl 0 _ (nle rfl) rfl, ?_⟩
        intro w21 h21
        have hc := (hc.set 2 rfl h21).1
        refine ⟨_, ?_, hc.cells 3 rfl, ?_⟩
        · rfl
        refine ⟨_, ?_, hc.cells 2 rfl, ?_⟩
        · rfl
        exact ⟨(some ad), cap, css, rfl, hc.below, hc.out.1, hc.out.2⟩
      refine split_f (by show (!holdsE e d.cond d.tag) = false; rw [hh]; rfl) ?_
      have hH : (d.kind == 1 && !holdsE e d.cond d.tag) = false := by rw [hh, Bool.not_true, Bool.and_false]
      refine ⟨_, hc.cell 4 rfl _ rfl, ?_⟩
      refine split_f k2 ?_
      have hN : (d.kind == 2 && !true) = false := by rw [Bool.not_true, Bool.and_false]
      rw [show doK s.l s.seq d = (s.l, ⟨5, 0⟩) by rw [hD, k3, hH, hN, decide_eq_true h12]; rfl]
      refine ⟨_, ?_, hc.cells 5 rfl, ?_⟩
      · rfl
      refine ⟨hc.may 3 rfl 0 _ (nle rfl) rfl, ?_⟩
      intro w20 h20
      have hc := (hc.set 3 rfl h20).1
      refine ⟨hc.may 2 rfl 0 _ (nle rfl) rfl, ?_⟩
      intro w21 h21
      have hc := (hc.set 2 rfl h21).1
      refine ⟨_, ?_, hc.cells 3 rfl, ?_⟩
      · rfl
      refine ⟨_, ?_, hc.cells 2 rfl, ?_⟩
      · rfl
      exact ⟨(some ad), cap, css, rfl, hc.below, hc.out.1, hc.out.2⟩
  have h12 : ¬ 12 ≤ e.vs.length := by omega
  refine split_f (decide_eq_false (show ¬ (12 : Int) ≤ (e.vs.length : Int) by omega)) ?_
  refine ⟨_, hc.cell 4 rfl _ rfl, ?_⟩
  refine ⟨_, hc.cell 3 rfl _ rfl, ?_⟩
  refine ⟨_, hc.cell 3 rfl _ rfl, ?_⟩
  intro g10 w10 h10
  have hc := (hc.loc h10).1
  refine ⟨hc.may 0 rfl _ _ (Nat.le_refl 3) rfl, ?_⟩
  intro w11 h11
  have hc := (hc.set 0 rfl h11).1
  refine ⟨_, hc.cell 4 rfl _ rfl, ?_⟩
  cases k3 : (d.kind == 3)
  rotate_left
  · refine split_t k3 ?_
    rw [show doK s.l s.seq d = purgeK s.l (posK s.l d.key) e d.ver by rw [hD, k3]; rfl]
    refine ⟨_, ?_, hc.cells 5 rfl, ?_⟩
    · rfl
    refine ⟨_, ?_, hc.cells 1 rfl, ?_⟩
    · rfl
    refine ⟨_, hc.cell 4 rfl _ rfl, ?_⟩
    refine ⟨(purgeK_any s (some ad) B cap cap' l0 l1 l2 l3 l4 css S w11 (hE.below hc.below) (hR.below hc.below) hn (posK s.l d.key) e A1 cap1 (hRe.below hc.below) hel d.ver (fun h => hpl)).mono fun en w12 hq => ?_⟩
    obtain ⟨A5, c5, css5, e5, h12, hE5, hR5⟩ := hq
    have hc := (hc.call h12).1.know (X := fun S w => RepEs S w (purgeK s.l (posK s.l d.key) e d.ver).1 css5 ∧ Row S w A5 (purgeK s.l (posK s.l d.key) e d.ver).1.length c5 css5.flatten) ⟨hE5, hR5⟩ (fun _ _ _ _ h f => ⟨RepEs.fut h.1 f, h.2.fut f⟩)
    refine ⟨_, e5, ?_⟩
    refine ⟨hc.may 3 rfl 0 _ (nle rfl) rfl, ?_⟩
    intro w20 h20
    have hc := (hc.set 3 rfl h20).1
    refine ⟨hc.may 2 rfl 0 _ (nle rfl) rfl, ?_⟩
    intro w21 h21
    have hc := (hc.set 2 rfl h21).1
    refine ⟨_, ?_, hc.cells 3 rfl, ?_⟩
    · rfl
    refine ⟨_, ?_, hc.cells 2 rfl, ?_⟩
    · rfl
    exact ⟨A5, c5, css5, rfl, hc.below, hc.out.2.1, hc.out.2.2⟩
  refine split_f k3 ?_
  refine ⟨_, hc.cell 4 rfl _ rfl, ?_⟩
  cases k1 : (d.kind == 1)
  · refine split_f k1 ?_
    have hH : (d.kind == 1 && !holdsE e d.cond d.tag) = false := by rw [k1]; rfl
    cases k2 : (d.kind == 2)
    · skip
      refine ⟨_, hc.cell 4 rfl _ rfl, ?_⟩
      refine split_f k2 ?_
      have hN : (d.kind == 2 && !true) = false := by rw [Bool.not_true, Bool.and_false]
      have ek : doK s.l s.seq d = (putK s.l d.key true [⟨e.key, e.vs ++ [⟨s.seq, d.kind == 2, d.body⟩]⟩], ⟨0, s.seq⟩) := by rw [hD, k3, hH, hN, decide_eq_false h12]; rfl
      have hadd : addE e ⟨s.seq, d.kind == 2, d.body⟩ = (⟨e.key, e.vs ++ [⟨s.seq, d.kind == 2, d.body⟩]⟩, true) := by
        rw [addE, if_neg]
        rintro (h' | h')
        · have := hev h'.1; exact absurd h'.2 (by show ¬ s.seq ≤ (lastV e.vs).ver; omega)
        · omega
      obtain ⟨vs, hvs⟩ : ∃ vs : List Ver, vs = e.vs ++ [⟨s.seq, d.kind == 2, d.body⟩] := ⟨_, rfl⟩
      rw [← hvs] at hadd ek
      clear hvs
      rw [ek]
      clear ek
      refine ⟨_, ?_, hc.cells 1 rfl, ?_⟩
      · rfl
      refine ⟨_, ?_, hc.cells 0 rfl, ?_⟩
      · rfl
      refine ⟨(add_any e ⟨s.seq, d.kind == 2, d.body⟩ A1 cap1 hel S _ (hRe.below hc.below)).mono fun en w13 hq => ?_⟩
      rw [hadd] at hq
      obtain ⟨A2, cap2, e1, h13, ho⟩ := hq
      simp only at e1 ho
      have hc := hc.fresh h13 ho
      obtain ⟨S1, hs1, hc⟩ := hc.told
      refine ⟨_, e1, ?_⟩
      refine ⟨hc.may 1 rfl 0 _ (Nat.le_refl 2) rfl, ?_⟩
      intro w14 h14
      have hc := (hc.set 1 rfl h14).1
      refine ⟨_, hc.cell 5 rfl _ rfl, ?_⟩
      refine ⟨(cloneE_any (some ad) s.l.length cap css hE.flat hE.len hn S w14 (hR.below hc.below)).mono fun en w15 hq => ?_⟩
      obtain ⟨A3, cap3, e3, h15, ho⟩ := hq
      have hc := hc.fresh h15 ho
      refine ⟨_, e3, ?_⟩
      refine ⟨hc.may 5 rfl _ _ (nle rfl) rfl, ?_⟩
      intro w16 h16
      have hc := (hc.set 5 rfl h16).1
      refine ⟨_, hc.cell 5 rfl _ rfl, ?_⟩
      refine ⟨_, ?_, hc.cells 1 rfl, ?_⟩
      · rfl
      cases hA3 : A3 with
      | none =>
        have hz : s.l.length = 0 := (hc.fst.none' hA3).1
        omega
      | some a =>
      obtain ⟨g, cur, ea, hc, hcl, hct, hnc, hcm⟩ := hc.opened hA3
      rw [hA3] at ea
      cases ea
      refine ⟨⟨Int.natCast_nonneg _, Int.ofNat_lt.2 hpl⟩, ?_⟩
      generalize hae : ((⟨g, 0, none⟩ : Addr).add ((posK s.l d.key : Int).toNat * 2)) = ae
      rw [Addr.add_lit, Nat.zero_add, Int.toNat_natCast] at hae
      subst hae
      refine ⟨hc.may 0 rfl (posK s.l d.key * 2) [.string e.key, .slice A2 vs.length cap2] (by show posK s.l d.key * 2 + 2 ≤ cur.length; omega) rfl, ?_⟩
      intro w17 h17
      have h17 : Stored w16 ⟨g, posK s.l d.key * 2, none⟩ [.string e.key, .slice A2 vs.length cap2] w17 := h17
      have hc := (hc.set 0 rfl h17).1
      have hc := CtxF.closed hc 2 s.l.length cap3 hnc hcm (by rw [putAt_len, hcl])
      rw [row_set (c := [.string e.key, .slice A2 vs.length cap2]) hE.flat rfl hcl hE.len hnc hct _ hpl] at hc
      obtain ⟨S2, hs2, hc⟩ := hc.told
      refine drawn lay_ok (by kernel_rfl) (.q 0 (.q 1 (.q 2 (.q 3 (.n 4 (.z 5) .stop))))) (fun x => Blk x g2 78 _) (by kernel_rfl) (hc.blk 5 rfl) ?_
      have hc := hc.drew
      refine ⟨_, ?_, fun x hx => drop_cells hx 0 _ 0 (fun j v hj => by simpa using hj), ?_⟩
      · rfl
      refine ⟨_, fun x hx => hx.cell 0, ?_⟩
      refine ⟨?_, trivial⟩
      refine ⟨hc.may 3 rfl 0 _ (nle rfl) rfl, ?_⟩
      intro w20 h20
      have hc := (hc.set 3 rfl h20).1
      refine ⟨hc.blk 5 rfl, ?_⟩
      refine ⟨hc.may 2 rfl 0 _ (nle rfl) rfl, ?_⟩
      intro w21 h21
      have hc := (hc.set 2 rfl h21).1
      refine ⟨_, ?_, hc.cells 3 rfl, ?_⟩
      · rfl
      refine ⟨_, ?_, hc.cells 2 rfl, ?_⟩
      · rfl
      have ho := hc.out
      have hlen : (putK s.l d.key true [⟨e.key, vs⟩]).length = s.l.length := by unfold putK; rw [if_pos rfl, List.length_append, List.length_append, List.length_take, List.length_drop]; show min (posK s.l d.key) s.l.length + 1 + _ = _; omega
      refine ⟨A3, cap3, css.take (posK s.l d.key) ++ [[.string e.key, .slice A2 vs.length cap2]] ++ css.drop (posK s.l d.key + 1), ?_, hc.below, ?_, ?_⟩
      · simp only [hlen]
        rfl
      · refine ((ho.1.1.1.take _).append ?_).append (ho.1.1.1.drop _)
        exact ⟨_, _, rfl, ⟨A2, cap2, rfl, ho.1.2⟩, rfl⟩
      · simp only [hlen]
        rw [hA3]
        exact ho.2
    · skip
      refine ⟨_, hc.cell 4 rfl _ rfl, ?_⟩
      refine split_t k2 ?_
      have hN : (d.kind == 2 && !true) = false := by rw [Bool.not_true, Bool.and_false]
      have ek : doK s.l s.seq d = (putK s.l d.key true [⟨e.key, e.vs ++ [⟨s.seq, d.kind == 2, d.body⟩]⟩], ⟨0, s.seq⟩) := by rw [hD, k3, hH, hN, decide_eq_false h12]; rfl
      have hadd : addE e ⟨s.seq, d.kind == 2, d.body⟩ = (⟨e.key, e.vs ++ [⟨s.seq, d.kind == 2, d.body⟩]⟩, true) := by
        rw [addE, if_neg]
        rintro (h' | h')
        · have := hev h'.1; exact absurd h'.2 (by show ¬ s.seq ≤ (lastV e.vs).ver; omega)
        · omega
      obtain ⟨vs, hvs⟩ : ∃ vs : List Ver, vs = e.vs ++ [⟨s.seq, d.kind == 2, d.body⟩] := ⟨_, rfl⟩
      rw [← hvs] at hadd ek
      clear hvs
      rw [ek]
      clear ek
      refine ⟨_, ?_, hc.cells 1 rfl, ?_⟩
      · rfl
      refine ⟨_, ?_, hc.cells 0 rfl, ?_⟩
      · rfl
      refine ⟨(add_any e ⟨s.seq, d.kind == 2, d.body⟩ A1 cap1 hel S _ (hRe.below hc.below)).mono fun en w13 hq => ?_⟩
      rw [hadd] at hq
      obtain ⟨A2, cap2, e1, h13, ho⟩ := hq
      simp only at e1 ho
      have hc := hc.fresh h13 ho
      obtain ⟨S1, hs1, hc⟩ := hc.told
      refine ⟨_, e1, ?_⟩
      refine ⟨hc.may 1 rfl 0 _ (Nat.le_refl 2) rfl, ?_⟩
      intro w14 h14
      have hc := (hc.set 1 rfl h14).1
      refine ⟨_, hc.cell 5 rfl _ rfl, ?_⟩
      refine ⟨(cloneE_any (some ad) s.l.length cap css hE.flat hE.len hn S w14 (hR.below hc.below)).mono fun en w15 hq => ?_⟩
      obtain ⟨A3, cap3, e3, h15, ho⟩ := hq
      have hc := hc.fresh h15 ho
      refine ⟨_, e3, ?_⟩
      refine ⟨hc.may 5 rfl _ _ (nle rfl) rfl, ?_⟩
      intro w16 h16
      have hc := (hc.set 5 rfl h16).1
      refine ⟨_, hc.cell 5 rfl _ rfl, ?_⟩
      refine ⟨_, ?_, hc.cells 1 rfl, ?_⟩
      · rfl
      cases hA3 : A3 with
      | none =>
        have hz : s.l.length = 0 := (hc.fst.none' hA3).1
        omega
      | some a =>
      obtain ⟨g, cur, ea, hc, hcl, hct, hnc, hcm⟩ := hc.opened hA3
      rw [hA3] at ea
      cases ea
      refine ⟨⟨Int.natCast_nonneg _, Int.ofNat_lt.2 hpl⟩, ?_⟩
      generalize hae : ((⟨g, 0, none⟩ : Addr).add ((posK s.l d.key : Int).toNat * 2)) = ae
      rw [Addr.add_lit, Nat.zero_add, Int.toNat_natCast] at hae
      subst hae
      refine ⟨hc.may 0 rfl (posK s.l d.key * 2) [.string e.key, .slice A2 vs.length cap2] (by show posK s.l d.key * 2 + 2 ≤ cur.length; omega) rfl, ?_⟩
      intro w17 h17
      have h17 : Stored w16 ⟨g, posK s.l d.key * 2, none⟩ [.string e.key, .slice A2 vs.length cap2] w17 := h17
      have hc := (hc.set 0 rfl h17).1
      have hc := CtxF.closed hc 2 s.l.length cap3 hnc hcm (by rw [putAt_len, hcl])
      rw [row_set (c := [.string e.key, .slice A2 vs.length cap2]) hE.flat rfl hcl hE.len hnc hct _ hpl] at hc
      obtain ⟨S2, hs2, hc⟩ := hc.told
      refine drawn lay_ok (by kernel_rfl) (.q 0 (.q 1 (.q 2 (.q 3 (.n 4 (.z 5) .stop))))) (fun x => Blk x g2 78 _) (by kernel_rfl) (hc.blk 5 rfl) ?_
      have hc := hc.drew
      refine ⟨_, ?_, fun x hx => drop_cells hx 0 _ 0 (fun j v hj => by simpa using hj), ?_⟩
      · rfl
      refine ⟨_, fun x hx => hx.cell 0, ?_⟩
      refine ⟨?_, trivial⟩
      refine ⟨hc.may 3 rfl 0 _ (nle rfl) rfl, ?_⟩
      intro w20 h20
      have hc := (hc.set 3 rfl h20).1
      refine ⟨hc.blk 5 rfl, ?_⟩
      refine ⟨hc.may 2 rfl 0 _ (nle rfl) rfl, ?_⟩
      intro w21 h21
      have hc := (hc.set 2 rfl h21).1
      refine ⟨_, ?_, hc.cells 3 rfl, ?_⟩
      · rfl
      refine ⟨_, ?_, hc.cells 2 rfl, ?_⟩
      · rfl
      have ho := hc.out
      have hlen : (putK s.l d.key true [⟨e.key, vs⟩]).length = s.l.length := by unfold putK; rw [if_pos rfl, List.length_append, List.length_append, List.length_take, List.length_drop]; show min (posK s.l d.key) s.l.length + 1 + _ = _; omega
      refine ⟨A3, cap3, css.take (posK s.l d.key) ++ [[.string e.key, .slice A2 vs.length cap2]] ++ css.drop (posK s.l d.key + 1), ?_, hc.below, ?_, ?_⟩
      · simp only [hlen]
        rfl
      · refine ((ho.1.1.1.take _).append ?_).append (ho.1.1.1.drop _)
        exact ⟨_, _, rfl, ⟨A2, cap2, rfl, ho.1.2⟩, rfl⟩
      · simp only [hlen]
        rw [hA3]
        exact ho.2
  · refine split_t k1 ?_
    have k2 : (d.kind == 2) = false := by
      have : d.kind = 1 := by simpa using k1
      rw [this]; rfl
    refine ⟨_, ?_, hc.cells 1 rfl, ?_⟩
    · rfl
    refine ⟨_, hc.cell 4 rfl _ rfl, ?_⟩
    refine ⟨_, hc.cell 4 rfl _ rfl, ?_⟩
    refine call_b (holds_any e d.cond d.tag A1 cap1 S w11 (hRe.below hc.below) heb) ?_
    intro w12 h12w
    have hc := (hc.quiet h12w).1
    rcases Bool.eq_false_or_eq_true (holdsE e d.cond d.tag) with hh | hh
    rotate_left
    · refine split_t (by show (!holdsE e d.cond d.tag) = true; rw [hh]; rfl) ?_
      rw [show doK s.l s.seq d = (s.l, ⟨9, 0⟩) by rw [hD, k3, k1, hh]; rfl]
      refine ⟨_, ?_, hc.cells 5 rfl, ?_⟩
      · rfl
      refine ⟨hc.may 3 rfl 0 _ (nle rfl) rfl, ?_⟩
      intro w20 h20
      have hc := (hc.set 3 rfl h20).1
      refine ⟨hc.may 2 rfl 0 _ (nle rfl) rfl, ?_⟩
      intro w21 h21
      have hc := (hc.set 2 rfl h21).1
      refine ⟨_, ?_, hc.cells 3 rfl, ?_⟩
      · rfl
      refine ⟨_, ?_, hc.cells 2 rfl, ?_⟩
      · rfl
      exact ⟨(some ad), cap, css, rfl, hc.below, hc.out.1, hc.out.2⟩
    refine split_f (by show (!holdsE e d.cond d.tag) = false; rw [hh]; rfl) ?_
    have hH : (d.kind == 1 && !holdsE e d.cond d.tag) = false := by rw [hh, Bool.not_true, Bool.and_false]
    refine ⟨_, hc.cell 4 rfl _ rfl, ?_⟩
    refine split_f k2 ?_
    have hN : (d.kind == 2 && !true) = false := by rw [Bool.not_true, Bool.and_false]
    have ek : doK s.l s.seq d = (putK s.l d.key true [⟨e.key, e.vs ++ [⟨s.seq, d.kind == 2, d.body⟩]⟩], ⟨0, s.seq⟩) := by rw [hD, k3, hH, hN, decide_eq_false h12]; rfl
    have hadd : addE e ⟨s.seq, d.kind == 2, d.body⟩ = (⟨e.key, e.vs ++ [⟨s.seq, d.kind == 2, d.body⟩]⟩, true) := by
      rw [addE, if_neg]
      rintro (h' | h')
      · have := hev h'.1; exact absurd h'.2 (by show ¬ s.seq ≤ (lastV e.vs).ver; omega)
      · omega
    obtain ⟨vs, hvs⟩ : ∃ vs : List Ver, vs = e.vs ++ [⟨s.seq, d.kind == 2, d.body⟩] := ⟨_, rfl⟩
    rw [← hvs] at hadd ek
    clear hvs
    rw [ek]
    clear ek
    refine ⟨_, ?_, hc.cells 1 rfl, ?_⟩
    · rfl
    refine ⟨_, ?_, hc.cells 0 rfl, ?_⟩
    · rfl
    refine ⟨(add_any e ⟨s.seq, d.kind == 2, d.body⟩ A1 cap1 hel S _ (hRe.below hc.below)).mono fun en w13 hq => ?_⟩
    rw [hadd] at hq
    obtain ⟨A2, cap2, e1, h13, ho⟩ := hq
    simp only at e1 ho
    have hc := hc.fresh h13 ho
    obtain ⟨S1, hs1, hc⟩ := hc.told
    refine ⟨_, e1, ?_⟩
    refine ⟨hc.may 1 rfl 0 _ (Nat.le_refl 2) rfl, ?_⟩
    intro w14 h14
    have hc := (hc.set 1 rfl h14).1
    refine ⟨_, hc.cell 5 rfl _ rfl, ?_⟩
    refine ⟨(cloneE_any (some ad) s.l.length cap css hE.flat hE.len hn S w14 (hR.below hc.below)).mono fun en w15 hq => ?_⟩
    obtain ⟨A3, cap3, e3, h15, ho⟩ := hq
    have hc := hc.fresh h15 ho
    refine ⟨_, e3, ?_⟩
    refine ⟨hc.may 5 rfl _ _ (nle rfl) rfl, ?_⟩
    intro w16 h16
    have hc := (hc.set 5 rfl h16).1
    refine ⟨_, hc.cell 5 rfl _ rfl, ?_⟩
    refine ⟨_, ?_, hc.cells 1 rfl, ?_⟩
    · rfl
    cases hA3 : A3 with
    | none =>
      have hz : s.l.length = 0 := (hc.fst.none' hA3).1
      omega
    | some a =>
    obtain ⟨g, cur, ea, hc, hcl, hct, hnc, hcm⟩ := hc.opened hA3
    rw [hA3] at ea
    cases ea
    refine ⟨⟨Int.natCast_nonneg _, Int.ofNat_lt.2 hpl⟩, ?_⟩
    generalize hae : ((⟨g, 0, none⟩ : Addr).add ((posK s.l d.key : Int).toNat * 2)) = ae
    rw [Addr.add_lit, Nat.zero_add, Int.toNat_natCast] at hae
    subst hae
    refine ⟨hc.may 0 rfl (posK s.l d.key * 2) [.string e.key, .slice A2 vs.length cap2] (by show posK s.l d.key * 2 + 2 ≤ cur.length; omega) rfl, ?_⟩
    intro w17 h17
    have h17 : Stored w16 ⟨g, posK s.l d.key * 2, none⟩ [.string e.key, .slice A2 vs.length cap2] w17 := h17
    have hc := (hc.set 0 rfl h17).1
    have hc := CtxF.closed hc 2 s.l.length cap3 hnc hcm (by rw [putAt_len, hcl])
    rw [row_set (c := [.string e.key, .slice A2 vs.length cap2]) hE.flat rfl hcl hE.len hnc hct _ hpl] at hc
    obtain ⟨S2, hs2, hc⟩ := hc.told
    refine drawn lay_ok (by kernel_rfl) (.q 0 (.q 1 (.q 2 (.q 3 (.n 4 (.z 5) .stop))))) (fun x => Blk x g2 78 _) (by kernel_rfl) (hc.blk 5 rfl) ?_
    have hc := hc.drew
    refine ⟨_, ?_, fun x hx => drop_cells hx 0 _ 0 (fun j v hj => by simpa using hj), ?_⟩
    · rfl
    refine ⟨_, fun x hx => hx.cell 0, ?_⟩
    refine ⟨?_, trivial⟩
    refine ⟨hc.may 3 rfl 0 _ (nle rfl) rfl, ?_⟩
    intro w20 h20
    have hc := (hc.set 3 rfl h20).1
    refine ⟨hc.blk 5 rfl, ?_⟩
    refine ⟨hc.may 2 rfl 0 _ (nle rfl) rfl, ?_⟩
    intro w21 h21
    have hc := (hc.set 2 rfl h21).1
    refine ⟨_, ?_, hc.cells 3 rfl, ?_⟩
    · rfl
    refine ⟨_, ?_, hc.cells 2 rfl, ?_⟩
    · rfl
    have ho := hc.out
    have hlen : (putK s.l d.key true [⟨e.key, vs⟩]).length = s.l.length := by unfold putK; rw [if_pos rfl, List.length_append, List.length_append, List.length_take, List.length_drop]; show min (posK s.l d.key) s.l.length + 1 + _ = _; omega
    refine ⟨A3, cap3, css.take (posK s.l d.key) ++ [[.string e.key, .slice A2 vs.length cap2]] ++ css.drop (posK s.l d.key + 1), ?_, hc.below, ?_, ?_⟩
    · simp only [hlen]
      rfl
    · refine ((ho.1.1.1.take _).append ?_).append (ho.1.1.1.drop _)
      exact ⟨_, _, rfl, ⟨A2, cap2, rfl, ho.1.2⟩, rfl⟩
    · simp only [hlen]
      rw [hA3]
      exact ho.2
theorem doK_any (s : Stt) (d : D) (A B : Option Addr) (cap cap' : Nat) (l0 l1 l2 l3 l4 : Int) (el : s.lows = [l0, l1, l2, l3, l4]) (css : List (List Value)) (S : Nat → Prop) (w : World) (hE : RepEs S w s.l css) (hR : Row S w A s.l.length cap css.flatten) (hM : Row S w B s.ms.length cap' (s.ms.map memC).flatten)
    (hn : s.l.length ≤ 1000000) (hp : s.l.Pairwise (fun a b => strLt a.key b.key = true)) (hok : ∀ e ∈ s.l, e.vs.length ≤ 1000000 ∧ (e.vs.length ≠ 0 → (lastV e.vs).ver < s.seq) ∧ (nowE e).1.body.size ≤ maxLen) :
    Calls Tryz.prog 128 #[.agg (stC s A cap B cap' l0 l1 l2 l3 l4).toArray, .agg (dC d).toArray] w (RetK s B cap' l0 l1 l2 l3 l4 S (doK s.l s.seq d) w) := by
  cases hq : entAt s.l d.key with
  | none => exact (doK_none s d A B cap cap' l0 l1 l2 l3 l4 el css _ w (fun b h => h.2) hE.cutS (Row.cutS hR) (Row.cutS hM) hn hp hok hq).mono fun _ _ h => h.wide
  | some e => exact (doK_has s d A B cap cap' l0 l1 l2 l3 l4 el css _ w (fun b h => h.2) hE.cutS (Row.cutS hR) (Row.cutS hM) hn hp hok e hq).mono fun _ _ h => h.wide
abbrev SortK (l : List Ent) : Prop := l.Pairwise (fun a b => strLt a.key b.key = true)
abbrev SortM (l : List Mem) : Prop := l.Pairwise (fun a b => a.req < b.req)
theorem entAt_iff : ∀ {l : List Ent}, SortK l → ∀ {k : ByteArray} {e : Ent}, entAt l k = some e ↔ e ∈ l ∧ e.key = k
  | [], _, k, e => by simp [entAt]
  | x :: r, hp, k, e => by
    rw [SortK, List.pairwise_cons] at hp
    by_cases c : strLt x.key k = true
    · have e1 : entAt (x :: r) k = entAt r k := by simp [entAt, posK, c]
      rw [e1, entAt_iff hp.2]
      constructor
      · rintro ⟨h1, h2⟩; exact ⟨List.mem_cons_of_mem _ h1, h2⟩
      · rintro ⟨h1, h2⟩
        cases h1 with
        | head => rw [h2, strLt_irrefl] at c; cases c
        | tail _ h => exact ⟨h, h2⟩
    · have e0 : posK (x :: r) k = 0 := by rw [posK, if_neg c]
      have e1 : entAt (x :: r) k = if strEq x.key k then some x else none := by simp [entAt, e0]
      rw [e1]
      constructor
      · intro h
        split at h
        · rename_i h2
          cases h
          exact ⟨List.mem_cons_self .., strEq_iff.1 h2⟩
        · cases h
      · rintro ⟨h1, h2⟩
        cases h1 with
        | head => rw [if_pos (strEq_iff.2 h2)]
        | tail _ h =>
          have := hp.1 e h
          rw [h2] at this
          exact absurd this c
theorem memAt_iff : ∀ {l : List Mem}, SortM l → ∀ {n : Int} {m : Mem}, memAt l n = some m ↔ m ∈ l ∧ m.req = n
  | [], _, n, m => by simp [memAt]
  | x :: r, hp, n, m => by
    rw [SortM, List.pairwise_cons] at hp
    by_cases c : x.req < n
    · have e1 : memAt (x :: r) n = memAt r n := by simp [memAt, posM, c]
      rw [e1, memAt_iff hp.2]
      constructor
      · rintro ⟨h1, h2⟩; exact ⟨List.mem_cons_of_mem _ h1, h2⟩
      · rintro ⟨h1, h2⟩
        cases h1 with
        | head => omega
        | tail _ h => exact ⟨h, h2⟩
    · have e0 : posM (x :: r) n = 0 := by rw [posM, if_neg c]
      have e1 : memAt (x :: r) n = if x.req == n then some x else none := by simp [memAt, e0]
      rw [e1]
      constructor
      · intro h
        split at h
        · rename_i h2
          cases h
          exact ⟨List.mem_cons_self .., by simpa using h2⟩
        · cases h
      · rintro ⟨h1, h2⟩
        cases h1 with
        | head => rw [if_pos (by simpa using h2)]
        | tail _ h =>
          have := hp.1 m h
          omega
theorem mem_putK {l : List Ent} (hp : SortK l) (k : ByteArray) (es : List Ent) (x : Ent) : x ∈ putK l k (entAt l k).isSome es ↔ x ∈ es ∨ (x ∈ l ∧ x.key ≠ k) := by
  rw [putK, List.mem_append, List.mem_append]
  constructor
  · rintro ((h | h) | h)
    · refine .inr ⟨List.mem_of_mem_take h, fun e => ?_⟩
      have := take_posK l k x h
      rw [e, strLt_irrefl] at this; cases this
    · exact .inl h
    · refine .inr ⟨List.mem_of_mem_drop h, fun e => ?_⟩
      have := drop_posK l k hp x h
      rw [e, strLt_irrefl] at this; cases this
  · rintro (h | ⟨h, hk⟩)
    · exact .inl (.inr h)
    · rw [← List.take_append_drop (posK l k) l, List.mem_append] at h
      rcases h with h | h
      · exact .inl (.inl h)
      · refine .inr ?_
        cases he : entAt l k with
        | none => exact h
        | some e =>
          obtain ⟨h1, h2⟩ := entAt_some he
          obtain ⟨hlt, h3⟩ := List.getElem?_eq_some_iff.1 h1
          rw [List.drop_eq_getElem_cons hlt] at h
          cases h with
          | head => exact absurd (by rw [h3]; exact h2) hk
          | tail _ h => exact h
theorem entAt_putK {l : List Ent} (hp : SortK l) {k : ByteArray} {es : List Ent} (hs : SortK (putK l k (entAt l k).isSome es)) (h1 : es.length ≤ 1) (hk : ∀ e ∈ es, e.key = k) (k' : ByteArray) :
    entAt (putK l k (entAt l k).isSome es) k' = if k' = k then es.head? else entAt l k' := by
  refine Option.ext fun e => ?_
  rw [entAt_iff hs, mem_putK hp]
  by_cases c : k' = k
  · subst c
    rw [if_pos rfl]
    match es, h1 with
    | [], _ => simp
    | [x], _ =>
      simp
      constructor
      · rintro ⟨h | ⟨_, h⟩, h'⟩
        · exact h.symm
        · exact absurd h' h
      · intro h; subst h; exact ⟨.inl rfl, hk x (List.mem_cons_self ..)⟩
  · rw [if_neg c, entAt_iff hp]
    constructor
    · rintro ⟨h | ⟨h, _⟩, h'⟩
      · exact absurd (h'.symm.trans (hk e h)) c
      · exact ⟨h, h'⟩
    · rintro ⟨h, h'⟩; exact ⟨.inr ⟨h, fun e => c (h'.symm.trans e)⟩, h'⟩
theorem risE_sort {seq : Int} {p : Option ByteArray} {l : List Ent} (h : risE seq p l = true) : SortK l := ((risE_iff _ _ _).1 h).2.1
theorem memB_sort {lows : List Int} {seq : Int} {p : Option Int} {l : List Mem} (h : memB lows seq p l = true) : SortM l := ((memB_iff _ _ _ _).1 h).2.1
theorem mem_ins {l : List Mem} (n : Nat) (m x : Mem) : x ∈ l.take n ++ m :: l.drop n ↔ x = m ∨ x ∈ l := by
  rw [List.mem_append, List.mem_cons]
  have : x ∈ l ↔ x ∈ l.take n ∨ x ∈ l.drop n := by
    rw [← List.mem_append, List.take_append_drop]
  rw [this]
  constructor
  · rintro (h | h | h)
    · exact .inr (.inl h)
    · exact .inl h
    · exact .inr (.inr h)
  · rintro (h | h | h)
    · exact .inr (.inl h)
    · exact .inl h
    · exact .inr (.inr h)
theorem mayD_home {d : D} (h : mayD d = true) : homeI d.req ≠ 0 := by
  unfold mayD at h
  simp only [Bool.and_eq_true, Bool.not_eq_true', beq_eq_false_iff_ne, ne_eq] at h
  exact h.1.1.1.2
theorem mayD_low {d : D} (h : mayD d = true) : d.low ≤ d.req := by
  unfold mayD at h
  simp only [Bool.and_eq_true, Bool.not_eq_true', decide_eq_false_iff_not] at h
  have := h.1.2
  omega
inductive Done (s : Stt) (d : D) : Prop where
  | form (h : mayS s = false ∨ mayD d = false) (e : doS s d = (s, ⟨1, 0⟩))
  | top (h : maxN ≤ s.seq) (e : doS s d = (s, ⟨5, 0⟩))
  | old (hs : mayS s = true) (hd : mayD d = true) (hq : s.seq < maxN) (h : d.req < lowAt s.lows (homeI d.req)) (e : doS s d = (⟨s.seq + 1, s.l, s.ms, s.lows⟩, ⟨12, 0⟩))
  | told (hs : mayS s = true) (hd : mayD d = true) (hq : s.seq < maxN) (h : lowAt s.lows (homeI d.req) ≤ d.req) (m : Mem) (hm : memAt s.ms d.req = some m) (e : doS s d = (⟨s.seq + 1, s.l, s.ms, s.lows⟩, m.res))
  | full (hs : mayS s = true) (hd : mayD d = true) (hq : s.seq < maxN) (h : lowAt s.lows (homeI d.req) ≤ d.req) (hm : memAt s.ms d.req = none) (hf : 100 ≤ s.ms.length) (e : doS s d = (⟨s.seq + 1, s.l, s.ms, s.lows⟩, ⟨5, 0⟩))
  | new (hs : mayS s = true) (hd : mayD d = true) (hq : s.seq < maxN) (h : lowAt s.lows (homeI d.req) ≤ d.req) (hm : memAt s.ms d.req = none) (hf : s.ms.length < 100) (ms : List Mem) (lows : List Int)
      (hx : ∀ m, m ∈ ms ↔ (m = ⟨d.req, (doK s.l (s.seq + 1) d).2⟩ ∨ m ∈ s.ms) ∧ ¬ (m.req < d.low ∧ homeI m.req = homeI d.req ∧ lowAt s.lows (homeI d.req) < d.low ∧ homeI d.low = homeI d.req))
      (hl : lows = if lowAt s.lows (homeI d.req) < d.low ∧ homeI d.low = homeI d.req then s.lows.set (homeI d.req - 1).toNat d.low else s.lows)
      (e : doS s d = (⟨s.seq + 1, (doK s.l (s.seq + 1) d).1, ms, lows⟩, (doK s.l (s.seq + 1) d).2))
theorem doS_done (s : Stt) (d : D) : Done s d := by
  cases hs : mayS s with
  | false => exact .form (.inl hs) (by simp [doS, hs])
  | true =>
  cases hd : mayD d with
  | false => exact .form (.inr hd) (by simp [doS, hd])
  | true =>
  by_cases hq : maxN ≤ s.seq
  · exact .top hq (by simp [doS, hs, hd, hq])
  have hq' : s.seq < maxN := by omega
  by_cases h : d.req < lowAt s.lows (homeI d.req)
  · exact .old hs hd hq' h (by simp [doS, hs, hd, hq, h])
  have h' : lowAt s.lows (homeI d.req) ≤ d.req := by omega
  cases hm : memAt s.ms d.req with
  | some m => exact .told hs hd hq' h' m hm (by simp [doS, hs, hd, hq, h, hm])
  | none =>
  by_cases hf : 100 ≤ s.ms.length
  · exact .full hs hd hq' h' hm hf (by simp [doS, hs, hd, hq, h, hm, hf])
  by_cases hc : lowAt s.lows (homeI d.req) < d.low ∧ homeI d.low = homeI d.req
  · refine .new hs hd hq' h' hm (by omega) (keepM d.low (homeI d.req) (s.ms.take (posM s.ms d.req) ++ ⟨d.req, (doK s.l (s.seq + 1) d).2⟩ :: s.ms.drop (posM s.ms d.req))) _ (fun m => ?_) rfl ?_
    · unfold keepM
      rw [List.mem_filter, mem_ins]
      refine and_congr Iff.rfl ?_
      simp only [Bool.not_eq_true', Bool.and_eq_false_iff, decide_eq_false_iff_not, beq_eq_false_iff_ne, ne_eq, hc, and_true, not_and]
      by_cases c : m.req < d.low <;> simp [c]
    · rw [if_pos hc]
      simp only [doS, hs, hd, hq, h, hm, hf, hc, Bool.not_true, Bool.or_false, Bool.false_eq_true, if_false, and_self, if_true]
  · refine .new hs hd hq' h' hm (by omega) (s.ms.take (posM s.ms d.req) ++ ⟨d.req, (doK s.l (s.seq + 1) d).2⟩ :: s.ms.drop (posM s.ms d.req)) _ (fun m => ?_) rfl ?_
    · rw [mem_ins]
      constructor
      · intro h; exact ⟨h, fun h => hc h.2.2⟩
      · intro h; exact h.1
    · rw [if_neg hc]
      simp only [doS, hs, hd, hq, h, hm, hf, hc, Bool.not_true, Bool.or_false, Bool.false_eq_true, if_false]
theorem doS_lows5 {s : Stt} (d : D) (h : s.lows.length = 5) : (doS s d).1.lows.length = 5 := by
  cases doS_done s d with
  | form h0 e => rw [e]; exact h
  | top h0 e => rw [e]; exact h
  | old hs hd hq h0 e => rw [e]; exact h
  | told hs hd hq h0 m hm e => rw [e]; exact h
  | full hs hd hq h0 hm hf e => rw [e]; exact h
  | new hs hd hq h0 hm hf ms lows hx hl e =>
    rw [e]
    show lows.length = 5
    rw [hl]
    split
    · rw [List.length_set]; exact h
    · exact h
theorem doS_twice {s : Stt} {d : D} (h5 : s.lows.length = 5) (hs : mayS s = true) (hd : mayD d = true) (hq : s.seq + 1 < maxN) (hn : lowAt s.lows (homeI d.req) ≤ d.req) :
    (doS (doS s d).1 d).2 = (doS s d).2 ∧ (doS s d).1.seq = s.seq + 1 ∧ (doS (doS s d).1 d).1.seq = s.seq + 2 ∧ (doS (doS s d).1 d).1.l = (doS s d).1.l := by
  have hs' := mayS_doS (d := d) h5 hs
  have again : ∀ (t : Stt), (doS s d).1 = t → t.seq = s.seq + 1 → lowAt t.lows (homeI d.req) ≤ d.req → (memAt t.ms d.req = some ⟨d.req, (doS s d).2⟩ ∨ (∃ m, memAt t.ms d.req = some m ∧ m.res = (doS s d).2) ∨ (memAt t.ms d.req = none ∧ 100 ≤ t.ms.length ∧ (doS s d).2 = ⟨5, 0⟩)) →
      (doS t d).2 = (doS s d).2 ∧ (doS t d).1.seq = s.seq + 2 ∧ (doS t d).1.l = t.l := by
    intro t et hseq hlow hm
    rw [et] at hs'
    cases doS_done t d with
    | form h0 e => exact absurd h0 (by rw [hs', hd]; simp)
    | top h0 e => omega
    | old hs hd hq h0 e => omega
    | told hs hd hq h0 m hm' e =>
      rw [e]
      refine ⟨?_, by show t.seq + 1 = _; omega, rfl⟩
      rcases hm with hm | ⟨m', hm, h2⟩ | ⟨hm, _⟩
      · rw [hm] at hm'; cases hm'; rfl
      · rw [hm] at hm'; cases hm'; exact h2
      · rw [hm] at hm'; cases hm'
    | full hs hd hq h0 hm' hf e =>
      rw [e]
      refine ⟨?_, by show t.seq + 1 = _; omega, rfl⟩
      rcases hm with hm | ⟨m', hm, h2⟩ | ⟨hm, _, h2⟩
      · rw [hm] at hm'; cases hm'
      · rw [hm] at hm'; cases hm'
      · exact h2.symm
    | new hs hd hq h0 hm' hf ms lows hx hl e =>
      exfalso
      rcases hm with hm | ⟨m', hm, h2⟩ | ⟨hm, h3, h2⟩
      · rw [hm] at hm'; cases hm'
      · rw [hm] at hm'; cases hm'
      · omega
  cases hdn : doS_done s d with
  | form h0 e => exact absurd h0 (by rw [hs, hd]; simp)
  | top h0 e => omega
  | old hs hd hq h0 e => omega
  | told hs hd hq h0 m hm e =>
    obtain ⟨a1, a2, a3⟩ := again _ rfl (by rw [e]) (by rw [e]; exact hn) (.inr (.inl ⟨m, by rw [e]; exact hm, by rw [e]⟩))
    exact ⟨a1, by rw [e], a2, a3⟩
  | full hs hd hq h0 hm hf e =>
    obtain ⟨a1, a2, a3⟩ := again _ rfl (by rw [e]) (by rw [e]; exact hn) (.inr (.inr ⟨by rw [e]; exact hm, by rw [e]; exact hf, by rw [e]⟩))
    exact ⟨a1, by rw [e], a2, a3⟩
  | new hs hd hq h0 hm hf ms lows hx hl e =>
    have hr := homeI_range d.req
    have hh := mayD_home hd
    have hsort : SortM ms := by
      have := hs'
      rw [e] at this
      exact memB_sort (mayS_parts.1 this).2.2.2.2
    obtain ⟨a1, a2, a3⟩ := again _ rfl (by rw [e]) (by
      rw [e]
      show lowAt lows _ ≤ _
      rw [hl]
      split
      · rw [lowAt_set _ _ _ _ h5 (by omega) (by omega), if_pos rfl]; exact mayD_low hd
      · exact hn) (.inl (by
      rw [e]
      refine (memAt_iff hsort).2 ⟨(hx _).2 ⟨.inl rfl, fun hh => ?_⟩, rfl⟩
      have := mayD_low hd
      have := hh.1
      simp only at this
      omega))
    exact ⟨a1, by rw [e], a2, a3⟩
def RetDo (q : Stt × Res) (S : Nat → Prop) (w : World) (en : Ending) (w' : World) : Prop :=
  ∃ cs, en = .returned (.tuple #[.agg cs.toArray, .agg #[.int .i64 q.2.err, .int .i64 q.2.ver]]) ∧ Below w.heap.size w w' ∧ RepS (ext S w w') w' q.1 cs
theorem RepS.mk' {S : Nat → Prop} {w : World} {seq : Int} {l : List Ent} {ms : List Mem} {lows : List Int} {A B : Option Addr} {cap cap' : Nat} {l0 l1 l2 l3 l4 : Int} {css : List (List Value)} (el : lows = [l0, l1, l2, l3, l4]) (hE : RepEs S w l css) (hR : Row S w A l.length cap css.flatten) (hM : Row S w B ms.length cap' (ms.map memC).flatten) :
    RepS S w ⟨seq, l, ms, lows⟩ [.int .i64 seq, .slice A l.length cap, .slice B ms.length cap', .int .i64 l0, .int .i64 l1, .int .i64 l2, .int .i64 l3, .int .i64 l4] :=
  ⟨A, cap, css, B, cap', by subst el; rfl, by subst el; rfl, hE, hR, hM⟩
theorem stab_at (a : Addr) (cs : List Value) : Stab (fun S w => S a.block ∧ Go.Vc.cellsAt w a cs 0) := by
  have key : ∀ (cs : List Value) (i : Nat) (S S' : Nat → Prop) (w w' : World), S a.block → Fut S w S' w' → Go.Vc.cellsAt w a cs i → Go.Vc.cellsAt w' a cs i := by
    intro cs
    induction cs with
    | nil => intros; trivial
    | cons v r ih =>
      intro i S S' w w' hS f h
      exact ⟨(World.cell?_of_block (f.2 _ (by rw [add_block]; exact hS))).trans h.1, ih _ S S' w w' hS f h.2⟩
  intro S w S' w' h f
  exact ⟨f.1 _ h.1, key cs 0 S S' w w' h.1 f h.2⟩
theorem RowM.elemR {S : Nat → Prop} {w : World} {A : Option Addr} {n cap : Nat} {l : List Mem} (hR : Row S w A n cap (l.map memC).flatten) (i : Nat) (hi : i < l.length) :
    ∃ ad ab ao asub, A = some ad ∧ ad.add (i * 3) = ⟨ab, ao, asub⟩ ∧ S ab ∧ Go.Vc.cellsAt w ⟨ab, ao, asub⟩ (memC l[i]) 0 ∧ Go.Vc.cellsAt w ⟨ab, ao + 1, none⟩ [.int .i64 l[i].res.err, .int .i64 l[i].res.ver] 0 := by
  obtain ⟨ad, e, h⟩ := RowM.elem hR i hi
  obtain ⟨ad', e', hS, _⟩ := hR.2.2 (fun h => by
    have := (memC_flat l).len
    rw [h, List.length_map, List.length_nil] at this
    omega)
  rw [e] at e'
  cases e'
  have hb := add_block ad (i * 3)
  generalize hae : ad.add (i * 3) = ae at h hb
  obtain ⟨ab, ao, asub⟩ := ae
  simp only at hb
  subst hb
  refine ⟨ad, ad.block, ao, asub, e, hae, hS, h, ?_⟩
  obtain ⟨_, h1, h2, _⟩ := h
  refine ⟨?_, ?_, trivial⟩
  · have : (⟨ad.block, ao + 1, none⟩ : Addr).add 0 = (⟨ad.block, ao, asub⟩ : Addr).add (0 + 1) := rfl
    rw [this]; exact h1
  · have : (⟨ad.block, ao + 1, none⟩ : Addr).add (0 + 1) = (⟨ad.block, ao, asub⟩ : Addr).add (0 + 1 + 1) := rfl
    rw [this]; exact h2
def know1 (l : List Ent) (css : List (List Value)) (A : Option Addr) (cap : Nat) (ms : List Mem) (B : Option Addr) (cap' : Nat) : Kn := fun S w => RepEs S w l css ∧ Row S w A l.length cap css.flatten ∧ Row S w B ms.length cap' (ms.map memC).flatten
theorem know1_stab {l : List Ent} {css : List (List Value)} {A : Option Addr} {cap : Nat} {ms : List Mem} {B : Option Addr} {cap' : Nat} : Stab (know1 l css A cap ms B cap') := fun _ _ _ _ h f => ⟨RepEs.fut h.1 f, h.2.1.fut f, h.2.2.fut f⟩
theorem insC (l : List Mem) (i : Nat) (m : Mem) : ((l.map memC).take i).flatten ++ memC m ++ ((l.map memC).drop i).flatten = ((l.take i ++ m :: l.drop i).map memC).flatten := by simp
theorem posM_le : ∀ (l : List Mem) (k : Int), posM l k ≤ l.length
  | [], _ => Nat.le_refl _
  | e :: r, k => by
    rw [posM]
    split
    · exact Nat.succ_le_succ (posM_le r k)
    · exact Nat.zero_le _
theorem lows_put (a b c : Value) (l0 l1 l2 l3 l4 x : Int) (h j : Int) (hr : 1 ≤ h ∧ h ≤ 5) (hj : j = h - 1) : ∃ m0 m1 m2 m3 m4, [l0, l1, l2, l3, l4].set (h - 1).toNat x = [m0, m1, m2, m3, m4] ∧
    putAt [a, b, c, .int .i64 l0, .int .i64 l1, .int .i64 l2, .int .i64 l3, .int .i64 l4] (3 + j.toNat) [.int .i64 x] = [a, b, c, .int .i64 m0, .int .i64 m1, .int .i64 m2, .int .i64 m3, .int .i64 m4] := by
  subst hj
  have : h = 1 ∨ h = 2 ∨ h = 3 ∨ h = 4 ∨ h = 5 := by omega
  rcases this with rfl | rfl | rfl | rfl | rfl
  · exact ⟨x, l1, l2, l3, l4, rfl, rfl⟩
  · exact ⟨l0, x, l2, l3, l4, rfl, rfl⟩
  · exact ⟨l0, l1, x, l3, l4, rfl, rfl⟩
  · exact ⟨l0, l1, l2, x, l4, rfl, rfl⟩
  · exact ⟨l0, l1, l2, l3, x, rfl, rfl⟩
theorem mayS_ents {s : Stt} (h : mayS s = true) : ∀ e ∈ s.l, e.vs.length ≤ 1000000 ∧ (e.vs.length ≠ 0 → (lastV e.vs).ver < s.seq + 1) ∧ (nowE e).1.body.size ≤ maxLen := by
  intro e he
  obtain ⟨_, _, hris, _⟩ := mayS_parts.1 h
  have ho := ((risE_iff _ _ _).1 hris).1 e he
  have hp := mayE_parts.1 ho.1
  have hv := okEnt_vers ho
  refine ⟨by omega, fun h0 => ?_, ?_⟩
  · have := ho.2 _ (lastV_mem (l := e.vs) (fun h => h0 (by rw [h]; rfl)))
    omega
  · rw [nowE, if_neg (by omega)]
    have := hv _ (lastV_mem (l := e.vs) (fun h => by rw [h] at hp; simp at hp))
    have := (verOk_nums this).2
    simp only [maxLen]
    omega
set_option maxHeartbeats 4000000 in
theorem bdo_any (s : Stt) (d : D) (hk : ∀ e ∈ s.l, strok e.key) (hd : d.Ok) (cs : List Value) (S : Nat → Prop) (w : World) (hlt : ∀ b, S b → b < w.heap.size) (hs : RepS S w s cs) : Calls Tryz.prog 68 #[.agg cs.toArray, .agg (dC d).toArray] w (RetDo (doS s d) S w) := by
  obtain ⟨A, cap, css, B, cap', l0, l1, l2, l3, l4, rfl, el, hE, hR, hM⟩ := hs.shape
  refine calls_vc lay_ok Tryz.func68 rfl (by kernel_rfl) (by kernel_rfl) ?_
  intro g2 w1 h1
  have hc := ((CtxF.start w S hlt (R := know1 s.l css A cap s.ms B cap') ⟨hE, hR, hM⟩ know1_stab).loc h1).1
  intro g3 wg3 hg3
  have hc := (hc.loc hg3).1
  intro g4 wg4 hg4
  have hc := (hc.loc hg4).1
  intro g5 wg5 hg5
  have hc := (hc.loc hg5).1
  refine ⟨_, ?_, hc.cells 3 rfl, ?_⟩
  · rfl
  refine call_b (bmay_any s hk _ S _ (hs.below hc.below)) ?_
  intro wQ hQ
  have hc := (hc.quiet hQ).1
  have same : ∀ (w' : World) (r : Res), Below w.heap.size w w' → doS s d = (s, r) → RetDo (doS s d) S w (.returned (.tuple #[.agg (stC s A cap B cap' l0 l1 l2 l3 l4).toArray, .agg #[.int .i64 r.err, .int .i64 r.ver]])) w' := fun w' r hb e => by
    rw [e]
    exact ⟨_, rfl, hb, hs.map (fun h => h.old hb)⟩
  rcases Bool.eq_false_or_eq_true (mayS s) with hm | hm
  rotate_left
  · refine split_t (by show (!mayS s) = true; rw [hm]; rfl) ?_
    refine ⟨_, ?_, hc.cells 3 rfl, ?_⟩
    · rfl
    refine ⟨hc.may 1 rfl _ _ (nle rfl) rfl, ?_⟩
    intro wS hS
    have hc := (hc.set 1 rfl hS).1
    refine ⟨hc.may 0 rfl _ _ (nle rfl) rfl, ?_⟩
    intro wS hS
    have hc := (hc.set 0 rfl hS).1
    refine ⟨_, ?_, hc.cells 1 rfl, ?_⟩
    · rfl
    refine ⟨_, ?_, hc.cells 0 rfl, ?_⟩
    · rfl
    exact same _ ⟨1, 0⟩ hc.below (by simp [doS, hm])
  refine split_f (by show (!mayS s) = false; rw [hm]; rfl) ?_
  refine ⟨_, ?_, hc.cells 2 rfl, ?_⟩
  · rfl
  refine call_b (may_any d hd _) ?_
  intro wQ hQ
  have hc := (hc.quiet hQ).1
  rcases Bool.eq_false_or_eq_true (mayD d) with hmd | hmd
  rotate_left
  · refine split_t (by show (!mayD d) = true; rw [hmd]; rfl) ?_
    refine ⟨_, ?_, hc.cells 3 rfl, ?_⟩
    · rfl
    refine ⟨hc.may 1 rfl _ _ (nle rfl) rfl, ?_⟩
    intro wS hS
    have hc := (hc.set 1 rfl hS).1
    refine ⟨hc.may 0 rfl _ _ (nle rfl) rfl, ?_⟩
    intro wS hS
    have hc := (hc.set 0 rfl hS).1
    refine ⟨_, ?_, hc.cells 1 rfl, ?_⟩
    · rfl
    refine ⟨_, ?_, hc.cells 0 rfl, ?_⟩
    · rfl
    exact same _ ⟨1, 0⟩ hc.below (by simp [doS, hmd])
  refine split_f (by show (!mayD d) = false; rw [hmd]; rfl) ?_
  refine ⟨_, hc.cell 3 rfl _ rfl, ?_⟩
  rcases Int.lt_or_le s.seq maxN with hq | hq
  rotate_left
  · refine split_t (decide_eq_true (show (1099511627776 : Int) ≤ s.seq from hq)) ?_
    refine ⟨_, ?_, hc.cells 3 rfl, ?_⟩
    · rfl
    refine ⟨hc.may 1 rfl _ _ (nle rfl) rfl, ?_⟩
    intro wS hS
    have hc := (hc.set 1 rfl hS).1
    refine ⟨hc.may 0 rfl _ _ (nle rfl) rfl, ?_⟩
    intro wS hS
    have hc := (hc.set 0 rfl hS).1
    refine ⟨_, ?_, hc.cells 1 rfl, ?_⟩
    · rfl
    refine ⟨_, ?_, hc.cells 0 rfl, ?_⟩
    · rfl
    exact same _ ⟨5, 0⟩ hc.below (by simp [doS, hm, hmd, hq])
  have hq : s.seq < 1099511627776 := hq
  refine split_f (decide_eq_false (show ¬ (1099511627776 : Int) ≤ s.seq by omega)) ?_
  clear same
  obtain ⟨⟨hq0, _⟩, ⟨hl40, hm100⟩, hris, _, hmem⟩ := mayS_parts.1 hm
  have hhr := homeI_range d.req
  have hh0 := mayD_home hmd
  have hr15 : 1 ≤ homeI d.req ∧ homeI d.req ≤ 5 := by omega
  refine ⟨_, hc.cell 3 rfl _ rfl, ?_⟩
  have hw1 : IntKind.i64.wrap (s.seq + 1) = s.seq + 1 := wrap_add _ _ (by omega) (by omega)
  refine ⟨hc.may 3 rfl _ _ (nle rfl) rfl, ?_⟩
  intro w5 h5
  rw [hw1] at h5
  have hc := (hc.set 3 rfl h5).1
  have hc : CtxF S w S w5 [(g5, 89, [.int .i64 0, .int .i64 0]), (g4, 78, (lay.ty 78).zero), (g3, 23, dC d), (g2, 78, [.int .i64 (s.seq + 1), .slice A s.l.length cap, .slice B s.ms.length cap', .int .i64 l0, .int .i64 l1, .int .i64 l2, .int .i64 l3, .int .i64 l4])] [] (know1 s.l css A cap s.ms B cap') := hc
  refine ⟨_, hc.cell 2 rfl _ rfl, ?_⟩
  refine call_b (home_any d.req _) ?_
  intro wQ hQ
  have hc := (hc.quiet hQ).1
  have hw2 : IntKind.i64.wrap (homeI d.req - 1) = homeI d.req - 1 := by rw [IntWalk.i64_in _ ⟨by omega, by omega⟩]
  intro g6 wg6 hg6
  have hc := (hc.loc hg6).1
  refine ⟨hc.may 0 rfl _ _ (Nat.le_refl 1) rfl, ?_⟩
  intro w6 h6
  rw [hw2] at h6
  have hc := (hc.set 0 rfl h6).1
  have hc : CtxF S w S w6 [(g6, 3, [.int .i64 (homeI d.req - 1)]), (g5, 89, [.int .i64 0, .int .i64 0]), (g4, 78, (lay.ty 78).zero), (g3, 23, dC d), (g2, 78, [.int .i64 (s.seq + 1), .slice A s.l.length cap, .slice B s.ms.length cap', .int .i64 l0, .int .i64 l1, .int .i64 l2, .int .i64 l3, .int .i64 l4])] [] (know1 s.l css A cap s.ms B cap') := hc
  refine ⟨_, ?_, hc.cells 4 rfl, ?_⟩
  · rfl
  refine ⟨_, hc.cell 3 rfl _ rfl, ?_⟩
  have hs1 : RepS S w ⟨s.seq + 1, s.l, s.ms, s.lows⟩ [.int .i64 (s.seq + 1), .slice A s.l.length cap, .slice B s.ms.length cap', .int .i64 l0, .int .i64 l1, .int .i64 l2, .int .i64 l3, .int .i64 l4] := RepS.mk' el hE hR hM
  refine call_b (memo_any ⟨s.seq + 1, s.l, s.ms, s.lows⟩ d.req (memB_sort hmem) (by show s.ms.length ≤ _; omega) _ S _ (hs1.below hc.below)) ?_
  intro wQ hQ
  have hc := (hc.quiet hQ).1
  have same : ∀ (w' : World) (r : Res), Below w.heap.size w w' → doS s d = (⟨s.seq + 1, s.l, s.ms, s.lows⟩, r) → RetDo (doS s d) S w (.returned (.tuple #[.agg #[.int .i64 (s.seq + 1), .slice A s.l.length cap, .slice B s.ms.length cap', .int .i64 l0, .int .i64 l1, .int .i64 l2, .int .i64 l3, .int .i64 l4], .agg #[.int .i64 r.err, .int .i64 r.ver]])) w' := fun w' r hb e => by
    rw [e]
    exact ⟨_, rfl, hb, hs1.map (fun h => h.old hb)⟩
  have hnq : ¬ maxN ≤ s.seq := by show ¬ 1099511627776 ≤ s.seq; omega
  have hlc := lows_cell (hc.blk 4 rfl) (homeI d.req) (homeI d.req - 1) hr15 rfl
  rw [← el] at hlc
  refine drawn lay_ok (by kernel_rfl) (.q 0 (.q 1 (.q 2 (.q 3 (.q 4 (.q 5 (.q 6 (.q 7 .fin)))))))) (Keeps (fun b => b < wQ.heap.size) wQ) (by kernel_rfl) (Keeps.start _ _) ?_
  refine ⟨_, fun x hx => hx.look (hc.cell 3 rfl _ rfl), ?_⟩
  refine ⟨_, fun x hx => hx.look (hc.cell 0 rfl _ rfl), ?_⟩
  refine ⟨⟨by omega, by omega⟩, ?_⟩
  generalize hae : ((⟨g2, 0 + 3, none⟩ : Addr).add ((homeI d.req - 1).toNat * 1)) = ae at hlc ⊢
  obtain ⟨ab, ao, asub⟩ := ae
  refine ⟨_, fun x hx => hx.look hlc, ?_⟩
  have hc := hc.drew
  rcases Int.lt_or_le d.req (lowAt s.lows (homeI d.req)) with ho | ho
  · refine split_t (decide_eq_true ho) ?_
    refine ⟨_, ?_, hc.cells 4 rfl, ?_⟩
    · rfl
    refine ⟨hc.may 2 rfl _ _ (nle rfl) rfl, ?_⟩
    intro wS hS
    have hc := (hc.set 2 rfl hS).1
    refine ⟨hc.may 1 rfl _ _ (nle rfl) rfl, ?_⟩
    intro wS hS
    have hc := (hc.set 1 rfl hS).1
    refine ⟨_, ?_, hc.cells 2 rfl, ?_⟩
    · rfl
    refine ⟨_, ?_, hc.cells 1 rfl, ?_⟩
    · rfl
    exact same _ ⟨12, 0⟩ hc.below (by simp [doS, hm, hmd, hnq, ho])
  refine split_f (decide_eq_false (show ¬ d.req < lowAt s.lows (homeI d.req) by omega)) ?_
  have hno : ¬ d.req < lowAt s.lows (homeI d.req) := by omega
  cases hmm : memAt s.ms d.req with
  | some m =>
    have hmi : s.ms[posM s.ms d.req]? = some m := by
      unfold memAt at hmm
      cases e1 : s.ms[posM s.ms d.req]? with
      | none => rw [e1] at hmm; cases hmm
      | some x =>
        rw [e1] at hmm
        simp only at hmm
        split at hmm
        · exact hmm
        · cases hmm
    obtain ⟨hlt2, hge⟩ := List.getElem?_eq_some_iff.1 hmi
    obtain ⟨ad, ab, ao, asub, rfl, hae, hSb, _, hcell⟩ := RowM.elemR hM (posM s.ms d.req) hlt2
    rw [hge] at hcell
    have hc := hc.know (hc.old (stab_at ⟨ab, ao + 1, none⟩ [.int .i64 m.res.err, .int .i64 m.res.ver]) ⟨hSb, hcell⟩ hlt) (stab_at _ _)
    refine drawn lay_ok (by kernel_rfl) (.q 0 (.q 1 (.q 2 (.q 3 (.q 4 (.q 5 (.q 6 (.n 7 (.z 8) .stop)))))))) (fun x => Blk x g2 78 _ ∧ Go.Vc.cellsAt x ⟨ab, ao + 1, none⟩ [.int .i64 m.res.err, .int .i64 m.res.ver] 0) (by kernel_rfl) ⟨hc.blk 4 rfl, hc.row.2.2⟩ ?_
    refine ⟨_, ?_, fun x hx => drop_cells hx.1 0 _ 0 (fun j v hj => by simpa using hj), ?_⟩
    · rfl
    refine ⟨_, fun x hx => hx.1.cell 2, ?_⟩
    refine ⟨⟨Int.natCast_nonneg _, Int.ofNat_lt.2 hlt2⟩, ?_⟩
    rw [← Int.toNat_natCast (posM s.ms d.req)] at hae
    generalize ad.add ((posM s.ms d.req : Int).toNat * 3) = ae at hae ⊢
    subst hae
    refine ⟨_, ?_, fun x hx => hx.2, ?_⟩
    · rfl
    have hc := hc.drew
    refine ⟨?_, trivial⟩
    refine ⟨hc.may 2 rfl _ _ (nle rfl) rfl, ?_⟩
    intro wS hS
    have hc := (hc.set 2 rfl hS).1
    refine ⟨⟨hc.blk 4 rfl, hc.row.2.2⟩, ?_⟩
    refine ⟨hc.may 1 rfl _ _ (nle rfl) rfl, ?_⟩
    intro wS hS
    have hc := (hc.set 1 rfl hS).1
    refine ⟨_, ?_, hc.cells 2 rfl, ?_⟩
    · rfl
    refine ⟨_, ?_, hc.cells 1 rfl, ?_⟩
    · rfl
    exact same _ m.res hc.below (by simp [doS, hm, hmd, hnq, hno, hmm])
  | none =>
  refine ⟨_, hc.cell 4 rfl _ rfl, ?_⟩
  rcases Nat.lt_or_ge s.ms.length 100 with hf | hf
  rotate_left
  · refine split_t (decide_eq_true (show (100 : Int) ≤ (s.ms.length : Int) by omega)) ?_
    refine ⟨_, ?_, hc.cells 4 rfl, ?_⟩
    · rfl
    refine ⟨hc.may 2 rfl _ _ (nle rfl) rfl, ?_⟩
    intro wS hS
    have hc := (hc.set 2 rfl hS).1
    refine ⟨hc.may 1 rfl _ _ (nle rfl) rfl, ?_⟩
    intro wS hS
    have hc := (hc.set 1 rfl hS).1
    refine ⟨_, ?_, hc.cells 2 rfl, ?_⟩
    · rfl
    refine ⟨_, ?_, hc.cells 1 rfl, ?_⟩
    · rfl
    exact same _ ⟨5, 0⟩ hc.below (by simp [doS, hm, hmd, hnq, ho, hno, hmm, hf])
  refine split_f (decide_eq_false (show ¬ (100 : Int) ≤ (s.ms.length : Int) by omega)) ?_
  have hnf : ¬ 100 ≤ s.ms.length := by omega
  refine ⟨_, ?_, hc.cells 4 rfl, ?_⟩
  · rfl
  refine ⟨_, ?_, hc.cells 3 rfl, ?_⟩
  · rfl
  refine ⟨(doK_any ⟨s.seq + 1, s.l, s.ms, s.lows⟩ d A B cap cap' l0 l1 l2 l3 l4 el css S _ (hE.below hc.below) (hR.below hc.below) (hM.below hc.below) (by show s.l.length ≤ _; omega) (risE_sort hris) (mayS_ents hm)).mono fun en wq hq => ?_⟩
  obtain ⟨A5, c5, css5, e5, h5, hE5, hR5⟩ := hq
  have hdo : doS s d = (if lowAt s.lows (homeI d.req) < d.low ∧ homeI d.low = homeI d.req then
      (⟨s.seq + 1, (doK s.l (s.seq + 1) d).1, keepM d.low (homeI d.req) (s.ms.take (posM s.ms d.req) ++ ⟨d.req, (doK s.l (s.seq + 1) d).2⟩ :: s.ms.drop (posM s.ms d.req)), s.lows.set (homeI d.req - 1).toNat d.low⟩, (doK s.l (s.seq + 1) d).2)
      else (⟨s.seq + 1, (doK s.l (s.seq + 1) d).1, s.ms.take (posM s.ms d.req) ++ ⟨d.req, (doK s.l (s.seq + 1) d).2⟩ :: s.ms.drop (posM s.ms d.req), s.lows⟩, (doK s.l (s.seq + 1) d).2)) := by
    simp only [doS, hm, hmd, hnq, hno, hmm, hnf, Bool.not_true, Bool.or_false, Bool.false_eq_true, if_false]
  rw [hdo]
  clear hdo
  have hc := (hc.call h5).1.know (X := fun S w => RepEs S w (doK s.l (s.seq + 1) d).1 css5 ∧ Row S w A5 (doK s.l (s.seq + 1) d).1.length c5 css5.flatten) ⟨hE5, hR5⟩ (fun _ _ _ _ h f => ⟨RepEs.fut h.1 f, h.2.fut f⟩)
  generalize ext S _ wq = S5 at hc
  clear hE5 hR5
  generalize doK s.l (s.seq + 1) d = q at *
  obtain ⟨ql, qr⟩ := q
  refine ⟨_, e5, ?_⟩
  intro g9 wg9 hg9
  have hc := (hc.loc hg9).1
  refine ⟨hc.may 5 rfl _ _ (nle rfl) rfl, ?_⟩
  intro wS hS
  have hc := (hc.set 5 rfl hS).1
  refine ⟨hc.may 0 rfl _ _ (nle rfl) rfl, ?_⟩
  intro wS hS
  have hc := (hc.set 0 rfl hS).1
  obtain ⟨ms, hms⟩ : ∃ ms, ms = s.ms.take (posM s.ms d.req) ++ ⟨d.req, qr⟩ :: s.ms.drop (posM s.ms d.req) := ⟨_, rfl⟩
  have hml : ms.length = s.ms.length + 1 := by
    have := posM_le s.ms d.req
    rw [hms, List.length_append, List.length_cons, List.length_take, List.length_drop]
    omega
  refine drawn lay_ok (by kernel_rfl) (.q 0 (.q 1 (.q 3 (.q 4 (.q 5 (.q 6 (.q 7 (.n 2 (.n 8 (.n 9 (.q 10 (.z 11)) .stop) .stop) (.n 8 (.n 2 (.n 9 (.q 10 (.z 11)) .stop) .stop) .stop))))))))) (fun x => Blk x g2 78 _ ∧ Blk x g3 23 (dC d) ∧ Blk x g9 89 _) (by kernel_rfl) ⟨hc.blk 5 rfl, hc.blk 4 rfl, hc.blk 0 rfl⟩ ?_
  refine ⟨_, fun x hx => hx.1.cell 2, ?_⟩
  refine ⟨_, fun x hx => hx.2.1.cell 6, ?_⟩
  refine ⟨_, ?_, fun x hx => drop_cells hx.2.2 0 _ 0 (fun j v hj => by simpa using hj), ?_⟩
  · rfl
  have hc := hc.drew
  have hcel : (s.ms.map memC).length = s.ms.length := List.length_map _
  refine ⟨?_, ?_, trivial⟩
  · skip
    refine ⟨(cloneM_any B s.ms.length cap' (s.ms.map memC) (memC_flat _) hcel (by omega) S _ (hM.below hc.below)).mono fun en wq hq => ?_⟩
    obtain ⟨A7, cap7, e7, h7, ho⟩ := hq
    have hc := hc.fresh h7 ho
    refine ⟨_, e7, ⟨hc.blk 5 rfl, hc.blk 4 rfl, hc.blk 0 rfl⟩, ?_⟩
    refine ⟨?_, trivial⟩
    intro gb wgb hgb
    have hc := (hc.loc hgb).1
    refine ⟨⟨hc.blk 6 rfl, hc.blk 5 rfl, hc.blk 1 rfl⟩, ?_⟩
    refine ⟨?_, trivial⟩
    obtain ⟨hcx, hox⟩ := hc.others
    have hd := insertM_any hcx (s.ms.map memC) (memC_flat _) (by rw [hcel]; omega) (A := A7) (cap := cap7) (by rw [hcel]; exact hox) (posM s.ms d.req) (by rw [hcel]; exact posM_le _ _) 0 gb (memC ⟨d.req, qr⟩) rfl rfl rfl
    rw [hcel] at hd
    refine ⟨hd.mono fun en w18 hq => ?_⟩
    obtain ⟨A8, cap8, e8, hcx, hfx, hox⟩ := hq
    rw [insC, ← hms, ← hml] at hox
    rw [← hml] at e8
    have hc := (hc.back (o' := ⟨147, 3, A8, ms.length, cap8, (ms.map memC).flatten⟩) hcx hfx hox (fun x hx => ⟨x, hx, rfl⟩)).drop
    refine ⟨_, e8, ⟨hc.blk 5 rfl, hc.blk 4 rfl, hc.blk 0 rfl⟩, ?_⟩
    refine ⟨hc.may 5 rfl _ _ (nle rfl) rfl, ?_⟩
    intro wS hS
    have hc := (hc.set 5 rfl hS).1
    have hc : CtxF S w _ wS [(g9, 89, [.int .i64 qr.err, .int .i64 qr.ver]), (g6, 3, [.int .i64 (homeI d.req - 1)]), (g5, 89, [.int .i64 0, .int .i64 0]), (g4, 78, (lay.ty 78).zero), (g3, 23, dC d), (g2, 78, [.int .i64 (s.seq + 1), .slice A5 ql.length c5, .slice A8 ms.length cap8, .int .i64 l0, .int .i64 l1, .int .i64 l2, .int .i64 l3, .int .i64 l4])] [⟨147, 3, A8, ms.length, cap8, (ms.map memC).flatten⟩] _ := hc
    refine ⟨_, hc.cell 4 rfl _ rfl, ?_⟩
    intro g10 wg10 hg10
    have hc := (hc.loc hg10).1
    refine ⟨hc.may 0 rfl _ _ (nle rfl) rfl, ?_⟩
    intro wS hS
    have hc := (hc.set 0 rfl hS).1
    have hlc := lows_cell (hc.blk 6 rfl) (homeI d.req) (homeI d.req - 1) hr15 rfl
    rw [← el] at hlc
    generalize hlo : lowAt s.lows (homeI d.req) = lo at hlc
    refine drawn lay_ok (by kernel_rfl) (.q 0 (.q 1 (.q 2 (.q 3 (.q 4 (.q 5 (.q 6 (.q 7 (.q 9 (.q 10 (.n 8 (.q 11 (.q 12 .fin)) .stop))))))))))) (Keeps (fun b => b < wS.heap.size) wS) (by kernel_rfl) (Keeps.start _ _) ?_
    refine ⟨_, fun x hx => hx.look (hc.cell 0 rfl _ rfl), ?_⟩
    refine ⟨_, fun x hx => hx.look (hc.cell 2 rfl _ rfl), ?_⟩
    refine ⟨⟨by omega, by omega⟩, ?_⟩
    generalize hae : ((⟨g2, 0 + 3, none⟩ : Addr).add ((homeI d.req - 1).toNat * 1)) = ae at hlc ⊢
    have hae : (⟨g2, 3 + (homeI d.req - 1).toNat, none⟩ : Addr) = ae := by rw [← hae, Addr.add_lit, Nat.mul_one, Nat.zero_add]
    subst hae
    refine ⟨_, fun x hx => hx.look hlc, ?_⟩
    have hk1 := Keeps.start (fun b => b < wS.heap.size) wS
    have hltS : ∀ b, b < wS.heap.size → b < wS.heap.size := fun _ h => h
    have hwh : IntKind.i64.wrap (homeI d.req - 1 + 1) = homeI d.req := by rw [IntWalk.i64_in _ ⟨by omega, by omega⟩]; omega
    rcases Int.lt_or_le lo d.low with hlw | hlw
    · refine split_t (decide_eq_true hlw) ?_
      refine ⟨_, fun x hx => hx.look (hc.cell 0 rfl _ rfl), ?_⟩
      refine ⟨_, fun x hx => hx.look (hc.cell 2 rfl _ rfl), ?_⟩
      have hc := hc.drew
      refine ⟨?_, trivial⟩
      refine call_b (home_any d.low _) ?_
      intro w20 h20
      have hc := (hc.quiet h20).1
      refine ⟨hk1.below hltS h20, ?_⟩
      by_cases hhl : homeI d.low = homeI d.req
      · refine split_t (by show (homeI d.low == IntKind.i64.wrap (homeI d.req - 1 + 1)) = true; rw [hwh, hhl]; simp) ?_
        rw [if_pos ⟨hlw, hhl⟩]
        refine ⟨_, hc.cell 2 rfl _ rfl, ?_⟩
        refine ⟨_, hc.cell 0 rfl _ rfl, ?_⟩
        refine ⟨⟨by omega, by omega⟩, ?_⟩
        generalize hae : ((⟨g2, 0 + 3, none⟩ : Addr).add ((homeI d.req - 1).toNat * 1)) = ae
        have hae : (⟨g2, 3 + (homeI d.req - 1).toNat, none⟩ : Addr) = ae := by rw [← hae, Addr.add_lit, Nat.mul_one, Nat.zero_add]
        subst hae
        refine ⟨hc.may 6 rfl (3 + (homeI d.req - 1).toNat) [.int .i64 d.low] (by show 3 + (homeI d.req - 1).toNat + 1 ≤ 8; omega) rfl, ?_⟩
        intro w21 h21
        have h21 : Stored w20 ⟨g2, 3 + (homeI d.req - 1).toNat, none⟩ [.int .i64 d.low] w21 := h21
        have hc := (hc.set 6 rfl h21).1
        obtain ⟨m0, m1, m2, m3, m4, em, ep⟩ := lows_put (.int .i64 (s.seq + 1)) (.slice A5 ql.length c5) (.slice A8 ms.length cap8) l0 l1 l2 l3 l4 d.low (homeI d.req) (homeI d.req - 1) hr15 rfl
        have hc : CtxF S w _ w21 [(g10, 2, [.int .i64 d.low]), (g9, 89, [.int .i64 qr.err, .int .i64 qr.ver]), (g6, 3, [.int .i64 (homeI d.req - 1)]), (g5, 89, [.int .i64 0, .int .i64 0]), (g4, 78, (lay.ty 78).zero), (g3, 23, dC d), (g2, 78, putAt [.int .i64 (s.seq + 1), .slice A5 ql.length c5, .slice A8 ms.length cap8, .int .i64 l0, .int .i64 l1, .int .i64 l2, .int .i64 l3, .int .i64 l4] (3 + (homeI d.req - 1).toNat) [.int .i64 d.low])] [⟨147, 3, A8, ms.length, cap8, (ms.map memC).flatten⟩] _ := hc
        rw [ep] at hc
        rw [el, em]
        refine ⟨_, hc.cell 6 rfl _ rfl, ?_⟩
        obtain ⟨hcx, hox⟩ := hc.others
        have hd := deleteFuncM_any hcx ms (by omega) hox d.low (homeI d.req - 1) (by omega) (by omega) 0 2 g10 g6 2 3 rfl rfl
        rw [show homeI d.req - 1 + 1 = homeI d.req by omega] at hd
        refine ⟨hd.mono fun en w22 hq => ?_⟩
        obtain ⟨A9, e9, hcx, hfx, hox⟩ := hq
        have hc := hc.back (o' := ⟨147, 3, A9, (keepM d.low (homeI d.req) ms).length, cap8, ((keepM d.low (homeI d.req) ms).map memC).flatten⟩) hcx hfx hox (fun x hx => ⟨x, hx, rfl⟩)
        refine ⟨_, e9, ?_⟩
        refine ⟨hc.may 6 rfl _ _ (nle rfl) rfl, ?_⟩
        intro wS hS
        have hc := (hc.set 6 rfl hS).1
        obtain ⟨S9, _, hc⟩ := hc.told
        refine drawn lay_ok (by kernel_rfl) (.q 0 (.q 1 (.n 2 (.z 3) .stop))) (fun x => Blk x g2 78 _ ∧ Blk x g9 89 _) (by kernel_rfl) ⟨hc.blk 6 rfl, hc.blk 1 rfl⟩ ?_
        refine ⟨_, ?_, fun x hx => drop_cells hx.1 0 _ 0 (fun j v hj => by simpa using hj), ?_⟩
        · rfl
        refine ⟨_, ?_, fun x hx => drop_cells hx.2 0 _ 0 (fun j v hj => by simpa using hj), ?_⟩
        · rfl
        have hc := hc.drew
        refine ⟨?_, trivial⟩
        refine ⟨hc.may 4 rfl _ _ (nle rfl) rfl, ?_⟩
        intro wS hS
        have hc := (hc.set 4 rfl hS).1
        refine ⟨⟨hc.blk 6 rfl, hc.blk 1 rfl⟩, ?_⟩
        refine ⟨hc.may 3 rfl _ _ (nle rfl) rfl, ?_⟩
        intro wS hS
        have hc := (hc.set 3 rfl hS).1
        refine ⟨_, ?_, hc.cells 4 rfl, ?_⟩
        · rfl
        refine ⟨_, ?_, hc.cells 3 rfl, ?_⟩
        · rfl
        have ho := hc.out
        subst hms
        exact ⟨_, rfl, hc.below, RepS.mk' rfl ho.1.2.1 ho.1.2.2 ho.2⟩
      · refine split_f (by show (homeI d.low == IntKind.i64.wrap (homeI d.req - 1 + 1)) = false; rw [hwh]; simpa using hhl) ?_
        rw [if_neg (fun h => hhl h.2)]
        obtain ⟨S9, _, hc⟩ := hc.told
        refine drawn lay_ok (by kernel_rfl) (.q 0 (.q 1 (.n 2 (.z 3) .stop))) (fun x => Blk x g2 78 _ ∧ Blk x g9 89 _) (by kernel_rfl) ⟨hc.blk 6 rfl, hc.blk 1 rfl⟩ ?_
        refine ⟨_, ?_, fun x hx => drop_cells hx.1 0 _ 0 (fun j v hj => by simpa using hj), ?_⟩
        · rfl
        refine ⟨_, ?_, fun x hx => drop_cells hx.2 0 _ 0 (fun j v hj => by simpa using hj), ?_⟩
        · rfl
        have hc := hc.drew
        refine ⟨?_, trivial⟩
        refine ⟨hc.may 4 rfl _ _ (nle rfl) rfl, ?_⟩
        intro wS hS
        have hc := (hc.set 4 rfl hS).1
        refine ⟨⟨hc.blk 6 rfl, hc.blk 1 rfl⟩, ?_⟩
        refine ⟨hc.may 3 rfl _ _ (nle rfl) rfl, ?_⟩
        intro wS hS
        have hc := (hc.set 3 rfl hS).1
        refine ⟨_, ?_, hc.cells 4 rfl, ?_⟩
        · rfl
        refine ⟨_, ?_, hc.cells 3 rfl, ?_⟩
        · rfl
        have ho := hc.out
        subst hms
        exact ⟨_, rfl, hc.below, RepS.mk' el ho.1.2.1 ho.1.2.2 ho.2⟩
    · refine split_f (decide_eq_false (show ¬ lo < d.low by omega)) ?_
      refine ⟨?_, trivial⟩
      have hc := hc.drew
      rw [if_neg (fun h => absurd h.1 (by omega))]
      obtain ⟨S9, _, hc⟩ := hc.told
      refine drawn lay_ok (by kernel_rfl) (.q 0 (.q 1 (.n 2 (.z 3) .stop))) (fun x => Blk x g2 78 _ ∧ Blk x g9 89 _) (by kernel_rfl) ⟨hc.blk 6 rfl, hc.blk 1 rfl⟩ ?_
      refine ⟨_, ?_, fun x hx => drop_cells hx.1 0 _ 0 (fun j v hj => by simpa using hj), ?_⟩
      · rfl
      refine ⟨_, ?_, fun x hx => drop_cells hx.2 0 _ 0 (fun j v hj => by simpa using hj), ?_⟩
      · rfl
      have hc := hc.drew
      refine ⟨?_, trivial⟩
      refine ⟨hc.may 4 rfl _ _ (nle rfl) rfl, ?_⟩
      intro wS hS
      have hc := (hc.set 4 rfl hS).1
      refine ⟨⟨hc.blk 6 rfl, hc.blk 1 rfl⟩, ?_⟩
      refine ⟨hc.may 3 rfl _ _ (nle rfl) rfl, ?_⟩
      intro wS hS
      have hc := (hc.set 3 rfl hS).1
      refine ⟨_, ?_, hc.cells 4 rfl, ?_⟩
      · rfl
      refine ⟨_, ?_, hc.cells 3 rfl, ?_⟩
      · rfl
      have ho := hc.out
      subst hms
      exact ⟨_, rfl, hc.below, RepS.mk' el ho.1.2.1 ho.1.2.2 ho.2⟩
  · skip
    intro gb wgb hgb
    have hc := (hc.loc hgb).1
    refine ⟨⟨hc.blk 6 rfl, hc.blk 5 rfl, hc.blk 1 rfl⟩, ?_⟩
    refine ⟨?_, trivial⟩
    refine ⟨(cloneM_any B s.ms.length cap' (s.ms.map memC) (memC_flat _) hcel (by omega) S _ (hM.below hc.below)).mono fun en wq hq => ?_⟩
    obtain ⟨A7, cap7, e7, h7, ho⟩ := hq
    have hc := hc.fresh h7 ho
    refine ⟨_, e7, ⟨hc.blk 6 rfl, hc.blk 5 rfl, hc.blk 1 rfl⟩, ?_⟩
    refine ⟨?_, trivial⟩
    obtain ⟨hcx, hox⟩ := hc.others
    have hd := insertM_any hcx (s.ms.map memC) (memC_flat _) (by rw [hcel]; omega) (A := A7) (cap := cap7) (by rw [hcel]; exact hox) (posM s.ms d.req) (by rw [hcel]; exact posM_le _ _) 0 gb (memC ⟨d.req, qr⟩) rfl rfl rfl
    rw [hcel] at hd
    refine ⟨hd.mono fun en w18 hq => ?_⟩
    obtain ⟨A8, cap8, e8, hcx, hfx, hox⟩ := hq
    rw [insC, ← hms, ← hml] at hox
    rw [← hml] at e8
    have hc := (hc.back (o' := ⟨147, 3, A8, ms.length, cap8, (ms.map memC).flatten⟩) hcx hfx hox (fun x hx => ⟨x, hx, rfl⟩)).drop
    refine ⟨_, e8, ⟨hc.blk 5 rfl, hc.blk 4 rfl, hc.blk 0 rfl⟩, ?_⟩
    refine ⟨hc.may 5 rfl _ _ (nle rfl) rfl, ?_⟩
    intro wS hS
    have hc := (hc.set 5 rfl hS).1
    have hc : CtxF S w _ wS [(g9, 89, [.int .i64 qr.err, .int .i64 qr.ver]), (g6, 3, [.int .i64 (homeI d.req - 1)]), (g5, 89, [.int .i64 0, .int .i64 0]), (g4, 78, (lay.ty 78).zero), (g3, 23, dC d), (g2, 78, [.int .i64 (s.seq + 1), .slice A5 ql.length c5, .slice A8 ms.length cap8, .int .i64 l0, .int .i64 l1, .int .i64 l2, .int .i64 l3, .int .i64 l4])] [⟨147, 3, A8, ms.length, cap8, (ms.map memC).flatten⟩] _ := hc
    refine ⟨_, hc.cell 4 rfl _ rfl, ?_⟩
    intro g10 wg10 hg10
    have hc := (hc.loc hg10).1
    refine ⟨hc.may 0 rfl _ _ (nle rfl) rfl, ?_⟩
    intro wS hS
    have hc := (hc.set 0 rfl hS).1
    have hlc := lows_cell (hc.blk 6 rfl) (homeI d.req) (homeI d.req - 1) hr15 rfl
    rw [← el] at hlc
    generalize hlo : lowAt s.lows (homeI d.req) = lo at hlc
    refine drawn lay_ok (by kernel_rfl) (.q 0 (.q 1 (.q 2 (.q 3 (.q 4 (.q 5 (.q 6 (.q 7 (.q 9 (.q 10 (.n 8 (.q 11 (.q 12 .fin)) .stop))))))))))) (Keeps (fun b => b < wS.heap.size) wS) (by kernel_rfl) (Keeps.start _ _) ?_
    refine ⟨_, fun x hx => hx.look (hc.cell 0 rfl _ rfl), ?_⟩
    refine ⟨_, fun x hx => hx.look (hc.cell 2 rfl _ rfl), ?_⟩
    refine ⟨⟨by omega, by omega⟩, ?_⟩
    generalize hae : ((⟨g2, 0 + 3, none⟩ : Addr).add ((homeI d.req - 1).toNat * 1)) = ae at hlc ⊢
    have hae : (⟨g2, 3 + (homeI d.req - 1).toNat, none⟩ : Addr) = ae := by rw [← hae, Addr.add_lit, Nat.mul_one, Nat.zero_add]
    subst hae
    refine ⟨_, fun x hx => hx.look hlc, ?_⟩
    have hk1 := Keeps.start (fun b => b < wS.heap.size) wS
    have hltS : ∀ b, b < wS.heap.size → b < wS.heap.size := fun _ h => h
    have hwh : IntKind.i64.wrap (homeI d.req - 1 + 1) = homeI d.req := by rw [IntWalk.i64_in _ ⟨by omega, by omega⟩]; omega
    rcases Int.lt_or_le lo d.low with hlw | hlw
    · refine split_t (decide_eq_true hlw) ?_
      refine ⟨_, fun x hx => hx.look (hc.cell 0 rfl _ rfl), ?_⟩
      refine ⟨_, fun x hx => hx.look (hc.cell 2 rfl _ rfl), ?_⟩
      have hc := hc.drew
      refine ⟨?_, trivial⟩
      refine call_b (home_any d.low _) ?_
      intro w20 h20
      have hc := (hc.quiet h20).1
      refine ⟨hk1.below hltS h20, ?_⟩
      by_cases hhl : homeI d.low = homeI d.req
      · refine split_t (by show (homeI d.low == IntKind.i64.wrap (homeI d.req - 1 + 1)) = true; rw [hwh, hhl]; simp) ?_
        rw [if_pos ⟨hlw, hhl⟩]
        refine ⟨_, hc.cell 2 rfl _ rfl, ?_⟩
        refine ⟨_, hc.cell 0 rfl _ rfl, ?_⟩
        refine ⟨⟨by omega, by omega⟩, ?_⟩
        generalize hae : ((⟨g2, 0 + 3, none⟩ : Addr).add ((homeI d.req - 1).toNat * 1)) = ae
        have hae : (⟨g2, 3 + (homeI d.req - 1).toNat, none⟩ : Addr) = ae := by rw [← hae, Addr.add_lit, Nat.mul_one, Nat.zero_add]
        subst hae
        refine ⟨hc.may 6 rfl (3 + (homeI d.req - 1).toNat) [.int .i64 d.low] (by show 3 + (homeI d.req - 1).toNat + 1 ≤ 8; omega) rfl, ?_⟩
        intro w21 h21
        have h21 : Stored w20 ⟨g2, 3 + (homeI d.req - 1).toNat, none⟩ [.int .i64 d.low] w21 := h21
        have hc := (hc.set 6 rfl h21).1
        obtain ⟨m0, m1, m2, m3, m4, em, ep⟩ := lows_put (.int .i64 (s.seq + 1)) (.slice A5 ql.length c5) (.slice A8 ms.length cap8) l0 l1 l2 l3 l4 d.low (homeI d.req) (homeI d.req - 1) hr15 rfl
        have hc : CtxF S w _ w21 [(g10, 2, [.int .i64 d.low]), (g9, 89, [.int .i64 qr.err, .int .i64 qr.ver]), (g6, 3, [.int .i64 (homeI d.req - 1)]), (g5, 89, [.int .i64 0, .int .i64 0]), (g4, 78, (lay.ty 78).zero), (g3, 23, dC d), (g2, 78, putAt [.int .i64 (s.seq + 1), .slice A5 ql.length c5, .slice A8 ms.length cap8, .int .i64 l0, .int .i64 l1, .int .i64 l2, .int .i64 l3, .int .i64 l4] (3 + (homeI d.req - 1).toNat) [.int .i64 d.low])] [⟨147, 3, A8, ms.length, cap8, (ms.map memC).flatten⟩] _ := hc
        rw [ep] at hc
        rw [el, em]
        refine ⟨_, hc.cell 6 rfl _ rfl, ?_⟩
        obtain ⟨hcx, hox⟩ := hc.others
        have hd := deleteFuncM_any hcx ms (by omega) hox d.low (homeI d.req - 1) (by omega) (by omega) 0 2 g10 g6 2 3 rfl rfl
        rw [show homeI d.req - 1 + 1 = homeI d.req by omega] at hd
        refine ⟨hd.mono fun en w22 hq => ?_⟩
        obtain ⟨A9, e9, hcx, hfx, hox⟩ := hq
        have hc := hc.back (o' := ⟨147, 3, A9, (keepM d.low (homeI d.req) ms).length, cap8, ((keepM d.low (homeI d.req) ms).map memC).flatten⟩) hcx hfx hox (fun x hx => ⟨x, hx, rfl⟩)
        refine ⟨_, e9, ?_⟩
        refine ⟨hc.may 6 rfl _ _ (nle rfl) rfl, ?_⟩
        intro wS hS
        have hc := (hc.set 6 rfl hS).1
        obtain ⟨S9, _, hc⟩ := hc.told
        refine drawn lay_ok (by kernel_rfl) (.q 0 (.q 1 (.n 2 (.z 3) .stop))) (fun x => Blk x g2 78 _ ∧ Blk x g9 89 _) (by kernel_rfl) ⟨hc.blk 6 rfl, hc.blk 1 rfl⟩ ?_
        refine ⟨_, ?_, fun x hx => drop_cells hx.1 0 _ 0 (fun j v hj => by simpa using hj), ?_⟩
        · rfl
        refine ⟨_, ?_, fun x hx => drop_cells hx.2 0 _ 0 (fun j v hj => by simpa using hj), ?_⟩
        · rfl
        have hc := hc.drew
        refine ⟨?_, trivial⟩
        refine ⟨hc.may 4 rfl _ _ (nle rfl) rfl, ?_⟩
        intro wS hS
        have hc := (hc.set 4 rfl hS).1
        refine ⟨⟨hc.blk 6 rfl, hc.blk 1 rfl⟩, ?_⟩
        refine ⟨hc.may 3 rfl _ _ (nle rfl) rfl, ?_⟩
        intro wS hS
        have hc := (hc.set 3 rfl hS).1
        refine ⟨_, ?_, hc.cells 4 rfl, ?_⟩
        · rfl
        refine ⟨_, ?_, hc.cells 3 rfl, ?_⟩
        · rfl
        have ho := hc.out
        subst hms
        exact ⟨_, rfl, hc.below, RepS.mk' rfl ho.1.2.1 ho.1.2.2 ho.2⟩
      · refine split_f (by show (homeI d.low == IntKind.i64.wrap (homeI d.req - 1 + 1)) = false; rw [hwh]; simpa using hhl) ?_
        rw [if_neg (fun h => hhl h.2)]
        obtain ⟨S9, _, hc⟩ := hc.told
        refine drawn lay_ok (by kernel_rfl) (.q 0 (.q 1 (.n 2 (.z 3) .stop))) (fun x => Blk x g2 78 _ ∧ Blk x g9 89 _) (by kernel_rfl) ⟨hc.blk 6 rfl, hc.blk 1 rfl⟩ ?_
        refine ⟨_, ?_, fun x hx => drop_cells hx.1 0 _ 0 (fun j v hj => by simpa using hj), ?_⟩
        · rfl
        refine ⟨_, ?_, fun x hx => drop_cells hx.2 0 _ 0 (fun j v hj => by simpa using hj), ?_⟩
        · rfl
        have hc := hc.drew
        refine ⟨?_, trivial⟩
        refine ⟨hc.may 4 rfl _ _ (nle rfl) rfl, ?_⟩
        intro wS hS
        have hc := (hc.set 4 rfl hS).1
        refine ⟨⟨hc.blk 6 rfl, hc.blk 1 rfl⟩, ?_⟩
        refine ⟨hc.may 3 rfl _ _ (nle rfl) rfl, ?_⟩
        intro wS hS
        have hc := (hc.set 3 rfl hS).1
        refine ⟨_, ?_, hc.cells 4 rfl, ?_⟩
        · rfl
        refine ⟨_, ?_, hc.cells 3 rfl, ?_⟩
        · rfl
        have ho := hc.out
        subst hms
        exact ⟨_, rfl, hc.below, RepS.mk' el ho.1.2.1 ho.1.2.2 ho.2⟩
    · refine split_f (decide_eq_false (show ¬ lo < d.low by omega)) ?_
      refine ⟨?_, trivial⟩
      have hc := hc.drew
      rw [if_neg (fun h => absurd h.1 (by omega))]
      obtain ⟨S9, _, hc⟩ := hc.told
      refine drawn lay_ok (by kernel_rfl) (.q 0 (.q 1 (.n 2 (.z 3) .stop))) (fun x => Blk x g2 78 _ ∧ Blk x g9 89 _) (by kernel_rfl) ⟨hc.blk 6 rfl, hc.blk 1 rfl⟩ ?_
      refine ⟨_, ?_, fun x hx => drop_cells hx.1 0 _ 0 (fun j v hj => by simpa using hj), ?_⟩
      · rfl
      refine ⟨_, ?_, fun x hx => drop_cells hx.2 0 _ 0 (fun j v hj => by simpa using hj), ?_⟩
      · rfl
      have hc := hc.drew
      refine ⟨?_, trivial⟩
      refine ⟨hc.may 4 rfl _ _ (nle rfl) rfl, ?_⟩
      intro wS hS
      have hc := (hc.set 4 rfl hS).1
      refine ⟨⟨hc.blk 6 rfl, hc.blk 1 rfl⟩, ?_⟩
      refine ⟨hc.may 3 rfl _ _ (nle rfl) rfl, ?_⟩
      intro wS hS
      have hc := (hc.set 3 rfl hS).1
      refine ⟨_, ?_, hc.cells 4 rfl, ?_⟩
      · rfl
      refine ⟨_, ?_, hc.cells 3 rfl, ?_⟩
      · rfl
      have ho := hc.out
      subst hms
      exact ⟨_, rfl, hc.below, RepS.mk' el ho.1.2.1 ho.1.2.2 ho.2⟩
end Go.Proofs.YtbmoimihnndboaaGreatDoor
