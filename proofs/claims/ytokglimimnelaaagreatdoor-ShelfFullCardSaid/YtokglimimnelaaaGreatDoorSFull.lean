import Derived.Test.YtokglimimnelaaaGreatDoorM12
set_option linter.unusedVariables false
set_option linter.unusedSimpArgs false
/- Walk: armariumlaw8.ShelfFull. -/
namespace Go.Proofs.YtokglimimnelaaaGreatDoor
open Go.Vc Go.RowKit Go.Fl Go.ChangeShapes Go.WideShapes Go.ChangeAt
set_option maxRecDepth 100000
def dFul (req : Int) : D := ⟨2, ⟨#[107]⟩, ⟨#[]⟩, 0, 0, ⟨#[]⟩, req, 0⟩
theorem dFul_ok (i : Int) (h : 1 ≤ i ∧ i ≤ 1000) : mayD (dFul (4294967296 + i)) = true ∧ (dFul (4294967296 + i)).Ok := by
  refine ⟨?_, show i64ok 2 by unfold i64ok; decide, show strok ⟨#[107]⟩ by unfold strok; decide, show strok ⟨#[]⟩ by unfold strok; decide, show i64ok 0 by unfold i64ok; decide, show i64ok 0 by unfold i64ok; decide, show strok ⟨#[]⟩ by unfold strok; decide, show i64ok (4294967296 + i) by unfold i64ok; omega, show i64ok 0 by unfold i64ok; decide⟩
  have hh : homeI (4294967296 + i) = 1 := by
    unfold homeI
    split <;> omega
  have hk : keyB ⟨#[107]⟩ = true := by kernel_rfl
  have ht : tagB (⟨#[]⟩ : ByteArray) = false := by kernel_rfl
  unfold mayD dFul
  simp only [hh, hk]
  have e1 : decide ((4294967296 : Int) + i < 0) = false := decide_eq_false (by omega)
  have e2 : mt (⟨#[]⟩ : ByteArray) = true := by kernel_rfl
  simp [e2]
  omega
set_option maxHeartbeats 8000000 in
theorem full8_any (n m : Int) (hn : i64ok n) (hm : i64ok m) (w : World) (hw : Env w) : Calls Tryz.prog 4 #[.int .i64 n, .int .i64 m] w (RetB (.bool true) w) := by
  refine calls_vc lay_ok Tryz.func4 rfl (by kernel_rfl) (by kernel_rfl) ?_
  have hc := CtxF.start w no (fun _ h => h.elim) (R := fun _ _ => True) trivial Stab.true
  refine call_b (begun8_any _ (hw.below hc.below)) ?_
  intro wQ hQ
  have hc := (hc.quiet hQ).1
  by_cases n0 : n < 0
  · refine split_t (decide_eq_true n0) ?_
    exact ⟨rfl, hc.below⟩
  refine split_f (decide_eq_false n0) ?_
  by_cases n7 : (70 : Int) < n
  · refine split_t (decide_eq_true n7) ?_
    exact ⟨rfl, hc.below⟩
  refine split_f (decide_eq_false n7) ?_
  by_cases m0 : m < 0
  · refine split_t (decide_eq_true m0) ?_
    exact ⟨rfl, hc.below⟩
  refine split_f (decide_eq_false m0) ?_
  by_cases m6 : (60 : Int) < m
  · refine split_t (decide_eq_true m6) ?_
    exact ⟨rfl, hc.below⟩
  refine split_f (decide_eq_false m6) ?_
  refine ⟨(new_any 1048576 _).mono fun en wq hq => ?_⟩
  rw [newC_c0 (by decide)] at hq
  obtain ⟨gc, b, e1, hq, hO⟩ := hq
  have hc := hc.sepNew hq hO (ChestK.stab _ _ _)
  refine ⟨_, e1, ?_⟩
  obtain ⟨S1, Sa, h1, h2, h3, hO⟩ := hc.row
  refine ⟨(snew_any gc b 1048576 (by decide) Sa _ (fun x hx => hc.ctx.lt x (h2 x hx).1) (hw.free hc.below h2) hO).mono fun en wq hq => ?_⟩
  obtain ⟨gs, gj, e1, hT, Sn, hSn, hO⟩ := hq
  have hc := hc.turnO (Stab.true) h1 h2 h3 hT hSn hO (ShelfK.stab _ _ _ _ _)
  refine ⟨_, e1, ?_⟩
  refine ⟨Nat × Sh, fun y => [(0, .int .i64 n), (1, .int .i64 m), (6, .pointer (some ⟨gs, 0, none⟩)), (8, .int .i64 ((y.1 : Int) + 1))],
    fun y w' => (y.1 : Int) ≤ n ∧ Fit y.2 y.1 ∧ y.2.k.b = Stt0 ∧ y.2.k.pend.length = min y.1 60 ∧ ∃ S, CtxF no w S w' [] [] (Sep w.heap.size (fun _ _ => True) (ShelfK gs gj gc b y.2)), fun y _ => n.toNat - y.1, (0, H0 1048576), ⟨rfl, rfl, rfl, rfl, trivial⟩, ⟨by show (0 : Int) ≤ n; omega, Fit.h0, rfl, rfl, _, hc⟩, ?_⟩
  clear hc
  rintro ⟨i, H⟩ w1 u ⟨hi, hf, hb, hp, S, hc⟩
  simp only at hi hf hb hp hc
  by_cases hlt : (i : Int) < n
  · refine split_t (decide_eq_true (by show (i : Int) + 1 ≤ n; omega)) ?_
    have hwr : IntKind.i64.wrap (4294967296 + ((i : Int) + 1)) = 4294967296 + ((i : Int) + 1) := IntWalk.i64_in _ ⟨by omega, by omega⟩
    obtain ⟨hmd, hdk⟩ := dFul_ok ((i : Int) + 1) ⟨by omega, by omega⟩
    have had := fun Sa w hlt he hK => sadd_any gs gj gc b H hf.ok (dFul (4294967296 + ((i : Int) + 1))) hdk Sa w hlt he hK
    have hres := hf.add (by omega) hdk
    obtain ⟨q, hq0⟩ : ∃ q, q = addH H (dFul (4294967296 + ((i : Int) + 1))) := ⟨_, rfl⟩
    rw [← hq0] at had hres
    rw [← hwr] at had
    obtain ⟨S1, Sa, h1, h2, h3, hO⟩ := hc.row
    refine ⟨(had Sa _ (fun x hx => hc.ctx.lt x (h2 x hx).1) (hw.free hc.below h2) hO).mono fun en wq hq => ?_⟩
    obtain ⟨e1, hT, Sn, hSn, hO⟩ := hq
    have hc := hc.turnO (Stab.true) h1 h2 h3 hT hSn hO (ShelfK.stab _ _ _ _ _)
    refine ⟨_, e1, ?_⟩
    have hw1 : IntKind.i64.wrap ((i : Int) + 1 + 1) = (((i + 1 : Nat) : Int) + 1) := by rw [IntWalk.i64_in _ ⟨by omega, by omega⟩]; omega
    rcases hres with ⟨_, hcan, e⟩ | ⟨_, hcan, e⟩ | ⟨e1, _⟩
    · subst e
      have hpl : H.k.pend.length < 60 := hcan.1
      refine split_f (by
        show ((true != decide ((i : Int) + 1 ≤ 60)) : Bool) = false
        rw [decide_eq_true (by omega)]
        rfl) ?_
      refine split_f (decide_eq_false (by show ¬ (60 : Int) < (i : Int) + 1; omega)) ?_
      refine ⟨(i + 1, H.write (.add (dFul (4294967296 + ((i : Int) + 1)))) true), ⟨rfl, rfl, rfl, congrArg _ hw1, trivial⟩, ⟨by show ((i + 1 : Nat) : Int) ≤ n; omega, hf.write (by omega) (r := .add _) ⟨hmd, hdk⟩ hcan true, ?_, ?_, _, hc⟩, by show n.toNat - (i + 1) < n.toNat - i; omega⟩
      · show (H.write _ true).k.b = Stt0
        rw [write_add_k]
        exact hb
      · show (H.write _ true).k.pend.length = min (i + 1) 60
        rw [write_add_k]
        show (H.k.pend ++ [_]).length = _
        rw [List.length_append]
        simp only [List.length_cons, List.length_nil]
        omega
    · subst e
      have hpl : 60 ≤ H.k.pend.length := by
        rcases Nat.lt_or_ge H.k.pend.length 60 with h | h
        · refine absurd ⟨h, ?_⟩ hcan
          unfold Known.seq
          rw [hb]
          show (0 : Int) + (H.k.pend.length : Int) < maxN
          unfold maxN
          omega
        · exact h
      refine split_f (by
        show ((false != decide ((i : Int) + 1 ≤ 60)) : Bool) = false
        rw [decide_eq_false (by omega)]
        rfl) ?_
      refine split_t (decide_eq_true (by show (60 : Int) < (i : Int) + 1; omega)) ?_
      refine ⟨(i + 1, H), ⟨rfl, rfl, rfl, congrArg _ hw1, trivial⟩, ⟨by show ((i + 1 : Nat) : Int) ≤ n; omega, hf.mono (by omega), hb, by show H.k.pend.length = _; omega, _, hc⟩, by show n.toNat - (i + 1) < n.toNat - i; omega⟩
    · rw [hmd] at e1
      cases e1
  refine split_f (decide_eq_false (by show ¬ (i : Int) + 1 ≤ n; omega)) ?_
  have hin : (i : Int) = n := by omega
  obtain ⟨t, ht, ht2⟩ : ∃ t : Int, t = (if (60 : Int) < n then 60 else n) ∧ t = ((min i 60 : Nat) : Int) := ⟨_, rfl, by split <;> omega⟩
  obtain ⟨kk, hkk, hk0, hk1⟩ : ∃ kk : Nat, (kk : Int) = (if t < m then t else m) ∧ (kk : Int) ≤ t ∧ kk ≤ 60 := ⟨(if t < m then t else m).toNat, by split <;> omega, by split <;> omega, by split <;> omega⟩
  have hbs : H.k.b.seq = 0 := by rw [hb]; rfl
  have hseq : H.k.seq = t := by unfold Known.seq; rw [hbs, hp]; omega
  have hi64 : i64ok (kk : Int) := by unfold i64ok; omega
  obtain ⟨H', e1, e2, hf', _⟩ := hf.done (by omega) hi64 (by omega)
  obtain ⟨l1, l2⟩ := commit_len H.k kk
  rw [hbs, hp] at l1 l2
  have eraw : (if (if (60 : Int) < n then (60 : Int) else n) < m then (if (60 : Int) < n then (60 : Int) else n) else m) = (kk : Int) := by rw [← ht, ← hkk]
  have hcm : ∀ (Sa : Nat → Prop) (w : World), (∀ x, Sa x → x < w.heap.size) → EnvFree Sa w → ShelfK gs gj gc b H Sa w → Calls Tryz.prog 19 #[.pointer (some ⟨gs, 0, none⟩), .int .i64 (if (if (60 : Int) < n then (60 : Int) else n) < m then (if (60 : Int) < n then (60 : Int) else n) else m)] w (RetSc Sa w (ShelfK gs gj gc b H') (commitK H.k kk).2 0) := fun Sa w hlt he hK => by
    rw [eraw]
    have h9 := scommit_any gs gj gc b H hf.ok kk hi64 Sa w hlt he hK
    rw [e1] at h9
    exact h9
  obtain ⟨S1, Sa, h1, h2, h3, hO⟩ := hc.row
  refine ⟨(hcm Sa _ (fun x hx => hc.ctx.lt x (h2 x hx).1) (hw.free hc.below h2) hO).mono fun en wq hq => ?_⟩
  obtain ⟨A1, c1, e3, hT, Sn, Sl, hSn, hO, hSl, hX⟩ := hq
  have hc := hc.turnO Stab.true h1 h2 h3 hT hSn hO (ShelfK.stab _ _ _ _ _)
  refine ⟨_, e3, ?_⟩
  refine split_t (by show (((commitK H.k kk).2.length : Int) == (if (if (60 : Int) < n then (60 : Int) else n) < m then (if (60 : Int) < n then (60 : Int) else n) else m)) = true; rw [eraw, beq_iff_eq, l1]; omega) ?_
  refine ⟨(Pend_any gs gj gc b H' hf'.ok _ _ (hc.row.right (ShelfK.stab _ _ _ _ _))).mono fun en wq hq => ?_⟩
  obtain ⟨A3, c3, e4, hq, _⟩ := hq
  have hc := (hc.quiet hq).1
  refine ⟨_, e4, ?_⟩
  have hpl : (H'.k.pend.length : Int) = t - kk := by rw [e2, l2]; omega
  have hw8 : IntKind.i64.wrap (t - kk) = t - kk := IntWalk.i64_in _ ⟨by omega, by omega⟩
  refine split_t (by show ((H'.k.pend.length : Int) == IntKind.i64.wrap ((if (60 : Int) < n then 60 else n) - (if (if (60 : Int) < n then (60 : Int) else n) < m then (if (60 : Int) < n then (60 : Int) else n) else m))) = true; rw [eraw, ← ht, hw8, beq_iff_eq]; exact hpl) ?_
  obtain ⟨hmd, hdk⟩ := dFul_ok 100 (by decide)
  have had := fun Sa w hlt he hK => sadd_any gs gj gc b H' hf'.ok (dFul (4294967296 + 100)) hdk Sa w hlt he hK
  have hres := hf'.add (by omega) hdk
  obtain ⟨q, hq0⟩ : ∃ q, q = addH H' (dFul (4294967296 + 100)) := ⟨_, rfl⟩
  rw [← hq0] at had hres
  obtain ⟨S1, Sa, h1, h2, h3, hO⟩ := hc.row
  refine ⟨(had Sa _ (fun x hx => hc.ctx.lt x (h2 x hx).1) (hw.free hc.below h2) hO).mono fun en wq hq => ?_⟩
  obtain ⟨e1, hT, Sn, hSn, hO⟩ := hq
  have hc := hc.turnO (Stab.true) h1 h2 h3 hT hSn hO (ShelfK.stab _ _ _ _ _)
  refine ⟨_, e1, ?_⟩
  refine ⟨?_, hc.below⟩
  show Ending.returned (.bool ((q.2 == 0) == decide (IntKind.i64.wrap ((if (60 : Int) < n then 60 else n) - (if (if (60 : Int) < n then (60 : Int) else n) < m then (if (60 : Int) < n then (60 : Int) else n) else m)) < 60))) = _
  rw [eraw, ← ht, hw8]
  rcases hres with ⟨_, hcan, e⟩ | ⟨_, hcan, e⟩ | ⟨e1, _⟩
  · have hpl9 : H'.k.pend.length < 60 := hcan.1
    rw [e, decide_eq_true (by omega)]
    rfl
  · have hbq : H'.k.b.seq ≤ 70 := by
      have h9 := foldS_ok (H.k.pend.take ((kk : Int) - H.k.b.seq).toNat) hf.ok.k.may hf.ok.k.lows
      have e5 : H'.k.b = foldS H.k.b (H.k.pend.take ((kk : Int) - H.k.b.seq).toNat) := by rw [e2]; rfl
      rw [e5]
      have h10 := h9.2.2
      have h11 : (H.k.pend.take ((kk : Int) - H.k.b.seq).toNat).length ≤ 60 := by rw [List.length_take]; omega
      omega
    have hpl9 : 60 ≤ H'.k.pend.length := by
      rcases Nat.lt_or_ge H'.k.pend.length 60 with h | h
      · refine absurd ⟨h, ?_⟩ hcan
        unfold Known.seq maxN
        omega
      · exact h
    rw [e, decide_eq_false (by omega)]
    rfl
  · rw [hmd] at e1
    cases e1
set_option maxRecDepth 100000 in
theorem shelfFull_ct {H : Type} (enc : TypeId × Value → H) (W : World) (hw : Env W) {base : Nat}
    (v0 : Value) (d0 : DataW H) (p0 : List MemPlace) (h0 : DataW.Trod enc Tryz.prog W 0 (fun _ => true) true 3 v0 d0 p0) (k0 : Value.okWide Tryz.prog W .any base 3 v0)
    (v1 : Value) (d1 : DataW H) (p1 : List MemPlace) (h1 : DataW.Trod enc Tryz.prog W 0 (fun _ => true) true 3 v1 d1 p1) (k1 : Value.okWide Tryz.prog W .any base 3 v1) :
    Calls Tryz.prog 4 #[v0, v1] W (RetB (.bool true) W) := by
  obtain ⟨a0, rfl, o0⟩ := open_i64 Tryz.underlying3 h0 k0
  obtain ⟨a1, rfl, o1⟩ := open_i64 Tryz.underlying3 h1 k1
  exact full8_any a0 a1 o0 o1 W hw
end Go.Proofs.YtokglimimnelaaaGreatDoor
