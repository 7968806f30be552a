import Derived.Test.YtokglimimnelaaaGreatDoorM11
set_option linter.unusedVariables false
set_option linter.unusedSimpArgs false
namespace Go.Proofs.YtokglimimnelaaaGreatDoor
open Go.Vc Go.RowKit Go.Fl Go.ChangeShapes Go.WideShapes Go.ChangeAt
set_option maxRecDepth 100000
theorem eq4_any (l : List ByteArray) (hl : l.length ≤ 100000) (A B : Option Addr) (ca cb : Nat) (S S' : Nat → Prop) (w : World) (hA : Row S w A l.length ca (l.map Value.string)) (hB : Row S' w B l.length cb (l.map Value.string)) : Calls Tryz.prog 101 #[.slice A l.length ca, .slice B l.length cb] w (RetB (.bool true) w) := by
  refine calls_vc lay_ok Tryz.func101 rfl (by kernel_rfl) (by kernel_rfl) ?_
  refine split_f (by show ((l.length : Int) != (l.length : Int)) = false; simp) ?_
  refine ⟨Nat, fun i => [(0, .slice A l.length ca), (1, .slice B l.length cb), (5, .int .i64 i)], fun i w' => i ≤ l.length ∧ Below w.heap.size w w', fun i _ => l.length - i, 0, ⟨rfl, rfl, rfl, trivial⟩, ⟨Nat.zero_le _, Below.refl _ _⟩, ?_⟩
  rintro i w' u ⟨hi, hb⟩
  by_cases hlt : i < l.length
  · refine split_t (decide_eq_true (by omega)) ?_
    have hv : (l.map Value.string)[i]? = some (.string l[i]) := by simp [hlt]
    obtain ⟨ad, rfl, hcell⟩ := (hA.below hb).at hv
    obtain ⟨bd, rfl, hcell'⟩ := (hB.below hb).at hv
    refine drawn lay_ok (by kernel_rfl) (.q 0 (.q 1 (.q 2 (.q 3 (.q 4 (.q 5 (.q 6 (.q 7 (.q 8 .fin))))))))) (Keeps (fun b => b < w'.heap.size) w') (by kernel_rfl) (Keeps.start _ _) ?_
    refine ⟨⟨by omega, by omega⟩, ?_⟩
    refine ⟨_, fun z hz => hz.look (by rw [Nat.mul_one, Int.toNat_natCast]; exact hcell), ?_⟩
    refine ⟨⟨by omega, by omega⟩, ?_⟩
    refine ⟨_, fun z hz => hz.look (by rw [Nat.mul_one, Int.toNat_natCast]; exact hcell'), ?_⟩
    have hb := hb.drew
    refine split_f (by show (!strEq l[i] l[i]) = false; rw [strEq_iff.2 rfl]; rfl) ?_
    refine ⟨i + 1, ⟨rfl, rfl, congrArg _ (i_down (by omega)), trivial⟩, ⟨hlt, hb⟩, by show l.length - (i + 1) < l.length - i; omega⟩
  · refine split_f (decide_eq_false (by omega)) ?_
    exact ⟨rfl, hb⟩
def sOne : ByteArray := ⟨#[111, 110, 101]⟩
def sTwo : ByteArray := ⟨#[116, 119, 111]⟩
def sState : ByteArray := ⟨#[115, 116, 97, 116, 101]⟩
def sAb : ByteArray := ⟨#[97, 98]⟩
def q0 : Scroll := ⟨leafB bE, 11, true⟩
def q1 : Scroll := ⟨leafB bE ++ leafB sOne, 25, true⟩
def q2 : Scroll := ⟨(leafB bE ++ leafB sOne) ++ leafB sTwo, 25, true⟩
def q3 : Scroll := ⟨q2.s.extract 0 25, 25, true⟩
def q4 : Scroll := ⟨q2.s.extract 0 30, 30, true⟩
def q5 : Scroll := ⟨leafB sState, 16, true⟩
def q6 : Scroll := ⟨q5.s.extract 0 16, 16, true⟩
theorem new4 : newC 10000 = c0 10000 := by kernel_rfl
theorem op40 : openJ (10000 - leafN bE) ⟨leafB bE, leafN bE, true⟩ bE [] 11 = JL 9989 q0 bE [] false := by kernel_rfl
theorem ad41 : addJ 9989 q0 bE [] false sOne true = (JL 9975 q1 bE [sOne] false, 0) := by kernel_rfl
theorem ad42 : addJ 9975 q1 bE [sOne] false sTwo false = (JL 9961 q2 bE [sOne, sTwo] false, 0) := by kernel_rfl
theorem te43 : tearC (chL 9961 q2) bLOG q2 0 = chL 9975 q3 := by kernel_rfl
theorem te44 : tearC (chL 9961 q2) bLOG q2 5 = chL 9970 q4 := by kernel_rfl
theorem op43 : openJ 9975 q3 bE [sOne] 25 = JL 9975 q3 bE [sOne] false := by kernel_rfl
theorem op44 : openJ 9970 q4 bE [sOne] 25 = JL 9975 ⟨q4.s.extract 0 25, 25, true⟩ bE [sOne] false := by kernel_rfl
theorem la45 : layJ 9961 q2 bE [sOne, sTwo] false sState = (JL 9984 q5 sState [] false, 0) := by kernel_rfl
theorem te46 : tearC (chL 9984 q5) bLOG q5 0 = chL 9984 q6 := by kernel_rfl
theorem op46 : openJ 9984 q6 sState [] 16 = JL 9984 q6 sState [] false := by kernel_rfl
theorem sp43 : Splits q3.s.data.toList [bE, sOne] 25 := by
  have h := Splits.leaves [bE, sOne] [] (fun x hx => by
    rcases List.mem_cons.1 hx with rfl | hx
    · decide
    · rw [List.mem_singleton.1 hx]; decide) (.inl rfl)
  rw [List.append_nil, show leavesL [bE, sOne] = q3.s.data.toList by kernel_rfl, show (q3.s.data.toList).length = 25 by kernel_rfl] at h
  exact h
theorem sp44 : Splits q4.s.data.toList [bE, sOne] 25 := by
  have h := Splits.leaves [bE, sOne] ((leafL sTwo).take 5) (fun x hx => by
    rcases List.mem_cons.1 hx with rfl | hx
    · decide
    · rw [List.mem_singleton.1 hx]; decide) (.inr (turnG_front sTwo (by decide) 5 (by decide +kernel)))
  rw [show leavesL [bE, sOne] ++ (leafL sTwo).take 5 = q4.s.data.toList by kernel_rfl, show (leavesL [bE, sOne]).length = 25 by kernel_rfl] at h
  exact h
theorem sp46 : Splits q6.s.data.toList [sState] 16 := by
  have h := Splits.leaves [sState] [] (fun x hx => by rw [List.mem_singleton.1 hx]; decide) (.inl rfl)
  rw [List.append_nil, show leavesL [sState] = q6.s.data.toList by kernel_rfl, show (q6.s.data.toList).length = 16 by kernel_rfl] at h
  exact h
theorem tu47 : turnG (leafB sAb ++ ⟨#[122]⟩ : ByteArray).data.toList = (sAb, 13, 0) := by
  have h := turnG_leaf sAb (by decide) [122]
  rw [show leafL sAb ++ [122] = (leafB sAb ++ ⟨#[122]⟩ : ByteArray).data.toList by kernel_rfl, show (leafL sAb).length = 13 by kernel_rfl] at h
  exact h
set_option maxHeartbeats 8000000 in
theorem begun4_any (w : World) (hw : Env w) : Calls Tryz.prog 67 #[] w (RetB (.bool true) w) := by
  refine calls_vc lay_ok Tryz.func67 rfl (by kernel_rfl) (by kernel_rfl) ?_
  have hc := CtxF.start w no (fun _ h => h.elim) (R := fun _ _ => True) trivial Stab.true
  refine ⟨(new_any 10000 _).mono fun en wq hq => ?_⟩
  rw [new4] at hq
  obtain ⟨gc, b, e1, hq, hO⟩ := hq
  have hc := hc.sepNew hq hO (ChestK.stab _ _ _)
  refine ⟨_, e1, ?_⟩
  have ho := fun Sa w hlt he hK => jopen0_any gc b 10000 (by decide) Sa w hlt he hK
  rw [op40] at ho
  obtain ⟨S1, Sa, h1, h2, h3, hO⟩ := hc.row
  refine ⟨(ho Sa _ (fun x hx => hc.ctx.lt x (h2 x hx).1) (hw.free hc.below h2) hO).mono fun en wq hq => ?_⟩
  obtain ⟨gj, e1, hT, Sn, hSn, hO⟩ := hq
  have hc := hc.turnO (Stab.true) h1 h2 h3 hT hSn hO (JourK.stab _ _ _ _)
  refine ⟨_, e1, ?_⟩
  refine ⟨.bool false, fun w => jrNil gj _ _ w, ?_⟩
  have ha := fun Sa w hlt he hK => jadd_any gj gc b 9989 q0 bE [] false sOne true (by decide) (by decide) (by decide +kernel) (by decide) Sa w hlt he hK
  rw [ad41] at ha
  obtain ⟨S1, Sa, h1, h2, h3, hO⟩ := hc.row
  refine ⟨(ha Sa _ (fun x hx => hc.ctx.lt x (h2 x hx).1) (hw.free hc.below h2) hO).mono fun en wq hq => ?_⟩
  obtain ⟨e1, hT, Sn, hSn, hO⟩ := hq
  have hc := hc.turnO (Stab.true) h1 h2 h3 hT hSn hO (JourK.stab _ _ _ _)
  refine ⟨_, e1, ?_⟩
  have ha := fun Sa w hlt he hK => jadd_any gj gc b 9975 q1 bE [sOne] false sTwo false (by decide) (by decide) (by decide +kernel) (by decide) Sa w hlt he hK
  rw [ad42] at ha
  obtain ⟨S1, Sa, h1, h2, h3, hO⟩ := hc.row
  refine ⟨(ha Sa _ (fun x hx => hc.ctx.lt x (h2 x hx).1) (hw.free hc.below h2) hO).mono fun en wq hq => ?_⟩
  obtain ⟨e1, hT, Sn, hSn, hO⟩ := hq
  have hc := hc.turnO (Stab.true) h1 h2 h3 hT hSn hO (JourK.stab _ _ _ _)
  refine ⟨_, e1, ?_⟩
  have hte := tear_any gc b (chL 9961 q2) bLOG q2 (by decide) (chL_at _ _) rfl (by decide +kernel) (by decide +kernel) (by decide) 0 _ _ (hc.row.right (JourK.stab _ _ _ _)).chest
  rw [te43] at hte
  refine ⟨hte.mono fun en wq hq => ?_⟩
  obtain ⟨g2, b2, e1, hq, hO2⟩ := hq
  have hc := hc.sepNew hq hO2 (ChestK.stab _ _ _)
  refine ⟨_, e1, ?_⟩
  have ho := fun Sa w hlt he hK => jopen_any g2 b2 9975 q3 bE [sOne] 25 sp43 (by decide +kernel) (by decide) (by decide) Sa w hlt he hK
  rw [op43] at ho
  obtain ⟨S1, Sa, h1, h2, h3, hO⟩ := hc.row
  refine ⟨(ho Sa _ (fun x hx => hc.ctx.lt x (h2 x hx).1) (hw.free hc.below h2) hO).mono fun en wq hq => ?_⟩
  obtain ⟨gk, e1, hT, Sn, hSn, hO⟩ := hq
  have hc := hc.turnO (Sep.stab Stab.true (JourK.stab _ _ _ _)) h1 h2 h3 hT hSn hO (JourK.stab _ _ _ _)
  refine ⟨_, e1, ?_⟩
  have hc := hc.now Sep.swap (Sep.stab (Sep.stab Stab.true (JourK.stab _ _ _ _)) (JourK.stab _ _ _ _))
  have hte := tear_any gc b (chL 9961 q2) bLOG q2 (by decide) (chL_at _ _) rfl (by decide +kernel) (by decide +kernel) (by decide) 5 _ _ (hc.row.right (JourK.stab _ _ _ _)).chest
  rw [te44] at hte
  refine ⟨hte.mono fun en wq hq => ?_⟩
  obtain ⟨g3, b3, e1, hq, hO2⟩ := hq
  have hc := hc.sepNew hq hO2 (ChestK.stab _ _ _)
  refine ⟨_, e1, ?_⟩
  have ho := fun Sa w hlt he hK => jopen_any g3 b3 9970 q4 bE [sOne] 25 sp44 (by decide +kernel) (by decide) (by decide) Sa w hlt he hK
  rw [op44] at ho
  obtain ⟨S1, Sa, h1, h2, h3, hO⟩ := hc.row
  refine ⟨(ho Sa _ (fun x hx => hc.ctx.lt x (h2 x hx).1) (hw.free hc.below h2) hO).mono fun en wq hq => ?_⟩
  obtain ⟨gl, e1, hT, Sn, hSn, hO⟩ := hq
  have hc := hc.turnO (Sep.stab (Sep.stab Stab.true (JourK.stab _ _ _ _)) (JourK.stab _ _ _ _)) h1 h2 h3 hT hSn hO (JourK.stab _ _ _ _)
  refine ⟨_, e1, ?_⟩
  have hc := hc.now Sep.swap (Sep.stab (Sep.stab (Sep.stab Stab.true (JourK.stab _ _ _ _)) (JourK.stab _ _ _ _)) (JourK.stab _ _ _ _))
  have ha := fun Sa w hlt he hK => jlay_any gj gc b 9961 q2 bE [sOne, sTwo] false sState (by decide) (by decide) (by decide +kernel) Sa w hlt he hK
  rw [la45] at ha
  obtain ⟨S1, Sa, h1, h2, h3, hO⟩ := hc.row
  refine ⟨(ha Sa _ (fun x hx => hc.ctx.lt x (h2 x hx).1) (hw.free hc.below h2) hO).mono fun en wq hq => ?_⟩
  obtain ⟨e1, hT, Sn, hSn, hO⟩ := hq
  have hc := hc.turnO (Sep.stab (Sep.stab Stab.true (JourK.stab _ _ _ _)) (JourK.stab _ _ _ _)) h1 h2 h3 hT hSn hO (JourK.stab _ _ _ _)
  refine ⟨_, e1, ?_⟩
  have hte := tear_any gc b (chL 9984 q5) bLOG q5 (by decide) (chL_at _ _) rfl (by decide +kernel) (by decide +kernel) (by decide) 0 _ _ (hc.row.right (JourK.stab _ _ _ _)).chest
  rw [te46] at hte
  refine ⟨hte.mono fun en wq hq => ?_⟩
  obtain ⟨g4, b4, e1, hq, hO2⟩ := hq
  have hc := hc.sepNew hq hO2 (ChestK.stab _ _ _)
  refine ⟨_, e1, ?_⟩
  have ho := fun Sa w hlt he hK => jopen_any g4 b4 9984 q6 sState [] 16 sp46 (by decide +kernel) (by decide) (by decide) Sa w hlt he hK
  rw [op46] at ho
  obtain ⟨S1, Sa, h1, h2, h3, hO⟩ := hc.row
  refine ⟨(ho Sa _ (fun x hx => hc.ctx.lt x (h2 x hx).1) (hw.free hc.below h2) hO).mono fun en wq hq => ?_⟩
  obtain ⟨gm, e1, hT, Sn, hSn, hO⟩ := hq
  have hc := hc.turnO (Sep.stab (Sep.stab (Sep.stab Stab.true (JourK.stab _ _ _ _)) (JourK.stab _ _ _ _)) (JourK.stab _ _ _ _)) h1 h2 h3 hT hSn hO (JourK.stab _ _ _ _)
  refine ⟨_, e1, ?_⟩
  refine call_b (leaf_any sAb (by decide) _ (hw.below hc.below)) ?_
  intro wQ hQ
  have hc := (hc.quiet hQ).1
  refine ⟨by decide +kernel, ?_⟩
  have htu := turn_any (leafB sAb ++ ⟨#[122]⟩) (by decide +kernel) _ (hw.below hc.below)
  rw [tu47] at htu
  refine call_b (htu) ?_
  intro wQ hQ
  have hc := (hc.quiet hQ).1
  refine call_b (Begun3_any _ (hw.below hc.below)) ?_
  intro wQ hQ
  have hc := (hc.quiet hQ).1
  have hc := hc.now (X := fun S w => JourK gk g2 b2 (JL 9975 q3 bE [sOne] false) S w ∧ JourK gl g3 b3 (JL 9975 ⟨q4.s.extract 0 25, 25, true⟩ bE [sOne] false) S w ∧ JourK gj gc b (JL 9984 q5 sState [] false) S w ∧ JourK gm g4 b4 (JL 9984 q6 sState [] false) S w) (fun h => by
    have sK := Sep.stab (n0 := w.heap.size) Stab.true (JourK.stab gk g2 b2 (JL 9975 q3 bE [sOne] false))
    have sL := Sep.stab (n0 := w.heap.size) sK (JourK.stab gl g3 b3 (JL 9975 ⟨q4.s.extract 0 25, 25, true⟩ bE [sOne] false))
    have sJ := Sep.stab (n0 := w.heap.size) sL (JourK.stab gj gc b (JL 9984 q5 sState [] false))
    have h1 := h.left sJ
    have h2 := h1.left sL
    exact ⟨(h2.left sK).right (JourK.stab _ _ _ _), h2.right (JourK.stab _ _ _ _), h1.right (JourK.stab _ _ _ _), h.right (JourK.stab _ _ _ _)⟩) ((JourK.stab _ _ _ _).and ((JourK.stab _ _ _ _).and ((JourK.stab _ _ _ _).and (JourK.stab _ _ _ _))))
  refine ⟨(records_any gk g2 b2 _ (by decide) _ _ hc.row.1).mono fun en wq hq => ?_⟩
  obtain ⟨A1, c1, e1, hb, ho⟩ := hq
  have hc := (hc.call hb).1.know (X := fun S w => Row S w A1 1 c1 [.string sOne]) ((owns_row ho).sub fun b hb2 => hb2.elim (fun h => h.elim) .inr) (fun _ _ _ _ h f => h.fut f)
  refine ⟨_, e1, ?_⟩
  intro gv wgv hgv
  have hc := (hc.loc hgv).1
  refine call_b (eq4_any [sOne] (by decide) A1 (some ⟨gv, 0, none⟩) c1 1 _ (fun y => y = gv) _ hc.row.2 (rowOf (S := fun y => y = gv) (hc.blk 0 rfl) rfl 1 (by decide))) ?_
  intro wQ hQ
  have hc := (hc.quiet hQ).1
  refine ⟨(records_any gl g3 b3 _ (by decide) _ _ hc.row.1.2.1).mono fun en wq hq => ?_⟩
  obtain ⟨A2, c2, e1, hb, ho⟩ := hq
  have hc := (hc.call hb).1.know (X := fun S w => Row S w A2 1 c2 [.string sOne]) ((owns_row ho).sub fun b hb2 => hb2.elim (fun h => h.elim) .inr) (fun _ _ _ _ h f => h.fut f)
  refine ⟨_, e1, ?_⟩
  intro gu wgu hgu
  have hc := (hc.loc hgu).1
  refine call_b (eq4_any [sOne] (by decide) A2 (some ⟨gu, 0, none⟩) c2 1 _ (fun y => y = gu) _ hc.row.2 (rowOf (S := fun y => y = gu) (hc.blk 0 rfl) rfl 1 (by decide))) ?_
  intro wQ hQ
  have hc := (hc.quiet hQ).1
  refine call_b (first_any gm g4 b4 _ _ _ hc.row.1.1.2.2.2) ?_
  intro wQ hQ
  have hc := (hc.quiet hQ).1
  refine ⟨(records_any gm g4 b4 _ (by decide) _ _ hc.row.1.1.2.2.2).mono fun en wq hq => ?_⟩
  obtain ⟨A3, c3, e1, hb, ho⟩ := hq
  have hc := (hc.quiet hb).1
  refine ⟨_, e1, ?_⟩
  refine call_b (first_any gj gc b _ _ _ hc.row.1.1.2.2.1) ?_
  intro wQ hQ
  have hc := (hc.quiet hQ).1
  refine call_b (long_any gj gc b 9984 q5 sState [] false _ _ hc.row.1.1.2.2.1) ?_
  intro wQ hQ
  have hc := (hc.quiet hQ).1
  refine ⟨?_, hc.below⟩
  show Ending.returned (.bool (decide ((8 : Int) < (q5.s.size : Int)))) = _
  rw [show q5.s.size = 16 by kernel_rfl]
  rfl
theorem Begun4_any (w : World) (hw : Env w) : Calls Tryz.prog 37 #[] w (RetB (.bool true) w) := by
  refine calls_vc lay_ok Tryz.func37 rfl (by kernel_rfl) (by kernel_rfl) ?_
  refine call_b (begun4_any w hw) ?_
  intro w1 h1
  exact ⟨rfl, h1⟩
set_option maxRecDepth 100000
theorem _root_.Go.Vc.CtxF.turnR {w0 w w' : World} {S : Nat → Prop} {l : List LB} {os : List OR} {R O O' X : Kn} (hc : CtxF no w0 S w l os (Sep w0.heap.size R O)) (hR : Stab R) {S1 Sa Sn Sl : Nat → Prop} (h1 : ∀ x, S1 x → S x ∧ ¬ Sa x) (h2 : ∀ x, Sa x → S x ∧ w0.heap.size ≤ x) (h3 : R S1 w) (hT : Turn Sa w w')
    (hSn : ∀ x, Sn x → (Sa x ∨ w.heap.size ≤ x) ∧ x < w'.heap.size) (hO : O' Sn w') (hSl : ∀ y, Sl y → w.heap.size ≤ y ∧ y < w'.heap.size ∧ ¬ Sn y) (hX : X Sl w') (hs : Stab O') (hsX : Stab X) :
    ∃ S2, CtxF no w0 S2 w' l os (Sep w0.heap.size (fun S w => R S w ∧ X S w) O') := by
  refine ⟨_, hc.turn h2 hT (Sn := fun x => Sn x ∨ Sl x) (fun x hx => hx.elim (hSn x) (fun h => ⟨.inr (hSl x h).1, (hSl x h).2.1⟩)) ⟨fun x => S1 x ∨ Sl x, Sn, fun x hx => ?_, fun x hx => ⟨.inr (.inl hx), ?_⟩, ⟨hR _ _ _ _ h3 ⟨fun _ h => .inl h, fun x hx => ?_⟩, hsX _ _ _ _ hX ⟨fun _ h => .inr h, fun _ _ => rfl⟩⟩, hO⟩ (Sep.stab (hR.and hsX) hs)⟩
  · rcases hx with hx | hx
    · refine ⟨.inl (h1 x hx), fun hn => ?_⟩
      rcases (hSn x hn).1 with h | h
      · exact (h1 x hx).2 h
      · have := hc.ctx.lt x (h1 x hx).1
        omega
    · exact ⟨.inr (.inr hx), (hSl x hx).2.2⟩
  · rcases (hSn x hx).1 with h | h
    · exact (h2 x h).2
    · have := hc.ctx.below.size
      omega
  · exact hT.block x (hc.ctx.lt x (h1 x hx).1) (h1 x hx).2
set_option maxRecDepth 100000
def b8d : D := ⟨1, ⟨#[107]⟩, ⟨#[118]⟩, 0, 0, ⟨#[]⟩, 4294967297, 0⟩
def b8x : D := ⟨2, ⟨#[107]⟩, ⟨#[]⟩, 0, 0, ⟨#[]⟩, 4294967298, 0⟩
def G0 : Sh := H0 1048576
def G1 : Sh := G0.write (.enter 3) true
def G2 : Sh := G1.write (.add b8d) true
def G3 : Sh := G2.write (.add b8x) true
def G4 : Sh := G3.write (.done 1) false
theorem en8 : enterH G0 3 = (G1, 0) := by kernel_rfl
theorem ad8 : addH G1 b8d = (G2, 0) := by kernel_rfl
theorem ax8 : addH G2 b8x = (G3, 0) := by kernel_rfl
theorem cm8 : commitH G3 1 = (G4, [⟨0, 1⟩], 0) := by kernel_rfl
theorem cn8 : commitH G4 9 = (G4, [], 4) := by kernel_rfl
theorem eo8 : enterH G4 3 = (G4, 12) := by kernel_rfl
theorem az8 : addH G4 D0 = (G4, 1) := by kernel_rfl
theorem b8d_ok : b8d.Ok := ⟨by unfold i64ok; decide, by unfold strok; decide, by unfold strok; decide, by unfold i64ok; decide, by unfold i64ok; decide, by unfold strok; decide, by unfold i64ok; decide, by unfold i64ok; decide⟩
theorem b8x_ok : b8x.Ok := ⟨by unfold i64ok; decide, by unfold strok; decide, by unfold strok; decide, by unfold i64ok; decide, by unfold i64ok; decide, by unfold strok; decide, by unfold i64ok; decide, by unfold i64ok; decide⟩
theorem D0_ok8 : D0.Ok := ⟨by unfold i64ok; decide, by unfold strok; decide, by unfold strok; decide, by unfold i64ok; decide, by unfold i64ok; decide, by unfold strok; decide, by unfold i64ok; decide, by unfold i64ok; decide⟩
theorem G0ok : G0.Ok := H0.ok (by decide)
theorem G1ok : G1.Ok := G0ok.write (r := .enter 3) (show i64ok 3 by unfold i64ok; decide) trivial true (by decide +kernel)
theorem G2ok : G2.Ok := G1ok.write (r := .add b8d) ⟨by kernel_rfl, b8d_ok⟩ ⟨by decide +kernel, by decide +kernel⟩ true (by decide +kernel)
theorem G3ok : G3.Ok := G2ok.write (r := .add b8x) ⟨by kernel_rfl, b8x_ok⟩ ⟨by decide +kernel, by decide +kernel⟩ true (by decide +kernel)
theorem G4ok : G4.Ok := G3ok.write (r := .done 1) (show i64ok 1 by unfold i64ok; decide) (show (1 : Int) ≤ G3.k.seq by decide +kernel) false (by decide +kernel)
theorem Begun5_any (w : World) (hw : Env w) : Calls Tryz.prog 38 #[] w (RetB (.bool true) w) := by
  refine calls_vc lay_ok Tryz.func38 rfl (by kernel_rfl) (by kernel_rfl) ?_
  refine call_b (begun5_any w hw) ?_
  intro w1 h1
  exact ⟨rfl, h1⟩
set_option maxHeartbeats 8000000 in
theorem begun8_any (w : World) (hw : Env w) : Calls Tryz.prog 13 #[] w (RetB (.bool true) w) := by
  refine calls_vc lay_ok Tryz.func13 rfl (by kernel_rfl) (by kernel_rfl) ?_
  have hc := CtxF.start w no (fun _ h => h.elim) (R := fun _ _ => True) trivial Stab.true
  refine ⟨(new_any 1048576 _).mono fun en wq hq => ?_⟩
  rw [newC_c0 (by decide)] at hq
  obtain ⟨gc, b, e1, hq, hO⟩ := hq
  have hc := hc.sepNew hq hO (ChestK.stab _ _ _)
  refine ⟨_, e1, ?_⟩
  obtain ⟨S1, Sa, h1, h2, h3, hO⟩ := hc.row
  refine ⟨(snew_any gc b 1048576 (by decide) Sa _ (fun x hx => hc.ctx.lt x (h2 x hx).1) (hw.free hc.below h2) hO).mono fun en wq hq => ?_⟩
  obtain ⟨gs, gj, e1, hT, Sn, hSn, hO⟩ := hq
  have hc := hc.turnO Stab.true h1 h2 h3 hT hSn hO (ShelfK.stab _ _ _ _ _)
  refine ⟨_, e1, ?_⟩
  refine ⟨.bool false, fun w => shNil gs _ _ w, ?_⟩
  intro g4 wg4 hg4
  have hc := (hc.loc hg4).1
  refine ⟨hc.may 0 rfl _ _ (nle rfl) rfl, ?_⟩
  intro wS hS
  have hc := (hc.set 0 rfl hS).1
  intro g5 wg5 hg5
  have hc := (hc.loc hg5).1
  refine ⟨hc.may 0 rfl _ _ (nle rfl) rfl, ?_⟩
  intro wS hS
  have hc := (hc.set 0 rfl hS).1
  have he := fun Sa w hlt he hK => senter_any gs gj gc b G0 G0ok 3 (by unfold i64ok; decide) Sa w hlt he hK
  rw [en8] at he
  have hd := fun Sa w hlt he hK => sadd_any gs gj gc b G1 G1ok b8d b8d_ok Sa w hlt he hK
  rw [ad8] at hd
  have hx := fun Sa w hlt he hK => sadd_any gs gj gc b G2 G2ok b8x b8x_ok Sa w hlt he hK
  rw [ax8] at hx
  refine Drawn.join (α := Unit) (fun _ => [(1, .pointer (some ⟨gc, 0, none⟩)), (2, .pointer (some ⟨gs, 0, none⟩)), (6, .int .i64 0), (7, .int .i64 0), (8, .int .i64 0)])
    (fun _ wS => ∃ S2, CtxF no w S2 wS [(g5, 32, dC b8x), (g4, 32, dC b8d)] [] (Sep w.heap.size (fun _ _ => True) (ShelfK gs gj gc b G3))) ?_ ?_
  · refine drawn lay_ok (by kernel_rfl) (.q 0 (.q 2 (.q 5 (.n 1 (.n 3 (.n 4 (.n 6 (.n 7 (.q 8 (.q 9 (.q 10 .fin))) .stop) .stop) (.n 6 (.n 4 (.n 7 (.q 8 (.q 9 (.q 10 .fin))) .stop) .stop) .stop)) (.n 6 (.n 3 (.n 4 (.n 7 (.q 8 (.q 9 (.q 10 .fin))) .stop) .stop) .stop) .stop)) (.n 3 (.n 1 (.n 4 (.n 6 (.n 7 (.q 8 (.q 9 (.q 10 .fin))) .stop) .stop) (.n 6 (.n 4 (.n 7 (.q 8 (.q 9 (.q 10 .fin))) .stop) .stop) .stop)) (.n 6 (.n 1 (.n 4 (.n 7 (.q 8 (.q 9 (.q 10 .fin))) .stop) .stop) .stop) .stop)) (.n 6 (.n 1 (.n 3 (.n 4 (.n 7 (.q 8 (.q 9 (.q 10 .fin))) .stop) .stop) .stop) (.n 3 (.n 1 (.n 4 (.n 7 (.q 8 (.q 9 (.q 10 .fin))) .stop) .stop) .stop) .stop)) .stop)))))) (fun _ => True) (by kernel_rfl) trivial ?_
    have hc := hc.drew
    refine ⟨?_, ?_⟩
    · skip
      obtain ⟨S1, Sa, h1, h2, h3, hO⟩ := hc.row
      refine ⟨(he Sa _ (fun x hx => hc.ctx.lt x (h2 x hx).1) (hw.free hc.below h2) hO).mono fun en wq hq => ?_⟩
      obtain ⟨e1, hT, Sn, hSn, hO⟩ := hq
      have hc := hc.turnO Stab.true h1 h2 h3 hT hSn hO (ShelfK.stab _ _ _ _ _)
      refine ⟨_, e1, trivial, ?_⟩
      refine ⟨?_, ?_⟩
      · skip
        refine ⟨_, ?_, hc.cells 1 rfl, trivial, ?_⟩
        · rfl
        refine ⟨?_, ?_⟩
        · skip
          obtain ⟨S1, Sa, h1, h2, h3, hO⟩ := hc.row
          refine ⟨(hd Sa _ (fun x hx => hc.ctx.lt x (h2 x hx).1) (hw.free hc.below h2) hO).mono fun en wq hq => ?_⟩
          obtain ⟨e1, hT, Sn, hSn, hO⟩ := hq
          have hc := hc.turnO Stab.true h1 h2 h3 hT hSn hO (ShelfK.stab _ _ _ _ _)
          refine ⟨_, e1, trivial, ?_⟩
          refine ⟨?_, trivial⟩
          refine ⟨_, ?_, hc.cells 0 rfl, trivial, ?_⟩
          · rfl
          refine ⟨?_, trivial⟩
          obtain ⟨S1, Sa, h1, h2, h3, hO⟩ := hc.row
          refine ⟨(hx Sa _ (fun x hx => hc.ctx.lt x (h2 x hx).1) (hw.free hc.below h2) hO).mono fun en wq hq => ?_⟩
          obtain ⟨e1, hT, Sn, hSn, hO⟩ := hq
          have hc := hc.turnO Stab.true h1 h2 h3 hT hSn hO (ShelfK.stab _ _ _ _ _)
          refine ⟨_, e1, trivial, ?_⟩
          exact ⟨(), ⟨rfl, rfl, rfl, rfl, rfl, trivial⟩, _, hc⟩
        refine ⟨?_, trivial⟩
        refine ⟨_, ?_, hc.cells 0 rfl, trivial, ?_⟩
        · rfl
        refine ⟨?_, trivial⟩
        obtain ⟨S1, Sa, h1, h2, h3, hO⟩ := hc.row
        refine ⟨(hd Sa _ (fun x hx => hc.ctx.lt x (h2 x hx).1) (hw.free hc.below h2) hO).mono fun en wq hq => ?_⟩
        obtain ⟨e1, hT, Sn, hSn, hO⟩ := hq
        have hc := hc.turnO Stab.true h1 h2 h3 hT hSn hO (ShelfK.stab _ _ _ _ _)
        refine ⟨_, e1, trivial, ?_⟩
        refine ⟨?_, trivial⟩
        obtain ⟨S1, Sa, h1, h2, h3, hO⟩ := hc.row
        refine ⟨(hx Sa _ (fun x hx => hc.ctx.lt x (h2 x hx).1) (hw.free hc.below h2) hO).mono fun en wq hq => ?_⟩
        obtain ⟨e1, hT, Sn, hSn, hO⟩ := hq
        have hc := hc.turnO Stab.true h1 h2 h3 hT hSn hO (ShelfK.stab _ _ _ _ _)
        refine ⟨_, e1, trivial, ?_⟩
        exact ⟨(), ⟨rfl, rfl, rfl, rfl, rfl, trivial⟩, _, hc⟩
      refine ⟨?_, trivial⟩
      refine ⟨_, ?_, hc.cells 0 rfl, trivial, ?_⟩
      · rfl
      refine ⟨?_, trivial⟩
      refine ⟨_, ?_, hc.cells 1 rfl, trivial, ?_⟩
      · rfl
      refine ⟨?_, trivial⟩
      obtain ⟨S1, Sa, h1, h2, h3, hO⟩ := hc.row
      refine ⟨(hd Sa _ (fun x hx => hc.ctx.lt x (h2 x hx).1) (hw.free hc.below h2) hO).mono fun en wq hq => ?_⟩
      obtain ⟨e1, hT, Sn, hSn, hO⟩ := hq
      have hc := hc.turnO Stab.true h1 h2 h3 hT hSn hO (ShelfK.stab _ _ _ _ _)
      refine ⟨_, e1, trivial, ?_⟩
      refine ⟨?_, trivial⟩
      obtain ⟨S1, Sa, h1, h2, h3, hO⟩ := hc.row
      refine ⟨(hx Sa _ (fun x hx => hc.ctx.lt x (h2 x hx).1) (hw.free hc.below h2) hO).mono fun en wq hq => ?_⟩
      obtain ⟨e1, hT, Sn, hSn, hO⟩ := hq
      have hc := hc.turnO Stab.true h1 h2 h3 hT hSn hO (ShelfK.stab _ _ _ _ _)
      refine ⟨_, e1, trivial, ?_⟩
      exact ⟨(), ⟨rfl, rfl, rfl, rfl, rfl, trivial⟩, _, hc⟩
    refine ⟨?_, ?_⟩
    · skip
      refine ⟨_, ?_, hc.cells 1 rfl, trivial, ?_⟩
      · rfl
      refine ⟨?_, ?_⟩
      · skip
        obtain ⟨S1, Sa, h1, h2, h3, hO⟩ := hc.row
        refine ⟨(he Sa _ (fun x hx => hc.ctx.lt x (h2 x hx).1) (hw.free hc.below h2) hO).mono fun en wq hq => ?_⟩
        obtain ⟨e1, hT, Sn, hSn, hO⟩ := hq
        have hc := hc.turnO Stab.true h1 h2 h3 hT hSn hO (ShelfK.stab _ _ _ _ _)
        refine ⟨_, e1, trivial, ?_⟩
        refine ⟨?_, ?_⟩
        · skip
          obtain ⟨S1, Sa, h1, h2, h3, hO⟩ := hc.row
          refine ⟨(hd Sa _ (fun x hx => hc.ctx.lt x (h2 x hx).1) (hw.free hc.below h2) hO).mono fun en wq hq => ?_⟩
          obtain ⟨e1, hT, Sn, hSn, hO⟩ := hq
          have hc := hc.turnO Stab.true h1 h2 h3 hT hSn hO (ShelfK.stab _ _ _ _ _)
          refine ⟨_, e1, trivial, ?_⟩
          refine ⟨?_, trivial⟩
          refine ⟨_, ?_, hc.cells 0 rfl, trivial, ?_⟩
          · rfl
          refine ⟨?_, trivial⟩
          obtain ⟨S1, Sa, h1, h2, h3, hO⟩ := hc.row
          refine ⟨(hx Sa _ (fun x hx => hc.ctx.lt x (h2 x hx).1) (hw.free hc.below h2) hO).mono fun en wq hq => ?_⟩
          obtain ⟨e1, hT, Sn, hSn, hO⟩ := hq
          have hc := hc.turnO Stab.true h1 h2 h3 hT hSn hO (ShelfK.stab _ _ _ _ _)
          refine ⟨_, e1, trivial, ?_⟩
          exact ⟨(), ⟨rfl, rfl, rfl, rfl, rfl, trivial⟩, _, hc⟩
        refine ⟨?_, trivial⟩
        refine ⟨_, ?_, hc.cells 0 rfl, trivial, ?_⟩
        · rfl
        refine ⟨?_, trivial⟩
        obtain ⟨S1, Sa, h1, h2, h3, hO⟩ := hc.row
        refine ⟨(hd Sa _ (fun x hx => hc.ctx.lt x (h2 x hx).1) (hw.free hc.below h2) hO).mono fun en wq hq => ?_⟩
        obtain ⟨e1, hT, Sn, hSn, hO⟩ := hq
        have hc := hc.turnO Stab.true h1 h2 h3 hT hSn hO (ShelfK.stab _ _ _ _ _)
        refine ⟨_, e1, trivial, ?_⟩
        refine ⟨?_, trivial⟩
        obtain ⟨S1, Sa, h1, h2, h3, hO⟩ := hc.row
        refine ⟨(hx Sa _ (fun x hx => hc.ctx.lt x (h2 x hx).1) (hw.free hc.below h2) hO).mono fun en wq hq => ?_⟩
        obtain ⟨e1, hT, Sn, hSn, hO⟩ := hq
        have hc := hc.turnO Stab.true h1 h2 h3 hT hSn hO (ShelfK.stab _ _ _ _ _)
        refine ⟨_, e1, trivial, ?_⟩
        exact ⟨(), ⟨rfl, rfl, rfl, rfl, rfl, trivial⟩, _, hc⟩
      refine ⟨?_, trivial⟩
      refine ⟨_, ?_, hc.cells 0 rfl, trivial, ?_⟩
      · rfl
      refine ⟨?_, trivial⟩
      obtain ⟨S1, Sa, h1, h2, h3, hO⟩ := hc.row
      refine ⟨(he Sa _ (fun x hx => hc.ctx.lt x (h2 x hx).1) (hw.free hc.below h2) hO).mono fun en wq hq => ?_⟩
      obtain ⟨e1, hT, Sn, hSn, hO⟩ := hq
      have hc := hc.turnO Stab.true h1 h2 h3 hT hSn hO (ShelfK.stab _ _ _ _ _)
      refine ⟨_, e1, trivial, ?_⟩
      refine ⟨?_, trivial⟩
      obtain ⟨S1, Sa, h1, h2, h3, hO⟩ := hc.row
      refine ⟨(hd Sa _ (fun x hx => hc.ctx.lt x (h2 x hx).1) (hw.free hc.below h2) hO).mono fun en wq hq => ?_⟩
      obtain ⟨e1, hT, Sn, hSn, hO⟩ := hq
      have hc := hc.turnO Stab.true h1 h2 h3 hT hSn hO (ShelfK.stab _ _ _ _ _)
      refine ⟨_, e1, trivial, ?_⟩
      refine ⟨?_, trivial⟩
      obtain ⟨S1, Sa, h1, h2, h3, hO⟩ := hc.row
      refine ⟨(hx Sa _ (fun x hx => hc.ctx.lt x (h2 x hx).1) (hw.free hc.below h2) hO).mono fun en wq hq => ?_⟩
      obtain ⟨e1, hT, Sn, hSn, hO⟩ := hq
      have hc := hc.turnO Stab.true h1 h2 h3 hT hSn hO (ShelfK.stab _ _ _ _ _)
      refine ⟨_, e1, trivial, ?_⟩
      exact ⟨(), ⟨rfl, rfl, rfl, rfl, rfl, trivial⟩, _, hc⟩
    refine ⟨?_, trivial⟩
    refine ⟨_, ?_, hc.cells 0 rfl, trivial, ?_⟩
    · rfl
    refine ⟨?_, ?_⟩
    · skip
      obtain ⟨S1, Sa, h1, h2, h3, hO⟩ := hc.row
      refine ⟨(he Sa _ (fun x hx => hc.ctx.lt x (h2 x hx).1) (hw.free hc.below h2) hO).mono fun en wq hq => ?_⟩
      obtain ⟨e1, hT, Sn, hSn, hO⟩ := hq
      have hc := hc.turnO Stab.true h1 h2 h3 hT hSn hO (ShelfK.stab _ _ _ _ _)
      refine ⟨_, e1, trivial, ?_⟩
      refine ⟨?_, trivial⟩
      refine ⟨_, ?_, hc.cells 1 rfl, trivial, ?_⟩
      · rfl
      refine ⟨?_, trivial⟩
      obtain ⟨S1, Sa, h1, h2, h3, hO⟩ := hc.row
      refine ⟨(hd Sa _ (fun x hx => hc.ctx.lt x (h2 x hx).1) (hw.free hc.below h2) hO).mono fun en wq hq => ?_⟩
      obtain ⟨e1, hT, Sn, hSn, hO⟩ := hq
      have hc := hc.turnO Stab.true h1 h2 h3 hT hSn hO (ShelfK.stab _ _ _ _ _)
      refine ⟨_, e1, trivial, ?_⟩
      refine ⟨?_, trivial⟩
      obtain ⟨S1, Sa, h1, h2, h3, hO⟩ := hc.row
      refine ⟨(hx Sa _ (fun x hx => hc.ctx.lt x (h2 x hx).1) (hw.free hc.below h2) hO).mono fun en wq hq => ?_⟩
      obtain ⟨e1, hT, Sn, hSn, hO⟩ := hq
      have hc := hc.turnO Stab.true h1 h2 h3 hT hSn hO (ShelfK.stab _ _ _ _ _)
      refine ⟨_, e1, trivial, ?_⟩
      exact ⟨(), ⟨rfl, rfl, rfl, rfl, rfl, trivial⟩, _, hc⟩
    refine ⟨?_, trivial⟩
    refine ⟨_, ?_, hc.cells 1 rfl, trivial, ?_⟩
    · rfl
    refine ⟨?_, trivial⟩
    obtain ⟨S1, Sa, h1, h2, h3, hO⟩ := hc.row
    refine ⟨(he Sa _ (fun x hx => hc.ctx.lt x (h2 x hx).1) (hw.free hc.below h2) hO).mono fun en wq hq => ?_⟩
    obtain ⟨e1, hT, Sn, hSn, hO⟩ := hq
    have hc := hc.turnO Stab.true h1 h2 h3 hT hSn hO (ShelfK.stab _ _ _ _ _)
    refine ⟨_, e1, trivial, ?_⟩
    refine ⟨?_, trivial⟩
    obtain ⟨S1, Sa, h1, h2, h3, hO⟩ := hc.row
    refine ⟨(hd Sa _ (fun x hx => hc.ctx.lt x (h2 x hx).1) (hw.free hc.below h2) hO).mono fun en wq hq => ?_⟩
    obtain ⟨e1, hT, Sn, hSn, hO⟩ := hq
    have hc := hc.turnO Stab.true h1 h2 h3 hT hSn hO (ShelfK.stab _ _ _ _ _)
    refine ⟨_, e1, trivial, ?_⟩
    refine ⟨?_, trivial⟩
    obtain ⟨S1, Sa, h1, h2, h3, hO⟩ := hc.row
    refine ⟨(hx Sa _ (fun x hx => hc.ctx.lt x (h2 x hx).1) (hw.free hc.below h2) hO).mono fun en wq hq => ?_⟩
    obtain ⟨e1, hT, Sn, hSn, hO⟩ := hq
    have hc := hc.turnO Stab.true h1 h2 h3 hT hSn hO (ShelfK.stab _ _ _ _ _)
    refine ⟨_, e1, trivial, ?_⟩
    exact ⟨(), ⟨rfl, rfl, rfl, rfl, rfl, trivial⟩, _, hc⟩
  clear hc
  rintro ⟨⟩ u wS ⟨S2, hc⟩
  have hcm := fun Sa w hlt he hK => scommit_any gs gj gc b G3 G3ok 1 (by unfold i64ok; decide) Sa w hlt he hK
  rw [cm8] at hcm
  obtain ⟨S1, Sa, h1, h2, h3, hO⟩ := hc.row
  refine ⟨(hcm Sa _ (fun x hx => hc.ctx.lt x (h2 x hx).1) (hw.free hc.below h2) hO).mono fun en wq hq => ?_⟩
  obtain ⟨A1, c1, e1, hT, Sn, Sl, hSn, hO, hSl, hX⟩ := hq
  obtain ⟨S3, hc⟩ := hc.turnR Stab.true h1 h2 h3 hT hSn hO hSl (X := fun S w => Row S w A1 1 c1 ([(⟨0, 1⟩ : Res)].map resC).flatten) hX (ShelfK.stab _ _ _ _ _) (fun _ _ _ _ h f => h.fut f)
  refine ⟨_, e1, ?_⟩
  refine ⟨(tearS_any gs gj gc b G4 G4ok 0 _ _ (hc.row.right (ShelfK.stab _ _ _ _ _))).mono fun en wq hq => ?_⟩
  obtain ⟨g2, b2, L, e1, hq, hO2, hL1, hL2⟩ := hq
  have hc := hc.sepNew hq hO2 (ChestK.stab _ _ _)
  refine ⟨_, e1, ?_⟩
  obtain ⟨i, hi1, hi2, hop⟩ := sopenT_any G4ok hL1 hL2
  have hi1 : 3 ≤ i := hi1
  have hi2 : i ≤ 4 := hi2
  have sX : Stab (fun S w => True ∧ Row S w A1 1 c1 ([(⟨0, 1⟩ : Res)].map resC).flatten) := Stab.true.and (fun _ _ _ _ h f => h.fut f)
  obtain ⟨S1, Sa, h1, h2, h3, hO⟩ := hc.row
  refine ⟨(hop g2 b2 Sa _ (fun x hx => hc.ctx.lt x (h2 x hx).1) (hw.free hc.below h2) hO).mono fun en wq hq => ?_⟩
  obtain ⟨gt, gk, e1, hT, Sn, hSn, hO⟩ := hq
  have hc := (hc.turnO (Sep.stab sX (ShelfK.stab _ _ _ _ _)) h1 h2 h3 hT hSn hO (ShelfK.stab _ _ _ _ _)).now Sep.swap (Sep.stab (Sep.stab sX (ShelfK.stab _ _ _ _ _)) (ShelfK.stab _ _ _ _ _))
  refine ⟨_, e1, ?_⟩
  have sT : Stab (Sep w.heap.size (fun S w => True ∧ Row S w A1 1 c1 ([(⟨0, 1⟩ : Res)].map resC).flatten) (ShelfK gt gk g2 b2 (G4.cut i))) := Sep.stab sX (ShelfK.stab _ _ _ _ _)
  have hcm := fun Sa w hlt he hK => scommit_any gs gj gc b G4 G4ok 9 (by unfold i64ok; decide) Sa w hlt he hK
  rw [cn8] at hcm
  obtain ⟨S1, Sa, h1, h2, h3, hO⟩ := hc.row
  refine ⟨(hcm Sa _ (fun x hx => hc.ctx.lt x (h2 x hx).1) (hw.free hc.below h2) hO).mono fun en wq hq => ?_⟩
  obtain ⟨A2, c2, e1, hT, Sn, Sl, hSn, hO, hSl, hX⟩ := hq
  have hc := hc.turnO sT h1 h2 h3 hT hSn hO (ShelfK.stab _ _ _ _ _)
  refine ⟨_, e1, ?_⟩
  refine call_b (Begun4_any _ (hw.below hc.below)) ?_
  intro wQ hQ
  have hc := (hc.quiet hQ).1
  refine call_b (Begun5_any _ (hw.below hc.below)) ?_
  intro wQ hQ
  have hc := (hc.quiet hQ).1
  obtain ⟨ad, rfl, _, hcell⟩ := ((hc.row.left sT).left sX).2.2.2 (by simp [resC])
  refine ⟨⟨by decide, by decide⟩, ?_⟩
  refine ⟨_, hcell 1 _ rfl, ?_⟩
  refine ⟨(Book_any gs gj gc b G4 G4ok _ _ (hc.row.right (ShelfK.stab _ _ _ _ _))).mono fun en wq hq => ?_⟩
  obtain ⟨cB, e1, hq, hrB⟩ := hq
  obtain ⟨xB, rfl⟩ := hrB.stX
  have hc := (hc.quiet hq).1
  refine ⟨_, e1, ?_⟩
  refine ⟨(Pend_any gs gj gc b G4 G4ok _ _ (hc.row.right (ShelfK.stab _ _ _ _ _))).mono fun en wq hq => ?_⟩
  obtain ⟨A3, c3, e1, hq, _⟩ := hq
  have hc := (hc.quiet hq).1
  refine ⟨_, e1, ?_⟩
  have hq4 : G4.k.seq = 2 := by kernel_rfl
  have hqT : (G4.cut i).k.seq = 2 := by
    rcases (by omega : i = 3 ∨ i = 4) with rfl | rfl
    · kernel_rfl
    · kernel_rfl
  have heT : (G4.cut i).k.ep = 3 := by
    rcases (by omega : i = 3 ∨ i = 4) with rfl | rfl
    · kernel_rfl
    · kernel_rfl
  have hlT : G4.k.ln = 0 := by kernel_rfl
  have hsq := Seq_any gs gj gc b G4 G4ok _ _ (hc.row.right (ShelfK.stab _ _ _ _ _))
  rw [hq4] at hsq
  refine call_b (hsq) ?_
  intro wQ hQ
  have hc := (hc.quiet hQ).1
  have hsq := Seq_any gt gk g2 b2 (G4.cut i) (G4ok.cut i hi2) _ _ ((hc.row.left sT).right (ShelfK.stab _ _ _ _ _))
  rw [hqT] at hsq
  refine call_b (hsq) ?_
  intro wQ hQ
  have hc := (hc.quiet hQ).1
  have hep := Epoch_any gt gk g2 b2 (G4.cut i) _ _ ((hc.row.left sT).right (ShelfK.stab _ _ _ _ _))
  rw [heT] at hep
  refine call_b (hep) ?_
  intro wQ hQ
  have hc := (hc.quiet hQ).1
  have he := fun Sa w hlt he hK => senter_any gs gj gc b G4 G4ok 3 (by unfold i64ok; decide) Sa w hlt he hK
  rw [eo8] at he
  obtain ⟨S1, Sa, h1, h2, h3, hO⟩ := hc.row
  refine ⟨(he Sa _ (fun x hx => hc.ctx.lt x (h2 x hx).1) (hw.free hc.below h2) hO).mono fun en wq hq => ?_⟩
  obtain ⟨e1, hT, Sn, hSn, hO⟩ := hq
  have hc := hc.turnO (sT) h1 h2 h3 hT hSn hO (ShelfK.stab _ _ _ _ _)
  refine ⟨_, e1, ?_⟩
  have hd := fun Sa w hlt he hK => sadd_any gs gj gc b G4 G4ok D0 D0_ok8 Sa w hlt he hK
  rw [az8] at hd
  obtain ⟨S1, Sa, h1, h2, h3, hO⟩ := hc.row
  refine ⟨(hd Sa _ (fun x hx => hc.ctx.lt x (h2 x hx).1) (hw.free hc.below h2) hO).mono fun en wq hq => ?_⟩
  obtain ⟨e1, hT, Sn, hSn, hO⟩ := hq
  have hc := hc.turnO (sT) h1 h2 h3 hT hSn hO (ShelfK.stab _ _ _ _ _)
  refine ⟨_, e1, ?_⟩
  have hln := Learnt_any gs gj gc b G4 _ _ (hc.row.right (ShelfK.stab _ _ _ _ _))
  rw [hlT] at hln
  refine call_b (hln) ?_
  intro wQ hQ
  have hc := (hc.quiet hQ).1
  exact ⟨rfl, hc.below⟩
end Go.Proofs.YtokglimimnelaaaGreatDoor
namespace Go.Proofs.YtokglimimnelaaaGreatDoor
open Go.Vc Go.RowKit Go.Fl
set_option maxRecDepth 100000
structure Fit (H : Sh) (n : Nat) : Prop where
  ok : H.Ok
  down : H.down = false
  tot : H.tot = 1048576
  len : H.txt.length ≤ 271000 + 1200 * n
theorem Fit.mono {H : Sh} {n m : Nat} (h : Fit H n) (hm : n ≤ m) : Fit H m := ⟨h.ok, h.down, h.tot, Nat.le_trans h.len (by omega)⟩
theorem Fit.room {H : Sh} {n : Nat} (h : Fit H n) (hn : n ≤ 400) : 290000 ≤ H.room := by
  have h1 := h.len
  have h2 := h.tot
  unfold Sh.room
  omega
theorem Fit.h0 : Fit (H0 1048576) 0 := ⟨H0.ok (by decide), rfl, rfl, by rw [H0.txt]; have h1 := leafN_E; unfold leafN at h1; omega⟩
theorem leafR_le {r : Rc} (h : r.Ok) : leafN (txtR r) ≤ 1130 := by
  have h1 := txtR_size h
  have h2 := (leafN_le (txtR r) (by omega)).2
  omega
theorem leafK_le {k : Known} (h : k.Ok) : leafN ⟨(textK k).toArray⟩ ≤ 270100 := by
  have h1 := textK_len h
  have hs : (⟨(textK k).toArray⟩ : ByteArray).size ≤ 270009 := by
    show (textK k).toArray.size ≤ _
    rw [List.size_toArray]
    exact h1
  have h2 := (leafN_le ⟨(textK k).toArray⟩ (by omega)).2
  omega
theorem Fit.write {H : Sh} {n : Nat} (h : Fit H n) (hn : n ≤ 400) {r : Rc} (hr : r.Ok) (hc : canR H.k r) (p : Bool) : Fit (H.write r p) (n + 1) := by
  have h1 := leafR_le hr
  have h2 := h.room hn
  refine ⟨h.ok.write hr hc p (by omega), h.down, h.tot, ?_⟩
  rw [Sh.write_txt, List.length_append]
  have h3 := h.len
  unfold leafN at h1
  omega
theorem Fit.lay {H : Sh} {n : Nat} (h : Fit H n) (hn : n ≤ 400) {k : Known} (hk : k.Ok) : Fit (H.lay k) 0 := by
  have h1 := leafK_le hk
  have h2 := h.room hn
  refine ⟨h.ok.lay hk (by omega), h.down, h.tot, ?_⟩
  rw [Sh.lay_txt]
  unfold leafN at h1
  omega
theorem Fit.cut {H : Sh} {n : Nat} (h : Fit H n) (i : Nat) (hi : i ≤ H.l.length) : Fit (H.cut i) n := by
  refine ⟨h.ok.cut i hi, rfl, h.tot, ?_⟩
  have h1 := leavesL_take_le H.texts (i + 1)
  have h2 := h.len
  unfold Sh.txt at *
  rw [Sh.cut_texts]
  omega
theorem Fit.record {H : Sh} {n : Nat} (h : Fit H n) (hn : n ≤ 400) {r : Rc} (hr : r.Ok) (p : Bool) : recE H r = 0 ∧ recS H r p = H.write r p := by
  have h1 := leafR_le hr
  have h2 := h.room hn
  unfold recE recS
  rw [if_neg (by omega), if_neg (by omega)]
  exact ⟨rfl, rfl⟩
theorem Fit.add {H : Sh} {n : Nat} (h : Fit H n) (hn : n ≤ 400) {d : D} (hd : d.Ok) :
    (mayD d = true ∧ canR H.k (.add d) ∧ addH H d = (H.write (.add d) true, 0)) ∨ (mayD d = true ∧ ¬ canR H.k (.add d) ∧ addH H d = (H, 5)) ∨ (mayD d = false ∧ addH H d = (H, 1)) := by
  unfold addH
  rw [h.down, if_neg (by decide)]
  cases hm : mayD d with
  | false =>
    refine .inr (.inr ⟨rfl, ?_⟩)
    have e : addKE H.k d = 1 := by unfold addKE; rw [hm]; rfl
    rw [e, if_neg (by decide)]
  | true =>
    by_cases hc : 60 ≤ H.k.pend.length ∨ maxN ≤ H.k.seq
    · have e : addKE H.k d = 5 := by unfold addKE; rw [hm, if_pos rfl, if_pos hc]
      refine .inr (.inl ⟨rfl, fun hcan => ?_, ?_⟩)
      · obtain ⟨a, b⟩ := hcan
        omega
      · rw [e, if_neg (by decide)]
    · have e : addKE H.k d = 0 := by unfold addKE; rw [hm, if_pos rfl, if_neg hc]
      obtain ⟨h1, h2⟩ := h.record hn (r := .add d) ⟨hm, hd⟩ true
      refine .inl ⟨rfl, ⟨by omega, by omega⟩, ?_⟩
      rw [if_pos e, h1, h2]
theorem write_add_k (H : Sh) (d : D) (p : Bool) : (H.write (.add d) p).k = ⟨H.k.b, H.k.pend ++ [d], H.k.ep, H.k.ln⟩ := Sh.write_k _ _ _
theorem write_done_k (H : Sh) (n : Int) (p : Bool) : (H.write (.done n) p).k = (commitK H.k n).1 := Sh.write_k _ _ _
theorem Fit.commit {H : Sh} {n : Nat} (h : Fit H n) (hn : n ≤ 400) {m : Int} (hm : i64ok m) :
    (H.k.seq < m ∧ commitH H m = (H, [], 4)) ∨ (m ≤ H.k.seq ∧ (commitK H.k m).2 = [] ∧ commitH H m = (H, [], 0) ∧ (commitK H.k m).1 = H.k) ∨ (m ≤ H.k.seq ∧ commitH H m = (H.write (.done m) false, (commitK H.k m).2, 0)) := by
  unfold commitH
  rw [h.down, if_neg (by decide)]
  by_cases h1 : H.k.seq < m
  · rw [if_pos h1]
    exact .inl ⟨h1, rfl⟩
  rw [if_neg h1]
  by_cases h2 : (commitK H.k m).2.length = 0
  · rw [if_pos h2]
    have h3 := List.eq_nil_of_length_eq_zero h2
    refine .inr (.inl ⟨by omega, h3, rfl, ?_⟩)
    have e : (resS H.k.b (H.k.pend.take (m - H.k.b.seq).toNat)).length = 0 := h2
    rw [resS_len] at e
    have e2 := List.eq_nil_of_length_eq_zero e
    have e3 : H.k.pend.drop (m - H.k.b.seq).toNat = H.k.pend := by
      have := List.take_append_drop (m - H.k.b.seq).toNat H.k.pend
      rw [e2, List.nil_append] at this
      exact this
    unfold commitK
    rw [e2, e3]
    rfl
  · rw [if_neg h2]
    have h3 := leafR_le (r := .done m) hm
    have h4 := h.room hn
    rw [if_neg (by omega)]
    exact .inr (.inr ⟨by omega, rfl⟩)
theorem Fit.done {H : Sh} {n : Nat} (h : Fit H n) (hn : n ≤ 400) {m : Int} (hm : i64ok m) (hs : m ≤ H.k.seq) :
    ∃ H', commitH H m = (H', (commitK H.k m).2, 0) ∧ H'.k = (commitK H.k m).1 ∧ Fit H' (n + 1) ∧ (H' = H ∨ H' = H.write (.done m) false) := by
  rcases h.commit hn hm with ⟨h1, _⟩ | ⟨_, h2, h3, h4⟩ | ⟨_, h2⟩
  · omega
  · exact ⟨H, by rw [h3, h2], h4.symm, h.mono (by omega), .inl rfl⟩
  · exact ⟨_, h2, write_done_k H m false, h.write hn (r := .done m) hm hs false, .inr rfl⟩
theorem commit_len (k : Known) (m : Int) : (commitK k m).2.length = min (m - k.b.seq).toNat k.pend.length ∧ (commitK k m).1.pend.length = k.pend.length - (m - k.b.seq).toNat := by
  unfold commitK
  rw [resS_len, List.length_take]
  exact ⟨rfl, List.length_drop ..⟩
end Go.Proofs.YtokglimimnelaaaGreatDoor
