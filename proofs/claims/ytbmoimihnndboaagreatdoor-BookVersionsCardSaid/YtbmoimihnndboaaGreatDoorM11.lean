import Derived.Test.YtbmoimihnndboaaGreatDoorM10
set_option linter.unusedVariables false
set_option linter.unusedSimpArgs false
namespace Go.Proofs.YtbmoimihnndboaaGreatDoor
open Go.Vc Go.RowKit Go.Fl
theorem bnum_any (n : Int) (w : World) : Calls Tryz.prog 111 #[.int .i64 n] w (RetB (.agg #[.int .i64 1, .int .i64 n, .string ⟨#[]⟩, .slice none 0 0]) w) := by
  refine calls_vc lay_ok Tryz.func111 rfl (by kernel_rfl) (by kernel_rfl) ?_
  have hc := Ctx.start w no (fun _ h => h.elim)
  repeat (first | (intro gA wA hA; have hc := (hc.loc hA).1) | refine ⟨_, hc.cell 0 rfl _ rfl, ?_⟩ | (refine ⟨_, ?_, hc.cells 0 rfl, ?_⟩; (· rfl)) | (refine ⟨hc.may 0 rfl _ _ (nle rfl) rfl, ?_⟩; intro wA hA; have hc := (hc.set 0 rfl hA).1) | refine ⟨_, hc.cell 1 rfl _ rfl, ?_⟩ | (refine ⟨_, ?_, hc.cells 1 rfl, ?_⟩; (· rfl)) | (refine ⟨hc.may 1 rfl _ _ (nle rfl) rfl, ?_⟩; intro wA hA; have hc := (hc.set 1 rfl hA).1) | refine ⟨_, hc.cell 2 rfl _ rfl, ?_⟩ | (refine ⟨_, ?_, hc.cells 2 rfl, ?_⟩; (· rfl)) | (refine ⟨hc.may 2 rfl _ _ (nle rfl) rfl, ?_⟩; intro wA hA; have hc := (hc.set 2 rfl hA).1) | refine ⟨_, hc.cell 3 rfl _ rfl, ?_⟩ | (refine ⟨_, ?_, hc.cells 3 rfl, ?_⟩; (· rfl)) | (refine ⟨hc.may 3 rfl _ _ (nle rfl) rfl, ?_⟩; intro wA hA; have hc := (hc.set 3 rfl hA).1) | refine ⟨_, hc.cell 4 rfl _ rfl, ?_⟩ | (refine ⟨_, ?_, hc.cells 4 rfl, ?_⟩; (· rfl)) | (refine ⟨hc.may 4 rfl _ _ (nle rfl) rfl, ?_⟩; intro wA hA; have hc := (hc.set 4 rfl hA).1))
  exact ⟨rfl, hc.below⟩
theorem bstr_any (s : ByteArray) (w : World) : Calls Tryz.prog 113 #[.string s] w (RetB (.agg #[.int .i64 2, .int .i64 0, .string s, .slice none 0 0]) w) := by
  refine calls_vc lay_ok Tryz.func113 rfl (by kernel_rfl) (by kernel_rfl) ?_
  have hc := Ctx.start w no (fun _ h => h.elim)
  repeat (first | (intro gA wA hA; have hc := (hc.loc hA).1) | refine ⟨_, hc.cell 0 rfl _ rfl, ?_⟩ | (refine ⟨_, ?_, hc.cells 0 rfl, ?_⟩; (· rfl)) | (refine ⟨hc.may 0 rfl _ _ (nle rfl) rfl, ?_⟩; intro wA hA; have hc := (hc.set 0 rfl hA).1) | refine ⟨_, hc.cell 1 rfl _ rfl, ?_⟩ | (refine ⟨_, ?_, hc.cells 1 rfl, ?_⟩; (· rfl)) | (refine ⟨hc.may 1 rfl _ _ (nle rfl) rfl, ?_⟩; intro wA hA; have hc := (hc.set 1 rfl hA).1) | refine ⟨_, hc.cell 2 rfl _ rfl, ?_⟩ | (refine ⟨_, ?_, hc.cells 2 rfl, ?_⟩; (· rfl)) | (refine ⟨hc.may 2 rfl _ _ (nle rfl) rfl, ?_⟩; intro wA hA; have hc := (hc.set 2 rfl hA).1) | refine ⟨_, hc.cell 3 rfl _ rfl, ?_⟩ | (refine ⟨_, ?_, hc.cells 3 rfl, ?_⟩; (· rfl)) | (refine ⟨hc.may 3 rfl _ _ (nle rfl) rfl, ?_⟩; intro wA hA; have hc := (hc.set 3 rfl hA).1) | refine ⟨_, hc.cell 4 rfl _ rfl, ?_⟩ | (refine ⟨_, ?_, hc.cells 4 rfl, ?_⟩; (· rfl)) | (refine ⟨hc.may 4 rfl _ _ (nle rfl) rfl, ?_⟩; intro wA hA; have hc := (hc.set 4 rfl hA).1))
  exact ⟨rfl, hc.below⟩
theorem brow_any (A : Option Addr) (n cap : Nat) (w : World) : Calls Tryz.prog 110 #[.slice A n cap] w (RetB (.agg #[.int .i64 3, .int .i64 0, .string ⟨#[]⟩, .slice A n cap]) w) := by
  refine calls_vc lay_ok Tryz.func110 rfl (by kernel_rfl) (by kernel_rfl) ?_
  have hc := Ctx.start w no (fun _ h => h.elim)
  repeat (first | (intro gA wA hA; have hc := (hc.loc hA).1) | refine ⟨_, hc.cell 0 rfl _ rfl, ?_⟩ | (refine ⟨_, ?_, hc.cells 0 rfl, ?_⟩; (· rfl)) | (refine ⟨hc.may 0 rfl _ _ (nle rfl) rfl, ?_⟩; intro wA hA; have hc := (hc.set 0 rfl hA).1) | refine ⟨_, hc.cell 1 rfl _ rfl, ?_⟩ | (refine ⟨_, ?_, hc.cells 1 rfl, ?_⟩; (· rfl)) | (refine ⟨hc.may 1 rfl _ _ (nle rfl) rfl, ?_⟩; intro wA hA; have hc := (hc.set 1 rfl hA).1) | refine ⟨_, hc.cell 2 rfl _ rfl, ?_⟩ | (refine ⟨_, ?_, hc.cells 2 rfl, ?_⟩; (· rfl)) | (refine ⟨hc.may 2 rfl _ _ (nle rfl) rfl, ?_⟩; intro wA hA; have hc := (hc.set 2 rfl hA).1) | refine ⟨_, hc.cell 3 rfl _ rfl, ?_⟩ | (refine ⟨_, ?_, hc.cells 3 rfl, ?_⟩; (· rfl)) | (refine ⟨hc.may 3 rfl _ _ (nle rfl) rfl, ?_⟩; intro wA hA; have hc := (hc.set 3 rfl hA).1) | refine ⟨_, hc.cell 4 rfl _ rfl, ?_⟩ | (refine ⟨_, ?_, hc.cells 4 rfl, ?_⟩; (· rfl)) | (refine ⟨hc.may 4 rfl _ _ (nle rfl) rfl, ?_⟩; intro wA hA; have hc := (hc.set 4 rfl hA).1))
  exact ⟨rfl, hc.below⟩
theorem truth_any (b : Bool) (w : World) : Calls Tryz.prog 112 #[.bool b] w (RetB (.int .i64 (if b then 1 else 0)) w) := by
  refine calls_vc lay_ok Tryz.func112 rfl (by kernel_rfl) (by kernel_rfl) ?_
  cases b
  · exact ⟨rfl, Below.refl _ _⟩
  · exact ⟨rfl, Below.refl _ _⟩
theorem stab_C (v : V) (cs : List Value) : Stab (fun S w => RepC S w v cs) := fun _ _ _ _ h f => h.fut f
theorem stab_L (l : List V) (xs : List Value) : Stab (fun S w => RepL S w l xs) := fun _ _ _ _ h f => h.fut f
def verVC (v : Ver) : List Value := leaf 1 v.ver ⟨#[]⟩ ++ (leaf 1 (if v.gone then 1 else 0) ⟨#[]⟩ ++ (leaf 2 0 v.body ++ []))
theorem verVC_rep (S : Nat → Prop) (w : World) (v : Ver) : RepL S w (vL (vVer v)) (verVC v) := .cons (.leaf ..) (.cons (.leaf ..) (.cons (.leaf ..) (.nil _ _)))
def memVC (m : Mem) : List Value := leaf 1 m.req ⟨#[]⟩ ++ (leaf 1 m.res.err ⟨#[]⟩ ++ (leaf 1 m.res.ver ⟨#[]⟩ ++ []))
theorem memVC_rep (S : Nat → Prop) (w : World) (m : Mem) : RepL S w (vL (vMem m)) (memVC m) := .cons (.leaf ..) (.cons (.leaf ..) (.cons (.leaf ..) (.nil _ _)))
theorem put1_any (v : Ver) (w : World) : Calls Tryz.prog 109 #[.agg (verC v).toArray] w (RetV (vVer v) w) := by
  refine calls_vc lay_ok Tryz.func109 rfl (by kernel_rfl) (by kernel_rfl) ?_
  intro g1 w1 h1
  have hc := ((Ctx.start w no (fun _ h => h.elim)).loc h1).1
  intro g2 w3 h3
  have hc := (hc.loc h3).1
  have b1 := hc.blk 1 rfl
  have hlt : ∀ b, (fun b => b = g1) b → b < w3.heap.size := fun b e => by subst e; exact b1.lt
  refine drawn lay_ok (by kernel_rfl) (.q 0 (.q 1 (.q 3 (.q 4 (.q 7 (.q 8 (.n 2 (.n 5 (.n 6 (.n 9 (.n 10 (.n 11 (.z 12) .stop) .stop) .stop) .stop) .stop) .stop))))))) (Keeps (fun b => b = g1) w3) (by kernel_rfl) (Keeps.start _ _) ?_
  have hk := Keeps.start (fun b => b = g1) w3
  have hc := hc.drew
  iterate 3 refine ⟨_, fun x hx => hx.cell b1 rfl rfl, ?_⟩
  refine ⟨?_, trivial⟩
  refine call_b (bnum_any v.ver _) ?_
  intro wq hq
  have hc := (hc.quiet hq).1
  have hk := hk.below hlt hq
  refine ⟨hk, ?_⟩
  refine ⟨?_, trivial⟩
  refine call_b (truth_any v.gone _) ?_
  intro wq hq
  have hc := (hc.quiet hq).1
  have hk := hk.below hlt hq
  refine ⟨hk, ?_⟩
  refine ⟨?_, trivial⟩
  refine call_b (bnum_any (if v.gone then 1 else 0) _) ?_
  intro wq hq
  have hc := (hc.quiet hq).1
  have hk := hk.below hlt hq
  refine ⟨hk, ?_⟩
  refine ⟨?_, trivial⟩
  refine call_b (bstr_any v.body _) ?_
  intro wq hq
  have hc := (hc.quiet hq).1
  have hk := hk.below hlt hq
  refine ⟨hk, ?_⟩
  refine ⟨?_, trivial⟩
  intro g3 w4 h4
  refine ⟨hk.below hlt h4.below, ?_⟩
  have hk := hk.below hlt h4.below
  have hC := hc.call h4.below
  have hc := hC.1
  have hrow : Row (ext no _ w4) w4 (some ⟨g3, 0, none⟩) 3 3 (verVC v) := (h4.row 3 (by decide)).sub fun b e => by
    subst e
    exact .inr ⟨Nat.le_of_eq h4.1.symm, h4.blk.lt⟩
  refine ⟨?_, trivial⟩
  refine call_b (brow_any (some ⟨g3, 0, none⟩) 3 3 _) ?_
  intro w6 h6
  refine ⟨hk.below hlt h6, ?_⟩
  have hC := hc.quiet h6
  have hc := hC.1
  have hrow := hrow.fut hC.2
  refine ⟨hc.may 0 rfl 0 _ (Nat.le_refl 4) rfl, ?_⟩
  intro w5 h5
  have hC := hc.set 0 rfl h5
  have hc := hC.1
  refine ⟨_, ?_, hc.cells 0 rfl, ?_⟩
  · rfl
  refine ⟨3, 0, ⟨#[]⟩, some ⟨g3, 0, none⟩, 3, 3, rfl, hc.below, ?_⟩
  rw [vVer, vRow, RepC]
  exact ⟨some ⟨g3, 0, none⟩, 3, verVC v, rfl, verVC_rep _ _ v, (hrow.fut hC.2).fut hc.out⟩
theorem put3_any (m : Mem) (w : World) : Calls Tryz.prog 116 #[.agg (memC m).toArray] w (RetV (vMem m) w) := by
  refine calls_vc lay_ok Tryz.func116 rfl (by kernel_rfl) (by kernel_rfl) ?_
  intro g1 w1 h1
  have hc := ((Ctx.start w no (fun _ h => h.elim)).loc h1).1
  intro g2 w3 h3
  have hc := (hc.loc h3).1
  have b1 := hc.blk 1 rfl
  have hlt : ∀ b, (fun b => b = g1) b → b < w3.heap.size := fun b e => by subst e; exact b1.lt
  refine drawn lay_ok (by kernel_rfl) (.q 0 (.q 1 (.q 3 (.q 4 (.q 5 (.q 7 (.q 8 (.q 9 (.n 2 (.n 6 (.n 10 (.n 11 (.n 12 (.z 13) .stop) .stop) .stop) .stop) .stop))))))))) (Keeps (fun b => b = g1) w3) (by kernel_rfl) (Keeps.start _ _) ?_
  have hk := Keeps.start (fun b => b = g1) w3
  have hc := hc.drew
  iterate 3 refine ⟨_, fun x hx => hx.cell b1 rfl rfl, ?_⟩
  refine ⟨?_, trivial⟩
  refine call_b (bnum_any m.req _) ?_
  intro wq hq
  have hc := (hc.quiet hq).1
  have hk := hk.below hlt hq
  refine ⟨hk, ?_⟩
  refine ⟨?_, trivial⟩
  refine call_b (bnum_any m.res.err _) ?_
  intro wq hq
  have hc := (hc.quiet hq).1
  have hk := hk.below hlt hq
  refine ⟨hk, ?_⟩
  refine ⟨?_, trivial⟩
  refine call_b (bnum_any m.res.ver _) ?_
  intro wq hq
  have hc := (hc.quiet hq).1
  have hk := hk.below hlt hq
  refine ⟨hk, ?_⟩
  refine ⟨?_, trivial⟩
  intro g3 w4 h4
  refine ⟨hk.below hlt h4.below, ?_⟩
  have hk := hk.below hlt h4.below
  have hC := hc.call h4.below
  have hc := hC.1
  have hrow : Row (ext no _ w4) w4 (some ⟨g3, 0, none⟩) 3 3 (memVC m) := (h4.row 3 (by decide)).sub fun b e => by
    subst e
    exact .inr ⟨Nat.le_of_eq h4.1.symm, h4.blk.lt⟩
  refine ⟨?_, trivial⟩
  refine call_b (brow_any (some ⟨g3, 0, none⟩) 3 3 _) ?_
  intro w6 h6
  refine ⟨hk.below hlt h6, ?_⟩
  have hC := hc.quiet h6
  have hc := hC.1
  have hrow := hrow.fut hC.2
  refine ⟨hc.may 0 rfl 0 _ (Nat.le_refl 4) rfl, ?_⟩
  intro w5 h5
  have hC := hc.set 0 rfl h5
  have hc := hC.1
  refine ⟨_, ?_, hc.cells 0 rfl, ?_⟩
  · rfl
  refine ⟨3, 0, ⟨#[]⟩, some ⟨g3, 0, none⟩, 3, 3, rfl, hc.below, ?_⟩
  rw [vMem, vRow, RepC]
  exact ⟨some ⟨g3, 0, none⟩, 3, memVC m, rfl, memVC_rep _ _ m, (hrow.fut hC.2).fut hc.out⟩
set_option maxHeartbeats 1000000 in
theorem listVer_any (l : List Ver) (A : Option Addr) (cap : Nat) (S0 : Nat → Prop) (w : World)  (hR : Row S0 w A l.length cap ((l.map verC).flatten)) (hn : l.length ≤ 1000000) :
    Calls Tryz.prog 115 #[.slice A l.length cap, .func (.func 109) #[] #[]] w (RetV (vRow (l.map vVer)) w) := by
  refine calls_vc lay_ok Tryz.func115 rfl (by kernel_rfl) (by kernel_rfl) ?_
  intro g4 w1 h1
  have hc := ((CtxF.start w no (fun _ h => h.elim) (R := fun S w => RepL S w [] []) (.nil _ _) (stab_L _ _)).loc h1).1
  intro g5 w2 h2
  have hc := (hc.loc h2).1
  refine ⟨hc.may 0 rfl 0 _ (Nat.le_refl 4) rfl, ?_⟩
  intro w3 h3
  have hc := (hc.set 0 rfl h3).1
  have hc := hc.nil 35 4
  refine ⟨Nat, fun i => [(1, .func (.func 109) #[] #[]), (4, .pointer (some ⟨g4, 0, none⟩)), (5, .pointer (some ⟨g5, 0, none⟩)), (9, .slice A l.length cap), (10, .int .i64 l.length), (11, .int .i64 i)],
    fun i w' => i ≤ l.length ∧ ∃ S A' cap' xs, CtxF no w S w' [(g5, 35, [.int .i64 3, .int .i64 0, .string ⟨#[]⟩, .slice A' i cap']), (g4, 35, (lay.ty 35).zero)] [⟨35, 4, A', i, cap', xs⟩] (fun S w => RepL S w ((l.take i).map vVer) xs),
    fun i _ => l.length - i, 0, ⟨rfl, rfl, rfl, rfl, rfl, rfl, trivial⟩, ⟨Nat.zero_le _, no, none, 0, [], hc⟩, ?_⟩
  clear hc
  rintro i w4 u ⟨hi, S, A', cap', xs, hc⟩
  by_cases hlt : i < l.length
  · refine split_t (decide_eq_true (by omega)) ?_
    obtain ⟨ad, rfl, hcell⟩ := RowV.elem (hR.below hc.below) i hlt
    refine ⟨⟨by omega, by omega⟩, ?_⟩
    refine ⟨verC l[i], rfl, hcell, ?_⟩
    generalize hx : l[i] = x at *
    intro g7 w7 h7
    have hc := (hc.loc h7).1
    refine ⟨hc.may 0 rfl 0 _ (nle rfl) rfl, ?_⟩
    intro w8 h8
    have hc := (hc.set 0 rfl h8).1
    have hc := hc.drew
    refine drawn lay_ok (by kernel_rfl) (.q 0 (.q 1 (.q 2 (.q 3 (.n 4 (.n 5 (.n 6 (.q 7 (.z 8)) .stop) .stop) .stop))))) (fun z => Blk z g5 35 [.int .i64 3, .int .i64 0, .string ⟨#[]⟩, .slice A' i cap'] ∧ Blk z g7 60 (verC x)) (by kernel_rfl) ⟨hc.blk 1 rfl, hc.blk 0 rfl⟩ ?_
    refine ⟨_, fun x hx => hx.1.cell 3, ?_⟩
    refine ⟨(verC x), rfl, fun x hx => drop_cells hx.2 0 _ 0 (fun j v hj => by simpa using hj), ?_⟩
    refine ⟨?_, trivial⟩
    refine ⟨(put1_any x _).mono fun en w9 hq => ?_⟩
    obtain ⟨k, n, s, A1, ln, c1, e1, h9, hrep⟩ := hq
    have hc := (hc.call h9).1.know (hrep.sub fun b h => h.elim (fun h => h.elim) .inr) (stab_C _ _)
    refine ⟨_, e1, ⟨hc.blk 1 rfl, hc.blk 0 rfl⟩, ?_⟩
    refine ⟨?_, trivial⟩
    intro g20 w10 h10
    have hc := (hc.loc h10).1
    refine ⟨⟨hc.blk 2 rfl, hc.blk 1 rfl⟩, ?_⟩
    refine ⟨?_, trivial⟩
    refine app_ownF Tryz.underlying33 info_val rfl (by decide) hc (ys := [.int .i64 k, .int .i64 n, .string s, .slice A1 ln c1]) (m := 1) rfl (hc.cells 0 rfl) rfl (by omega) (by decide) rfl rfl ?_
    intro A2 cap2 w11 hc
    refine ⟨⟨hc.blk 2 rfl, hc.blk 1 rfl⟩, ?_⟩
    refine ⟨hc.may 2 rfl 3 _ (Nat.le_refl 4) rfl, ?_⟩
    intro w12 h12
    have hc := (hc.set 2 rfl h12).1
    have et : (l.take (i + 1)).map vVer = (l.take i).map vVer ++ [vVer x] := by rw [List.take_add_one, List.getElem?_eq_getElem hlt, hx]; simp
    have hf := hc.drop.drop.now (X := fun S w => RepL S w ((l.take i).map vVer ++ [vVer x]) (xs ++ [.int .i64 k, .int .i64 n, .string s, .slice A1 ln c1])) (fun h => RepL.snoc h.2 h.1) (stab_L _ _)
    rw [← et] at hf
    exact ⟨i + 1, ⟨rfl, rfl, rfl, rfl, rfl, congrArg _ (i_down (by omega)), trivial⟩, ⟨hlt, _, A2, cap2, _, hf⟩, by show l.length - (i + 1) < l.length - i; omega⟩
  · refine split_f (decide_eq_false (by omega)) ?_
    have hi : i = l.length := by omega
    subst hi
    rw [List.take_length] at hc
    refine ⟨_, ?_, hc.cells 0 rfl, ?_⟩
    · rfl
    refine ⟨hc.may 1 rfl 0 _ (Nat.le_refl 4) rfl, ?_⟩
    intro w5 h5
    have hc := (hc.set 1 rfl h5).1
    obtain ⟨S2, _, hc⟩ := hc.told
    refine ⟨_, ?_, hc.cells 1 rfl, ?_⟩
    · rfl
    refine ⟨3, 0, ⟨#[]⟩, A', l.length, cap', rfl, hc.below, ?_⟩
    rw [vRow, RepC]
    have ho := hc.out
    exact ⟨A', cap', xs, by rw [List.length_map], ho.1, by rw [List.length_map]; exact ho.2⟩
theorem put2_any (e : Ent) (A : Option Addr) (cap : Nat) (S0 : Nat → Prop) (w : World) (hR : Row S0 w A e.vs.length cap (e.vs.map verC).flatten) (hn : e.vs.length ≤ 1000000) (a : Addr) (ha : w.cell? a = some (.func (.func 109) #[] #[])) :
    Calls Tryz.prog 114 #[.agg #[.string e.key, .slice A e.vs.length cap], .pointer (some a)] w (RetV (vEnt e) w) := by
  obtain ⟨ab, ao, asub⟩ := a
  refine calls_vc lay_ok Tryz.func114 rfl (by kernel_rfl) (by kernel_rfl) ?_
  intro g2 w1 h1
  have hc := ((CtxF.start w no (fun _ h => h.elim) (R := fun _ _ => True) trivial Stab.true).loc h1).1
  intro g3 w3 h3
  have hc := (hc.loc h3).1
  have hlt : ∀ b, b < w3.heap.size → b < w3.heap.size := fun _ h => h
  have ha := cell_later hc.below ha
  refine drawn lay_ok (by kernel_rfl) (.q 0 (.q 1 (.q 3 (.q 4 (.q 5 (.n 2 (.n 6 (.n 7 (.n 8 (.z 9) .stop) .stop) .stop) .stop)))))) (Keeps (fun b => b < w3.heap.size) w3) (by kernel_rfl) (Keeps.start _ _) ?_
  have hk := Keeps.start (fun b => b < w3.heap.size) w3
  refine ⟨_, fun x hx => hx.look (hc.cell 1 rfl _ rfl), ?_⟩
  refine ⟨_, fun x hx => hx.look (hc.cell 1 rfl _ rfl), ?_⟩
  refine ⟨_, fun x hx => hx.look ha, ?_⟩
  have hc := hc.drew
  refine ⟨?_, trivial⟩
  refine call_b (bstr_any e.key _) ?_
  intro w4 h4
  have hc := (hc.quiet h4).1.know (RepC.leaf _ _ 2 0 e.key) (stab_C _ _)
  have hk := hk.below hlt h4
  refine ⟨hk, ?_⟩
  refine ⟨?_, trivial⟩
  refine ⟨(listVer_any e.vs A cap S0 _ (hR.below hc.below) hn).mono fun en w5 hq => ?_⟩
  obtain ⟨k, n, s, A1, ln, c1, e1, h5, hrep⟩ := hq
  have hc := (hc.call h5).1.know (hrep.sub fun b h => h.elim (fun h => h.elim) .inr) (stab_C _ _)
  have hk := hk.below hlt h5
  refine ⟨_, e1, hk, ?_⟩
  refine ⟨?_, trivial⟩
  intro g6 w6 h6
  have hc := hc.made h6 4 2 rfl (by decide)
  have hk := hk.below hlt h6.below
  refine ⟨hk, ?_⟩
  refine ⟨?_, trivial⟩
  refine call_b (brow_any (some ⟨g6, 0, none⟩) 2 2 _) ?_
  intro w7 h7
  have hc := (hc.quiet h7).1
  have hk := hk.below hlt h7
  refine ⟨hk, ?_⟩
  refine ⟨hc.may 0 rfl 0 _ (Nat.le_refl 4) rfl, ?_⟩
  intro w8 h8
  have hc := (hc.set 0 rfl h8).1
  obtain ⟨S2, _, hc⟩ := hc.told
  refine ⟨_, ?_, hc.cells 0 rfl, ?_⟩
  · rfl
  refine ⟨3, 0, ⟨#[]⟩, some ⟨g6, 0, none⟩, 2, 2, rfl, hc.below, ?_⟩
  have ho := hc.out
  rw [vEnt, vRow, RepC]
  exact ⟨some ⟨g6, 0, none⟩, 2, _, rfl, .cons ho.1.1.2 (.cons ho.1.2 (.nil _ _)), ho.2⟩
set_option maxHeartbeats 1000000 in
theorem listEnt_any (l : List Ent) (css : List (List Value)) (A : Option Addr) (cap : Nat) (S0 : Nat → Prop) (w : World) (a : Addr) (ha : w.cell? a = some (.func (.func 109) #[] #[])) (hE : RepEs S0 w l css) (hv : ∀ e ∈ l, e.vs.length ≤ 1000000) (hR : Row S0 w A l.length cap (css.flatten)) (hn : l.length ≤ 1000000) :
    Calls Tryz.prog 117 #[.slice A l.length cap, .func (.func 114) #[] #[.pointer (some a)]] w (RetV (vRow (l.map vEnt)) w) := by
  refine calls_vc lay_ok Tryz.func117 rfl (by kernel_rfl) (by kernel_rfl) ?_
  intro g4 w1 h1
  have hc := ((CtxF.start w no (fun _ h => h.elim) (R := fun S w => RepL S w [] []) (.nil _ _) (stab_L _ _)).loc h1).1
  intro g5 w2 h2
  have hc := (hc.loc h2).1
  refine ⟨hc.may 0 rfl 0 _ (Nat.le_refl 4) rfl, ?_⟩
  intro w3 h3
  have hc := (hc.set 0 rfl h3).1
  have hc := hc.nil 35 4
  refine ⟨Nat, fun i => [(1, .func (.func 114) #[] #[.pointer (some a)]), (4, .pointer (some ⟨g4, 0, none⟩)), (5, .pointer (some ⟨g5, 0, none⟩)), (9, .slice A l.length cap), (10, .int .i64 l.length), (11, .int .i64 i)],
    fun i w' => i ≤ l.length ∧ ∃ S A' cap' xs, CtxF no w S w' [(g5, 35, [.int .i64 3, .int .i64 0, .string ⟨#[]⟩, .slice A' i cap']), (g4, 35, (lay.ty 35).zero)] [⟨35, 4, A', i, cap', xs⟩] (fun S w => RepL S w ((l.take i).map vEnt) xs),
    fun i _ => l.length - i, 0, ⟨rfl, rfl, rfl, rfl, rfl, rfl, trivial⟩, ⟨Nat.zero_le _, no, none, 0, [], hc⟩, ?_⟩
  clear hc
  rintro i w4 u ⟨hi, S, A', cap', xs, hc⟩
  by_cases hlt : i < l.length
  · refine split_t (decide_eq_true (by omega)) ?_
    have hv' := hv l[i] (List.getElem_mem hlt)
    obtain ⟨ad, A0, cap0, rfl, hcell, hRe⟩ := RowE.elem hR hE i hlt
    have hcell := cellsAt_later hc.below _ _ hcell
    refine ⟨⟨by omega, by omega⟩, ?_⟩
    refine ⟨[.string l[i].key, .slice A0 l[i].vs.length cap0], rfl, hcell, ?_⟩
    generalize hx : l[i] = x at *
    intro g7 w7 h7
    have hc := (hc.loc h7).1
    refine ⟨hc.may 0 rfl 0 _ (nle rfl) rfl, ?_⟩
    intro w8 h8
    have hc := (hc.set 0 rfl h8).1
    have hc := hc.drew
    refine drawn lay_ok (by kernel_rfl) (.q 0 (.q 1 (.q 2 (.q 3 (.n 4 (.n 5 (.n 6 (.q 7 (.z 8)) .stop) .stop) .stop))))) (fun z => Blk z g5 35 [.int .i64 3, .int .i64 0, .string ⟨#[]⟩, .slice A' i cap'] ∧ Blk z g7 58 [.string x.key, .slice A0 x.vs.length cap0]) (by kernel_rfl) ⟨hc.blk 1 rfl, hc.blk 0 rfl⟩ ?_
    refine ⟨_, fun x hx => hx.1.cell 3, ?_⟩
    refine ⟨[.string x.key, .slice A0 x.vs.length cap0], rfl, fun x hx => drop_cells hx.2 0 _ 0 (fun j v hj => by simpa using hj), ?_⟩
    refine ⟨?_, trivial⟩
    refine ⟨(put2_any x A0 cap0 S0 _ (hRe.below hc.below) hv' a (cell_later hc.below ha)).mono fun en w9 hq => ?_⟩
    obtain ⟨k, n, s, A1, ln, c1, e1, h9, hrep⟩ := hq
    have hc := (hc.call h9).1.know (hrep.sub fun b h => h.elim (fun h => h.elim) .inr) (stab_C _ _)
    refine ⟨_, e1, ⟨hc.blk 1 rfl, hc.blk 0 rfl⟩, ?_⟩
    refine ⟨?_, trivial⟩
    intro g20 w10 h10
    have hc := (hc.loc h10).1
    refine ⟨⟨hc.blk 2 rfl, hc.blk 1 rfl⟩, ?_⟩
    refine ⟨?_, trivial⟩
    refine app_ownF Tryz.underlying33 info_val rfl (by decide) hc (ys := [.int .i64 k, .int .i64 n, .string s, .slice A1 ln c1]) (m := 1) rfl (hc.cells 0 rfl) rfl (by omega) (by decide) rfl rfl ?_
    intro A2 cap2 w11 hc
    refine ⟨⟨hc.blk 2 rfl, hc.blk 1 rfl⟩, ?_⟩
    refine ⟨hc.may 2 rfl 3 _ (Nat.le_refl 4) rfl, ?_⟩
    intro w12 h12
    have hc := (hc.set 2 rfl h12).1
    have et : (l.take (i + 1)).map vEnt = (l.take i).map vEnt ++ [vEnt x] := by rw [List.take_add_one, List.getElem?_eq_getElem hlt, hx]; simp
    have hf := hc.drop.drop.now (X := fun S w => RepL S w ((l.take i).map vEnt ++ [vEnt x]) (xs ++ [.int .i64 k, .int .i64 n, .string s, .slice A1 ln c1])) (fun h => RepL.snoc h.2 h.1) (stab_L _ _)
    rw [← et] at hf
    exact ⟨i + 1, ⟨rfl, rfl, rfl, rfl, rfl, congrArg _ (i_down (by omega)), trivial⟩, ⟨hlt, _, A2, cap2, _, hf⟩, by show l.length - (i + 1) < l.length - i; omega⟩
  · refine split_f (decide_eq_false (by omega)) ?_
    have hi : i = l.length := by omega
    subst hi
    rw [List.take_length] at hc
    refine ⟨_, ?_, hc.cells 0 rfl, ?_⟩
    · rfl
    refine ⟨hc.may 1 rfl 0 _ (Nat.le_refl 4) rfl, ?_⟩
    intro w5 h5
    have hc := (hc.set 1 rfl h5).1
    obtain ⟨S2, _, hc⟩ := hc.told
    refine ⟨_, ?_, hc.cells 1 rfl, ?_⟩
    · rfl
    refine ⟨3, 0, ⟨#[]⟩, A', l.length, cap', rfl, hc.below, ?_⟩
    rw [vRow, RepC]
    have ho := hc.out
    exact ⟨A', cap', xs, by rw [List.length_map], ho.1, by rw [List.length_map]; exact ho.2⟩
set_option maxHeartbeats 1000000 in
theorem listMem_any (l : List Mem) (A : Option Addr) (cap : Nat) (S0 : Nat → Prop) (w : World)  (hR : Row S0 w A l.length cap ((l.map memC).flatten)) (hn : l.length ≤ 1000000) :
    Calls Tryz.prog 118 #[.slice A l.length cap, .func (.func 116) #[] #[]] w (RetV (vRow (l.map vMem)) w) := by
  refine calls_vc lay_ok Tryz.func118 rfl (by kernel_rfl) (by kernel_rfl) ?_
  intro g4 w1 h1
  have hc := ((CtxF.start w no (fun _ h => h.elim) (R := fun S w => RepL S w [] []) (.nil _ _) (stab_L _ _)).loc h1).1
  intro g5 w2 h2
  have hc := (hc.loc h2).1
  refine ⟨hc.may 0 rfl 0 _ (Nat.le_refl 4) rfl, ?_⟩
  intro w3 h3
  have hc := (hc.set 0 rfl h3).1
  have hc := hc.nil 35 4
  refine ⟨Nat, fun i => [(1, .func (.func 116) #[] #[]), (4, .pointer (some ⟨g4, 0, none⟩)), (5, .pointer (some ⟨g5, 0, none⟩)), (9, .slice A l.length cap), (10, .int .i64 l.length), (11, .int .i64 i)],
    fun i w' => i ≤ l.length ∧ ∃ S A' cap' xs, CtxF no w S w' [(g5, 35, [.int .i64 3, .int .i64 0, .string ⟨#[]⟩, .slice A' i cap']), (g4, 35, (lay.ty 35).zero)] [⟨35, 4, A', i, cap', xs⟩] (fun S w => RepL S w ((l.take i).map vMem) xs),
    fun i _ => l.length - i, 0, ⟨rfl, rfl, rfl, rfl, rfl, rfl, trivial⟩, ⟨Nat.zero_le _, no, none, 0, [], hc⟩, ?_⟩
  clear hc
  rintro i w4 u ⟨hi, S, A', cap', xs, hc⟩
  by_cases hlt : i < l.length
  · refine split_t (decide_eq_true (by omega)) ?_
    obtain ⟨ad, rfl, hcell⟩ := RowM.elem (hR.below hc.below) i hlt
    refine ⟨⟨by omega, by omega⟩, ?_⟩
    refine ⟨memC l[i], rfl, hcell, ?_⟩
    generalize hx : l[i] = x at *
    intro g7 w7 h7
    have hc := (hc.loc h7).1
    refine ⟨hc.may 0 rfl 0 _ (nle rfl) rfl, ?_⟩
    intro w8 h8
    have hc := (hc.set 0 rfl h8).1
    have hc := hc.drew
    refine drawn lay_ok (by kernel_rfl) (.q 0 (.q 1 (.q 2 (.q 3 (.n 4 (.n 5 (.n 6 (.q 7 (.z 8)) .stop) .stop) .stop))))) (fun z => Blk z g5 35 [.int .i64 3, .int .i64 0, .string ⟨#[]⟩, .slice A' i cap'] ∧ Blk z g7 147 (memC x)) (by kernel_rfl) ⟨hc.blk 1 rfl, hc.blk 0 rfl⟩ ?_
    refine ⟨_, fun x hx => hx.1.cell 3, ?_⟩
    refine ⟨(memC x), rfl, fun x hx => drop_cells hx.2 0 _ 0 (fun j v hj => by simpa using hj), ?_⟩
    refine ⟨?_, trivial⟩
    refine ⟨(put3_any x _).mono fun en w9 hq => ?_⟩
    obtain ⟨k, n, s, A1, ln, c1, e1, h9, hrep⟩ := hq
    have hc := (hc.call h9).1.know (hrep.sub fun b h => h.elim (fun h => h.elim) .inr) (stab_C _ _)
    refine ⟨_, e1, ⟨hc.blk 1 rfl, hc.blk 0 rfl⟩, ?_⟩
    refine ⟨?_, trivial⟩
    intro g20 w10 h10
    have hc := (hc.loc h10).1
    refine ⟨⟨hc.blk 2 rfl, hc.blk 1 rfl⟩, ?_⟩
    refine ⟨?_, trivial⟩
    refine app_ownF Tryz.underlying33 info_val rfl (by decide) hc (ys := [.int .i64 k, .int .i64 n, .string s, .slice A1 ln c1]) (m := 1) rfl (hc.cells 0 rfl) rfl (by omega) (by decide) rfl rfl ?_
    intro A2 cap2 w11 hc
    refine ⟨⟨hc.blk 2 rfl, hc.blk 1 rfl⟩, ?_⟩
    refine ⟨hc.may 2 rfl 3 _ (Nat.le_refl 4) rfl, ?_⟩
    intro w12 h12
    have hc := (hc.set 2 rfl h12).1
    have et : (l.take (i + 1)).map vMem = (l.take i).map vMem ++ [vMem x] := by rw [List.take_add_one, List.getElem?_eq_getElem hlt, hx]; simp
    have hf := hc.drop.drop.now (X := fun S w => RepL S w ((l.take i).map vMem ++ [vMem x]) (xs ++ [.int .i64 k, .int .i64 n, .string s, .slice A1 ln c1])) (fun h => RepL.snoc h.2 h.1) (stab_L _ _)
    rw [← et] at hf
    exact ⟨i + 1, ⟨rfl, rfl, rfl, rfl, rfl, congrArg _ (i_down (by omega)), trivial⟩, ⟨hlt, _, A2, cap2, _, hf⟩, by show l.length - (i + 1) < l.length - i; omega⟩
  · refine split_f (decide_eq_false (by omega)) ?_
    have hi : i = l.length := by omega
    subst hi
    rw [List.take_length] at hc
    refine ⟨_, ?_, hc.cells 0 rfl, ?_⟩
    · rfl
    refine ⟨hc.may 1 rfl 0 _ (Nat.le_refl 4) rfl, ?_⟩
    intro w5 h5
    have hc := (hc.set 1 rfl h5).1
    obtain ⟨S2, _, hc⟩ := hc.told
    refine ⟨_, ?_, hc.cells 1 rfl, ?_⟩
    · rfl
    refine ⟨3, 0, ⟨#[]⟩, A', l.length, cap', rfl, hc.below, ?_⟩
    rw [vRow, RepC]
    have ho := hc.out
    exact ⟨A', cap', xs, by rw [List.length_map], ho.1, by rw [List.length_map]; exact ho.2⟩
set_option maxHeartbeats 1000000 in
theorem listInt_any (l : List Int) (A : Option Addr) (cap : Nat) (S0 : Nat → Prop) (w : World)  (hR : Row S0 w A l.length cap (l.map lowC)) (hn : l.length ≤ 1000000) :
    Calls Tryz.prog 119 #[.slice A l.length cap, .func (.func 111) #[] #[]] w (RetV (vRow (l.map vNum)) w) := by
  refine calls_vc lay_ok Tryz.func119 rfl (by kernel_rfl) (by kernel_rfl) ?_
  intro g4 w1 h1
  have hc := ((CtxF.start w no (fun _ h => h.elim) (R := fun S w => RepL S w [] []) (.nil _ _) (stab_L _ _)).loc h1).1
  intro g5 w2 h2
  have hc := (hc.loc h2).1
  refine ⟨hc.may 0 rfl 0 _ (Nat.le_refl 4) rfl, ?_⟩
  intro w3 h3
  have hc := (hc.set 0 rfl h3).1
  have hc := hc.nil 35 4
  refine ⟨Nat, fun i => [(1, .func (.func 111) #[] #[]), (4, .pointer (some ⟨g4, 0, none⟩)), (5, .pointer (some ⟨g5, 0, none⟩)), (9, .slice A l.length cap), (10, .int .i64 l.length), (11, .int .i64 i)],
    fun i w' => i ≤ l.length ∧ ∃ S A' cap' xs, CtxF no w S w' [(g5, 35, [.int .i64 3, .int .i64 0, .string ⟨#[]⟩, .slice A' i cap']), (g4, 35, (lay.ty 35).zero)] [⟨35, 4, A', i, cap', xs⟩] (fun S w => RepL S w ((l.take i).map vNum) xs),
    fun i _ => l.length - i, 0, ⟨rfl, rfl, rfl, rfl, rfl, rfl, trivial⟩, ⟨Nat.zero_le _, no, none, 0, [], hc⟩, ?_⟩
  clear hc
  rintro i w4 u ⟨hi, S, A', cap', xs, hc⟩
  by_cases hlt : i < l.length
  · refine split_t (decide_eq_true (by omega)) ?_
    obtain ⟨ad, rfl, hcell⟩ := Row.at (hR.below hc.below) (i := i) (v := lowC l[i]) (by rw [List.getElem?_map, List.getElem?_eq_getElem hlt]; rfl)
    refine ⟨⟨by omega, by omega⟩, ?_⟩
    refine ⟨lowC l[i], by rw [Int.toNat_natCast, Nat.mul_one]; exact hcell, ?_⟩
    generalize hx : l[i] = x at *
    have hc := hc.drew
    refine drawn lay_ok (by kernel_rfl) (.q 0 (.q 1 (.q 2 (.q 3 (.n 4 (.n 5 (.n 6 (.q 7 (.z 8)) .stop) .stop) .stop))))) (fun x => Blk x g5 35 [.int .i64 3, .int .i64 0, .string ⟨#[]⟩, .slice A' i cap']) (by kernel_rfl) (hc.blk 0 rfl) ?_
    refine ⟨_, fun x hx => hx.cell 3, ?_⟩
    refine ⟨?_, trivial⟩
    refine call_b (bnum_any x _) ?_
    intro w9 h9
    have hc := (hc.quiet h9).1
    refine ⟨hc.blk 0 rfl, ?_⟩
    have hc := hc.know (X := fun S w => RepC S w (vNum x) [.int .i64 1, .int .i64 x, .string ⟨#[]⟩, .slice none 0 0]) (RepC.leaf _ _ 1 x ⟨#[]⟩) (stab_C _ _)
    refine ⟨?_, trivial⟩
    intro g20 w10 h10
    have hc := (hc.loc h10).1
    refine ⟨hc.blk 1 rfl, ?_⟩
    refine ⟨?_, trivial⟩
    refine app_ownF Tryz.underlying33 info_val rfl (by decide) hc (ys := [.int .i64 1, .int .i64 x, .string ⟨#[]⟩, .slice none 0 0]) (m := 1) rfl (hc.cells 0 rfl) rfl (by omega) (by decide) rfl rfl ?_
    intro A2 cap2 w11 hc
    refine ⟨hc.blk 1 rfl, ?_⟩
    refine ⟨hc.may 1 rfl 3 _ (Nat.le_refl 4) rfl, ?_⟩
    intro w12 h12
    have hc := (hc.set 1 rfl h12).1
    have et : (l.take (i + 1)).map vNum = (l.take i).map vNum ++ [vNum x] := by rw [List.take_add_one, List.getElem?_eq_getElem hlt, hx]; simp
    have hf := hc.drop.now (X := fun S w => RepL S w ((l.take i).map vNum ++ [vNum x]) (xs ++ [.int .i64 1, .int .i64 x, .string ⟨#[]⟩, .slice none 0 0])) (fun h => RepL.snoc h.2 h.1) (stab_L _ _)
    rw [← et] at hf
    exact ⟨i + 1, ⟨rfl, rfl, rfl, rfl, rfl, congrArg _ (i_down (by omega)), trivial⟩, ⟨hlt, _, A2, cap2, _, hf⟩, by show l.length - (i + 1) < l.length - i; omega⟩
  · refine split_f (decide_eq_false (by omega)) ?_
    have hi : i = l.length := by omega
    subst hi
    rw [List.take_length] at hc
    refine ⟨_, ?_, hc.cells 0 rfl, ?_⟩
    · rfl
    refine ⟨hc.may 1 rfl 0 _ (Nat.le_refl 4) rfl, ?_⟩
    intro w5 h5
    have hc := (hc.set 1 rfl h5).1
    obtain ⟨S2, _, hc⟩ := hc.told
    refine ⟨_, ?_, hc.cells 1 rfl, ?_⟩
    · rfl
    refine ⟨3, 0, ⟨#[]⟩, A', l.length, cap', rfl, hc.below, ?_⟩
    rw [vRow, RepC]
    have ho := hc.out
    exact ⟨A', cap', xs, by rw [List.length_map], ho.1, by rw [List.length_map]; exact ho.2⟩
theorem low_row {w : World} {g T : Nat} {cs : List Value} (h : Blk w g T cs) (o : Nat) (xs : List Value) (hx : (cs.drop o).take xs.length = xs) (hn : xs.length ≤ 1000) : Row (fun b => b = g) w (some ⟨g, o, none⟩) xs.length xs.length xs :=
  ⟨Nat.le_refl _, Nat.le_trans hn (by decide), fun _ => ⟨_, rfl, rfl, fun j u hu => by
    have e1 : (⟨g, o, none⟩ : Addr).add j = ⟨g, o + j, none⟩ := Addr.add_lit _ _ _
    rw [e1, h.cell (o + j)]
    rw [← hx, List.getElem?_take] at hu
    split at hu
    · rw [List.getElem?_drop] at hu; exact hu
    · cases hu⟩⟩
theorem row_cast {S : Nat → Prop} {w : World} {A B : Option Addr} {n cap : Nat} {xs : List Value} (h : Row S w A n cap xs) (e : B = A) : Row S w B n cap xs := by rw [e]; exact h
set_option maxHeartbeats 1000000 in
theorem bput_any (s : Stt) (hk : ∀ e ∈ s.l, strok e.key) (cs : List Value) (S0 : Nat → Prop) (w : World) (hs : RepS S0 w s cs) (ht : Tab w) : Calls Tryz.prog 66 #[.agg cs.toArray] w (RetB (.string ⟨(putStt s).toArray⟩) w) := by
  obtain ⟨A, cap, css, B, cap', l0, l1, l2, l3, l4, rfl, el, hE, hR, hM⟩ := hs.shape
  refine calls_vc lay_ok Tryz.func66 rfl (by kernel_rfl) (by kernel_rfl) ?_
  intro g1 w1 h1
  have hc := ((CtxF.start w no (fun _ h => h.elim) (R := fun _ _ => True) trivial Stab.true).loc h1).1
  refine ⟨_, ?_, hc.cells 0 rfl, ?_⟩
  · rfl
  refine call_b (bmay_any s hk _ S0 w1 (hs.below hc.below)) ?_
  intro w2 h2
  have hc := (hc.quiet h2).1
  rcases Bool.eq_false_or_eq_true (mayS s) with hm | hm
  rotate_left
  · refine split_t (by show (!mayS s) = true; rw [hm]; rfl) ?_
    refine ⟨?_, hc.below⟩
    rw [putStt, hm]
    rfl
  refine split_f (by show (!mayS s) = false; rw [hm]; rfl) ?_
  obtain ⟨_, ⟨hl40, hm100⟩, hris, _, _⟩ := mayS_parts.1 hm
  have hv12 : ∀ e ∈ s.l, e.vs.length ≤ 1000000 := fun e he => by
    have := (mayE_parts.1 (((risE_iff _ _ _).1 hris).1 e he).1).2.2.2
    omega
  intro g3 w3 h3
  have hc := (hc.loc h3).1
  refine ⟨hc.may 0 rfl 0 _ (nle rfl) rfl, ?_⟩
  intro w4 h4
  have hc := (hc.set 0 rfl h4).1
  have hlt : ∀ b, b < w4.heap.size → b < w4.heap.size := fun _ h => h
  refine drawn lay_ok (by kernel_rfl) (.q 0 (.q 1 (.q 3 (.q 4 (.q 5 (.q 7 (.q 8 (.q 9 (.q 11 (.q 12 (.n 2 (.n 6 (.n 10 (.n 13 (.n 14 (.n 15 (.n 16 (.q 17 .fin) .stop) .stop) .stop) .stop) .stop) .stop) .stop))))))))))) (Keeps (fun b => b < w4.heap.size) w4) (by kernel_rfl) (Keeps.start _ _) ?_
  have hk1 := Keeps.start (fun b => b < w4.heap.size) w4
  refine ⟨_, fun x hx => hx.look (hc.cell 1 rfl _ rfl), ?_⟩
  refine ⟨_, fun x hx => hx.look (hc.cell 1 rfl _ rfl), ?_⟩
  refine ⟨_, fun x hx => hx.look (hc.cell 1 rfl _ rfl), ?_⟩
  refine ⟨⟨by decide, by decide, by decide, by decide⟩, ?_⟩
  have hc := hc.drew
  refine ⟨?_, trivial⟩
  refine call_b (bnum_any s.seq _) ?_
  intro w5 h5
  have hc := (hc.quiet h5).1.know (X := fun S w => RepC S w (vNum s.seq) [.int .i64 1, .int .i64 s.seq, .string ⟨#[]⟩, .slice none 0 0]) (RepC.leaf _ _ 1 s.seq ⟨#[]⟩) (stab_C _ _)
  have hk1 := hk1.below hlt h5
  refine ⟨hk1, ?_⟩
  refine ⟨?_, trivial⟩
  refine ⟨(listEnt_any s.l css A cap S0 _ ⟨g3, 0, none⟩ (hc.cell 0 rfl _ rfl) (hE.below hc.below) hv12 (hR.below hc.below) (by omega)).mono fun en w6 hq => ?_⟩
  obtain ⟨ka, na, sa, Aa, la, ca, e1, h6, hrep⟩ := hq
  have hc := (hc.call h6).1.know (hrep.sub fun b h => h.elim (fun h => h.elim) .inr) (stab_C _ _)
  have hk1 := hk1.below hlt h6
  refine ⟨_, e1, hk1, ?_⟩
  refine ⟨?_, trivial⟩
  refine ⟨(listMem_any s.ms B cap' S0 _ (hM.below hc.below) (by omega)).mono fun en w7 hq => ?_⟩
  obtain ⟨kb, nb, sb, Ab, lb, cb, e1, h7, hrep⟩ := hq
  have hc := (hc.call h7).1.know (hrep.sub fun b h => h.elim (fun h => h.elim) .inr) (stab_C _ _)
  have hk1 := hk1.below hlt h7
  refine ⟨_, e1, hk1, ?_⟩
  refine ⟨?_, trivial⟩
  refine ⟨(listInt_any [l0, l1, l2, l3, l4] _ _ (fun b => b = g1) _ (row_cast (low_row (hc.blk 1 rfl) 3 [.int .i64 l0, .int .i64 l1, .int .i64 l2, .int .i64 l3, .int .i64 l4] rfl (nle rfl)) (front_eq _ 5 1)) (nle rfl)).mono fun en w8 hq => ?_⟩
  obtain ⟨kd, nd, sd, Ad, ld, cd, e1, h8, hrep⟩ := hq
  have hc := (hc.call h8).1.know (hrep.sub fun b h => h.elim (fun h => h.elim) .inr) (stab_C _ _)
  have hk1 := hk1.below hlt h8
  refine ⟨_, e1, hk1, ?_⟩
  refine ⟨?_, trivial⟩
  intro g9 w9 h9
  have hc := hc.made h9 4 4 rfl (by decide)
  have hk1 := hk1.below hlt h9.below
  refine ⟨hk1, ?_⟩
  refine ⟨?_, trivial⟩
  refine call_b (brow_any (some ⟨g9, 0, none⟩) 4 4 _) ?_
  intro w10 h10
  have hc := (hc.quiet h10).1
  have hk1 := hk1.below hlt h10
  refine ⟨hk1, ?_⟩
  obtain ⟨S2, _, hc⟩ := hc.told
  have hrep : RepC S2 w10 (vStt s) [.int .i64 3, .int .i64 0, .string ⟨#[]⟩, .slice (some ⟨g9, 0, none⟩) 4 4] := by
    have ho := hc.row
    rw [vStt, el, vRow, RepC]
    exact ⟨some ⟨g9, 0, none⟩, 4, _, rfl, .cons ho.1.1.1.1.2 (.cons ho.1.1.1.2 (.cons ho.1.1.2 (.cons ho.1.2 (.nil _ _)))), ho.2⟩
  have h5 : s.lows.length = 5 := by rw [el]; rfl
  have hsz : (putV (vStt s)).length ≤ 1073741824 := by
    have h1 := txt_vStt s h5 hm
    have h3 := putV_len (vStt s)
    have := dec_len7 (u := (txtV (vStt s)).length) (by omega)
    omega
  refine ⟨?_, trivial⟩
  refine call_b (vput_any (vStt s) (okV_vStt s hm) hsz 3 0 ⟨#[]⟩ _ 4 4 _ _ hrep (ht.below hc.below)) ?_
  intro w11 h11
  have hc := (hc.quiet h11).1
  have hk1 := hk1.below hlt h11
  refine ⟨hk1, ?_⟩
  refine ⟨?_, hc.below⟩
  rw [putStt, if_pos hm]
  rfl
def cellsV (v : V) (A : Option Addr) (cap : Nat) : List Value := [.int .i64 (vK v), .int .i64 (vN v), .string (vS v), .slice A (vL v).length cap]
theorem RepC.cells {S : Nat → Prop} {w : World} {v : V} {cs : List Value} (h : RepC S w v cs) : ∃ A cap, cs = cellsV v A cap := by
  obtain ⟨k, n, s, l⟩ := v
  rw [RepC] at h
  obtain ⟨A, cap, xs, e, _, _⟩ := h
  exact ⟨A, cap, e⟩
theorem RepC.rows {S : Nat → Prop} {w : World} {v : V} {A : Option Addr} {cap : Nat} (h : RepC S w v (cellsV v A cap)) : ∃ xs, RepL S w (vL v) xs ∧ Row S w A (vL v).length cap xs := by
  obtain ⟨k, n, s, l⟩ := v
  rw [RepC] at h
  obtain ⟨A', cap', xs, e, h1, h2⟩ := h
  cases e
  exact ⟨xs, h1, h2⟩
def RetW (u : V) (S : Nat → Prop) (w : World) (en : Ending) (w' : World) : Prop := ∃ A cap, en = .returned (.agg (cellsV u A cap).toArray) ∧ Below w.heap.size w w' ∧ RepC S w' u (cellsV u A cap)
theorem batV_any (v : V) (i : Nat) (A : Option Addr) (cap : Nat) (S : Nat → Prop) (w : World) (hr : RepC S w v (cellsV v A cap)) : Calls Tryz.prog 121 #[.agg (cellsV v A cap).toArray, .int .i64 i] w (RetW (atV v i) S w) := by
  obtain ⟨xs, hL, hR⟩ := hr.rows
  refine calls_vc lay_ok Tryz.func121 rfl (by kernel_rfl) (by kernel_rfl) ?_
  intro g1 w1 h1
  have hc := ((CtxF.start w no (fun _ h => h.elim) (R := fun _ _ => True) trivial Stab.true).loc h1).1
  intro g2 w2 h2
  have hc := (hc.loc h2).1
  refine ⟨_, hc.cell 1 rfl _ rfl, ?_⟩
  rcases Nat.lt_or_ge i (vL v).length with hi | hi
  rotate_left
  · refine split_t (decide_eq_true (by omega)) ?_
    repeat (first | (intro gA wA hA; have hc := (hc.loc hA).1) | refine ⟨_, hc.cell 0 rfl _ rfl, ?_⟩ | (refine ⟨_, ?_, hc.cells 0 rfl, ?_⟩; (· rfl)) | (refine ⟨hc.may 0 rfl _ _ (nle rfl) rfl, ?_⟩; intro wA hA; have hc := (hc.set 0 rfl hA).1) | refine ⟨_, hc.cell 1 rfl _ rfl, ?_⟩ | (refine ⟨_, ?_, hc.cells 1 rfl, ?_⟩; (· rfl)) | (refine ⟨hc.may 1 rfl _ _ (nle rfl) rfl, ?_⟩; intro wA hA; have hc := (hc.set 1 rfl hA).1) | refine ⟨_, hc.cell 2 rfl _ rfl, ?_⟩ | (refine ⟨_, ?_, hc.cells 2 rfl, ?_⟩; (· rfl)) | (refine ⟨hc.may 2 rfl _ _ (nle rfl) rfl, ?_⟩; intro wA hA; have hc := (hc.set 2 rfl hA).1) | refine ⟨_, hc.cell 3 rfl _ rfl, ?_⟩ | (refine ⟨_, ?_, hc.cells 3 rfl, ?_⟩; (· rfl)) | (refine ⟨hc.may 3 rfl _ _ (nle rfl) rfl, ?_⟩; intro wA hA; have hc := (hc.set 3 rfl hA).1) | refine ⟨_, hc.cell 4 rfl _ rfl, ?_⟩ | (refine ⟨_, ?_, hc.cells 4 rfl, ?_⟩; (· rfl)) | (refine ⟨hc.may 4 rfl _ _ (nle rfl) rfl, ?_⟩; intro wA hA; have hc := (hc.set 4 rfl hA).1))
    have e : atV v i = V0 := by unfold atV; rw [List.getD_eq_getElem?_getD, List.getElem?_eq_none hi]; rfl
    rw [e]
    exact ⟨none, 0, rfl, hc.below, RepC.V0 _ _⟩
  refine split_f (decide_eq_false (by omega)) ?_
  have e : atV v i = (vL v)[i] := by unfold atV; rw [List.getD_eq_getElem?_getD, List.getElem?_eq_getElem hi]; rfl
  obtain ⟨ad, cs, rfl, hrep, hl4, hcell⟩ := Rep.elem hL hR i hi
  have hcell := cellsAt_later hc.below _ _ hcell
  obtain ⟨A2, cap2, rfl⟩ := hrep.cells
  rw [e]
  generalize (vL v)[i] = u at *
  refine ⟨_, hc.cell 1 rfl _ rfl, ?_⟩
  refine ⟨⟨by omega, by omega⟩, ?_⟩
  refine ⟨cellsV u A2 cap2, rfl, hcell, ?_⟩
  refine ⟨hc.may 0 rfl 0 _ (Nat.le_refl 4) rfl, ?_⟩
  intro w3 h3
  have hc := (hc.set 0 rfl h3).1
  refine ⟨_, ?_, hc.cells 0 rfl, ?_⟩
  · rfl
  exact ⟨A2, cap2, rfl, hc.below, hrep.below hc.below⟩
theorem read1_any (v : V) (A : Option Addr) (cap : Nat) (S : Nat → Prop) (w : World) (hr : RepC S w v (cellsV v A cap)) : Calls Tryz.prog 120 #[.agg (cellsV v A cap).toArray] w (RetB (.agg (verC (verV v)).toArray) w) := by
  refine calls_vc lay_ok Tryz.func120 rfl (by kernel_rfl) (by kernel_rfl) ?_
  intro g1 w1 h1
  have hc := ((Ctx.start w no (fun _ h => h.elim)).loc h1).1
  intro g2 w3 h3
  have hc := (hc.loc h3).1
  have b1 := hc.blk 1 rfl
  have hlt : ∀ b, (fun b => b = g1) b → b < w3.heap.size := fun b e => by subst e; exact b1.lt
  refine drawn lay_ok (by kernel_rfl) (.q 0 (.q 3 (.q 7 (.n 1 (.q 2 (.n 4 (.q 5 (.q 6 (.n 8 (.q 9 (.q 10 (.z 11))) .stop))) .stop)) .stop)))) (Keeps (fun b => b = g1) w3) (by kernel_rfl) (Keeps.start _ _) ?_
  have hk := Keeps.start (fun b => b = g1) w3
  have hc := hc.drew
  iterate 3 (refine ⟨cellsV v A cap, ?_, fun x hx => hx.cells b1 rfl, ?_⟩; (· rfl))
  refine ⟨?_, trivial⟩
  refine ⟨(batV_any v 0 A cap S _ (hr.below hc.below)).mono fun en wq hq => ?_⟩
  obtain ⟨A0, cap0, e1, hq, _⟩ := hq
  have hc := (hc.quiet hq).1
  have hk := hk.below hlt hq
  refine ⟨_, e1, hk, ?_⟩
  refine ⟨?_, trivial⟩
  refine ⟨(batV_any v 1 A cap S _ (hr.below hc.below)).mono fun en wq hq => ?_⟩
  obtain ⟨A1, cap1, e1, hq, _⟩ := hq
  have hc := (hc.quiet hq).1
  have hk := hk.below hlt hq
  refine ⟨_, e1, hk, ?_⟩
  refine ⟨?_, trivial⟩
  refine ⟨(batV_any v 2 A cap S _ (hr.below hc.below)).mono fun en wq hq => ?_⟩
  obtain ⟨A2, cap2, e1, hq, _⟩ := hq
  have hc := (hc.quiet hq).1
  have hk := hk.below hlt hq
  refine ⟨_, e1, hk, ?_⟩
  refine ⟨hc.may 0 rfl 0 _ (Nat.le_refl 3) rfl, ?_⟩
  intro w5 h5
  have hc := (hc.set 0 rfl h5).1
  refine ⟨_, ?_, hc.cells 0 rfl, ?_⟩
  · rfl
  exact ⟨rfl, hc.below⟩
theorem read3_any (v : V) (A : Option Addr) (cap : Nat) (S : Nat → Prop) (w : World) (hr : RepC S w v (cellsV v A cap)) : Calls Tryz.prog 126 #[.agg (cellsV v A cap).toArray] w (RetB (.agg (memC (memV v)).toArray) w) := by
  refine calls_vc lay_ok Tryz.func126 rfl (by kernel_rfl) (by kernel_rfl) ?_
  intro g1 w1 h1
  have hc := ((Ctx.start w no (fun _ h => h.elim)).loc h1).1
  intro g2 w3 h3
  have hc := (hc.loc h3).1
  have b1 := hc.blk 1 rfl
  have hlt : ∀ b, (fun b => b = g1) b → b < w3.heap.size := fun b e => by subst e; exact b1.lt
  refine drawn lay_ok (by kernel_rfl) (.q 0 (.q 3 (.q 6 (.n 1 (.q 2 (.n 4 (.q 5 (.n 7 (.q 8 (.q 9 (.q 10 (.z 11)))) .stop)) .stop)) .stop)))) (Keeps (fun b => b = g1) w3) (by kernel_rfl) (Keeps.start _ _) ?_
  have hk := Keeps.start (fun b => b = g1) w3
  have hc := hc.drew
  iterate 3 (refine ⟨cellsV v A cap, ?_, fun x hx => hx.cells b1 rfl, ?_⟩; (· rfl))
  refine ⟨?_, trivial⟩
  refine ⟨(batV_any v 0 A cap S _ (hr.below hc.below)).mono fun en wq hq => ?_⟩
  obtain ⟨A0, cap0, e1, hq, _⟩ := hq
  have hc := (hc.quiet hq).1
  have hk := hk.below hlt hq
  refine ⟨_, e1, hk, ?_⟩
  refine ⟨?_, trivial⟩
  refine ⟨(batV_any v 1 A cap S _ (hr.below hc.below)).mono fun en wq hq => ?_⟩
  obtain ⟨A1, cap1, e1, hq, _⟩ := hq
  have hc := (hc.quiet hq).1
  have hk := hk.below hlt hq
  refine ⟨_, e1, hk, ?_⟩
  refine ⟨?_, trivial⟩
  refine ⟨(batV_any v 2 A cap S _ (hr.below hc.below)).mono fun en wq hq => ?_⟩
  obtain ⟨A2, cap2, e1, hq, _⟩ := hq
  have hc := (hc.quiet hq).1
  have hk := hk.below hlt hq
  refine ⟨_, e1, hk, ?_⟩
  refine ⟨hc.may 0 rfl 0 _ (Nat.le_refl 3) rfl, ?_⟩
  intro w5 h5
  have hc := (hc.set 0 rfl h5).1
  refine ⟨_, ?_, hc.cells 0 rfl, ?_⟩
  · rfl
  exact ⟨rfl, hc.below⟩
theorem stab_row (A : Option Addr) (n cap : Nat) (xs : List Value) : Stab (fun S w => Row S w A n cap xs) := fun _ _ _ _ h f => h.fut f
theorem stab_Es (l : List Ent) (css : List (List Value)) : Stab (fun S w => RepEs S w l css) := fun _ _ _ _ h f => RepEs.map (fun h => h.fut f) h
theorem RepEs.snoc {S : Nat → Prop} {w : World} {l : List Ent} {css : List (List Value)} {e : Ent} {c : List Value} (h : RepEs S w l css) (hc : RepE S w e c) : RepEs S w (l ++ [e]) (css ++ [c]) := h.append ⟨c, [], rfl, hc, rfl⟩
set_option maxHeartbeats 1000000 in
theorem someVer_any (v : V) (A : Option Addr) (cap : Nat) (S0 : Nat → Prop) (w : World) (hr : RepC S0 w v (cellsV v A cap)) (hn : (vL v).length ≤ 1000000)  :
    Calls Tryz.prog 124 #[.agg (cellsV v A cap).toArray, .func (.func 120) #[] #[]] w (fun en w' => ∃ A2 c2, en = .returned (.slice A2 ((vL v).map verV).length c2) ∧ Below w.heap.size w w' ∧ Row (ext no w w') w' A2 ((vL v).map verV).length c2 (((vL v).map verV).map verC).flatten) := by
  obtain ⟨ys, hL, hR⟩ := hr.rows
  refine calls_vc lay_ok Tryz.func124 rfl (by kernel_rfl) (by kernel_rfl) ?_
  intro g2 w1 h1
  have hc := ((CtxF.start w no (fun _ h => h.elim) (R := fun S w => True) trivial (Stab.true)).loc h1).1
  have hc := hc.nil 60 3
  refine ⟨_, hc.cell 0 rfl _ rfl, ?_⟩
  refine ⟨Nat × Option Addr × Nat, fun x => [(1, .func (.func 120) #[] #[]), (5, .slice x.2.1 x.1 x.2.2), (9, .slice A (vL v).length cap), (10, .int .i64 (vL v).length), (11, .int .i64 x.1)],
    fun x w' => x.1 ≤ (vL v).length ∧ ∃ S css, CtxF no w S w' [(g2, 35, cellsV v A cap)] [⟨60, 3, x.2.1, x.1, x.2.2, css⟩] (fun S w => True) ∧ css = ((((vL v).take x.1).map verV).map verC).flatten,
    fun x _ => (vL v).length - x.1, (0, none, 0), ⟨rfl, rfl, rfl, rfl, rfl, trivial⟩, ⟨Nat.zero_le _, no, [], hc, rfl⟩, ?_⟩
  clear hc
  rintro ⟨i, A', cap'⟩ w4 u ⟨hi, S, css, hc, hcs⟩
  simp only at hi hc
  by_cases hlt : i < (vL v).length
  · refine split_t (decide_eq_true (by omega)) ?_
    obtain ⟨ad, cs, rfl, hrep, hl4, hcell⟩ := Rep.elem hL hR i hlt
    have hcell := cellsAt_later hc.below _ _ hcell
    obtain ⟨A1, cap1, rfl⟩ := hrep.cells
    have hmem : (vL v)[i] ∈ vL v := List.getElem_mem hlt
    have et : ((vL v).take (i + 1)).map verV = ((vL v).take i).map verV ++ [verV (vL v)[i]] := by rw [List.take_add_one, List.getElem?_eq_getElem hlt, List.map_append]; rfl
    generalize (vL v)[i] = x at *
    refine ⟨⟨by first | omega | (simp only; omega), by first | omega | (simp only; omega)⟩, ?_⟩
    refine ⟨cellsV x A1 cap1, rfl, hcell, ?_⟩
    intro g7 w7 h7
    have hc := (hc.loc h7).1
    refine ⟨hc.may 0 rfl 0 _ (Nat.le_refl 4) rfl, ?_⟩
    intro w8 h8
    have hc := (hc.set 0 rfl h8).1
    refine ⟨cellsV x A1 cap1, rfl, hc.cells 0 rfl, ?_⟩
    refine call_b (read1_any x A1 cap1 S0 _ (hrep.below hc.below)) ?_
    intro w9 h9
    have hc := (hc.quiet h9).1
    intro g20 w10 h10
    have hc := (hc.loc h10).1
    refine app_ownF Tryz.underlying56 info_V rfl (by decide) hc (ys := verC (verV x)) (m := 1) rfl (hc.cells 0 rfl) rfl (by omega) (by decide) rfl rfl ?_
    intro A2 cap2 w11 hc
    exact ⟨(i + 1, A2, cap2), ⟨rfl, rfl, rfl, rfl, congrArg _ (i_down (by first | omega | (simp only; omega))), trivial⟩, ⟨hlt, _, _, hc.drop.drop, by simp only; rw [et, List.map_append, List.flatten_append, hcs]; simp⟩, by show (vL v).length - (i + 1) < (vL v).length - i; omega⟩
  · refine split_f (decide_eq_false (by first | omega | (simp only; omega))) ?_
    have hi : i = (vL v).length := by omega
    subst hi
    rw [List.take_length] at *
    obtain ⟨S2, _, hc⟩ := hc.told
    have ho := hc.out
    subst hcs
    exact ⟨A', cap', by rw [List.length_map]; rfl, hc.below, by rw [List.length_map]; exact ho.2⟩
theorem read2_any (v : V) (A : Option Addr) (cap : Nat) (S0 : Nat → Prop) (w : World) (hr : RepC S0 w v (cellsV v A cap)) (hn : (vL (atV v 1)).length ≤ 1000000) (a : Addr) (ha : w.cell? a = some (.func (.func 120) #[] #[])) :
    Calls Tryz.prog 123 #[.agg (cellsV v A cap).toArray, .pointer (some a)] w (fun en w' => ∃ A2 c2, en = .returned (.agg #[.string (entV v).key, .slice A2 (entV v).vs.length c2]) ∧ Below w.heap.size w w' ∧ Row (ext no w w') w' A2 (entV v).vs.length c2 ((entV v).vs.map verC).flatten) := by
  obtain ⟨ab, ao, asub⟩ := a
  refine calls_vc lay_ok Tryz.func123 rfl (by kernel_rfl) (by kernel_rfl) ?_
  intro g1 w1 h1
  have hc := ((CtxF.start w no (fun _ h => h.elim) (R := fun _ _ => True) trivial Stab.true).loc h1).1
  intro g2 w3 h3
  have hc := (hc.loc h3).1
  have hlt : ∀ b, b < w3.heap.size → b < w3.heap.size := fun _ h => h
  have ha := cell_later hc.below ha
  refine drawn lay_ok (by kernel_rfl) (.q 0 (.q 3 (.q 5 (.n 1 (.q 2 (.n 4 (.n 6 (.q 7 (.z 8)) .stop) .stop)) .stop)))) (Keeps (fun b => b < w3.heap.size) w3) (by kernel_rfl) (Keeps.start _ _) ?_
  have hk := Keeps.start (fun b => b < w3.heap.size) w3
  iterate 2 (refine ⟨cellsV v A cap, ?_, fun x hx => hx.looks _ _ (hc.cells 1 rfl), ?_⟩; (· rfl))
  refine ⟨_, fun x hx => hx.look ha, ?_⟩
  have hc := hc.drew
  refine ⟨?_, trivial⟩
  refine ⟨(batV_any v 0 A cap S0 _ (hr.below hc.below)).mono fun en wq hq => ?_⟩
  obtain ⟨A0, cap0, e1, hq, _⟩ := hq
  have hc := (hc.quiet hq).1
  have hk := hk.below hlt hq
  refine ⟨_, e1, hk, ?_⟩
  refine ⟨?_, trivial⟩
  refine ⟨(batV_any v 1 A cap S0 _ (hr.below hc.below)).mono fun en wq hq => ?_⟩
  obtain ⟨A1, cap1, e1, hq, hrep⟩ := hq
  have hc := (hc.quiet hq).1
  have hk := hk.below hlt hq
  refine ⟨_, e1, hk, ?_⟩
  refine ⟨?_, trivial⟩
  refine ⟨(someVer_any (atV v 1) A1 cap1 S0 _ hrep hn).mono fun en w5 hq => ?_⟩
  obtain ⟨A2, c2, e1, h5, hrow⟩ := hq
  have hc := (hc.call h5).1.know (hrow.sub fun b h => h.elim (fun h => h.elim) .inr) (stab_row _ _ _ _)
  have hk := hk.below hlt h5
  refine ⟨_, e1, hk, ?_⟩
  refine ⟨hc.may 0 rfl 0 _ (Nat.le_refl 2) rfl, ?_⟩
  intro w8 h8
  have hc := (hc.set 0 rfl h8).1
  refine ⟨_, ?_, hc.cells 0 rfl, ?_⟩
  · rfl
  exact ⟨A2, c2, rfl, hc.below, hc.out.2⟩
set_option maxHeartbeats 1000000 in
theorem someMem_any (v : V) (A : Option Addr) (cap : Nat) (S0 : Nat → Prop) (w : World) (hr : RepC S0 w v (cellsV v A cap)) (hn : (vL v).length ≤ 1000000)  :
    Calls Tryz.prog 125 #[.agg (cellsV v A cap).toArray, .func (.func 126) #[] #[]] w (fun en w' => ∃ A2 c2, en = .returned (.slice A2 ((vL v).map memV).length c2) ∧ Below w.heap.size w w' ∧ Row (ext no w w') w' A2 ((vL v).map memV).length c2 (((vL v).map memV).map memC).flatten) := by
  obtain ⟨ys, hL, hR⟩ := hr.rows
  refine calls_vc lay_ok Tryz.func125 rfl (by kernel_rfl) (by kernel_rfl) ?_
  intro g2 w1 h1
  have hc := ((CtxF.start w no (fun _ h => h.elim) (R := fun S w => True) trivial (Stab.true)).loc h1).1
  have hc := hc.nil 147 3
  refine ⟨_, hc.cell 0 rfl _ rfl, ?_⟩
  refine ⟨Nat × Option Addr × Nat, fun x => [(1, .func (.func 126) #[] #[]), (5, .slice x.2.1 x.1 x.2.2), (9, .slice A (vL v).length cap), (10, .int .i64 (vL v).length), (11, .int .i64 x.1)],
    fun x w' => x.1 ≤ (vL v).length ∧ ∃ S css, CtxF no w S w' [(g2, 35, cellsV v A cap)] [⟨147, 3, x.2.1, x.1, x.2.2, css⟩] (fun S w => True) ∧ css = ((((vL v).take x.1).map memV).map memC).flatten,
    fun x _ => (vL v).length - x.1, (0, none, 0), ⟨rfl, rfl, rfl, rfl, rfl, trivial⟩, ⟨Nat.zero_le _, no, [], hc, rfl⟩, ?_⟩
  clear hc
  rintro ⟨i, A', cap'⟩ w4 u ⟨hi, S, css, hc, hcs⟩
  simp only at hi hc
  by_cases hlt : i < (vL v).length
  · refine split_t (decide_eq_true (by omega)) ?_
    obtain ⟨ad, cs, rfl, hrep, hl4, hcell⟩ := Rep.elem hL hR i hlt
    have hcell := cellsAt_later hc.below _ _ hcell
    obtain ⟨A1, cap1, rfl⟩ := hrep.cells
    have hmem : (vL v)[i] ∈ vL v := List.getElem_mem hlt
    have et : ((vL v).take (i + 1)).map memV = ((vL v).take i).map memV ++ [memV (vL v)[i]] := by rw [List.take_add_one, List.getElem?_eq_getElem hlt, List.map_append]; rfl
    generalize (vL v)[i] = x at *
    refine ⟨⟨by first | omega | (simp only; omega), by first | omega | (simp only; omega)⟩, ?_⟩
    refine ⟨cellsV x A1 cap1, rfl, hcell, ?_⟩
    intro g7 w7 h7
    have hc := (hc.loc h7).1
    refine ⟨hc.may 0 rfl 0 _ (Nat.le_refl 4) rfl, ?_⟩
    intro w8 h8
    have hc := (hc.set 0 rfl h8).1
    refine ⟨cellsV x A1 cap1, rfl, hc.cells 0 rfl, ?_⟩
    refine call_b (read3_any x A1 cap1 S0 _ (hrep.below hc.below)) ?_
    intro w9 h9
    have hc := (hc.quiet h9).1
    intro g20 w10 h10
    have hc := (hc.loc h10).1
    refine app_ownF Tryz.underlying75 info_M rfl (by decide) hc (ys := memC (memV x)) (m := 1) rfl (hc.cells 0 rfl) rfl (by omega) (by decide) rfl rfl ?_
    intro A2 cap2 w11 hc
    exact ⟨(i + 1, A2, cap2), ⟨rfl, rfl, rfl, rfl, congrArg _ (i_down (by first | omega | (simp only; omega))), trivial⟩, ⟨hlt, _, _, hc.drop.drop, by simp only; rw [et, List.map_append, List.flatten_append, hcs]; simp⟩, by show (vL v).length - (i + 1) < (vL v).length - i; omega⟩
  · refine split_f (decide_eq_false (by first | omega | (simp only; omega))) ?_
    have hi : i = (vL v).length := by omega
    subst hi
    rw [List.take_length] at *
    obtain ⟨S2, _, hc⟩ := hc.told
    have ho := hc.out
    subst hcs
    exact ⟨A', cap', by rw [List.length_map]; rfl, hc.below, by rw [List.length_map]; exact ho.2⟩
set_option maxHeartbeats 1000000 in
theorem someEnt_any (v : V) (A : Option Addr) (cap : Nat) (S0 : Nat → Prop) (w : World) (hr : RepC S0 w v (cellsV v A cap)) (hn : (vL v).length ≤ 1000000) (hn2 : ∀ x ∈ vL v, (vL (atV x 1)).length ≤ 1000000) (a : Addr) (ha : w.cell? a = some (.func (.func 120) #[] #[])) :
    Calls Tryz.prog 122 #[.agg (cellsV v A cap).toArray, .func (.func 123) #[] #[.pointer (some a)]] w (fun en w' => ∃ A2 c2 css, en = .returned (.slice A2 ((vL v).map entV).length c2) ∧ Below w.heap.size w w' ∧ RepEs (ext no w w') w' ((vL v).map entV) css ∧ Row (ext no w w') w' A2 ((vL v).map entV).length c2 css.flatten) := by
  obtain ⟨ys, hL, hR⟩ := hr.rows
  refine calls_vc lay_ok Tryz.func122 rfl (by kernel_rfl) (by kernel_rfl) ?_
  intro g2 w1 h1
  have hc := ((CtxF.start w no (fun _ h => h.elim) (R := fun S w => RepEs S w [] []) rfl (stab_Es _ _)).loc h1).1
  have hc := hc.nil 58 2
  refine ⟨_, hc.cell 0 rfl _ rfl, ?_⟩
  refine ⟨Nat × Option Addr × Nat, fun x => [(1, .func (.func 123) #[] #[.pointer (some a)]), (5, .slice x.2.1 x.1 x.2.2), (9, .slice A (vL v).length cap), (10, .int .i64 (vL v).length), (11, .int .i64 x.1)],
    fun x w' => x.1 ≤ (vL v).length ∧ ∃ S css, CtxF no w S w' [(g2, 35, cellsV v A cap)] [⟨58, 2, x.2.1, x.1, x.2.2, css.flatten⟩] (fun S w => RepEs S w (((vL v).take x.1).map entV) css) ∧ True,
    fun x _ => (vL v).length - x.1, (0, none, 0), ⟨rfl, rfl, rfl, rfl, rfl, trivial⟩, ⟨Nat.zero_le _, no, [], hc, trivial⟩, ?_⟩
  clear hc
  rintro ⟨i, A', cap'⟩ w4 u ⟨hi, S, css, hc, hcs⟩
  simp only at hi hc
  by_cases hlt : i < (vL v).length
  · refine split_t (decide_eq_true (by omega)) ?_
    obtain ⟨ad, cs, rfl, hrep, hl4, hcell⟩ := Rep.elem hL hR i hlt
    have hcell := cellsAt_later hc.below _ _ hcell
    obtain ⟨A1, cap1, rfl⟩ := hrep.cells
    have hmem : (vL v)[i] ∈ vL v := List.getElem_mem hlt
    have et : ((vL v).take (i + 1)).map entV = ((vL v).take i).map entV ++ [entV (vL v)[i]] := by rw [List.take_add_one, List.getElem?_eq_getElem hlt, List.map_append]; rfl
    generalize (vL v)[i] = x at *
    refine ⟨⟨by first | omega | (simp only; omega), by first | omega | (simp only; omega)⟩, ?_⟩
    refine ⟨cellsV x A1 cap1, rfl, hcell, ?_⟩
    intro g7 w7 h7
    have hc := (hc.loc h7).1
    refine ⟨hc.may 0 rfl 0 _ (Nat.le_refl 4) rfl, ?_⟩
    intro w8 h8
    have hc := (hc.set 0 rfl h8).1
    refine ⟨cellsV x A1 cap1, rfl, hc.cells 0 rfl, ?_⟩
    refine ⟨(read2_any x A1 cap1 S0 _ (hrep.below hc.below) (hn2 x hmem) a (cell_later hc.below ha)).mono fun en w9 hq => ?_⟩
    obtain ⟨A3, c3, e1, h9, hrow⟩ := hq
    have hc := (hc.call h9).1.know (hrow.sub fun b h => h.elim (fun h => h.elim) .inr) (stab_row _ _ _ _)
    refine ⟨_, e1, ?_⟩
    intro g20 w10 h10
    have hc := (hc.loc h10).1
    refine app_ownF Tryz.underlying74 info_E rfl (by decide) hc (ys := [.string (entV x).key, .slice A3 (entV x).vs.length c3]) (m := 1) rfl (hc.cells 0 rfl) rfl (by omega) (by decide) rfl rfl ?_
    intro A2 cap2 w11 hc
    have hf := hc.drop.drop.now (X := fun S w => RepEs S w (((vL v).take i).map entV ++ [entV x]) (css ++ [[.string (entV x).key, .slice A3 (entV x).vs.length c3]])) (fun h => RepEs.snoc h.1 ⟨A3, c3, rfl, h.2⟩) (stab_Es _ _)
    have ef : css.flatten ++ [Value.string (entV x).key, Value.slice A3 (entV x).vs.length c3] = (css ++ [[Value.string (entV x).key, Value.slice A3 (entV x).vs.length c3]]).flatten := by rw [List.flatten_append]; simp
    rw [← et, ef] at hf
    exact ⟨(i + 1, A2, cap2), ⟨rfl, rfl, rfl, rfl, congrArg _ (i_down (by first | omega | (simp only; omega))), trivial⟩, ⟨hlt, _, _, hf, trivial⟩, by show (vL v).length - (i + 1) < (vL v).length - i; omega⟩
  · refine split_f (decide_eq_false (by first | omega | (simp only; omega))) ?_
    have hi : i = (vL v).length := by omega
    subst hi
    rw [List.take_length] at *
    obtain ⟨S2, _, hc⟩ := hc.told
    have ho := hc.out
    exact ⟨A', cap', css, by rw [List.length_map]; rfl, hc.below, ho.1, by rw [List.length_map]; exact ho.2⟩
theorem hasPre_any (s p : ByteArray) (w : World) : Calls Tryz.prog 165 #[.string s, .string p] w (RetB (.bool (hasPre s p)) w) :=
  (Tryz.strings_HasPrefix s p w).mono fun e w' h => ⟨h.1, by rw [h.2]; exact Below.refl _ _⟩
theorem clamp1 (n : Int) : (if (20 : Int) < (if (1 : Int) > n then 1 else n) then 20 else (if (1 : Int) > n then 1 else n)) = (clampN n : Int) := by
  unfold clampN
  split <;> split <;> omega
theorem clamp2 (n : Int) : (if (if (20 : Int) < n then 20 else n) > (1 : Int) then (if (20 : Int) < n then 20 else n) else 1) = (clampN n : Int) := by
  unfold clampN
  split <;> split <;> omega
theorem clamp_range (n : Int) : 1 ≤ clampN n ∧ clampN n ≤ 20 := by unfold clampN; omega
def pcond (pre after : ByteArray) (now : Bool) (e : Ent) : Bool := hasPre e.key pre && strLt after e.key && (!now || (nowE e).2)
theorem pageL_snoc (pre after : ByteArray) (now : Bool) (l : List Ent) (i : Nat) (hi : i < l.length) : pageL (l.take (i + 1)) pre after now = pageL (l.take i) pre after now ++ (if pcond pre after now l[i] = true then [l[i]] else []) := by
  rw [List.take_add_one, List.getElem?_eq_getElem hi]
  unfold pageL
  show List.filter _ (l.take i ++ [l[i]]) = _
  rw [List.filter_append, List.filter_cons]
  unfold pcond
  cases (hasPre l[i].key pre && strLt after l[i].key && (!now || (nowE l[i]).2)) <;> rfl
theorem names1_any (e : Ent) (A : Option Addr) (cap : Nat) (S : Nat → Prop) (w : World) (hR : Row S w A e.vs.length cap (e.vs.map verC).flatten) : Calls Tryz.prog 139 #[.agg #[.string e.key, .slice A e.vs.length cap]] w (RetB (.bool (!true || (nowE e).2)) w) := by
  refine calls_vc lay_ok Tryz.func139 rfl (by kernel_rfl) (by kernel_rfl) ?_
  have hc := CtxF.start w no (fun _ h => h.elim) (R := fun _ _ => True) trivial Stab.true
  intro g1 wg1 hg1
  have hc := (hc.loc hg1).1
  refine ⟨_, ?_, hc.cells 0 rfl, ?_⟩
  · rfl
  refine call_b (now_any e A cap S _ (hR.below hc.below)) ?_
  intro wQ hQ
  have hc := (hc.quiet hQ).1
  intro g3 wg3 hg3
  have hc := (hc.loc hg3).1
  refine ⟨hc.may 0 rfl _ _ (nle rfl) rfl, ?_⟩
  intro wS hS
  have hc := (hc.set 0 rfl hS).1
  exact ⟨rfl, hc.below⟩
theorem versions1_any (e : Ent) (A : Option Addr) (cap : Nat) (S : Nat → Prop) (w : World) (hR : Row S w A e.vs.length cap (e.vs.map verC).flatten) : Calls Tryz.prog 140 #[.agg #[.string e.key, .slice A e.vs.length cap]] w (RetB (.bool (!false || (nowE e).2)) w) := by
  refine calls_vc lay_ok Tryz.func140 rfl (by kernel_rfl) (by kernel_rfl) ?_
  have hc := CtxF.start w no (fun _ h => h.elim) (R := fun _ _ => True) trivial Stab.true
  intro g1 wg1 hg1
  have hc := (hc.loc hg1).1
  exact ⟨rfl, hc.below⟩
def RetP (S : Nat → Prop) (q : List Ent × Bool) (w : World) (en : Ending) (w' : World) : Prop :=
  ∃ A c css, en = .returned (.tuple #[.slice A q.1.length c, .bool q.2]) ∧ Below w.heap.size w w' ∧ RepEs (ext S w w') w' q.1 css ∧ Row (ext S w w') w' A q.1.length c css.flatten
theorem RepEs.takeRow {S : Nat → Prop} {w : World} {l : List Ent} {css : List (List Value)} {A : Option Addr} {c : Nat} (hE : RepEs S w l css) (hR : Row S w A l.length c css.flatten) (k : Nat) (hk : k ≤ l.length) : RepEs S w (l.take k) (css.take k) ∧ Row S w A k c (css.take k).flatten := by
  refine ⟨hE.take k, ?_⟩
  rw [hE.flat.flat_take]
  exact hR.front 2 hk
set_option maxHeartbeats 2000000 in
theorem pageN_any (s : Stt) (pre after : ByteArray) (most : Int) (hl : s.l.length ≤ 1000000) (hv : ∀ e ∈ s.l, e.vs.length ≤ 1000000) (cs : List Value) (S0 : Nat → Prop) (w : World) (hs : RepS S0 w s cs) :
    Calls Tryz.prog 138 #[.agg cs.toArray, .string pre, .string after, .int .i64 most, .func (.func 139) #[] #[]] w (RetP no (pageS s pre after most true) w) := by
  obtain ⟨A, cap, css0, B, cap', l0, l1, l2, l3, l4, rfl, el, hE, hR, hM⟩ := hs.shape
  refine calls_vc lay_ok Tryz.func138 rfl (by kernel_rfl) (by kernel_rfl) ?_
  have hc := CtxF.start w no (fun _ h => h.elim) (R := fun S w => RepEs S w [] []) rfl (RepEs.stab _ _)
  intro g5 wg5 hg5
  have hc := (hc.loc hg5).1
  refine ⟨_, hc.cell 0 rfl _ rfl, ?_⟩
  have hc := hc.nil 58 2
  have hcr := clamp_range most
  refine ⟨Nat × Option Addr × Nat, fun x => [(1, .string pre), (2, .string after), (3, .int .i64 (clampN most : Int)), (4, .func (.func 139) #[] #[]), (12, .slice x.2.1 (pageL (s.l.take x.1) pre after true).length x.2.2), (19, .slice A s.l.length cap), (20, .int .i64 s.l.length), (21, .int .i64 x.1)],
    fun x w' => x.1 ≤ s.l.length ∧ ∃ S css, CtxF no w S w' [(g5, 78, stC s A cap B cap' l0 l1 l2 l3 l4)] [⟨58, 2, x.2.1, (pageL (s.l.take x.1) pre after true).length, x.2.2, css.flatten⟩] (fun S w => RepEs S w (pageL (s.l.take x.1) pre after true) css),
    fun x _ => s.l.length - x.1, (0, none, 0), ⟨rfl, rfl, congrArg _ (clamp1 most), rfl, rfl, rfl, rfl, rfl, trivial⟩, ⟨Nat.zero_le _, no, [], hc⟩, ?_⟩
  clear hc
  rintro ⟨i, A', n'⟩ w4 u ⟨hi, S, css, hc⟩
  simp only at hi hc
  by_cases hlt : i < s.l.length
  · refine split_t (decide_eq_true (by first | omega | (simp only; omega))) ?_
    obtain ⟨ad, A1, cap1, rfl, hcell0, hRe⟩ := RowE.elem hR hE i hlt
    have hvx := hv _ (List.getElem_mem hlt)
    have hps := pageL_snoc pre after true s.l i hlt
    have hpl : (pageL (s.l.take i) pre after true).length ≤ i := Nat.le_trans (List.length_filter_le ..) (by rw [List.length_take]; omega)
    generalize s.l[i] = x at *
    refine ⟨⟨by first | omega | (simp only; omega), by first | omega | (simp only; omega)⟩, ?_⟩
    refine ⟨[.string x.key, .slice A1 x.vs.length cap1], rfl, cellsAt_later hc.below _ _ hcell0, ?_⟩
    intro g14 wg14 hg14
    have hc := (hc.loc hg14).1
    refine ⟨hc.may 0 rfl _ _ (nle rfl) rfl, ?_⟩
    intro wS hS
    have hc := (hc.set 0 rfl hS).1
    refine ⟨_, hc.cell 0 rfl _ rfl, ?_⟩
    refine call_b (hasPre_any x.key pre _) ?_
    intro wQ hQ
    have hc := (hc.quiet hQ).1
    have no_ : ∀ wz S2, CtxF no w S2 wz [(g14, 58, [.string x.key, .slice A1 x.vs.length cap1]), (g5, 78, stC s (some ad) cap B cap' l0 l1 l2 l3 l4)] [⟨58, 2, A', (pageL (s.l.take i) pre after true).length, n', css.flatten⟩] (fun S w => RepEs S w (pageL (s.l.take i) pre after true) css) → pcond pre after true x = false →
        pageL (s.l.take (i + 1)) pre after true = pageL (s.l.take i) pre after true ∧ CtxF no w S2 wz [(g5, 78, stC s (some ad) cap B cap' l0 l1 l2 l3 l4)] [⟨58, 2, A', (pageL (s.l.take (i + 1)) pre after true).length, n', css.flatten⟩] (fun S w => RepEs S w (pageL (s.l.take (i + 1)) pre after true) css) := by
      intro wz S2 h hp
      have e1 : pageL (s.l.take (i + 1)) pre after true = pageL (s.l.take i) pre after true := by rw [hps, hp, if_neg (by decide), List.append_nil]
      rw [e1]
      exact ⟨rfl, h.drop⟩
    rcases Bool.eq_false_or_eq_true (hasPre x.key pre) with c1 | c1
    rotate_left
    · refine split_f c1 ?_
      obtain ⟨e1, hf⟩ := no_ _ _ hc (by unfold pcond; rw [c1]; rfl)
      exact ⟨(i + 1, A', n'), ⟨rfl, rfl, rfl, rfl, by simp only [e1]; rfl, rfl, rfl, congrArg _ (i_down (by first | omega | (simp only; omega))), trivial⟩, ⟨hlt, _, css, hf⟩, by show s.l.length - (i + 1) < s.l.length - i; omega⟩
    refine split_t c1 ?_
    refine ⟨_, hc.cell 0 rfl _ rfl, ?_⟩
    have etri : (!(strLt x.key after || strEq x.key after)) = strLt after x.key := by rw [← strLt_tri after x.key, Bool.not_not]
    rcases Bool.eq_false_or_eq_true (strLt after x.key) with c2 | c2
    rotate_left
    · refine split_f (etri.trans c2) ?_
      obtain ⟨e1, hf⟩ := no_ _ _ hc (by unfold pcond; rw [c1, c2]; rfl)
      exact ⟨(i + 1, A', n'), ⟨rfl, rfl, rfl, rfl, by simp only [e1]; rfl, rfl, rfl, congrArg _ (i_down (by first | omega | (simp only; omega))), trivial⟩, ⟨hlt, _, css, hf⟩, by show s.l.length - (i + 1) < s.l.length - i; omega⟩
    refine split_t (etri.trans c2) ?_
    refine ⟨_, ?_, hc.cells 0 rfl, ?_⟩
    · rfl
    refine call_b (names1_any x A1 cap1 S0 _ (hRe.below hc.below)) ?_
    intro wQ hQ
    have hc := (hc.quiet hQ).1
    rcases Bool.eq_false_or_eq_true (!true || (nowE x).2) with c3 | c3
    rotate_left
    · refine split_f c3 ?_
      obtain ⟨e1, hf⟩ := no_ _ _ hc (by unfold pcond; rw [c1, c2, c3]; rfl)
      exact ⟨(i + 1, A', n'), ⟨rfl, rfl, rfl, rfl, by simp only [e1]; rfl, rfl, rfl, congrArg _ (i_down (by first | omega | (simp only; omega))), trivial⟩, ⟨hlt, _, css, hf⟩, by show s.l.length - (i + 1) < s.l.length - i; omega⟩
    refine split_t c3 ?_
    have e1 : pageL (s.l.take (i + 1)) pre after true = pageL (s.l.take i) pre after true ++ [x] := by rw [hps, if_pos (by unfold pcond; rw [c1, c2, c3]; rfl)]
    have e2 : (pageL (s.l.take (i + 1)) pre after true).length = (pageL (s.l.take i) pre after true).length + 1 := by rw [e1, List.length_append]; rfl
    refine drawn lay_ok (by kernel_rfl) (.q 0 (.q 1 (.q 2 (.q 3 (.q 4 (.n 5 (.q 6 (.n 7 (.n 8 (.q 9 .fin) .stop) .stop)) .stop)))))) (fun z => Blk z g14 58 [.string x.key, .slice A1 x.vs.length cap1]) (by kernel_rfl) (hc.blk 0 rfl) ?_
    refine ⟨_, fun z hz => hz.cell 0, ?_⟩
    refine ⟨_, fun z hz => hz.cell 1, ?_⟩
    have hc := hc.drew
    refine ⟨?_, trivial⟩
    refine ⟨(cloneV_any A1 x.vs.length cap1 (x.vs.map verC) (verC_flat _) (List.length_map _) hvx S0 _ (hRe.below hc.below)).mono fun en w9 hq => ?_⟩
    obtain ⟨A2, c4, e3, h9, ho⟩ := hq
    have hc := hc.fresh h9 ho
    obtain ⟨S2, _, hc⟩ := hc.told
    refine ⟨_, e3, hc.blk 0 rfl, ?_⟩
    refine ⟨?_, trivial⟩
    intro gb wgb hgb
    have hc := (hc.loc hgb).1
    refine ⟨hc.blk 1 rfl, ?_⟩
    refine ⟨?_, trivial⟩
    refine app_ownF Tryz.underlying74 info_E rfl (by decide) hc (ys := [.string x.key, .slice A2 x.vs.length c4]) (m := 1) rfl (hc.cells 0 rfl) rfl (by omega) (by decide) rfl rfl ?_
    intro A3 c5 w11 hc
    refine ⟨hc.blk 1 rfl, ?_⟩
    have hf := hc.drop.drop.now (X := fun S w => RepEs S w (pageL (s.l.take i) pre after true ++ [x]) (css ++ [[.string x.key, .slice A2 x.vs.length c4]])) (fun h => RepEs.snoc h.1 ⟨A2, c4, rfl, h.2⟩) (RepEs.stab _ _)
    have ef : css.flatten ++ [Value.string x.key, Value.slice A2 x.vs.length c4] = (css ++ [[Value.string x.key, Value.slice A2 x.vs.length c4]]).flatten := by rw [List.flatten_append]; simp
    rw [← e1, ← e2, ef] at hf
    exact ⟨(i + 1, A3, c5), ⟨rfl, rfl, rfl, rfl, by simp only [e2]; rfl, rfl, rfl, congrArg _ (i_down (by first | omega | (simp only; omega))), trivial⟩, ⟨hlt, _, _, hf⟩, by show s.l.length - (i + 1) < s.l.length - i; omega⟩
  · refine split_f (decide_eq_false (by first | omega | (simp only; omega))) ?_
    have hi : i = s.l.length := by omega
    subst hi
    simp only [List.take_length] at hc ⊢
    obtain ⟨S2, _, hc⟩ := hc.told
    have ho := hc.out
    unfold pageS
    generalize pageL s.l pre after true = pl at *
    have hnc := ho.2.1
    have hkk : (if (clampN most : Int) < (pl.length : Int) then (clampN most : Int) else (pl.length : Int)) = ((pl.take (clampN most)).length : Int) := by
      rw [List.length_take]
      split <;> omega
    have hkl : (pl.take (clampN most)).length ≤ pl.length := by rw [List.length_take]; omega
    have hnc : pl.length ≤ n' := hnc
    refine ⟨⟨Int.le_refl _, by rw [hkk]; omega, by rw [hkk]; omega, Int.le_refl _⟩, ?_⟩
    generalize hkn : (pl.take (clampN most)).length = kk at *
    have htk : pl.take kk = pl.take (clampN most) := by
      rw [← hkn, List.length_take, Nat.min_def]
      split
      · rfl
      · rw [List.take_length, List.take_of_length_le (by omega)]
    obtain ⟨k1, k2⟩ := RepEs.takeRow ho.1 ho.2 kk hkl
    rw [htk] at k1
    refine ⟨A', n', css.take kk, ?_, hc.below, k1, by rw [hkn]; exact k2⟩
    show Ending.returned (.tuple #[.slice (if (n' : Int) = 0 then A' else A'.map (·.add ((0 : Int).toNat * 2))) ((if (clampN most : Int) < (pl.length : Int) then (clampN most : Int) else (pl.length : Int)) - 0).toNat ((n' : Int) - 0).toNat, .bool (decide ((clampN most : Int) < (pl.length : Int)))]) = _
    rw [front_eq, hkk]
    simp only [hkn]
    have e6 : ((kk : Int) - 0).toNat = kk := by omega
    have e7 : ((n' : Int) - 0).toNat = n' := by omega
    have e8 : decide ((clampN most : Int) < (pl.length : Int)) = decide (clampN most < pl.length) := by congr 1; exact propext Int.ofNat_lt
    rw [e6, e7, e8]
set_option maxHeartbeats 2000000 in
theorem pageV_any (s : Stt) (pre after : ByteArray) (most : Int) (hl : s.l.length ≤ 1000000) (hv : ∀ e ∈ s.l, e.vs.length ≤ 1000000) (cs : List Value) (S0 : Nat → Prop) (w : World) (hs : RepS S0 w s cs) :
    Calls Tryz.prog 138 #[.agg cs.toArray, .string pre, .string after, .int .i64 most, .func (.func 140) #[] #[]] w (RetP no (pageS s pre after most false) w) := by
  obtain ⟨A, cap, css0, B, cap', l0, l1, l2, l3, l4, rfl, el, hE, hR, hM⟩ := hs.shape
  refine calls_vc lay_ok Tryz.func138 rfl (by kernel_rfl) (by kernel_rfl) ?_
  have hc := CtxF.start w no (fun _ h => h.elim) (R := fun S w => RepEs S w [] []) rfl (RepEs.stab _ _)
  intro g5 wg5 hg5
  have hc := (hc.loc hg5).1
  refine ⟨_, hc.cell 0 rfl _ rfl, ?_⟩
  have hc := hc.nil 58 2
  have hcr := clamp_range most
  refine ⟨Nat × Option Addr × Nat, fun x => [(1, .string pre), (2, .string after), (3, .int .i64 (clampN most : Int)), (4, .func (.func 140) #[] #[]), (12, .slice x.2.1 (pageL (s.l.take x.1) pre after false).length x.2.2), (19, .slice A s.l.length cap), (20, .int .i64 s.l.length), (21, .int .i64 x.1)],
    fun x w' => x.1 ≤ s.l.length ∧ ∃ S css, CtxF no w S w' [(g5, 78, stC s A cap B cap' l0 l1 l2 l3 l4)] [⟨58, 2, x.2.1, (pageL (s.l.take x.1) pre after false).length, x.2.2, css.flatten⟩] (fun S w => RepEs S w (pageL (s.l.take x.1) pre after false) css),
    fun x _ => s.l.length - x.1, (0, none, 0), ⟨rfl, rfl, congrArg _ (clamp1 most), rfl, rfl, rfl, rfl, rfl, trivial⟩, ⟨Nat.zero_le _, no, [], hc⟩, ?_⟩
  clear hc
  rintro ⟨i, A', n'⟩ w4 u ⟨hi, S, css, hc⟩
  simp only at hi hc
  by_cases hlt : i < s.l.length
  · refine split_t (decide_eq_true (by first | omega | (simp only; omega))) ?_
    obtain ⟨ad, A1, cap1, rfl, hcell0, hRe⟩ := RowE.elem hR hE i hlt
    have hvx := hv _ (List.getElem_mem hlt)
    have hps := pageL_snoc pre after false s.l i hlt
    have hpl : (pageL (s.l.take i) pre after false).length ≤ i := Nat.le_trans (List.length_filter_le ..) (by rw [List.length_take]; omega)
    generalize s.l[i] = x at *
    refine ⟨⟨by first | omega | (simp only; omega), by first | omega | (simp only; omega)⟩, ?_⟩
    refine ⟨[.string x.key, .slice A1 x.vs.length cap1], rfl, cellsAt_later hc.below _ _ hcell0, ?_⟩
    intro g14 wg14 hg14
    have hc := (hc.loc hg14).1
    refine ⟨hc.may 0 rfl _ _ (nle rfl) rfl, ?_⟩
    intro wS hS
    have hc := (hc.set 0 rfl hS).1
    refine ⟨_, hc.cell 0 rfl _ rfl, ?_⟩
    refine call_b (hasPre_any x.key pre _) ?_
    intro wQ hQ
    have hc := (hc.quiet hQ).1
    have no_ : ∀ wz S2, CtxF no w S2 wz [(g14, 58, [.string x.key, .slice A1 x.vs.length cap1]), (g5, 78, stC s (some ad) cap B cap' l0 l1 l2 l3 l4)] [⟨58, 2, A', (pageL (s.l.take i) pre after false).length, n', css.flatten⟩] (fun S w => RepEs S w (pageL (s.l.take i) pre after false) css) → pcond pre after false x = false →
        pageL (s.l.take (i + 1)) pre after false = pageL (s.l.take i) pre after false ∧ CtxF no w S2 wz [(g5, 78, stC s (some ad) cap B cap' l0 l1 l2 l3 l4)] [⟨58, 2, A', (pageL (s.l.take (i + 1)) pre after false).length, n', css.flatten⟩] (fun S w => RepEs S w (pageL (s.l.take (i + 1)) pre after false) css) := by
      intro wz S2 h hp
      have e1 : pageL (s.l.take (i + 1)) pre after false = pageL (s.l.take i) pre after false := by rw [hps, hp, if_neg (by decide), List.append_nil]
      rw [e1]
      exact ⟨rfl, h.drop⟩
    rcases Bool.eq_false_or_eq_true (hasPre x.key pre) with c1 | c1
    rotate_left
    · refine split_f c1 ?_
      obtain ⟨e1, hf⟩ := no_ _ _ hc (by unfold pcond; rw [c1]; rfl)
      exact ⟨(i + 1, A', n'), ⟨rfl, rfl, rfl, rfl, by simp only [e1]; rfl, rfl, rfl, congrArg _ (i_down (by first | omega | (simp only; omega))), trivial⟩, ⟨hlt, _, css, hf⟩, by show s.l.length - (i + 1) < s.l.length - i; omega⟩
    refine split_t c1 ?_
    refine ⟨_, hc.cell 0 rfl _ rfl, ?_⟩
    have etri : (!(strLt x.key after || strEq x.key after)) = strLt after x.key := by rw [← strLt_tri after x.key, Bool.not_not]
    rcases Bool.eq_false_or_eq_true (strLt after x.key) with c2 | c2
    rotate_left
    · refine split_f (etri.trans c2) ?_
      obtain ⟨e1, hf⟩ := no_ _ _ hc (by unfold pcond; rw [c1, c2]; rfl)
      exact ⟨(i + 1, A', n'), ⟨rfl, rfl, rfl, rfl, by simp only [e1]; rfl, rfl, rfl, congrArg _ (i_down (by first | omega | (simp only; omega))), trivial⟩, ⟨hlt, _, css, hf⟩, by show s.l.length - (i + 1) < s.l.length - i; omega⟩
    refine split_t (etri.trans c2) ?_
    refine ⟨_, ?_, hc.cells 0 rfl, ?_⟩
    · rfl
    refine call_b (versions1_any x A1 cap1 S0 _ (hRe.below hc.below)) ?_
    intro wQ hQ
    have hc := (hc.quiet hQ).1
    have c3 : (!false || (nowE x).2) = true := rfl
    have e1 : pageL (s.l.take (i + 1)) pre after false = pageL (s.l.take i) pre after false ++ [x] := by rw [hps, if_pos (by unfold pcond; rw [c1, c2, c3]; rfl)]
    have e2 : (pageL (s.l.take (i + 1)) pre after false).length = (pageL (s.l.take i) pre after false).length + 1 := by rw [e1, List.length_append]; rfl
    refine drawn lay_ok (by kernel_rfl) (.q 0 (.q 1 (.q 2 (.q 3 (.q 4 (.n 5 (.q 6 (.n 7 (.n 8 (.q 9 .fin) .stop) .stop)) .stop)))))) (fun z => Blk z g14 58 [.string x.key, .slice A1 x.vs.length cap1]) (by kernel_rfl) (hc.blk 0 rfl) ?_
    refine ⟨_, fun z hz => hz.cell 0, ?_⟩
    refine ⟨_, fun z hz => hz.cell 1, ?_⟩
    have hc := hc.drew
    refine ⟨?_, trivial⟩
    refine ⟨(cloneV_any A1 x.vs.length cap1 (x.vs.map verC) (verC_flat _) (List.length_map _) hvx S0 _ (hRe.below hc.below)).mono fun en w9 hq => ?_⟩
    obtain ⟨A2, c4, e3, h9, ho⟩ := hq
    have hc := hc.fresh h9 ho
    obtain ⟨S2, _, hc⟩ := hc.told
    refine ⟨_, e3, hc.blk 0 rfl, ?_⟩
    refine ⟨?_, trivial⟩
    intro gb wgb hgb
    have hc := (hc.loc hgb).1
    refine ⟨hc.blk 1 rfl, ?_⟩
    refine ⟨?_, trivial⟩
    refine app_ownF Tryz.underlying74 info_E rfl (by decide) hc (ys := [.string x.key, .slice A2 x.vs.length c4]) (m := 1) rfl (hc.cells 0 rfl) rfl (by omega) (by decide) rfl rfl ?_
    intro A3 c5 w11 hc
    refine ⟨hc.blk 1 rfl, ?_⟩
    have hf := hc.drop.drop.now (X := fun S w => RepEs S w (pageL (s.l.take i) pre after false ++ [x]) (css ++ [[.string x.key, .slice A2 x.vs.length c4]])) (fun h => RepEs.snoc h.1 ⟨A2, c4, rfl, h.2⟩) (RepEs.stab _ _)
    have ef : css.flatten ++ [Value.string x.key, Value.slice A2 x.vs.length c4] = (css ++ [[Value.string x.key, Value.slice A2 x.vs.length c4]]).flatten := by rw [List.flatten_append]; simp
    rw [← e1, ← e2, ef] at hf
    exact ⟨(i + 1, A3, c5), ⟨rfl, rfl, rfl, rfl, by simp only [e2]; rfl, rfl, rfl, congrArg _ (i_down (by first | omega | (simp only; omega))), trivial⟩, ⟨hlt, _, _, hf⟩, by show s.l.length - (i + 1) < s.l.length - i; omega⟩
  · refine split_f (decide_eq_false (by first | omega | (simp only; omega))) ?_
    have hi : i = s.l.length := by omega
    subst hi
    simp only [List.take_length] at hc ⊢
    obtain ⟨S2, _, hc⟩ := hc.told
    have ho := hc.out
    unfold pageS
    generalize pageL s.l pre after false = pl at *
    have hnc := ho.2.1
    have hkk : (if (clampN most : Int) < (pl.length : Int) then (clampN most : Int) else (pl.length : Int)) = ((pl.take (clampN most)).length : Int) := by
      rw [List.length_take]
      split <;> omega
    have hkl : (pl.take (clampN most)).length ≤ pl.length := by rw [List.length_take]; omega
    have hnc : pl.length ≤ n' := hnc
    refine ⟨⟨Int.le_refl _, by rw [hkk]; omega, by rw [hkk]; omega, Int.le_refl _⟩, ?_⟩
    generalize hkn : (pl.take (clampN most)).length = kk at *
    have htk : pl.take kk = pl.take (clampN most) := by
      rw [← hkn, List.length_take, Nat.min_def]
      split
      · rfl
      · rw [List.take_length, List.take_of_length_le (by omega)]
    obtain ⟨k1, k2⟩ := RepEs.takeRow ho.1 ho.2 kk hkl
    rw [htk] at k1
    refine ⟨A', n', css.take kk, ?_, hc.below, k1, by rw [hkn]; exact k2⟩
    show Ending.returned (.tuple #[.slice (if (n' : Int) = 0 then A' else A'.map (·.add ((0 : Int).toNat * 2))) ((if (clampN most : Int) < (pl.length : Int) then (clampN most : Int) else (pl.length : Int)) - 0).toNat ((n' : Int) - 0).toNat, .bool (decide ((clampN most : Int) < (pl.length : Int)))]) = _
    rw [front_eq, hkk]
    simp only [hkn]
    have e6 : ((kk : Int) - 0).toNat = kk := by omega
    have e7 : ((n' : Int) - 0).toNat = n' := by omega
    have e8 : decide ((clampN most : Int) < (pl.length : Int)) = decide (clampN most < pl.length) := by congr 1; exact propext Int.ofNat_lt
    rw [e6, e7, e8]
theorem info_str : (Tryz.prog.info? 9).map (fun i => (i.zero, i.size, i.bytes)) = some (some (.string ⟨#[]⟩), 1, 16) := by kernel_rfl
def keyC (e : Ent) : Value := .string e.key
def RetN (S : Nat → Prop) (q : List Ent × Bool) (w : World) (en : Ending) (w' : World) : Prop :=
  ∃ A c, en = .returned (.tuple #[.slice A q.1.length c, .bool q.2]) ∧ Below w.heap.size w w' ∧ Row (ext S w w') w' A q.1.length c (q.1.map keyC)
theorem pageS_len (s : Stt) (pre after : ByteArray) (most : Int) (now : Bool) : (pageS s pre after most now).1.length ≤ 20 := by
  have := (clamp_range most).2
  unfold pageS
  show (List.take _ _).length ≤ 20
  rw [List.length_take]; omega
theorem stab_P (l : List Ent) (css : List (List Value)) (A : Option Addr) (c : Nat) : Stab (fun S w => RepEs S w l css ∧ Row S w A l.length c css.flatten) := fun _ _ _ _ h f => ⟨RepEs.fut h.1 f, h.2.fut f⟩
theorem bversions_any (s : Stt) (pre after : ByteArray) (most : Int) (hl : s.l.length ≤ 1000000) (hv : ∀ e ∈ s.l, e.vs.length ≤ 1000000) (cs : List Value) (S0 : Nat → Prop) (w : World) (hs : RepS S0 w s cs) :
    Calls Tryz.prog 77 #[.agg cs.toArray, .string pre, .string after, .int .i64 most] w (RetP no (pageS s pre after most false) w) := by
  obtain ⟨A, cap, css0, B, cap', l0, l1, l2, l3, l4, rfl, el, hE, hR, hM⟩ := hs.shape
  refine calls_vc lay_ok Tryz.func77 rfl (by kernel_rfl) (by kernel_rfl) ?_
  have hc := CtxF.start w no (fun _ h => h.elim) (R := fun S w => True) trivial Stab.true
  intro g4 wg4 hg4
  have hc := (hc.loc hg4).1
  refine ⟨_, ?_, hc.cells 0 rfl, ?_⟩
  · rfl
  refine ⟨(pageV_any s pre after most hl hv _ S0 _ (hs.below hc.below)).mono fun en w9 hq => ?_⟩
  obtain ⟨A1, c1, css, e1, h1, hE1, hR1⟩ := hq
  have hc := (hc.call h1).1.know (X := fun S w => RepEs S w (pageS s pre after most false).1 css ∧ Row S w A1 (pageS s pre after most false).1.length c1 css.flatten) ⟨hE1, hR1⟩ (stab_P _ _ _ _)
  refine ⟨_, e1, ?_⟩
  exact ⟨A1, c1, css, rfl, hc.below, hc.out.2.1, hc.out.2.2⟩
set_option maxHeartbeats 1000000 in
theorem bnames_any (s : Stt) (pre after : ByteArray) (most : Int) (hl : s.l.length ≤ 1000000) (hv : ∀ e ∈ s.l, e.vs.length ≤ 1000000) (cs : List Value) (S0 : Nat → Prop) (w : World)  (hs : RepS S0 w s cs) :
    Calls Tryz.prog 76 #[.agg cs.toArray, .string pre, .string after, .int .i64 most] w (RetN no (pageS s pre after most true) w) := by
  obtain ⟨A, cap, css0, B, cap', l0, l1, l2, l3, l4, rfl, el, hE, hR, hM⟩ := hs.shape
  have hp20 := pageS_len s pre after most true
  refine calls_vc lay_ok Tryz.func76 rfl (by kernel_rfl) (by kernel_rfl) ?_
  have hc := CtxF.start w no (fun _ h => h.elim) (R := fun S w => True) trivial Stab.true
  intro g4 wg4 hg4
  have hc := (hc.loc hg4).1
  refine ⟨_, ?_, hc.cells 0 rfl, ?_⟩
  · rfl
  refine ⟨(pageN_any s pre after most hl hv _ S0 _ (hs.below hc.below)).mono fun en w9 hq => ?_⟩
  obtain ⟨A1, c1, css, e1, h1, hE1, hR1⟩ := hq
  generalize pageS s pre after most true = q at *
  obtain ⟨l, more⟩ := q
  have hc := (hc.call h1).1.know (X := fun S w => RepEs S w l css ∧ Row S w A1 l.length c1 css.flatten) ⟨hE1, hR1⟩ (stab_P _ _ _ _)
  refine ⟨_, e1, ?_⟩
  have hc := hc.nil 9 1
  refine ⟨Nat × Option Addr × Nat, fun x => [(10, .slice A1 l.length c1), (11, .bool more), (12, .slice x.2.1 x.1 x.2.2), (23, .slice A1 l.length c1), (24, .int .i64 l.length), (25, .int .i64 x.1)],
    fun x w' => x.1 ≤ l.length ∧ ∃ S, CtxF no w S w' [(g4, 78, stC s A cap B cap' l0 l1 l2 l3 l4)] [⟨9, 1, x.2.1, x.1, x.2.2, (l.take x.1).map keyC⟩] (fun S w => RepEs S w l css ∧ Row S w A1 l.length c1 css.flatten),
    fun x _ => l.length - x.1, (0, none, 0), ⟨rfl, rfl, rfl, rfl, rfl, rfl, trivial⟩, ⟨Nat.zero_le _, _, hc.now (fun h => h.2) (stab_P _ _ _ _)⟩, ?_⟩
  clear hc hE1 hR1
  rintro ⟨i, A', n'⟩ w4 u ⟨hi, S, hc⟩
  simp only at hi hc hp20
  by_cases hlt : i < l.length
  · refine split_t (decide_eq_true (by first | omega | (simp only; omega))) ?_
    obtain ⟨ad, A3, cap3, rfl, hcell, hRe⟩ := RowE.elem hc.row.2 hc.row.1 i hlt
    have e2 : (l.take (i + 1)).map keyC = (l.take i).map keyC ++ [keyC l[i]] := by rw [List.take_add_one, List.getElem?_eq_getElem hlt, List.map_append]; rfl
    generalize l[i] = x at *
    refine ⟨⟨by first | omega | (simp only; omega), by first | omega | (simp only; omega)⟩, ?_⟩
    refine ⟨[.string x.key, .slice A3 x.vs.length cap3], rfl, hcell, ?_⟩
    intro g14 wg14 hg14
    have hc := (hc.loc hg14).1
    refine ⟨hc.may 0 rfl _ _ (nle rfl) rfl, ?_⟩
    intro wS hS
    have hc := (hc.set 0 rfl hS).1
    refine ⟨_, hc.cell 0 rfl _ rfl, ?_⟩
    intro gb wgb hgb
    have hc := (hc.loc hgb).1
    refine app_ownF Tryz.underlying95 info_str rfl (by decide) hc (ys := [keyC x]) (m := 1) rfl (hc.cells 0 rfl) rfl (by omega) (by decide) rfl rfl ?_
    intro A4 c4 w11 hc
    have hf := hc.drop.drop
    rw [← e2] at hf
    exact ⟨(i + 1, A4, c4), ⟨rfl, rfl, rfl, rfl, rfl, congrArg _ (i_down (by first | omega | (simp only; omega))), trivial⟩, ⟨hlt, _, hf⟩, by show l.length - (i + 1) < l.length - i; omega⟩
  · refine split_f (decide_eq_false (by first | omega | (simp only; omega))) ?_
    have hi : i = l.length := by omega
    subst hi
    simp only [List.take_length] at hc
    obtain ⟨S2, _, hc⟩ := hc.told
    exact ⟨A', n', rfl, hc.below, hc.out.2⟩
theorem pageL_split (pre after : ByteArray) (now : Bool) (l : List Ent) (i : Nat) : pageL l pre after now = pageL (l.take i) pre after now ++ pageL (l.drop i) pre after now := by
  unfold pageL
  rw [← List.filter_append, List.take_append_drop]
theorem hasPre_raw (s p : ByteArray) : (decide (p.size ≤ s.size) && strEq (s.extract 0 p.size) p) = hasPre s p := by
  have := Lib.hasPrefix_raw s p
  rw [ba_toList, ba_toList] at this
  exact this
set_option maxHeartbeats 2000000 in
theorem rsomeN_any (s : Stt) (pre after : ByteArray) (most : Int) (hl : s.l.length ≤ 1000000) (cs : List Value) (S0 : Nat → Prop) (w : World) (hlt0 : ∀ b, S0 b → b < w.heap.size) (hs : RepS S0 w s cs) :
    Calls Tryz.prog 143 #[.agg cs.toArray, .string pre, .string after, .int .i64 most, .bool true] w (RetP S0 (pageS s pre after most true) w) := by
  obtain ⟨A, cap, css0, B, cap', l0, l1, l2, l3, l4, rfl, el, hE, hR, hM⟩ := hs.shape
  refine calls_vc lay_ok Tryz.func143 rfl (by kernel_rfl) (by kernel_rfl) ?_
  have hc := CtxF.start w S0 hlt0 (R := fun S w => (RepEs S w s.l css0 ∧ Row S w A s.l.length cap css0.flatten) ∧ RepEs S w [] []) ⟨⟨hE, hR⟩, rfl⟩ ((stab_P _ _ _ _).and (RepEs.stab _ _))
  intro g5 wg5 hg5
  have hc := (hc.loc hg5).1
  have hc := hc.nil 58 2
  have hcr := clamp_range most
  refine ⟨Nat × Option Addr × Nat, fun x => [(1, .string pre), (2, .string after), (3, .int .i64 (clampN most : Int)), (4, .bool true), (5, .pointer (some ⟨g5, 0, none⟩)), (12, .slice x.2.1 (pageL (s.l.take x.1) pre after true).length x.2.2), (13, .int .i64 x.1)],
    fun x w' => x.1 ≤ s.l.length ∧ (pageL (s.l.take x.1) pre after true).length ≤ clampN most ∧ ∃ S css, CtxF S0 w S w' [(g5, 78, stC s A cap B cap' l0 l1 l2 l3 l4)] [⟨58, 2, x.2.1, (pageL (s.l.take x.1) pre after true).length, x.2.2, css.flatten⟩] (fun S w => (RepEs S w s.l css0 ∧ Row S w A s.l.length cap css0.flatten) ∧ RepEs S w (pageL (s.l.take x.1) pre after true) css),
    fun x _ => s.l.length - x.1, (0, none, 0), ⟨rfl, rfl, congrArg _ (clamp2 most), rfl, rfl, rfl, rfl, trivial⟩, ⟨Nat.zero_le _, Nat.zero_le _, S0, [], hc⟩, ?_⟩
  clear hc
  rintro ⟨i, A', n'⟩ w4 u ⟨hi, hmost, S, css, hc⟩
  simp only at hi hc hmost
  refine ⟨_, hc.cell 0 rfl _ rfl, ?_⟩
  by_cases hlt : i < s.l.length
  · refine split_t (decide_eq_true (by first | omega | (simp only; omega))) ?_
    obtain ⟨ad, A1, cap1, hA, hcell0, hRe⟩ := RowE.elem hc.row.1.2 hc.row.1.1 i hlt
    have hps := pageL_snoc pre after true s.l i hlt
    have hsp := pageL_split pre after true s.l (i + 1)
    generalize hx : s.l[i] = x at *
    refine ⟨_, hc.cell 0 rfl _ rfl, ?_⟩
    subst hA
    refine ⟨⟨by first | omega | (simp only; omega), by first | omega | (simp only; omega)⟩, ?_⟩
    refine ⟨[.string x.key, .slice A1 x.vs.length cap1], rfl, hcell0, ?_⟩
    have hc := hc.know hRe (stab_row _ _ _ _)
    intro g14 wg14 hg14
    have hc := (hc.loc hg14).1
    refine ⟨hc.may 0 rfl _ _ (nle rfl) rfl, ?_⟩
    intro wS hS
    have hc := (hc.set 0 rfl hS).1
    refine ⟨_, ?_, hc.cells 0 rfl, ?_⟩
    · rfl
    refine call_b (rnow_any x A1 cap1 _ _ hc.row.2) ?_
    intro wQ hQ
    have hc := (hc.quiet hQ).1
    intro g15 wg15 hg15
    have hc := (hc.loc hg15).1
    refine ⟨hc.may 0 rfl _ _ (nle rfl) rfl, ?_⟩
    intro wS hS
    have hc := (hc.set 0 rfl hS).1
    refine ⟨_, hc.cell 1 rfl _ rfl, ?_⟩
    have no_ : ∀ wz S2, CtxF S0 w S2 wz [(g15, 60, verC (nowE x).1), (g14, 58, [.string x.key, .slice A1 x.vs.length cap1]), (g5, 78, stC s (some ad) cap B cap' l0 l1 l2 l3 l4)] [⟨58, 2, A', (pageL (s.l.take i) pre after true).length, n', css.flatten⟩] (fun S w => ((RepEs S w s.l css0 ∧ Row S w (some ad) s.l.length cap css0.flatten) ∧ RepEs S w (pageL (s.l.take i) pre after true) css) ∧ Row S w A1 x.vs.length cap1 (x.vs.map verC).flatten) → pcond pre after true x = false →
        pageL (s.l.take (i + 1)) pre after true = pageL (s.l.take i) pre after true ∧ CtxF S0 w S2 wz [(g5, 78, stC s (some ad) cap B cap' l0 l1 l2 l3 l4)] [⟨58, 2, A', (pageL (s.l.take (i + 1)) pre after true).length, n', css.flatten⟩] (fun S w => (RepEs S w s.l css0 ∧ Row S w (some ad) s.l.length cap css0.flatten) ∧ RepEs S w (pageL (s.l.take (i + 1)) pre after true) css) := by
      intro wz S2 h hp
      have e1 : pageL (s.l.take (i + 1)) pre after true = pageL (s.l.take i) pre after true := by rw [hps, hp, if_neg (by decide), List.append_nil]
      rw [e1]
      exact ⟨rfl, h.drop.drop.now (fun h => h.1) ((stab_P _ _ _ _).and (RepEs.stab _ _))⟩
    have hraw := hasPre_raw x.key pre
    rcases Nat.lt_or_ge x.key.size pre.size with c0 | c0
    · refine split_t (decide_eq_true (Int.ofNat_lt.2 c0)) ?_
      obtain ⟨e1, hf⟩ := no_ _ _ hc (by rw [decide_eq_false (by omega)] at hraw; unfold pcond; rw [← hraw]; rfl)
      exact ⟨(i + 1, A', n'), ⟨rfl, rfl, rfl, rfl, rfl, by simp only [e1]; rfl, congrArg _ (i_down (by first | omega | (simp only; omega))), trivial⟩, ⟨hlt, by simp only [e1]; exact hmost, _, css, hf⟩, by show s.l.length - (i + 1) < s.l.length - i; omega⟩
    refine split_f (decide_eq_false (show ¬ (x.key.size : Int) < (pre.size : Int) by omega)) ?_
    rw [decide_eq_true c0, Bool.true_and] at hraw
    refine ⟨_, hc.cell 1 rfl _ rfl, ?_⟩
    refine ⟨⟨Int.le_refl _, Int.natCast_nonneg _, Int.ofNat_le.2 c0⟩, ?_⟩
    rcases Bool.eq_false_or_eq_true (hasPre x.key pre) with c1 | c1
    rotate_left
    · refine split_t (by show (!strEq (x.key.extract (0 : Int).toNat (pre.size : Int).toNat) pre) = true; rw [Int.toNat_natCast]; exact (congrArg _ (hraw.trans c1))) ?_
      obtain ⟨e1, hf⟩ := no_ _ _ hc (by unfold pcond; rw [c1]; rfl)
      exact ⟨(i + 1, A', n'), ⟨rfl, rfl, rfl, rfl, rfl, by simp only [e1]; rfl, congrArg _ (i_down (by first | omega | (simp only; omega))), trivial⟩, ⟨hlt, by simp only [e1]; exact hmost, _, css, hf⟩, by show s.l.length - (i + 1) < s.l.length - i; omega⟩
    refine split_f (by show (!strEq (x.key.extract (0 : Int).toNat (pre.size : Int).toNat) pre) = false; rw [Int.toNat_natCast]; exact (congrArg _ (hraw.trans c1))) ?_
    refine ⟨_, hc.cell 1 rfl _ rfl, ?_⟩
    have etri : (strLt x.key after || strEq x.key after) = !strLt after x.key := (strLt_tri after x.key).symm
    rcases Bool.eq_false_or_eq_true (strLt after x.key) with c2 | c2
    rotate_left
    · refine split_t (by rw [etri, c2]; rfl) ?_
      obtain ⟨e1, hf⟩ := no_ _ _ hc (by unfold pcond; rw [c1, c2]; rfl)
      exact ⟨(i + 1, A', n'), ⟨rfl, rfl, rfl, rfl, rfl, by simp only [e1]; rfl, congrArg _ (i_down (by first | omega | (simp only; omega))), trivial⟩, ⟨hlt, by simp only [e1]; exact hmost, _, css, hf⟩, by show s.l.length - (i + 1) < s.l.length - i; omega⟩
    refine split_f (by rw [etri, c2]; rfl) ?_
    rcases Bool.eq_false_or_eq_true (nowE x).2 with c3 | c3
    rotate_left
    · refine split_t (by show (!(nowE x).2) = true; rw [c3]; rfl) ?_
      obtain ⟨e1, hf⟩ := no_ _ _ hc (by unfold pcond; rw [c1, c2, c3]; rfl)
      exact ⟨(i + 1, A', n'), ⟨rfl, rfl, rfl, rfl, rfl, by simp only [e1]; rfl, congrArg _ (i_down (by first | omega | (simp only; omega))), trivial⟩, ⟨hlt, by simp only [e1]; exact hmost, _, css, hf⟩, by show s.l.length - (i + 1) < s.l.length - i; omega⟩
    refine split_f (by show (!(nowE x).2) = false; rw [c3]; rfl) ?_
    have hpc : pcond pre after true x = true := by unfold pcond; rw [c1, c2, c3]; rfl
    have e1 : pageL (s.l.take (i + 1)) pre after true = pageL (s.l.take i) pre after true ++ [x] := by rw [hps, if_pos hpc]
    have e2 : (pageL (s.l.take (i + 1)) pre after true).length = (pageL (s.l.take i) pre after true).length + 1 := by rw [e1, List.length_append]; rfl
    by_cases hfull : (pageL (s.l.take i) pre after true).length = clampN most
    · refine split_t (by show (((pageL (s.l.take i) pre after true).length : Int) == (clampN most : Int)) = true; rw [hfull]; simp) ?_
      obtain ⟨S2, _, hc⟩ := hc.told
      have ho := hc.out
      have epS : pageS s pre after most true = (pageL (s.l.take i) pre after true, true) := by
        unfold pageS
        rw [hsp, e1, List.append_assoc, List.take_left' hfull]
        congr 1
        rw [List.length_append]
        simp only [List.length_append, List.length_cons, decide_eq_true_eq]
        omega
      rw [epS]
      exact ⟨A', n', css, rfl, hc.below, ho.1.1.2, ho.2⟩
    · refine split_f (by show (((pageL (s.l.take i) pre after true).length : Int) == (clampN most : Int)) = false; rw [beq_eq_false_iff_ne]; omega) ?_
      refine ⟨_, ?_, hc.cells 1 rfl, ?_⟩
      · rfl
      intro gb wgb hgb
      have hc := (hc.loc hgb).1
      refine app_ownF Tryz.underlying74 info_E rfl (by decide) hc (ys := [.string x.key, .slice A1 x.vs.length cap1]) (m := 1) rfl (hc.cells 0 rfl) rfl (by omega) (by decide) rfl rfl ?_
      intro A3 c5 w11 hc
      have hf := hc.drop.drop.drop.now (X := fun S w => (RepEs S w s.l css0 ∧ Row S w (some ad) s.l.length cap css0.flatten) ∧ RepEs S w (pageL (s.l.take i) pre after true ++ [x]) (css ++ [[.string x.key, .slice A1 x.vs.length cap1]])) (fun h => ⟨h.1.1, RepEs.snoc h.1.2 ⟨A1, cap1, rfl, h.2⟩⟩) ((stab_P _ _ _ _).and (RepEs.stab _ _))
      have ef : css.flatten ++ [Value.string x.key, Value.slice A1 x.vs.length cap1] = (css ++ [[Value.string x.key, Value.slice A1 x.vs.length cap1]]).flatten := by rw [List.flatten_append]; simp
      rw [← e1, ← e2, ef] at hf
      exact ⟨(i + 1, A3, c5), ⟨rfl, rfl, rfl, rfl, rfl, by simp only [e2]; rfl, congrArg _ (i_down (by first | omega | (simp only; omega))), trivial⟩, ⟨hlt, by simp only [e2]; omega, _, _, hf⟩, by show s.l.length - (i + 1) < s.l.length - i; omega⟩
  · refine split_f (decide_eq_false (by first | omega | (simp only; omega))) ?_
    have hi : i = s.l.length := by omega
    subst hi
    simp only [List.take_length] at hc hmost ⊢
    obtain ⟨S2, _, hc⟩ := hc.told
    have ho := hc.out
    have epS : pageS s pre after most true = (pageL s.l pre after true, false) := by
      unfold pageS
      rw [List.take_of_length_le hmost]
      congr 1
      simp only [decide_eq_false_iff_not]
      omega
    rw [epS]
    exact ⟨A', n', css, rfl, hc.below, ho.1.2, ho.2⟩
set_option maxHeartbeats 2000000 in
theorem rsomeV_any (s : Stt) (pre after : ByteArray) (most : Int) (hl : s.l.length ≤ 1000000) (cs : List Value) (S0 : Nat → Prop) (w : World) (hlt0 : ∀ b, S0 b → b < w.heap.size) (hs : RepS S0 w s cs) :
    Calls Tryz.prog 143 #[.agg cs.toArray, .string pre, .string after, .int .i64 most, .bool false] w (RetP S0 (pageS s pre after most false) w) := by
  obtain ⟨A, cap, css0, B, cap', l0, l1, l2, l3, l4, rfl, el, hE, hR, hM⟩ := hs.shape
  refine calls_vc lay_ok Tryz.func143 rfl (by kernel_rfl) (by kernel_rfl) ?_
  have hc := CtxF.start w S0 hlt0 (R := fun S w => (RepEs S w s.l css0 ∧ Row S w A s.l.length cap css0.flatten) ∧ RepEs S w [] []) ⟨⟨hE, hR⟩, rfl⟩ ((stab_P _ _ _ _).and (RepEs.stab _ _))
  intro g5 wg5 hg5
  have hc := (hc.loc hg5).1
  have hc := hc.nil 58 2
  have hcr := clamp_range most
  refine ⟨Nat × Option Addr × Nat, fun x => [(1, .string pre), (2, .string after), (3, .int .i64 (clampN most : Int)), (4, .bool false), (5, .pointer (some ⟨g5, 0, none⟩)), (12, .slice x.2.1 (pageL (s.l.take x.1) pre after false).length x.2.2), (13, .int .i64 x.1)],
    fun x w' => x.1 ≤ s.l.length ∧ (pageL (s.l.take x.1) pre after false).length ≤ clampN most ∧ ∃ S css, CtxF S0 w S w' [(g5, 78, stC s A cap B cap' l0 l1 l2 l3 l4)] [⟨58, 2, x.2.1, (pageL (s.l.take x.1) pre after false).length, x.2.2, css.flatten⟩] (fun S w => (RepEs S w s.l css0 ∧ Row S w A s.l.length cap css0.flatten) ∧ RepEs S w (pageL (s.l.take x.1) pre after false) css),
    fun x _ => s.l.length - x.1, (0, none, 0), ⟨rfl, rfl, congrArg _ (clamp2 most), rfl, rfl, rfl, rfl, trivial⟩, ⟨Nat.zero_le _, Nat.zero_le _, S0, [], hc⟩, ?_⟩
  clear hc
  rintro ⟨i, A', n'⟩ w4 u ⟨hi, hmost, S, css, hc⟩
  simp only at hi hc hmost
  refine ⟨_, hc.cell 0 rfl _ rfl, ?_⟩
  by_cases hlt : i < s.l.length
  · refine split_t (decide_eq_true (by first | omega | (simp only; omega))) ?_
    obtain ⟨ad, A1, cap1, hA, hcell0, hRe⟩ := RowE.elem hc.row.1.2 hc.row.1.1 i hlt
    have hps := pageL_snoc pre after false s.l i hlt
    have hsp := pageL_split pre after false s.l (i + 1)
    generalize hx : s.l[i] = x at *
    refine ⟨_, hc.cell 0 rfl _ rfl, ?_⟩
    subst hA
    refine ⟨⟨by first | omega | (simp only; omega), by first | omega | (simp only; omega)⟩, ?_⟩
    refine ⟨[.string x.key, .slice A1 x.vs.length cap1], rfl, hcell0, ?_⟩
    have hc := hc.know hRe (stab_row _ _ _ _)
    intro g14 wg14 hg14
    have hc := (hc.loc hg14).1
    refine ⟨hc.may 0 rfl _ _ (nle rfl) rfl, ?_⟩
    intro wS hS
    have hc := (hc.set 0 rfl hS).1
    refine ⟨_, ?_, hc.cells 0 rfl, ?_⟩
    · rfl
    refine call_b (rnow_any x A1 cap1 _ _ hc.row.2) ?_
    intro wQ hQ
    have hc := (hc.quiet hQ).1
    intro g15 wg15 hg15
    have hc := (hc.loc hg15).1
    refine ⟨hc.may 0 rfl _ _ (nle rfl) rfl, ?_⟩
    intro wS hS
    have hc := (hc.set 0 rfl hS).1
    refine ⟨_, hc.cell 1 rfl _ rfl, ?_⟩
    have no_ : ∀ wz S2, CtxF S0 w S2 wz [(g15, 60, verC (nowE x).1), (g14, 58, [.string x.key, .slice A1 x.vs.length cap1]), (g5, 78, stC s (some ad) cap B cap' l0 l1 l2 l3 l4)] [⟨58, 2, A', (pageL (s.l.take i) pre after false).length, n', css.flatten⟩] (fun S w => ((RepEs S w s.l css0 ∧ Row S w (some ad) s.l.length cap css0.flatten) ∧ RepEs S w (pageL (s.l.take i) pre after false) css) ∧ Row S w A1 x.vs.length cap1 (x.vs.map verC).flatten) → pcond pre after false x = false →
        pageL (s.l.take (i + 1)) pre after false = pageL (s.l.take i) pre after false ∧ CtxF S0 w S2 wz [(g5, 78, stC s (some ad) cap B cap' l0 l1 l2 l3 l4)] [⟨58, 2, A', (pageL (s.l.take (i + 1)) pre after false).length, n', css.flatten⟩] (fun S w => (RepEs S w s.l css0 ∧ Row S w (some ad) s.l.length cap css0.flatten) ∧ RepEs S w (pageL (s.l.take (i + 1)) pre after false) css) := by
      intro wz S2 h hp
      have e1 : pageL (s.l.take (i + 1)) pre after false = pageL (s.l.take i) pre after false := by rw [hps, hp, if_neg (by decide), List.append_nil]
      rw [e1]
      exact ⟨rfl, h.drop.drop.now (fun h => h.1) ((stab_P _ _ _ _).and (RepEs.stab _ _))⟩
    have hraw := hasPre_raw x.key pre
    rcases Nat.lt_or_ge x.key.size pre.size with c0 | c0
    · refine split_t (decide_eq_true (Int.ofNat_lt.2 c0)) ?_
      obtain ⟨e1, hf⟩ := no_ _ _ hc (by rw [decide_eq_false (by omega)] at hraw; unfold pcond; rw [← hraw]; rfl)
      exact ⟨(i + 1, A', n'), ⟨rfl, rfl, rfl, rfl, rfl, by simp only [e1]; rfl, congrArg _ (i_down (by first | omega | (simp only; omega))), trivial⟩, ⟨hlt, by simp only [e1]; exact hmost, _, css, hf⟩, by show s.l.length - (i + 1) < s.l.length - i; omega⟩
    refine split_f (decide_eq_false (show ¬ (x.key.size : Int) < (pre.size : Int) by omega)) ?_
    rw [decide_eq_true c0, Bool.true_and] at hraw
    refine ⟨_, hc.cell 1 rfl _ rfl, ?_⟩
    refine ⟨⟨Int.le_refl _, Int.natCast_nonneg _, Int.ofNat_le.2 c0⟩, ?_⟩
    rcases Bool.eq_false_or_eq_true (hasPre x.key pre) with c1 | c1
    rotate_left
    · refine split_t (by show (!strEq (x.key.extract (0 : Int).toNat (pre.size : Int).toNat) pre) = true; rw [Int.toNat_natCast]; exact (congrArg _ (hraw.trans c1))) ?_
      obtain ⟨e1, hf⟩ := no_ _ _ hc (by unfold pcond; rw [c1]; rfl)
      exact ⟨(i + 1, A', n'), ⟨rfl, rfl, rfl, rfl, rfl, by simp only [e1]; rfl, congrArg _ (i_down (by first | omega | (simp only; omega))), trivial⟩, ⟨hlt, by simp only [e1]; exact hmost, _, css, hf⟩, by show s.l.length - (i + 1) < s.l.length - i; omega⟩
    refine split_f (by show (!strEq (x.key.extract (0 : Int).toNat (pre.size : Int).toNat) pre) = false; rw [Int.toNat_natCast]; exact (congrArg _ (hraw.trans c1))) ?_
    refine ⟨_, hc.cell 1 rfl _ rfl, ?_⟩
    have etri : (strLt x.key after || strEq x.key after) = !strLt after x.key := (strLt_tri after x.key).symm
    rcases Bool.eq_false_or_eq_true (strLt after x.key) with c2 | c2
    rotate_left
    · refine split_t (by rw [etri, c2]; rfl) ?_
      obtain ⟨e1, hf⟩ := no_ _ _ hc (by unfold pcond; rw [c1, c2]; rfl)
      exact ⟨(i + 1, A', n'), ⟨rfl, rfl, rfl, rfl, rfl, by simp only [e1]; rfl, congrArg _ (i_down (by first | omega | (simp only; omega))), trivial⟩, ⟨hlt, by simp only [e1]; exact hmost, _, css, hf⟩, by show s.l.length - (i + 1) < s.l.length - i; omega⟩
    refine split_f (by rw [etri, c2]; rfl) ?_
    have hpc : pcond pre after false x = true := by unfold pcond; rw [c1, c2]; rfl
    have e1 : pageL (s.l.take (i + 1)) pre after false = pageL (s.l.take i) pre after false ++ [x] := by rw [hps, if_pos hpc]
    have e2 : (pageL (s.l.take (i + 1)) pre after false).length = (pageL (s.l.take i) pre after false).length + 1 := by rw [e1, List.length_append]; rfl
    by_cases hfull : (pageL (s.l.take i) pre after false).length = clampN most
    · refine split_t (by show (((pageL (s.l.take i) pre after false).length : Int) == (clampN most : Int)) = true; rw [hfull]; simp) ?_
      obtain ⟨S2, _, hc⟩ := hc.told
      have ho := hc.out
      have epS : pageS s pre after most false = (pageL (s.l.take i) pre after false, true) := by
        unfold pageS
        rw [hsp, e1, List.append_assoc, List.take_left' hfull]
        congr 1
        rw [List.length_append]
        simp only [List.length_append, List.length_cons, decide_eq_true_eq]
        omega
      rw [epS]
      exact ⟨A', n', css, rfl, hc.below, ho.1.1.2, ho.2⟩
    · refine split_f (by show (((pageL (s.l.take i) pre after false).length : Int) == (clampN most : Int)) = false; rw [beq_eq_false_iff_ne]; omega) ?_
      refine ⟨_, ?_, hc.cells 1 rfl, ?_⟩
      · rfl
      intro gb wgb hgb
      have hc := (hc.loc hgb).1
      refine app_ownF Tryz.underlying74 info_E rfl (by decide) hc (ys := [.string x.key, .slice A1 x.vs.length cap1]) (m := 1) rfl (hc.cells 0 rfl) rfl (by omega) (by decide) rfl rfl ?_
      intro A3 c5 w11 hc
      have hf := hc.drop.drop.drop.now (X := fun S w => (RepEs S w s.l css0 ∧ Row S w (some ad) s.l.length cap css0.flatten) ∧ RepEs S w (pageL (s.l.take i) pre after false ++ [x]) (css ++ [[.string x.key, .slice A1 x.vs.length cap1]])) (fun h => ⟨h.1.1, RepEs.snoc h.1.2 ⟨A1, cap1, rfl, h.2⟩⟩) ((stab_P _ _ _ _).and (RepEs.stab _ _))
      have ef : css.flatten ++ [Value.string x.key, Value.slice A1 x.vs.length cap1] = (css ++ [[Value.string x.key, Value.slice A1 x.vs.length cap1]]).flatten := by rw [List.flatten_append]; simp
      rw [← e1, ← e2, ef] at hf
      exact ⟨(i + 1, A3, c5), ⟨rfl, rfl, rfl, rfl, rfl, by simp only [e2]; rfl, congrArg _ (i_down (by first | omega | (simp only; omega))), trivial⟩, ⟨hlt, by simp only [e2]; omega, _, _, hf⟩, by show s.l.length - (i + 1) < s.l.length - i; omega⟩
  · refine split_f (decide_eq_false (by first | omega | (simp only; omega))) ?_
    have hi : i = s.l.length := by omega
    subst hi
    simp only [List.take_length] at hc hmost ⊢
    obtain ⟨S2, _, hc⟩ := hc.told
    have ho := hc.out
    have epS : pageS s pre after most false = (pageL s.l pre after false, false) := by
      unfold pageS
      rw [List.take_of_length_le hmost]
      congr 1
      simp only [decide_eq_false_iff_not]
      omega
    rw [epS]
    exact ⟨A', n', css, rfl, hc.below, ho.1.2, ho.2⟩
set_option maxHeartbeats 1000000 in
theorem rnames_any (s : Stt) (pre after : ByteArray) (most : Int) (hl : s.l.length ≤ 1000000) (cs : List Value) (S0 : Nat → Prop) (w : World) (hlt0 : ∀ b, S0 b → b < w.heap.size) (hs : RepS S0 w s cs) :
    Calls Tryz.prog 80 #[.agg cs.toArray, .string pre, .string after, .int .i64 most] w (RetN S0 (pageS s pre after most true) w) := by
  obtain ⟨A, cap, css0, B, cap', l0, l1, l2, l3, l4, rfl, el, hE, hR, hM⟩ := hs.shape
  have hp20 := pageS_len s pre after most true
  refine calls_vc lay_ok Tryz.func80 rfl (by kernel_rfl) (by kernel_rfl) ?_
  have hc := CtxF.start w S0 hlt0 (R := fun S w => True) trivial Stab.true
  intro g4 wg4 hg4
  have hc := (hc.loc hg4).1
  refine ⟨_, ?_, hc.cells 0 rfl, ?_⟩
  · rfl
  refine ⟨(rsomeN_any s pre after most hl _ S0 _ (fun b hb => Nat.lt_of_lt_of_le (hlt0 b hb) hc.below.size) (hs.below hc.below)).mono fun en w9 hq => ?_⟩
  obtain ⟨A1, c1, css, e1, h1, hE1, hR1⟩ := hq
  generalize pageS s pre after most true = q at *
  obtain ⟨l, more⟩ := q
  have hc := (hc.call h1).1.know (X := fun S w => RepEs S w l css ∧ Row S w A1 l.length c1 css.flatten) ⟨hE1, hR1⟩ (stab_P _ _ _ _)
  refine ⟨_, e1, ?_⟩
  have hc := hc.nil 9 1
  refine ⟨Nat × Option Addr × Nat, fun x => [(10, .slice A1 l.length c1), (11, .bool more), (12, .slice x.2.1 x.1 x.2.2), (13, .int .i64 x.1)],
    fun x w' => x.1 ≤ l.length ∧ ∃ S, CtxF S0 w S w' [(g4, 78, stC s A cap B cap' l0 l1 l2 l3 l4)] [⟨9, 1, x.2.1, x.1, x.2.2, (l.take x.1).map keyC⟩] (fun S w => RepEs S w l css ∧ Row S w A1 l.length c1 css.flatten),
    fun x _ => l.length - x.1, (0, none, 0), ⟨rfl, rfl, rfl, rfl, trivial⟩, ⟨Nat.zero_le _, _, hc.now (fun h => h.2) (stab_P _ _ _ _)⟩, ?_⟩
  clear hc hE1 hR1
  rintro ⟨i, A', n'⟩ w4 u ⟨hi, S, hc⟩
  simp only at hi hc hp20
  by_cases hlt : i < l.length
  · refine split_t (decide_eq_true (by first | omega | (simp only; omega))) ?_
    obtain ⟨ad, A3, cap3, rfl, hcell, hRe⟩ := RowE.elem hc.row.2 hc.row.1 i hlt
    have e2 : (l.take (i + 1)).map keyC = (l.take i).map keyC ++ [keyC l[i]] := by rw [List.take_add_one, List.getElem?_eq_getElem hlt, List.map_append]; rfl
    generalize l[i] = x at *
    refine ⟨⟨by first | omega | (simp only; omega), by first | omega | (simp only; omega)⟩, ?_⟩
    rw [← Int.toNat_natCast i] at hcell
    generalize ad.add ((i : Int).toNat * 2) = ae at hcell ⊢
    obtain ⟨ab, ao, asub⟩ := ae
    refine ⟨_, hcell.1, ?_⟩
    intro gb wgb hgb
    have hc := (hc.loc hgb).1
    refine app_ownF Tryz.underlying95 info_str rfl (by decide) hc (ys := [keyC x]) (m := 1) rfl (hc.cells 0 rfl) rfl (by omega) (by decide) rfl rfl ?_
    intro A4 c4 w11 hc
    have hf := hc.drop
    rw [← e2] at hf
    exact ⟨(i + 1, A4, c4), ⟨rfl, rfl, rfl, congrArg _ (i_down (by first | omega | (simp only; omega))), trivial⟩, ⟨hlt, _, hf⟩, by show l.length - (i + 1) < l.length - i; omega⟩
  · refine split_f (decide_eq_false (by first | omega | (simp only; omega))) ?_
    have hi : i = l.length := by omega
    subst hi
    simp only [List.take_length] at hc
    obtain ⟨S2, _, hc⟩ := hc.told
    exact ⟨A', n', rfl, hc.below, hc.out.2⟩
theorem rversions_any (s : Stt) (pre after : ByteArray) (most : Int) (hl : s.l.length ≤ 1000000) (cs : List Value) (S0 : Nat → Prop) (w : World) (hlt0 : ∀ b, S0 b → b < w.heap.size) (hs : RepS S0 w s cs) :
    Calls Tryz.prog 81 #[.agg cs.toArray, .string pre, .string after, .int .i64 most] w (RetP S0 (pageS s pre after most false) w) := by
  obtain ⟨A, cap, css0, B, cap', l0, l1, l2, l3, l4, rfl, el, hE, hR, hM⟩ := hs.shape
  refine calls_vc lay_ok Tryz.func81 rfl (by kernel_rfl) (by kernel_rfl) ?_
  have hc := CtxF.start w S0 hlt0 (R := fun S w => True) trivial Stab.true
  intro g4 wg4 hg4
  have hc := (hc.loc hg4).1
  refine ⟨_, ?_, hc.cells 0 rfl, ?_⟩
  · rfl
  refine ⟨(rsomeV_any s pre after most hl _ S0 _ (fun b hb => Nat.lt_of_lt_of_le (hlt0 b hb) hc.below.size) (hs.below hc.below)).mono fun en w9 hq => ?_⟩
  obtain ⟨A1, c1, css, e1, h1, hE1, hR1⟩ := hq
  have hc := (hc.call h1).1.know (X := fun S w => RepEs S w (pageS s pre after most false).1 css ∧ Row S w A1 (pageS s pre after most false).1.length c1 css.flatten) ⟨hE1, hR1⟩ (stab_P _ _ _ _)
  refine ⟨_, e1, ?_⟩
  exact ⟨A1, c1, css, rfl, hc.below, hc.out.2.1, hc.out.2.2⟩
def Sm (f N : Nat) (v : V) : Prop := v = V0 ∨ (cnt f v ≤ 6000 ∧ (putV v).length ≤ N)
theorem Sm.mem {f N : Nat} {v : V} (h : Sm (f + 1) N v) : (vL v).length ≤ 6000 ∧ ∀ x ∈ vL v, Sm f N x := by
  rcases h with rfl | ⟨hc, hp⟩
  · exact ⟨Nat.zero_le _, fun x hx => by cases hx⟩
  obtain ⟨k, n, s, l⟩ := v
  show l.length ≤ 6000 ∧ ∀ x ∈ l, _
  rw [cnt] at hc
  by_cases h1 : (k == 1 && mt s && ((l.length : Int) == 0)) || (k == 2 && n == 0 && ((l.length : Int) == 0))
  · have h0 : l = [] := by
      simp only [Bool.or_eq_true, Bool.and_eq_true, beq_iff_eq] at h1
      have : l.length = 0 := by omega
      exact List.eq_nil_of_length_eq_zero this
    subst h0
    exact ⟨Nat.zero_le _, fun x hx => by cases hx⟩
  rw [if_neg h1] at hc
  by_cases h2 : (k != 3 || !(n == 0) || !mt s) = true
  · rw [if_pos h2] at hc; omega
  rw [if_neg h2] at hc
  obtain ⟨h3, h4⟩ := cntL_le (cnt f) (fun v => (cnt_range f v).1) l 1 hc
  have e3 : k = 3 := by
    simp only [Bool.or_eq_true, not_or, Bool.not_eq_true] at h2
    simpa using h2.1.1
  subst e3
  have ht : txtV (.mk 3 n s l) = putL l := by simp [txtV]
  have h6 : (putL l).length ≤ N := by rw [putV_len, ht] at hp; omega
  exact ⟨by omega, fun x hx => .inr ⟨by have := h4 x hx; omega, Nat.le_trans (putV_mem_le hx) h6⟩⟩
theorem Sm.at {f N : Nat} {v : V} (h : Sm (f + 1) N v) (i : Nat) : Sm f N (atV v i) := by
  unfold atV
  rw [List.getD_eq_getElem?_getD]
  cases hg : (vL v)[i]? with
  | none => exact .inl rfl
  | some x => exact h.mem.2 x (List.mem_of_getElem? hg)
theorem Sm.str {f N : Nat} {v : V} (h : Sm f N v) : (vS v).size ≤ N := by
  rcases h with rfl | ⟨hc, hp⟩
  · exact Nat.zero_le _
  · exact Nat.le_trans (small_strs hc) hp
theorem allV_sm (t : List UInt8) : Sm 6 t.length (allV t).1 := by
  by_cases he : (allV t).2 = 0
  · have ha : allV t = ((allV t).1, 0) := by rw [← he]
    obtain ⟨k1, k2, k3⟩ := allV_get ha
    exact .inr ⟨by simpa [mayV] using k2, by rw [k1]; exact Nat.le_refl _⟩
  · left
    unfold allV at he ⊢
    simp only at he ⊢
    split at he
    · rename_i h; rw [if_pos h]
    · exact absurd rfl he
theorem All_V (t : List UInt8) (w : World) (ht : t.length ≤ 1073741824) (hw : Env w) :
    Calls Tryz.prog 93 #[.string ⟨t.toArray⟩] w (fun e w' => ∃ A cap, e = .returned (.tuple #[.agg (cellsV (allV t).1 A cap).toArray, .int .i64 (allV t).2]) ∧ Below w.heap.size w w' ∧ RepC (ext no w w') w' (allV t).1 (cellsV (allV t).1 A cap)) :=
  (All_any t w ht hw).mono fun e w' h => by
    obtain ⟨k, n, s, A, len, cap, e1, hb, hr⟩ := h
    obtain ⟨A', cap', e2⟩ := hr.cells
    rw [e2] at hr
    exact ⟨A', cap', by rw [e1, ← e2], hb, hr⟩
def RetRd (q : Stt × Int) (w : World) (en : Ending) (w' : World) : Prop := ∃ cs, en = .returned (.tuple #[.agg cs.toArray, .int .i64 q.2]) ∧ Below w.heap.size w w' ∧ RepS (ext no w w') w' q.1 cs
def stt0C : List Value := [.int .i64 0, .slice none 0 0, .slice none 0 0, .int .i64 0, .int .i64 0, .int .i64 0, .int .i64 0, .int .i64 0]
theorem row0 (S : Nat → Prop) (w : World) : Row S w none 0 0 [] := ⟨Nat.le_refl _, Nat.zero_le _, fun h => absurd rfl h⟩
theorem rep0 (S : Nat → Prop) (w : World) : RepS S w Stt0 stt0C := ⟨none, 0, [], none, 0, rfl, rfl, rfl, row0 S w, row0 S w⟩
def lowU (u : V) (i j : Nat) : Int := if j < i then vN (atV u j) else 0
def lowUC (u : V) (i : Nat) : List Value := [.int .i64 (lowU u i 0), .int .i64 (lowU u i 1), .int .i64 (lowU u i 2), .int .i64 (lowU u i 3), .int .i64 (lowU u i 4)]
theorem lowU_put (a b c : Value) (u : V) (i : Nat) (hi : i < 5) : putAt ([a, b, c] ++ lowUC u i) (3 + i) [.int .i64 (vN (atV u i))] = [a, b, c] ++ lowUC u (i + 1) := by
  match i, hi with
  | 0, _ => simp [putAt, lowUC, lowU]
  | 1, _ => simp [putAt, lowUC, lowU]
  | 2, _ => simp [putAt, lowUC, lowU]
  | 3, _ => simp [putAt, lowUC, lowU]
  | 4, _ => simp [putAt, lowUC, lowU]
theorem stab_S (s : Stt) (cs : List Value) : Stab (fun S w => RepS S w s cs) := fun _ _ _ _ h f => h.map (fun h => h.fut f)
theorem strEq_lists (a b : List UInt8) : strEq ⟨a.toArray⟩ ⟨b.toArray⟩ = (a == b) := by simp [strEq]
set_option maxHeartbeats 2000000 in
theorem bread_any (t : List UInt8) (ht : t.length ≤ 1073741824) (w : World) (hw : Env w) : Calls Tryz.prog 67 #[.string ⟨t.toArray⟩] w (RetRd (readStt t) w) := by
  refine calls_vc lay_ok Tryz.func67 rfl (by kernel_rfl) (by kernel_rfl) ?_
  have hc := CtxF.start w no (fun _ h => h.elim) (R := fun S w => True) trivial Stab.true
  intro g2 wg2 hg2
  have hc := (hc.loc hg2).1
  refine ⟨(All_V t _ ht (hw.below hc.below)).mono fun en wq hq => ?_⟩
  obtain ⟨A, cap, e1, hq, hrep⟩ := hq
  have hc := (hc.call hq).1.know (hrep.sub fun b h => h.elim (fun h => h.elim) .inr) (stab_C _ _)
  have hsm := allV_sm t
  have eR : readStt t = if (allV t).2 ≠ 0 then (Stt0, 1) else if putStt (sttV (allV t).1) = [] ∨ putStt (sttV (allV t).1) ≠ t then (Stt0, 1) else (sttV (allV t).1, 0) := rfl
  rw [eR]
  clear eR hrep
  generalize allV t = q at *
  obtain ⟨v, er⟩ := q
  simp only at hsm hc ⊢
  refine ⟨_, e1, ?_⟩
  intro g4 wg4 hg4
  have hc := (hc.loc hg4).1
  refine ⟨hc.may 0 rfl _ _ (nle rfl) rfl, ?_⟩
  intro wS hS
  have hc := (hc.set 0 rfl hS).1
  by_cases he : er = 0
  rotate_left
  · refine split_t (by show (er != 0) = true; simpa using he) ?_
    refine ⟨hc.may 1 rfl _ _ (nle rfl) rfl, ?_⟩
    intro wS hS
    have hc := (hc.set 1 rfl hS).1
    refine ⟨_, ?_, hc.cells 1 rfl, ?_⟩
    · rfl
    rw [if_pos he]
    exact ⟨stt0C, rfl, hc.below, rep0 _ _⟩
  refine split_f (by show (er != 0) = false; simpa using he) ?_
  rw [if_neg (show ¬ er ≠ 0 by omega)]
  intro g6 wg6 hg6
  have hc := (hc.loc hg6).1
  refine ⟨hc.may 0 rfl _ _ (nle rfl) rfl, ?_⟩
  intro wS hS
  have hc := (hc.set 0 rfl hS).1
  refine ⟨_, ?_, hc.cells 1 rfl, ?_⟩
  · rfl
  refine ⟨(batV_any v 0 A cap _ _ hc.row.2).mono fun en wq hq => ?_⟩
  obtain ⟨A0, cap0, e1, hq, _⟩ := hq
  have hc := (hc.quiet hq).1
  refine ⟨_, e1, ?_⟩
  intro g7 wg7 hg7
  have hc := (hc.loc hg7).1
  refine ⟨hc.may 0 rfl _ _ (nle rfl) rfl, ?_⟩
  intro wS hS
  have hc := (hc.set 0 rfl hS).1
  refine ⟨_, ?_, hc.cells 2 rfl, ?_⟩
  · rfl
  refine ⟨(batV_any v 1 A cap _ _ hc.row.2).mono fun en wq hq => ?_⟩
  obtain ⟨A1, cap1, e1, hq, hr1⟩ := hq
  have hc := (hc.quiet hq).1.know hr1 (stab_C _ _)
  refine ⟨_, e1, ?_⟩
  have hs1 := hsm.at 1
  refine ⟨(someEnt_any (atV v 1) A1 cap1 _ _ hc.row.2 (Nat.le_trans hs1.mem.1 (by decide)) (fun x hx => Nat.le_trans ((hs1.mem.2 x hx).at 1).mem.1 (by decide)) ⟨g6, 0, none⟩ (hc.cell 1 rfl 0 rfl)).mono fun en wq hq => ?_⟩
  obtain ⟨A2, c2, css, e1, hq, hE, hR⟩ := hq
  have hc := (hc.call hq).1.know (X := fun S w => RepEs S w ((vL (atV v 1)).map entV) css ∧ Row S w A2 ((vL (atV v 1)).map entV).length c2 css.flatten) ⟨hE.map (fun h => h.sub fun b h => h.elim (fun h => h.elim) .inr), hR.sub fun b h => h.elim (fun h => h.elim) .inr⟩ (fun _ _ _ _ h f => ⟨RepEs.map (fun h => h.fut f) h.1, h.2.fut f⟩)
  refine ⟨_, e1, ?_⟩
  refine ⟨hc.may 0 rfl _ _ (nle rfl) rfl, ?_⟩
  intro wS hS
  have hc := (hc.set 0 rfl hS).1
  refine ⟨_, ?_, hc.cells 2 rfl, ?_⟩
  · rfl
  refine ⟨(batV_any v 2 A cap _ _ hc.row.1.1.2).mono fun en wq hq => ?_⟩
  obtain ⟨A3, cap3, e1, hq, hr2⟩ := hq
  have hc := (hc.quiet hq).1
  refine ⟨_, e1, ?_⟩
  refine ⟨(someMem_any (atV v 2) A3 cap3 _ _ hr2 (Nat.le_trans (hsm.at 2).mem.1 (by decide))).mono fun en wq hq => ?_⟩
  obtain ⟨A4, c4, e1, hq, hM⟩ := hq
  have hc := (hc.call hq).1.know (hM.sub fun b h => h.elim (fun h => h.elim) .inr) (stab_row _ _ _ _)
  refine ⟨_, e1, ?_⟩
  refine ⟨hc.may 0 rfl _ _ (nle rfl) rfl, ?_⟩
  intro wS hS
  have hc := (hc.set 0 rfl hS).1
  refine ⟨Nat, fun i => [(0, .string ⟨t.toArray⟩), (2, .pointer (some ⟨g2, 0, none⟩)), (4, .pointer (some ⟨g4, 0, none⟩)), (7, .pointer (some ⟨g7, 0, none⟩)), (31, .int .i64 i)],
    fun i w' => i ≤ 5 ∧ ∃ S, CtxF no w S w' [(g7, 78, [.int .i64 (vN (atV v 0)), .slice A2 ((vL (atV v 1)).map entV).length c2, .slice A4 ((vL (atV v 2)).map memV).length c4] ++ lowUC (atV v 3) i), (g6, 161, [.func (.func 120) #[] #[]]), (g4, 35, cellsV v A cap), (g2, 78, (lay.ty 78).zero)] []
      (fun S w => RepC S w v (cellsV v A cap) ∧ (RepEs S w ((vL (atV v 1)).map entV) css ∧ Row S w A2 ((vL (atV v 1)).map entV).length c2 css.flatten) ∧ Row S w A4 ((vL (atV v 2)).map memV).length c4 (((vL (atV v 2)).map memV).map memC).flatten),
    fun i _ => 5 - i, 0, ⟨rfl, rfl, rfl, rfl, rfl, trivial⟩, ⟨Nat.zero_le _, _, hc.now (fun h => ⟨h.1.1.1.2, h.1.2, h.2⟩) ((stab_C _ _).and (Stab.and (fun _ _ _ _ h f => ⟨RepEs.map (fun h => h.fut f) h.1, h.2.fut f⟩) (stab_row _ _ _ _)))⟩, ?_⟩
  clear hc hE hR hM hr1 hr2
  rintro i w4 u ⟨hi, S, hc⟩
  by_cases hlt : i < 5
  · refine split_t (decide_eq_true (by omega)) ?_
    refine ⟨_, ?_, hc.cells 2 rfl, ?_⟩
    · rfl
    refine ⟨(batV_any v 3 A cap _ _ hc.row.1).mono fun en wq hq => ?_⟩
    obtain ⟨A5, cap5, e1, hq, hr3⟩ := hq
    have hc := (hc.quiet hq).1
    refine ⟨_, e1, ?_⟩
    refine ⟨(batV_any (atV v 3) i A5 cap5 _ _ hr3).mono fun en wq hq => ?_⟩
    obtain ⟨A6, cap6, e1, hq, _⟩ := hq
    have hc := (hc.quiet hq).1
    refine ⟨_, e1, ?_⟩
    refine ⟨⟨Int.natCast_nonneg _, by omega⟩, ?_⟩
    generalize hae : ((⟨g7, 0 + 3, none⟩ : Addr).add ((i : Int).toNat * 1)) = ae
    have hae : (⟨g7, 3 + i, none⟩ : Addr) = ae := by rw [← hae, Addr.add_lit, Nat.mul_one, Nat.zero_add, Int.toNat_natCast]
    subst hae
    refine ⟨hc.may 0 rfl (3 + i) [.int .i64 (vN (atV (atV v 3) i))] (by show 3 + i + 1 ≤ 8; omega) rfl, ?_⟩
    intro w21 h21
    have h21 : Stored _ ⟨g7, 3 + i, none⟩ [.int .i64 (vN (atV (atV v 3) i))] w21 := h21
    have hc := (hc.set 0 rfl h21).1
    have ep := lowU_put (.int .i64 (vN (atV v 0))) (.slice A2 ((vL (atV v 1)).map entV).length c2) (.slice A4 ((vL (atV v 2)).map memV).length c4) (atV v 3) i hlt
    refine ⟨i + 1, ⟨rfl, rfl, rfl, rfl, congrArg _ (i_down (by omega)), trivial⟩, ⟨hlt, S, by rw [← ep]; exact hc⟩, by show 5 - (i + 1) < 5 - i; omega⟩
  · refine split_f (decide_eq_false (by omega)) ?_
    have hi : i = 5 := by omega
    subst hi
    refine ⟨_, ?_, hc.cells 0 rfl, ?_⟩
    · rfl
    have hrS : Stab (fun S w => RepC S w v (cellsV v A cap) ∧ (RepEs S w ((vL (atV v 1)).map entV) css ∧ Row S w A2 ((vL (atV v 1)).map entV).length c2 css.flatten) ∧ Row S w A4 ((vL (atV v 2)).map memV).length c4 (((vL (atV v 2)).map memV).map memC).flatten) := hc.stab
    have mkS : ∀ (S : Nat → Prop) (w : World), (RepC S w v (cellsV v A cap) ∧ (RepEs S w ((vL (atV v 1)).map entV) css ∧ Row S w A2 ((vL (atV v 1)).map entV).length c2 css.flatten) ∧ Row S w A4 ((vL (atV v 2)).map memV).length c4 (((vL (atV v 2)).map memV).map memC).flatten) →
        RepS S w (sttV v) ([.int .i64 (vN (atV v 0)), .slice A2 ((vL (atV v 1)).map entV).length c2, .slice A4 ((vL (atV v 2)).map memV).length c4] ++ lowUC (atV v 3) 5) := fun S w h => ⟨A2, c2, css, A4, c4, rfl, rfl, h.2.1.1, h.2.1.2, h.2.2⟩
    have hkk : ∀ e ∈ (sttV v).l, strok e.key := by
      intro e he
      obtain ⟨x, hx, rfl⟩ := List.mem_map.1 he
      have := (((hsm.at 1).mem.2 x hx).at 0).str
      show (vS (atV x 0)).size ≤ _
      omega
    refine call_b (bput_any (sttV v) hkk _ _ _ (mkS _ _ hc.row) (hw.tab.below hc.below)) ?_
    intro wQ hQ
    have hc := (hc.quiet hQ).1
    have err : (putStt (sttV v) = [] ∨ putStt (sttV v) ≠ t) → (if putStt (sttV v) = [] ∨ putStt (sttV v) ≠ t then ((Stt0, 1) : Stt × Int) else (sttV v, 0)) = (Stt0, 1) := fun h => if_pos h
    by_cases h0 : putStt (sttV v) = []
    · refine split_t (by rw [strEq_iff, h0]) ?_
      refine ⟨hc.may 3 rfl _ _ (nle rfl) rfl, ?_⟩
      intro wS hS
      have hc := (hc.set 3 rfl hS).1
      refine ⟨_, ?_, hc.cells 3 rfl, ?_⟩
      · rfl
      rw [err (.inl h0)]
      exact ⟨stt0C, rfl, hc.below, rep0 _ _⟩
    refine split_f (by
      cases h : strEq ⟨(putStt (sttV v)).toArray⟩ ⟨#[]⟩
      · rfl
      · rw [strEq_iff] at h
        exact absurd (by simpa using h) h0) ?_
    by_cases h1 : putStt (sttV v) = t
    · refine split_f (by show (!strEq ⟨(putStt (sttV v)).toArray⟩ ⟨t.toArray⟩) = false; rw [h1, strEq_iff.2 rfl]; rfl) ?_
      refine ⟨_, ?_, hc.cells 0 rfl, ?_⟩
      · rfl
      refine ⟨hc.may 3 rfl _ _ (nle rfl) rfl, ?_⟩
      intro wS hS
      have hc := (hc.set 3 rfl hS).1
      refine ⟨_, ?_, hc.cells 3 rfl, ?_⟩
      · rfl
      rw [if_neg (by rintro (h | h); exact h0 h; exact h h1)]
      exact ⟨_, rfl, hc.below, mkS _ _ hc.out⟩
    · refine split_t (by
        show (!strEq ⟨(putStt (sttV v)).toArray⟩ ⟨t.toArray⟩) = true
        cases h : strEq ⟨(putStt (sttV v)).toArray⟩ ⟨t.toArray⟩
        · rfl
        · rw [strEq_iff] at h
          exact absurd (by simpa using h) h1) ?_
      refine ⟨hc.may 3 rfl _ _ (nle rfl) rfl, ?_⟩
      intro wS hS
      have hc := (hc.set 3 rfl hS).1
      refine ⟨_, ?_, hc.cells 3 rfl, ?_⟩
      · rfl
      rw [err (.inr h1)]
      exact ⟨stt0C, rfl, hc.below, rep0 _ _⟩
end Go.Proofs.YtbmoimihnndboaaGreatDoor
