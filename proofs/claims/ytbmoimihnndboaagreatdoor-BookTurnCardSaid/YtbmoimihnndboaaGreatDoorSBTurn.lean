import Derived.Test.YtbmoimihnndboaaGreatDoorM13
set_option linter.unusedVariables false
set_option linter.unusedSimpArgs false
/- Walk: armariumlaw5.BookTurn. -/
namespace Go.Proofs.YtbmoimihnndboaaGreatDoor
open Go.Vc Go.RowKit Go.Fl Go.ChangeShapes Go.WideShapes Go.ChangeAt
set_option maxHeartbeats 8000000 in
theorem turnB_any (s : Stt) (hs : s.Ok) (cs : List Value) (ix x : Int) (hx : 0 ≤ x ∧ x ≤ 255) (w : World) (hw : Env w) (hR : RepS (inW w) w s cs) :
    Calls Tryz.prog 8 #[.agg cs.toArray, .int .i64 ix, .int .u8 x] w (RetB (.bool true) w) := by
  obtain ⟨x0, rfl⟩ := hR.stX
  obtain ⟨a, ha⟩ : ∃ t, t = cutS s := ⟨_, rfl⟩
  have hsa := state5_any s hs (stX s x0)
  have hka := cutS_ok hs
  have ha5 : a.lows.length = 5 := ha ▸ hR.five
  rw [← ha] at hsa hka
  refine calls_vc lay_ok Tryz.func8 rfl (by kernel_rfl) (by kernel_rfl) ?_
  have hc := CtxF.start w no (fun _ h => h.elim) (R := fun _ _ => True) trivial Stab.true
  intro g3 wg3 hg3
  have hc := (hc.loc hg3).1
  refine call_b (begun5_any _ (hw.below hc.below)) ?_
  intro wQ hQ
  have hc := (hc.quiet hQ).1
  refine ⟨_, ?_, hc.cells 0 rfl, ?_⟩
  · rfl
  refine ⟨(hsa (inW w) _ (hR.below hc.below)).mono fun en wq hq => ?_⟩
  obtain ⟨cy1, e1, hq, hrep⟩ := hq
  obtain ⟨y1, rfl⟩ := hrep.stX
  have hc := (hc.call hq).1.know (X := fun S w => RepS S w _ (stX _ y1)) (hrep.map fun h => h.sub fun b h => h.elim (fun h => h.elim) .inr) (stab_S _ _)
  refine ⟨_, e1, ?_⟩
  refine call_b (bput_any a (fun e he => (hka.l e he).key) _ _ _ hc.row.2 (hw.tab.below hc.below)) ?_
  intro wQ hQ
  have hc := (hc.quiet hQ).1
  refine split_ (fun he => ?_) (fun he => ?_)
  · refine split_f (by rw [he]; rfl) ?_
    refine ⟨_, ?_, hc.cells 0 rfl, ?_⟩
    · rfl
    refine ⟨(hsa (inW w) _ (hR.below hc.below)).mono fun en wq hq => ?_⟩
    obtain ⟨cy2, e1, hq, hrep⟩ := hq
    obtain ⟨y2, rfl⟩ := hrep.stX
    have hc := (hc.call hq).1.know (X := fun S w => RepS S w _ (stX _ y2)) (hrep.map fun h => h.sub fun b h => h.elim (fun h => h.elim) .inr) (stab_S _ _)
    refine ⟨_, e1, ?_⟩
    refine call_b (rmayS_any a hka _ _ _ hc.row.2) ?_
    intro wQ hQ
    have hc := (hc.quiet hQ).1
    refine ⟨ret_bool ?_, hc.below⟩
    rcases Bool.eq_false_or_eq_true (mayS a) with hm | hm
    · exact absurd (nil_of_str he) (putStt_ne ha5 hm)
    · rw [hm]
      rfl
  refine split_ (fun hi => ?_) (fun hi => ?_)
  · refine split_t (by rw [he]; rfl) ?_
    exact ⟨rfl, hc.below⟩
  have hi : 0 ≤ ix := by simpa using hi
  obtain ⟨t, ht⟩ : ∃ t : List UInt8, t = putStt a := ⟨_, rfl⟩
  have htl : t.length ≤ 1073741824 := ht ▸ putStt_len' ha5
  rw [← ht] at he
  have hne : 0 < t.length := tpos t he
  have hc0 := hc
  generalize hTB : (⟨(putStt a).toArray⟩ : ByteArray) = tb
  have hts : tb.size = t.length := by
    rw [← hTB, ← ht]
    simp [ByteArray.size]
  have htd : tb.data.toList = t := by
    rw [← hTB, ← ht]
  refine ⟨_, _, Lib.run_convert_string_bytes _ _ _ 5 _ Tryz.underlying9 Tryz.underlying50 Tryz.underlying5, ?_⟩
  obtain ⟨m, hm, hml⟩ : ∃ m : Nat, ix.tmod ((tb.size : Nat) : Int) = (m : Int) ∧ m < tb.size := by
    refine ⟨(ix.tmod ((tb.size : Nat) : Int)).toNat, ?_, ?_⟩
    · have := Int.tmod_nonneg ((tb.size : Nat) : Int) hi
      omega
    · have := Int.tmod_lt_of_pos ix (show (0 : Int) < ((tb.size : Nat) : Int) by omega)
      omega
  refine vc_nz (show ((tb.size : Nat) : Int) ≠ 0 by omega) ?_
  rw [hm]
  have hcell : (Lib.bytesWorld wQ 5 tb).cell? ((⟨wQ.heap.size, 0, none⟩ : Addr).add ((m : Int).toNat * 1)) = some (.int .u8 (tb.data.toList.getD m 0).toNat) := by
    rw [Nat.mul_one, Int.toNat_natCast, Addr.add_lit, Nat.zero_add]
    exact Lib.bytesWorld_cell _ _ _ _ hml
  refine ⟨⟨by omega, by omega⟩, ?_⟩
  refine ⟨_, hcell, ?_⟩
  obtain ⟨c, hcx⟩ := xor_u8 ((tb.data.toList.getD m 0).toNat : Int) x
  refine ⟨⟨by omega, by omega⟩, ?_⟩
  refine ⟨may_bytes wQ tb m hml _ rfl, ?_⟩
  intro wT hT
  rw [hcx] at hT
  obtain ⟨hbT, hrT⟩ := set_bytes wQ tb (Nat.le_trans (show tb.size ≤ 1073741824 by omega) (by decide)) m hml c wT hT
  have hc := (hc.quiet hbT).1
  refine bytes_str (l := tb.data.toList.set m c) Tryz.underlying50 Tryz.underlying5 Tryz.underlying9 hrT (by rw [List.length_set]; rfl) ?_
  have hl2 : (⟨(tb.data.toList.set m c).toArray⟩ : ByteArray).size ≤ 1073741824 := by
    show (tb.data.toList.set m c).toArray.size ≤ 1073741824
    rw [List.size_toArray, List.length_set, htd]
    omega
  refine call_b (readsB_any _ hl2 _ (hw.below hc.below)) ?_
  intro wQ hQ
  have hc := (hc.quiet hQ).1
  refine vc_nz (show ((tb.size : Nat) : Int) ≠ 0 by omega) ?_
  rw [hm]
  refine ⟨⟨by omega, by omega, by omega⟩, ?_⟩
  have hxs : (tb.extract ((0 : Nat) : Int).toNat ((m : Nat) : Int).toNat).size ≤ 1073741824 := by
    rw [ByteArray.size_extract]
    omega
  refine call_b (readsB_any _ hxs _ (hw.below hc.below)) ?_
  intro wQ hQ
  have hc := (hc.quiet hQ).1
  exact ⟨rfl, hc.below⟩
set_option maxRecDepth 100000 in
theorem bookTurn_ct {H : Type} (enc : TypeId × Value → H) (W : World) (hw : Env W) {base : Nat}
    (v0 : Value) (d0 : DataW H) (p0 : List MemPlace) (h0 : DataW.Trod enc Tryz.prog W 0 (fun _ => true) true 78 v0 d0 p0) (k0 : Value.okWide Tryz.prog W .any base 78 v0)
    (v1 : Value) (d1 : DataW H) (p1 : List MemPlace) (h1 : DataW.Trod enc Tryz.prog W 0 (fun _ => true) true 3 v1 d1 p1) (k1 : Value.okWide Tryz.prog W .any base 3 v1)
    (v2 : Value) (d2 : DataW H) (p2 : List MemPlace) (h2 : DataW.Trod enc Tryz.prog W 0 (fun _ => true) true 5 v2 d2 p2) (k2 : Value.okWide Tryz.prog W .any base 5 v2) :
    Calls Tryz.prog 8 #[v0, v1, v2] W (RetB (.bool true) W) := by
  obtain ⟨a0, s0, rfl, r0, o0⟩ := open_state h0 k0
  obtain ⟨a1, rfl, o1⟩ := open_i64 Tryz.underlying3 h1 k1
  obtain ⟨a2, rfl, o2⟩ := open_u8 h2 k2
  exact turnB_any a0 o0 s0 a1 a2 o2 W hw r0
end Go.Proofs.YtbmoimihnndboaaGreatDoor
