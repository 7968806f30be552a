import Derived.Test.YtbmoimihnndboaaGreatDoorM13
set_option linter.unusedVariables false
set_option linter.unusedSimpArgs false
/- Walk: armariumlaw5.DeedAny. (printed by tools/gen_any.py) -/
namespace Go.Proofs.YtbmoimihnndboaaGreatDoor
open Go.Vc Go.RowKit Go.Fl Go.ChangeShapes Go.WideShapes Go.ChangeAt
theorem tellsB_any (s : ByteArray) (hs : s.size ≤ 1073741824) (w : World) (hw : Env w) : Calls Tryz.prog 44 #[.string s] w (RetB (.bool true) w) :=
  tells_any s.data.toList hs w hw
theorem putD_small (d : D) (h : d.Ok) : (putD d).length ≤ 1073740000 := by
  rcases Bool.eq_false_or_eq_true (mayD d) with hm | hm
  · rw [putD_may d h hm]
    have h1 := txt_vDeed d h hm
    have h3 := putV_len (vDeed d)
    have := dec_len7 (u := (txtV (vDeed d)).length) (by omega)
    omega
  · rw [putD_not d hm]
    decide
set_option maxHeartbeats 8000000 in
theorem any5_any (s : ByteArray) (hs : s.size ≤ 9223372036854775807) (d : D) (hd : d.Ok) (ix x : Int) (hx : 0 ≤ x ∧ x ≤ 255) (w : World) (hw : Env w) : Calls Tryz.prog 4 #[.string s, .agg (dC d).toArray, .int .i64 ix, .int .u8 x] w (RetB (.bool true) w) := by
  obtain ⟨a, ha⟩ : ∃ a, a = cutD d := ⟨_, rfl⟩
  have hda := deed5_any d hd
  have hok := cutD_ok hd
  rw [← ha] at hda hok
  obtain ⟨s', hs'⟩ : ∃ s', s' = cut s 60 := ⟨_, rfl⟩
  have hcs := fun w => cutN_any s 60 w hs
  have hsz : s'.size ≤ 60 := by
    rw [hs']
    exact cut_size _ _
  rw [← hs'] at hcs
  refine calls_vc lay_ok Tryz.func4 rfl (by kernel_rfl) (by kernel_rfl) ?_
  have hc := CtxF.start w no (fun _ h => h.elim) (R := fun _ _ => True) trivial Stab.true
  intro g5 wg5 hg5
  have hc := (hc.loc hg5).1
  refine call_b (begun5_any _ (hw.below hc.below)) ?_
  intro wQ hQ
  have hc := (hc.quiet hQ).1
  refine drawn lay_ok (by kernel_rfl) (.q 0 (.n 1 (.n 2 (.n 3 (.q 4 (.z 5)) .stop) .stop) (.n 2 (.n 1 (.n 3 (.q 4 (.z 5)) .stop) .stop) .stop))) (fun _ => True) (by kernel_rfl) trivial ?_
  have hc := hc.drew
  refine ⟨?_, ?_⟩
  · skip
    refine call_b (hcs _) ?_
    intro wQ hQ
    have hc := (hc.quiet hQ).1
    refine ⟨trivial, ?_⟩
    refine ⟨?_, trivial⟩
    refine ⟨_, ?_, hc.cells 0 rfl, trivial, ?_⟩
    · rfl
    refine ⟨?_, trivial⟩
    refine call_b (hda _) ?_
    intro wQ hQ
    have hc := (hc.quiet hQ).1
    refine ⟨trivial, ?_⟩
    refine ⟨hc.may 0 rfl _ _ (nle rfl) rfl, ?_⟩
    intro wS hS
    have hc := (hc.set 0 rfl hS).1
    have hc : CtxF no w no wS [(g5, 23, dC a)] [] (fun _ _ => True) := hc
    refine ⟨_, ?_, hc.cells 0 rfl, ?_⟩
    · rfl
    refine call_b (putD_any a hok _ (hw.tab.below hc.below)) ?_
    intro wQ hQ
    have hc := (hc.quiet hQ).1
    refine call_b (tellsB_any s' (by omega) _ (hw.below hc.below)) ?_
    intro wQ hQ
    have hc := (hc.quiet hQ).1
    refine split_ (fun he => ?_) (fun he => ?_)
    · refine call_b (tellsB_any s' (by omega) _ (hw.below hc.below)) ?_
      intro wQ hQ
      have hc := (hc.quiet hQ).1
      exact ⟨rfl, hc.below⟩
    refine split_ (fun hi => ?_) (fun hi => ?_)
    · refine call_b (tellsB_any s' (by omega) _ (hw.below hc.below)) ?_
      intro wQ hQ
      have hc := (hc.quiet hQ).1
      exact ⟨rfl, hc.below⟩
    have hi : 0 ≤ ix := by simpa using hi
    obtain ⟨t, ht⟩ : ∃ t : List UInt8, t = putD a := ⟨_, rfl⟩
    have htl : t.length ≤ 1073740000 := ht ▸ putD_small a hok
    rw [← ht] at he
    have hne : 0 < t.length := tpos t he
    have hc0 := hc
    generalize hTB : (⟨(putD a).toArray⟩ : ByteArray) = tb
    have hts : tb.size = t.length := by
      rw [← hTB, ← ht]
      simp [ByteArray.size]
    have htd : tb.data.toList = t := by
      rw [← hTB, ← ht]
    refine ⟨_, _, Lib.run_convert_string_bytes _ _ _ 5 _ Tryz.underlying9 Tryz.underlying50 Tryz.underlying5, ?_⟩
    obtain ⟨m, hm, hml⟩ : ∃ m : Nat, ix.tmod ((tb.size : Nat) : Int) = (m : Int) ∧ m < tb.size := by
      refine ⟨(ix.tmod ((tb.size : Nat) : Int)).toNat, ?_, ?_⟩
      · have := Int.tmod_nonneg ((tb.size : Nat) : Int) hi
        omega
      · have := Int.tmod_lt_of_pos ix (show (0 : Int) < ((tb.size : Nat) : Int) by omega)
        omega
    refine vc_nz (show ((tb.size : Nat) : Int) ≠ 0 by omega) ?_
    rw [hm]
    have hcell : (Lib.bytesWorld wQ 5 tb).cell? ((⟨wQ.heap.size, 0, none⟩ : Addr).add ((m : Int).toNat * 1)) = some (.int .u8 (tb.data.toList.getD m 0).toNat) := by
      rw [Nat.mul_one, Int.toNat_natCast, Addr.add_lit, Nat.zero_add]
      exact Lib.bytesWorld_cell _ _ _ _ hml
    refine ⟨⟨by omega, by omega⟩, ?_⟩
    refine ⟨_, hcell, ?_⟩
    obtain ⟨c, hcx⟩ := xor_u8 ((tb.data.toList.getD m 0).toNat : Int) x
    refine ⟨⟨by omega, by omega⟩, ?_⟩
    refine ⟨may_bytes wQ tb m hml _ rfl, ?_⟩
    intro wT hT
    rw [hcx] at hT
    obtain ⟨hbT, hrT⟩ := set_bytes wQ tb (Nat.le_trans (show tb.size ≤ 1073740000 by omega) (by decide)) m hml c wT hT
    have hc := (hc.quiet hbT).1
    refine bytes_str (l := tb.data.toList.set m c) Tryz.underlying50 Tryz.underlying5 Tryz.underlying9 hrT (by rw [List.length_set]; rfl) ?_
    have hl2 : (⟨(tb.data.toList.set m c).toArray⟩ : ByteArray).size ≤ 1073741824 := by
      show (tb.data.toList.set m c).toArray.size ≤ 1073741824
      rw [List.size_toArray, List.length_set, htd]
      omega
    refine call_b (tellsB_any _ hl2 _ (hw.below hc.below)) ?_
    intro wQ hQ
    have hc := (hc.quiet hQ).1
    refine vc_nz (show ((tb.size : Nat) : Int) ≠ 0 by omega) ?_
    rw [hm]
    refine ⟨⟨by omega, by omega, by omega⟩, ?_⟩
    have hxs : (tb.extract ((0 : Nat) : Int).toNat ((m : Nat) : Int).toNat).size ≤ 1073741824 := by
      rw [ByteArray.size_extract]
      omega
    refine call_b (tellsB_any _ hxs _ (hw.below hc.below)) ?_
    intro wQ hQ
    have hc := (hc.quiet hQ).1
    have has : (tb ++ s').size ≤ 1073741824 := by
      rw [ByteArray.size_append]
      omega
    refine ⟨show tb.size + s'.size ≤ 9223372036854775807 by omega, ?_⟩
    refine call_b (tellsB_any _ has _ (hw.below hc.below)) ?_
    intro wQ hQ
    have hc := (hc.quiet hQ).1
    exact ⟨rfl, hc.below⟩
  refine ⟨?_, trivial⟩
  refine ⟨_, ?_, hc.cells 0 rfl, trivial, ?_⟩
  · rfl
  refine ⟨?_, trivial⟩
  refine call_b (hcs _) ?_
  intro wQ hQ
  have hc := (hc.quiet hQ).1
  refine ⟨trivial, ?_⟩
  refine ⟨?_, trivial⟩
  refine call_b (hda _) ?_
  intro wQ hQ
  have hc := (hc.quiet hQ).1
  refine ⟨trivial, ?_⟩
  refine ⟨hc.may 0 rfl _ _ (nle rfl) rfl, ?_⟩
  intro wS hS
  have hc := (hc.set 0 rfl hS).1
  have hc : CtxF no w no wS [(g5, 23, dC a)] [] (fun _ _ => True) := hc
  refine ⟨_, ?_, hc.cells 0 rfl, ?_⟩
  · rfl
  refine call_b (putD_any a hok _ (hw.tab.below hc.below)) ?_
  intro wQ hQ
  have hc := (hc.quiet hQ).1
  refine call_b (tellsB_any s' (by omega) _ (hw.below hc.below)) ?_
  intro wQ hQ
  have hc := (hc.quiet hQ).1
  refine split_ (fun he => ?_) (fun he => ?_)
  · refine call_b (tellsB_any s' (by omega) _ (hw.below hc.below)) ?_
    intro wQ hQ
    have hc := (hc.quiet hQ).1
    exact ⟨rfl, hc.below⟩
  refine split_ (fun hi => ?_) (fun hi => ?_)
  · refine call_b (tellsB_any s' (by omega) _ (hw.below hc.below)) ?_
    intro wQ hQ
    have hc := (hc.quiet hQ).1
    exact ⟨rfl, hc.below⟩
  have hi : 0 ≤ ix := by simpa using hi
  obtain ⟨t, ht⟩ : ∃ t : List UInt8, t = putD a := ⟨_, rfl⟩
  have htl : t.length ≤ 1073740000 := ht ▸ putD_small a hok
  rw [← ht] at he
  have hne : 0 < t.length := tpos t he
  have hc0 := hc
  generalize hTB : (⟨(putD a).toArray⟩ : ByteArray) = tb
  have hts : tb.size = t.length := by
    rw [← hTB, ← ht]
    simp [ByteArray.size]
  have htd : tb.data.toList = t := by
    rw [← hTB, ← ht]
  refine ⟨_, _, Lib.run_convert_string_bytes _ _ _ 5 _ Tryz.underlying9 Tryz.underlying50 Tryz.underlying5, ?_⟩
  obtain ⟨m, hm, hml⟩ : ∃ m : Nat, ix.tmod ((tb.size : Nat) : Int) = (m : Int) ∧ m < tb.size := by
    refine ⟨(ix.tmod ((tb.size : Nat) : Int)).toNat, ?_, ?_⟩
    · have := Int.tmod_nonneg ((tb.size : Nat) : Int) hi
      omega
    · have := Int.tmod_lt_of_pos ix (show (0 : Int) < ((tb.size : Nat) : Int) by omega)
      omega
  refine vc_nz (show ((tb.size : Nat) : Int) ≠ 0 by omega) ?_
  rw [hm]
  have hcell : (Lib.bytesWorld wQ 5 tb).cell? ((⟨wQ.heap.size, 0, none⟩ : Addr).add ((m : Int).toNat * 1)) = some (.int .u8 (tb.data.toList.getD m 0).toNat) := by
    rw [Nat.mul_one, Int.toNat_natCast, Addr.add_lit, Nat.zero_add]
    exact Lib.bytesWorld_cell _ _ _ _ hml
  refine ⟨⟨by omega, by omega⟩, ?_⟩
  refine ⟨_, hcell, ?_⟩
  obtain ⟨c, hcx⟩ := xor_u8 ((tb.data.toList.getD m 0).toNat : Int) x
  refine ⟨⟨by omega, by omega⟩, ?_⟩
  refine ⟨may_bytes wQ tb m hml _ rfl, ?_⟩
  intro wT hT
  rw [hcx] at hT
  obtain ⟨hbT, hrT⟩ := set_bytes wQ tb (Nat.le_trans (show tb.size ≤ 1073740000 by omega) (by decide)) m hml c wT hT
  have hc := (hc.quiet hbT).1
  refine bytes_str (l := tb.data.toList.set m c) Tryz.underlying50 Tryz.underlying5 Tryz.underlying9 hrT (by rw [List.length_set]; rfl) ?_
  have hl2 : (⟨(tb.data.toList.set m c).toArray⟩ : ByteArray).size ≤ 1073741824 := by
    show (tb.data.toList.set m c).toArray.size ≤ 1073741824
    rw [List.size_toArray, List.length_set, htd]
    omega
  refine call_b (tellsB_any _ hl2 _ (hw.below hc.below)) ?_
  intro wQ hQ
  have hc := (hc.quiet hQ).1
  refine vc_nz (show ((tb.size : Nat) : Int) ≠ 0 by omega) ?_
  rw [hm]
  refine ⟨⟨by omega, by omega, by omega⟩, ?_⟩
  have hxs : (tb.extract ((0 : Nat) : Int).toNat ((m : Nat) : Int).toNat).size ≤ 1073741824 := by
    rw [ByteArray.size_extract]
    omega
  refine call_b (tellsB_any _ hxs _ (hw.below hc.below)) ?_
  intro wQ hQ
  have hc := (hc.quiet hQ).1
  have has : (tb ++ s').size ≤ 1073741824 := by
    rw [ByteArray.size_append]
    omega
  refine ⟨show tb.size + s'.size ≤ 9223372036854775807 by omega, ?_⟩
  refine call_b (tellsB_any _ has _ (hw.below hc.below)) ?_
  intro wQ hQ
  have hc := (hc.quiet hQ).1
  exact ⟨rfl, hc.below⟩
set_option maxRecDepth 100000 in
theorem deedAny_ct {H : Type} (enc : TypeId × Value → H) (W : World) (hw : Env W) {base : Nat}
    (v0 : Value) (d0 : DataW H) (p0 : List MemPlace) (h0 : DataW.Trod enc Tryz.prog W 0 (fun _ => true) true 9 v0 d0 p0) (k0 : Value.okWide Tryz.prog W .any base 9 v0)
    (v1 : Value) (d1 : DataW H) (p1 : List MemPlace) (h1 : DataW.Trod enc Tryz.prog W 0 (fun _ => true) true 23 v1 d1 p1) (k1 : Value.okWide Tryz.prog W .any base 23 v1)
    (v2 : Value) (d2 : DataW H) (p2 : List MemPlace) (h2 : DataW.Trod enc Tryz.prog W 0 (fun _ => true) true 3 v2 d2 p2) (k2 : Value.okWide Tryz.prog W .any base 3 v2)
    (v3 : Value) (d3 : DataW H) (p3 : List MemPlace) (h3 : DataW.Trod enc Tryz.prog W 0 (fun _ => true) true 5 v3 d3 p3) (k3 : Value.okWide Tryz.prog W .any base 5 v3) :
    Calls Tryz.prog 4 #[v0, v1, v2, v3] W (RetB (.bool true) W) := by
  obtain ⟨a0, rfl, o0⟩ := open_str h0 k0
  obtain ⟨a1, rfl, o1⟩ := open_deed h1 k1
  obtain ⟨a2, rfl, o2⟩ := open_i64 Tryz.underlying3 h2 k2
  obtain ⟨a3, rfl, o3⟩ := open_u8 h3 k3
  exact any5_any a0 (Nat.le_trans o0 (by decide)) a1 o1 a2 a3 o3 W hw
end Go.Proofs.YtbmoimihnndboaaGreatDoor
