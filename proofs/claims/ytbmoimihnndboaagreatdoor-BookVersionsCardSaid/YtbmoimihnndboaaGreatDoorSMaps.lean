import Derived.Test.YtbmoimihnndboaaGreatDoorM13
import Derived.Maps.OwnSet
import Derived.Maps.Views
import Derived.Maps.StringElems
set_option linter.unusedVariables false
set_option linter.unusedSimpArgs false
/- A map of one's own beside the other knowledge of a walk: numbers to texts. -/
namespace Go.Vc
open Go Go.RowKit
/-- Block b is a map's, nobody else's; the rest is known over the other blocks. -/
def KM (R0 : Kn) (b : Nat) (M : World → Prop) : Kn := fun S w => S b ∧ (∃ S1 : Nat → Prop, (∀ x, S1 x → S x ∧ x ≠ b) ∧ R0 S1 w) ∧ M w
def OnB (b : Nat) (M : World → Prop) : Prop := ∀ w w' : World, w'.heap[b]? = w.heap[b]? → M w → M w'
theorem KM.stab {R0 : Kn} {b : Nat} {M : World → Prop} (h0 : Stab R0) (hM : OnB b M) : Stab (KM R0 b M) := fun S w S' w' h f => by
  obtain ⟨h1, ⟨S1, h2, h3⟩, h4⟩ := h
  exact ⟨f.1 _ h1, ⟨S1, fun x hx => ⟨f.1 _ (h2 x hx).1, (h2 x hx).2⟩, h0 _ _ _ _ h3 ⟨fun _ h => h, fun x hx => f.2 x (h2 x hx).1⟩⟩, hM _ _ (f.2 b h1) h4⟩
section
variable {S0 S : Nat → Prop} {w0 w w' : World} {l : List LB} {os : List OR} {R0 : Kn} {b : Nat} {M M' : World → Prop}
/-- The map is made. -/
theorem CtxF.mapNew (hc : CtxF S0 w0 S w l os R0) (hM' : M' (w.alloc (.map #[] 0))) (hB : OnB w.heap.size M') : CtxF S0 w0 (ext S w (w.alloc (.map #[] 0))) (w.alloc (.map #[] 0)) l os (KM R0 w.heap.size M') := by
  have hb : Below w.heap.size w (w.alloc (.map #[] 0)) := (Below.refl _ _).alloc (Nat.le_refl _) _
  have hs : (w.alloc (.map #[] 0)).heap.size = w.heap.size + 1 := Array.size_push ..
  refine ((hc.call hb).1).now (X := KM R0 w.heap.size M') (fun _ => ?_) (KM.stab hc.stab hB)
  exact ⟨.inr ⟨Nat.le_refl _, by omega⟩, ⟨S, fun x hx => ⟨.inl hx, by have := hc.ctx.lt x hx; omega⟩, hc.stab _ _ _ _ hc.row ⟨fun _ h => h, fun x hx => hb.block x (hc.ctx.lt x hx)⟩⟩, hM'⟩
/-- The map turns. -/
theorem CtxF.mapTurn (hc : CtxF S0 w0 S w l os (KM R0 b M)) (h0 : Stab R0) (hb0 : w0.heap.size ≤ b) (hg : w.grownBy w' (some b)) (hM' : M' w') (hB : OnB b M') : CtxF S0 w0 S w' l os (KM R0 b M') := by
  obtain ⟨⟨k1, k2, k3, k4, k5⟩, k6, ⟨r1, ⟨S1, r2, r3⟩, r4⟩, k8⟩ := hc
  have hblk : ∀ x, x ≠ b → x < w.heap.size → w'.heap[x]? = w.heap[x]? := fun x hx hl => hg.block x hl (fun e => hx (Option.some.inj e))
  have hk := k5
  refine ⟨⟨k1.grown hg k1.size (fun k e => by cases e; exact hb0), k2, k3, fun x hx => Nat.lt_of_lt_of_le (k4 x hx) hg.size, k5.mono (fun x hx => ?_) (fun x hx h => h)⟩, k6.step fun o ho a ha => ⟨?_, (k6.mem o ho).out a ha⟩, ⟨r1, ⟨S1, r2, h0 _ _ _ _ r3 ⟨fun _ h => h, fun x hx => hblk x (r2 x hx).2 (k4 x (r2 x hx).1)⟩⟩, hM'⟩, KM.stab h0 hB⟩
  · refine hblk _ (fun e => ?_) (hk.lt x hx)
    obtain ⟨i, hi⟩ := List.getElem?_of_mem hx
    obtain ⟨g, T, cs⟩ := x
    exact (hk.notS hi).1 (by show S g; rw [show g = b from e]; exact r1)
  · refine hblk _ (fun e => ((k6.mem o ho).out a ha).1 (by rw [e]; exact r1)) ((k6.mem o ho).lt ha).2
/-- What a call made is known over the other blocks, too. -/
theorem CtxF.mapKnow (hc : CtxF S0 w0 S w l os (KM R0 b M)) (h0 : Stab R0) (hB : OnB b M) (hb : Below w.heap.size w w') {S1 : Nat → Prop} (h1 : ∀ x, S1 x → S x ∧ x ≠ b) (hr : R0 S1 w) {X : Kn} (hX : X (ext S1 w w') w') (hs : Stab X) :
    CtxF S0 w0 (ext S w w') w' l os (KM (fun S w => R0 S w ∧ X S w) b M) := by
  have hbl := hc.ctx.lt b hc.row.1
  refine (hc.call hb).1.now (X := KM (fun S w => R0 S w ∧ X S w) b M) (fun h => ?_) (KM.stab (h0.and hs) hB)
  refine ⟨h.1, ⟨ext S1 w w', fun x hx => ?_, h0 _ _ _ _ hr ⟨fun _ h => .inl h, fun x hx => hb.block x (hc.ctx.lt x (h1 x hx).1)⟩, hX⟩, h.2.2⟩
  rcases hx with hx | hx
  · exact ⟨.inl (h1 x hx).1, (h1 x hx).2⟩
  · exact ⟨.inr hx, by omega⟩
theorem CtxF.mapNow (hc : CtxF S0 w0 S w l os (KM R0 b M)) (hB : OnB b M) {X : Kn} (h : ∀ S w, R0 S w → X S w) (hs : Stab X) : CtxF S0 w0 S w l os (KM X b M) :=
  hc.now (fun h' => ⟨h'.1, (by obtain ⟨S1, h1, h2⟩ := h'.2.1; exact ⟨S1, h1, h _ _ h2⟩), h'.2.2⟩) (KM.stab hs hB)
end
end Go.Vc
namespace Go.Proofs.YtbmoimihnndboaaGreatDoor
open Go.Vc Go.RowKit Go.Fl Go.ChangeShapes Go.WideShapes Go.ChangeAt
/-- The map at b: these numbers have these texts. -/
def MapIs (b n : Nat) (f : Int → Option ByteArray) (w : World) : Prop :=
  ∃ D : DataW Unit, w.ownsMap Tryz.prog 2 (plainElem Tryz.prog 9) b n D ∧ ∀ x, i64ok x → Maps.has D (.int .i64 x) = (f x).isSome ∧ ∀ s, f x = some s → D.atKey (.int .i64 x) (.lit (.string [])) = .lit (.string s.data.toList)
theorem MapIs.on (b n : Nat) (f : Int → Option ByteArray) : OnB b (MapIs b n f) := fun w w' e ⟨D, ⟨es, clock, h1, h2⟩, h3⟩ => ⟨D, ⟨es, clock, e.trans h1, h2⟩, h3⟩
theorem wf64 {x : Int} (h : i64ok x) : (Lit.int .i64 x).wf = true := by
  unfold i64ok at h
  have h1 : IntKind.i64.min = -9223372036854775808 := by decide
  have h2 : IntKind.i64.max = 9223372036854775807 := by decide
  show (decide (IntKind.i64.min ≤ x) && decide (x ≤ IntKind.i64.max)) = true
  rw [h1, h2, decide_eq_true h.1, decide_eq_true h.2]
  rfl
theorem mapU : Tryz.prog.underlying 97 = some (.map 2 9) := Tryz.underlying97
theorem zeroStr (w : World) : (zeroValue 9).run Tryz.prog w = .ok (.string ⟨#[]⟩) w := by kernel_rfl
theorem MapIs.made (w : World) : MapIs w.heap.size 0 (fun _ => none) (w.alloc (.map #[] 0)) :=
  ⟨.map [], World.ownsMap_made w _ _ _, fun x _ => ⟨rfl, fun s h => by cases h⟩⟩
theorem MapIs.look {w : World} {b n : Nat} {f : Int → Option ByteArray} (h : MapIs b n f w) {x : Int} (hx : i64ok x) : ∃ s : ByteArray, (Instr.lookup 97 (.map (some b)) (.int .i64 x) true).run Tryz.prog w = .ok (.tuple #[.string s, .bool (f x).isSome]) w ∧ ∀ t, f x = some t → s = t := by
  obtain ⟨D, hD, hf⟩ := h
  obtain ⟨v, ps, hr, hv⟩ := hD.look_ok (Maps.int_keyed Tryz.underlying2) mapU (zeroStr w) (plainElem_string Tryz.underlying9 (by decide)) (Maps.keyOf_int_mk Tryz.underlying2 (wf64 hx))
  obtain ⟨s, rfl, hs⟩ := plainElem_string_inv Tryz.underlying9 hv
  rw [(hf x hx).1] at hr
  refine ⟨s, hr, fun t ht => ?_⟩
  have h1 := (hf x hx).2 t ht
  have h2 := (Prod.mk.inj hs.1).1
  have h3 : (DataW.lit (.string t.data.toList) : DataW Unit) = .lit (.string s.data.toList) := h1.symm.trans h2
  have h4 : t.data.toList = s.data.toList := congrArg (fun d : DataW Unit => match d with | .lit (.string l) => l | _ => []) h3
  exact (strEq_iff.1 (beq_iff_eq.2 h4.symm))
theorem lit_ne {x y : Int} (h : x ≠ y) : (Lit.int .i64 x) ≠ .int .i64 y := fun e => h (by injection e)
theorem MapIs.store {w : World} {b n : Nat} {f : Int → Option ByteArray} (h : MapIs b n f w) {x : Int} (hx : i64ok x) (hn : n < 1000000) (s : ByteArray) (hs : s.size ≤ maxLen) :
    ∃ w', (Instr.mapUpdate 97 (.map (some b)) (.int .i64 x) (.string s)).run Tryz.prog w = .ok () w' ∧ w.grownBy w' (some b) ∧ MapIs b (n + 1) (fun y => if y = x then some s else f y) w' := by
  obtain ⟨D, hD, hf⟩ := h
  have K := Maps.int_keyed (P := Tryz.prog) (k := 2) Tryz.underlying2
  have hk := Maps.keyOf_int_mk (P := Tryz.prog) (k := 2) Tryz.underlying2 (wf64 hx)
  obtain ⟨w', h1, h2, h3⟩ := hD.store K mapU (Nat.lt_of_lt_of_le hn (by decide)) hk (plainElem_string Tryz.underlying9 hs)
  refine ⟨w', h1, h3.grown, _, h2, fun y hy => ?_⟩
  have hI := hD.isMap
  have hkl : WideAt.IsKeyLit (.int .i64 x) := trivial
  simp only
  by_cases e : y = x
  · subst e
    rw [if_pos rfl]
    refine ⟨Maps.has_put_same hI hkl _, fun t ht => ?_⟩
    rw [Maps.atKey_put_same hI hkl]
    cases ht
    rfl
  · rw [if_neg e]
    exact ⟨(Maps.has_put_other (lit_ne e) _).trans (hf y hy).1, fun t ht => (Maps.atKey_put_other (lit_ne e) _ _).trans ((hf y hy).2 t ht)⟩
theorem MapIs.drop {w : World} {b n : Nat} {f : Int → Option ByteArray} (h : MapIs b n f w) {x : Int} (hx : i64ok x) (ty : TypeId) :
    ∃ w', (Builtin.delete_ #[97, 2] ty #[.map (some b), .int .i64 x]).run Tryz.prog w = .ok (.tuple #[]) w' ∧ w.grownBy w' (some b) ∧ MapIs b n (fun y => if y = x then none else f y) w' := by
  obtain ⟨D, hD, hf⟩ := h
  have K := Maps.int_keyed (P := Tryz.prog) (k := 2) Tryz.underlying2
  have hk := Maps.keyOf_int_mk (P := Tryz.prog) (k := 2) Tryz.underlying2 (wf64 hx)
  obtain ⟨w', h1, h2, h3⟩ := hD.drop K mapU hk ty
  refine ⟨w', h1, h3.grown, _, h2, fun y hy => ?_⟩
  simp only
  by_cases e : y = x
  · subst e
    rw [if_pos rfl]
    exact ⟨Maps.has_del_same, fun t ht => by cases ht⟩
  · rw [if_neg e]
    exact ⟨(Maps.has_del_other (lit_ne e)).trans (hf y hy).1, fun t ht => (Maps.atKey_del_other (lit_ne e) _).trans ((hf y hy).2 t ht)⟩
end Go.Proofs.YtbmoimihnndboaaGreatDoor
