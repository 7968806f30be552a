/- The law 'Names' of armariumlaw0 holds: it answers true, and leaves what was there as it was. No condition. -/
import Derived.Test.YtcmdmcekbmodaaaRows
import Derived.WalkKit
import Derived.ProofKit
import Derived.OpenShut
import Derived.Test.YtcmdmcekbmodaaaHp
import Derived.Test.YtcmdmcekbmodaaaDr
import Derived.Test.YtcmdmcekbmodaaaLay
namespace Go.Proofs.Ytcmdmcekbmodaaa.names
open Go.ChangeShapes Go.WideShapes Go.ChangeAt Go.RowKit Go.Vc
set_option linter.unusedVariables false

theorem own : ownKnob Try.prog.godebug = none := by kernel_rfl

def zs : List Int := [0, 1, 2, 3, 4, 5, 6, 7, 8, 9, 10, 11, 12, 13, 65521, 40, 300, 40, 12, 100, 15, 4294967296, 5, 1099511627776, 1048576, 300, 60, 6, 6, 30, 200, 10, 120, 20, 1, 2, 3, 0, 1, 2, 1, 2, 3, 4, 5, 6, 7, 8, 9, 10, 11, 1, 2, 3, 4, 5, 1, 2, 3, 4, 5, 6, 7, 8]
def ws : List Value := zs.map (.int .i64)
theorem map_get (l : List Int) (k : Nat) (h : k < l.length) : (l.map (Value.int .i64))[k]? = some (.int .i64 (l.getD k 0)) := by
  rw [List.getElem?_map, List.getElem?_eq_getElem h, List.getD_eq_getElem?_getD, List.getElem?_eq_getElem h]
  rfl
theorem zs_len : zs.length = 64 := by kernel_rfl
theorem ws_get (k : Nat) (h : k < 64) : ws[k]? = some (.int .i64 (zs.getD k 0)) :=
  map_get zs k (Nat.lt_of_lt_of_eq h zs_len.symm)
theorem same_alloc {w w' : World} {cs : List Value} {T g : Nat} (h : New w cs T g w') (a : Addr) : w'.frozen? a = w.frozen? a := by
  obtain ⟨rfl, rfl⟩ := h
  exact frozen?_alloc_cells _ _ _ a
/-- What stays: the world has at most new blocks. -/
def Kept (w w' : World) : Prop := Below w.heap.size w w' ∧ ∀ a, w'.frozen? a = w.frozen? a

theorem row_at {x w : World} (hx : x.heap = w.heap) {g : Nat} (h : Blk w g 3 ws) (k : Nat) (hk : k < 64) : x.cell? ((⟨g, 0, Option.none⟩ : Addr).add k) = some (.int .i64 (zs.getD k 0)) := by
  have hB : Blk x g 3 ws := h.of_eq (by rw [hx])
  have e : (⟨g, 0, Option.none⟩ : Addr).add k = ⟨g, k, Option.none⟩ := by unfold Addr.add; split <;> simp_all
  rw [e, hB.cell k]
  exact ws_get k hk

set_option maxRecDepth 100000 in
theorem walk (w : World) : Calls Try.prog 3 #[] w fun e w' => e = .returned (.bool true) ∧ Kept w w' := by
  refine calls_vc lay_ok Try.func3 rfl (by kernel_rfl) (by kernel_rfl) ?_
  intro g1 w1 h1
  intro g2 w2 h2
  have b1 : Blk w1 g1 3 ws := h1.blk
  have b2 : Blk w2 g2 3 ws := h2.blk
  have hk : Kept w w2 := ⟨h1.below.trans (h2.below.mono h1.below.size), fun a => (same_alloc h2 a).trans (same_alloc h1 a)⟩
  have b3 : Blk w2 g1 3 ws := b1.of_eq (h2.below.block _ b1.lt)
  refine ⟨Nat, fun k => [(1, .slice (some ⟨g1, 0, none⟩) 64 64), (2, .slice (some ⟨g2, 0, none⟩) 64 64), (3, .int .i64 k)], fun k w' => k ≤ 64 ∧ Blk w' g1 3 ws ∧ Blk w' g2 3 ws ∧ Kept w w', fun k _ => 64 - k, 0,
    ⟨rfl, rfl, rfl, trivial⟩, ⟨by omega, b3, b2, hk⟩, ?_⟩
  rintro k w' u ⟨hle, c1, c2, hb⟩
  by_cases hlt : k < 64
  · refine split_t (by simp; omega) ?_
    refine drawn lay_ok (by kernel_rfl) (.q 0 (.q 1 (.q 2 (.q 3 (.q 4 (.q 5 (.q 6 (.q 7 (.q 8 .fin))))))))) (fun x => x.heap = w'.heap) (by kernel_rfl) rfl ?_
    refine ⟨⟨by omega, by omega⟩, ?_⟩
    refine ⟨.int .i64 (zs.getD k 0), fun x hx => ?_, ?_⟩
    · rw [Int.toNat_natCast, Nat.mul_one]; exact row_at hx c1 k hlt
    refine ⟨⟨by omega, by omega⟩, ?_⟩
    refine ⟨.int .i64 (zs.getD k 0), fun x hx => ?_, ?_⟩
    · rw [Int.toNat_natCast, Nat.mul_one]; exact row_at hx c2 k hlt
    refine split_f (by simp) ?_
    refine ⟨k + 1, ⟨rfl, rfl, ?_, trivial⟩, ⟨hlt, c1, c2, ⟨hb.1.drew, hb.2⟩⟩, by show 64 - (k + 1) < 64 - k; omega⟩
    show Value.int .i64 (IntKind.i64.wrap ((k : Int) + 1)) = _
    rw [IntWalk.i64_in ((k : Int) + 1) ⟨by omega, by omega⟩]
    rfl
  · refine split_f (by simp; omega) ?_
    exact ⟨rfl, hb⟩

/-! ### THE ROW's STEP: WRITTEN OUT: LEAVE IT -/
set_option maxRecDepth 100000 in
theorem lifted (os : Os) (started : os.Started) (H : Type) (enc : TypeId × Value → H) :
    ReturnsInHanded {} Try.checked os 3 .any (Rows.namesSpec.pre6 enc Try.prog Try.f3 Rows.namesRow.domain false) (Rows.namesSpec.post enc Try.prog Try.f3 false true false false) := by
  refine returnsInHanded_of_change (C := Try.checked) own started (by kernel_rfl) Try.func3
    (ChangeSpec.witness6 (enc := enc) (C := Try.checked) false ⟨#[], #[], []⟩ 8 (by kernel_rfl) (by kernel_rfl) (by kernel_rfl) (by kernel_rfl)) ?_
  intro W base args ds gs before hval0 hW hcnd _
  have hval : ∀ (j : Nat) t v, Try.f3.params[j]? = some t → args[j]? = some v → Value.okWide Try.prog W .any base t v := hval0
  have hW' := hW
  obtain ⟨p, q, hA0, hV, rfl, hfz, hnd⟩ := hW
  have hA : DataW.TrodAll enc Try.prog W 0 (fun _ => true) true Try.f3.params.toList args.toList ds p := hA0
  rw [Try.params3] at hA hval
  obtain ⟨rfl, rfl, rfl⟩ := trodAll_none hA
  obtain ⟨rfl, rfl⟩ := trodVars_none hV
  clear hA0 hval0
  simp only [List.append_nil] at hW'
  refine (walk  W).mono fun e W' ⟨he, hg, hz⟩ => ?_
  subst he
  exact ⟨_, rfl, post_of_same (pa := []) (pv := []) hW' (fun _ _ _ => (trodAll_cons_mk (shut_bool Try.underlying4 _) trodAll_mk0)) (fun sp _ => rfl) (fun _ _ => rfl) rfl
    (hg.frame _) hz (ok_one (by kernel_rfl) rfl (okWide_bool_mk Try.underlying4 _))⟩

theorem over : Rows.namesRow.holds Try.pinned (OpenSpec.ofChange Rows.namesSpec) :=
  OpenClaim.holds_of_wide 3 Try.f3 rfl rfl rfl rfl rfl rfl rfl ⟨rfl, rfl, rfl, rfl, rfl⟩ rfl rfl rfl rfl rfl (by kernel_rfl) Try.func3 (by kernel_rfl)
    (of_decide_eq_true (by kernel_rfl)) (by unfold Func.isWrapper; first | (rw [if_pos (by decide +kernel)]; kernel_rfl) | (rw [if_neg (by decide +kernel)]; exact ⟨rfl, rfl⟩))
    (fun os started H enc _ => lifted os started H enc)

/-- ████ THE STATEMENT ████ -/
theorem proved : Rows.NamesSaid :=
  over
end Go.Proofs.Ytcmdmcekbmodaaa.names
