import Derived.Test.YtbmoimihnndboaaGreatDoorM11
import Derived.Test.YtbmoimihnndboaaGreatDoorRows
import Derived.Test.YtbmoimihnndboaaGreatDoorCards
import Derived.Test.YtbmoimihnndboaaGreatDoorTie
import Derived.WalkKit
import Derived.ProofKit
import Derived.OpenShut
import Derived.Deep.DeepHandedRow
import Derived.Deep.DeepWitnessRowRef
import Derived.Lib.LaidTab
import Derived.Stop.LaidErr
import Derived.Lay
import Derived.Carry
import Derived.RowKit3
set_option linter.unusedVariables false
set_option linter.unusedSimpArgs false
namespace Go.Proofs.YtbmoimihnndboaaGreatDoor
open Go.Vc Go.RowKit Go.Fl
def cut (s : ByteArray) (n : Nat) : ByteArray := s.extract 0 (min s.size n)
theorem cutN_any (s : ByteArray) (n : Nat) (w : World) (hs : s.size ≤ 9223372036854775807) : Calls Tryz.prog 25 #[.string s, .int .i64 n] w (RetB (.string (cut s n)) w) := by
  have := cut_any s n w (Int.natCast_nonneg _) hs
  rw [Int.toNat_natCast] at this
  exact this
theorem cut_size (s : ByteArray) (n : Nat) : (cut s n).size ≤ n := by
  unfold cut
  rw [ByteArray.size_extract]
  omega
def cutD (d : D) : D := ⟨d.kind, cut d.key 42, cut d.body 302, d.ver, d.cond, cut d.tag 10, d.req, d.low⟩
theorem cutD_ok {d : D} (h : d.Ok) : (cutD d).Ok :=
  ⟨h.kind, Nat.le_trans (cut_size _ _) (by decide), Nat.le_trans (cut_size _ _) (by decide), h.ver, h.cond, Nat.le_trans (cut_size _ _) (by decide), h.req, h.low⟩
set_option maxHeartbeats 4000000 in
theorem deed5_any (d : D) (h : d.Ok) (w : World) : Calls Tryz.prog 24 #[.agg (dC d).toArray] w (RetB (.agg (dC (cutD d)).toArray) w) := by
  refine calls_vc lay_ok Tryz.func24 rfl (by kernel_rfl) (by kernel_rfl) ?_
  have hc := CtxF.start w no (fun _ h => h.elim) (R := fun _ _ => True) trivial Stab.true
  intro g1 wg1 hg1
  have hc := (hc.loc hg1).1
  intro g2 wg2 hg2
  have hc := (hc.loc hg2).1
  refine drawn lay_ok (by kernel_rfl) (.q 0 (.q 3 (.q 6 (.n 1 (.n 2 (.n 4 (.n 5 (.n 7 (.q 9 (.n 8 (.n 10 (.q 11 (.n 12 (.q 13 (.z 14)) .stop)) .stop) .stop)) .stop) (.n 7 (.q 9 (.n 5 (.n 8 (.n 10 (.q 11 (.n 12 (.q 13 (.z 14)) .stop)) .stop) .stop) .stop)) .stop)) (.n 7 (.n 4 (.q 9 (.n 5 (.n 8 (.n 10 (.q 11 (.n 12 (.q 13 (.z 14)) .stop)) .stop) .stop) .stop)) .stop) .stop)) (.n 4 (.n 2 (.n 5 (.n 7 (.q 9 (.n 8 (.n 10 (.q 11 (.n 12 (.q 13 (.z 14)) .stop)) .stop) .stop)) .stop) (.n 7 (.q 9 (.n 5 (.n 8 (.n 10 (.q 11 (.n 12 (.q 13 (.z 14)) .stop)) .stop) .stop) .stop)) .stop)) (.n 7 (.n 2 (.q 9 (.n 5 (.n 8 (.n 10 (.q 11 (.n 12 (.q 13 (.z 14)) .stop)) .stop) .stop) .stop)) .stop) .stop)) (.n 7 (.n 2 (.n 4 (.q 9 (.n 5 (.n 8 (.n 10 (.q 11 (.n 12 (.q 13 (.z 14)) .stop)) .stop) .stop) .stop)) .stop) (.n 4 (.n 2 (.q 9 (.n 5 (.n 8 (.n 10 (.q 11 (.n 12 (.q 13 (.z 14)) .stop)) .stop) .stop) .stop)) .stop) .stop)) .stop))) (.n 4 (.n 1 (.n 2 (.n 5 (.n 7 (.q 9 (.n 8 (.n 10 (.q 11 (.n 12 (.q 13 (.z 14)) .stop)) .stop) .stop)) .stop) (.n 7 (.q 9 (.n 5 (.n 8 (.n 10 (.q 11 (.n 12 (.q 13 (.z 14)) .stop)) .stop) .stop) .stop)) .stop)) (.n 7 (.n 2 (.q 9 (.n 5 (.n 8 (.n 10 (.q 11 (.n 12 (.q 13 (.z 14)) .stop)) .stop) .stop) .stop)) .stop) .stop)) (.n 7 (.n 1 (.n 2 (.q 9 (.n 5 (.n 8 (.n 10 (.q 11 (.n 12 (.q 13 (.z 14)) .stop)) .stop) .stop) .stop)) .stop) .stop) .stop)) (.n 7 (.n 1 (.n 2 (.n 4 (.q 9 (.n 5 (.n 8 (.n 10 (.q 11 (.n 12 (.q 13 (.z 14)) .stop)) .stop) .stop) .stop)) .stop) (.n 4 (.n 2 (.q 9 (.n 5 (.n 8 (.n 10 (.q 11 (.n 12 (.q 13 (.z 14)) .stop)) .stop) .stop) .stop)) .stop) .stop)) (.n 4 (.n 1 (.n 2 (.q 9 (.n 5 (.n 8 (.n 10 (.q 11 (.n 12 (.q 13 (.z 14)) .stop)) .stop) .stop) .stop)) .stop) .stop) .stop)) .stop)))))) (fun _ => True) (by kernel_rfl) trivial ?_
  have hc := hc.drew
  refine ⟨?_, ?_⟩
  · skip
    refine ⟨_, hc.cell 1 rfl _ rfl, trivial, ?_⟩
    refine ⟨?_, ?_⟩
    · skip
      refine call_b (cutN_any d.key 42 _ h.key) ?_
      intro wQ hQ
      have hc := (hc.quiet hQ).1
      refine ⟨trivial, ?_⟩
      refine ⟨?_, ?_⟩
      · skip
        refine ⟨_, hc.cell 1 rfl _ rfl, trivial, ?_⟩
        refine ⟨?_, ?_⟩
        · skip
          refine call_b (cutN_any d.body 302 _ h.body) ?_
          intro wQ hQ
          have hc := (hc.quiet hQ).1
          refine ⟨trivial, ?_⟩
          refine ⟨?_, trivial⟩
          refine ⟨_, hc.cell 1 rfl _ rfl, trivial, ?_⟩
          refine ⟨?_, trivial⟩
          refine call_b (cutN_any d.tag 10 _ h.tag) ?_
          intro wQ hQ
          have hc := (hc.quiet hQ).1
          refine ⟨trivial, ?_⟩
          refine ⟨?_, trivial⟩
          refine ⟨hc.may 1 rfl _ _ (nle rfl) rfl, ?_⟩
          intro wS hS
          have hc := (hc.set 1 rfl hS).1
          refine ⟨trivial, ?_⟩
          refine ⟨?_, trivial⟩
          refine ⟨hc.may 1 rfl _ _ (nle rfl) rfl, ?_⟩
          intro wS hS
          have hc := (hc.set 1 rfl hS).1
          refine ⟨trivial, ?_⟩
          refine ⟨hc.may 1 rfl _ _ (nle rfl) rfl, ?_⟩
          intro wS hS
          have hc := (hc.set 1 rfl hS).1
          refine ⟨_, ?_, hc.cells 1 rfl, ?_⟩
          · rfl
          refine ⟨hc.may 0 rfl _ _ (nle rfl) rfl, ?_⟩
          intro wS hS
          have hc := (hc.set 0 rfl hS).1
          refine ⟨_, ?_, hc.cells 0 rfl, ?_⟩
          · rfl
          exact ⟨rfl, hc.below⟩
        refine ⟨?_, trivial⟩
        refine ⟨_, hc.cell 1 rfl _ rfl, trivial, ?_⟩
        refine ⟨?_, trivial⟩
        refine call_b (cutN_any d.body 302 _ h.body) ?_
        intro wQ hQ
        have hc := (hc.quiet hQ).1
        refine ⟨trivial, ?_⟩
        refine ⟨?_, trivial⟩
        refine call_b (cutN_any d.tag 10 _ h.tag) ?_
        intro wQ hQ
        have hc := (hc.quiet hQ).1
        refine ⟨trivial, ?_⟩
        refine ⟨?_, trivial⟩
        refine ⟨hc.may 1 rfl _ _ (nle rfl) rfl, ?_⟩
        intro wS hS
        have hc := (hc.set 1 rfl hS).1
        refine ⟨trivial, ?_⟩
        refine ⟨?_, trivial⟩
        refine ⟨hc.may 1 rfl _ _ (nle rfl) rfl, ?_⟩
        intro wS hS
        have hc := (hc.set 1 rfl hS).1
        refine ⟨trivial, ?_⟩
        refine ⟨hc.may 1 rfl _ _ (nle rfl) rfl, ?_⟩
        intro wS hS
        have hc := (hc.set 1 rfl hS).1
        refine ⟨_, ?_, hc.cells 1 rfl, ?_⟩
        · rfl
        refine ⟨hc.may 0 rfl _ _ (nle rfl) rfl, ?_⟩
        intro wS hS
        have hc := (hc.set 0 rfl hS).1
        refine ⟨_, ?_, hc.cells 0 rfl, ?_⟩
        · rfl
        exact ⟨rfl, hc.below⟩
      refine ⟨?_, trivial⟩
      refine ⟨_, hc.cell 1 rfl _ rfl, trivial, ?_⟩
      refine ⟨?_, trivial⟩
      refine ⟨_, hc.cell 1 rfl _ rfl, trivial, ?_⟩
      refine ⟨?_, trivial⟩
      refine call_b (cutN_any d.body 302 _ h.body) ?_
      intro wQ hQ
      have hc := (hc.quiet hQ).1
      refine ⟨trivial, ?_⟩
      refine ⟨?_, trivial⟩
      refine call_b (cutN_any d.tag 10 _ h.tag) ?_
      intro wQ hQ
      have hc := (hc.quiet hQ).1
      refine ⟨trivial, ?_⟩
      refine ⟨?_, trivial⟩
      refine ⟨hc.may 1 rfl _ _ (nle rfl) rfl, ?_⟩
      intro wS hS
      have hc := (hc.set 1 rfl hS).1
      refine ⟨trivial, ?_⟩
      refine ⟨?_, trivial⟩
      refine ⟨hc.may 1 rfl _ _ (nle rfl) rfl, ?_⟩
      intro wS hS
      have hc := (hc.set 1 rfl hS).1
      refine ⟨trivial, ?_⟩
      refine ⟨hc.may 1 rfl _ _ (nle rfl) rfl, ?_⟩
      intro wS hS
      have hc := (hc.set 1 rfl hS).1
      refine ⟨_, ?_, hc.cells 1 rfl, ?_⟩
      · rfl
      refine ⟨hc.may 0 rfl _ _ (nle rfl) rfl, ?_⟩
      intro wS hS
      have hc := (hc.set 0 rfl hS).1
      refine ⟨_, ?_, hc.cells 0 rfl, ?_⟩
      · rfl
      exact ⟨rfl, hc.below⟩
    refine ⟨?_, ?_⟩
    · skip
      refine ⟨_, hc.cell 1 rfl _ rfl, trivial, ?_⟩
      refine ⟨?_, ?_⟩
      · skip
        refine call_b (cutN_any d.key 42 _ h.key) ?_
        intro wQ hQ
        have hc := (hc.quiet hQ).1
        refine ⟨trivial, ?_⟩
        refine ⟨?_, ?_⟩
        · skip
          refine call_b (cutN_any d.body 302 _ h.body) ?_
          intro wQ hQ
          have hc := (hc.quiet hQ).1
          refine ⟨trivial, ?_⟩
          refine ⟨?_, trivial⟩
          refine ⟨_, hc.cell 1 rfl _ rfl, trivial, ?_⟩
          refine ⟨?_, trivial⟩
          refine call_b (cutN_any d.tag 10 _ h.tag) ?_
          intro wQ hQ
          have hc := (hc.quiet hQ).1
          refine ⟨trivial, ?_⟩
          refine ⟨?_, trivial⟩
          refine ⟨hc.may 1 rfl _ _ (nle rfl) rfl, ?_⟩
          intro wS hS
          have hc := (hc.set 1 rfl hS).1
          refine ⟨trivial, ?_⟩
          refine ⟨?_, trivial⟩
          refine ⟨hc.may 1 rfl _ _ (nle rfl) rfl, ?_⟩
          intro wS hS
          have hc := (hc.set 1 rfl hS).1
          refine ⟨trivial, ?_⟩
          refine ⟨hc.may 1 rfl _ _ (nle rfl) rfl, ?_⟩
          intro wS hS
          have hc := (hc.set 1 rfl hS).1
          refine ⟨_, ?_, hc.cells 1 rfl, ?_⟩
          · rfl
          refine ⟨hc.may 0 rfl _ _ (nle rfl) rfl, ?_⟩
          intro wS hS
          have hc := (hc.set 0 rfl hS).1
          refine ⟨_, ?_, hc.cells 0 rfl, ?_⟩
          · rfl
          exact ⟨rfl, hc.below⟩
        refine ⟨?_, trivial⟩
        refine ⟨_, hc.cell 1 rfl _ rfl, trivial, ?_⟩
        refine ⟨?_, trivial⟩
        refine call_b (cutN_any d.body 302 _ h.body) ?_
        intro wQ hQ
        have hc := (hc.quiet hQ).1
        refine ⟨trivial, ?_⟩
        refine ⟨?_, trivial⟩
        refine call_b (cutN_any d.tag 10 _ h.tag) ?_
        intro wQ hQ
        have hc := (hc.quiet hQ).1
        refine ⟨trivial, ?_⟩
        refine ⟨?_, trivial⟩
        refine ⟨hc.may 1 rfl _ _ (nle rfl) rfl, ?_⟩
        intro wS hS
        have hc := (hc.set 1 rfl hS).1
        refine ⟨trivial, ?_⟩
        refine ⟨?_, trivial⟩
        refine ⟨hc.may 1 rfl _ _ (nle rfl) rfl, ?_⟩
        intro wS hS
        have hc := (hc.set 1 rfl hS).1
        refine ⟨trivial, ?_⟩
        refine ⟨hc.may 1 rfl _ _ (nle rfl) rfl, ?_⟩
        intro wS hS
        have hc := (hc.set 1 rfl hS).1
        refine ⟨_, ?_, hc.cells 1 rfl, ?_⟩
        · rfl
        refine ⟨hc.may 0 rfl _ _ (nle rfl) rfl, ?_⟩
        intro wS hS
        have hc := (hc.set 0 rfl hS).1
        refine ⟨_, ?_, hc.cells 0 rfl, ?_⟩
        · rfl
        exact ⟨rfl, hc.below⟩
      refine ⟨?_, trivial⟩
      refine ⟨_, hc.cell 1 rfl _ rfl, trivial, ?_⟩
      refine ⟨?_, trivial⟩
      refine call_b (cutN_any d.key 42 _ h.key) ?_
      intro wQ hQ
      have hc := (hc.quiet hQ).1
      refine ⟨trivial, ?_⟩
      refine ⟨?_, trivial⟩
      refine call_b (cutN_any d.body 302 _ h.body) ?_
      intro wQ hQ
      have hc := (hc.quiet hQ).1
      refine ⟨trivial, ?_⟩
      refine ⟨?_, trivial⟩
      refine call_b (cutN_any d.tag 10 _ h.tag) ?_
      intro wQ hQ
      have hc := (hc.quiet hQ).1
      refine ⟨trivial, ?_⟩
      refine ⟨?_, trivial⟩
      refine ⟨hc.may 1 rfl _ _ (nle rfl) rfl, ?_⟩
      intro wS hS
      have hc := (hc.set 1 rfl hS).1
      refine ⟨trivial, ?_⟩
      refine ⟨?_, trivial⟩
      refine ⟨hc.may 1 rfl _ _ (nle rfl) rfl, ?_⟩
      intro wS hS
      have hc := (hc.set 1 rfl hS).1
      refine ⟨trivial, ?_⟩
      refine ⟨hc.may 1 rfl _ _ (nle rfl) rfl, ?_⟩
      intro wS hS
      have hc := (hc.set 1 rfl hS).1
      refine ⟨_, ?_, hc.cells 1 rfl, ?_⟩
      · rfl
      refine ⟨hc.may 0 rfl _ _ (nle rfl) rfl, ?_⟩
      intro wS hS
      have hc := (hc.set 0 rfl hS).1
      refine ⟨_, ?_, hc.cells 0 rfl, ?_⟩
      · rfl
      exact ⟨rfl, hc.below⟩
    refine ⟨?_, trivial⟩
    refine ⟨_, hc.cell 1 rfl _ rfl, trivial, ?_⟩
    refine ⟨?_, ?_⟩
    · skip
      refine call_b (cutN_any d.key 42 _ h.key) ?_
      intro wQ hQ
      have hc := (hc.quiet hQ).1
      refine ⟨trivial, ?_⟩
      refine ⟨?_, trivial⟩
      refine ⟨_, hc.cell 1 rfl _ rfl, trivial, ?_⟩
      refine ⟨?_, trivial⟩
      refine call_b (cutN_any d.body 302 _ h.body) ?_
      intro wQ hQ
      have hc := (hc.quiet hQ).1
      refine ⟨trivial, ?_⟩
      refine ⟨?_, trivial⟩
      refine call_b (cutN_any d.tag 10 _ h.tag) ?_
      intro wQ hQ
      have hc := (hc.quiet hQ).1
      refine ⟨trivial, ?_⟩
      refine ⟨?_, trivial⟩
      refine ⟨hc.may 1 rfl _ _ (nle rfl) rfl, ?_⟩
      intro wS hS
      have hc := (hc.set 1 rfl hS).1
      refine ⟨trivial, ?_⟩
      refine ⟨?_, trivial⟩
      refine ⟨hc.may 1 rfl _ _ (nle rfl) rfl, ?_⟩
      intro wS hS
      have hc := (hc.set 1 rfl hS).1
      refine ⟨trivial, ?_⟩
      refine ⟨hc.may 1 rfl _ _ (nle rfl) rfl, ?_⟩
      intro wS hS
      have hc := (hc.set 1 rfl hS).1
      refine ⟨_, ?_, hc.cells 1 rfl, ?_⟩
      · rfl
      refine ⟨hc.may 0 rfl _ _ (nle rfl) rfl, ?_⟩
      intro wS hS
      have hc := (hc.set 0 rfl hS).1
      refine ⟨_, ?_, hc.cells 0 rfl, ?_⟩
      · rfl
      exact ⟨rfl, hc.below⟩
    refine ⟨?_, trivial⟩
    refine ⟨_, hc.cell 1 rfl _ rfl, trivial, ?_⟩
    refine ⟨?_, trivial⟩
    refine call_b (cutN_any d.key 42 _ h.key) ?_
    intro wQ hQ
    have hc := (hc.quiet hQ).1
    refine ⟨trivial, ?_⟩
    refine ⟨?_, trivial⟩
    refine call_b (cutN_any d.body 302 _ h.body) ?_
    intro wQ hQ
    have hc := (hc.quiet hQ).1
    refine ⟨trivial, ?_⟩
    refine ⟨?_, trivial⟩
    refine call_b (cutN_any d.tag 10 _ h.tag) ?_
    intro wQ hQ
    have hc := (hc.quiet hQ).1
    refine ⟨trivial, ?_⟩
    refine ⟨?_, trivial⟩
    refine ⟨hc.may 1 rfl _ _ (nle rfl) rfl, ?_⟩
    intro wS hS
    have hc := (hc.set 1 rfl hS).1
    refine ⟨trivial, ?_⟩
    refine ⟨?_, trivial⟩
    refine ⟨hc.may 1 rfl _ _ (nle rfl) rfl, ?_⟩
    intro wS hS
    have hc := (hc.set 1 rfl hS).1
    refine ⟨trivial, ?_⟩
    refine ⟨hc.may 1 rfl _ _ (nle rfl) rfl, ?_⟩
    intro wS hS
    have hc := (hc.set 1 rfl hS).1
    refine ⟨_, ?_, hc.cells 1 rfl, ?_⟩
    · rfl
    refine ⟨hc.may 0 rfl _ _ (nle rfl) rfl, ?_⟩
    intro wS hS
    have hc := (hc.set 0 rfl hS).1
    refine ⟨_, ?_, hc.cells 0 rfl, ?_⟩
    · rfl
    exact ⟨rfl, hc.below⟩
  refine ⟨?_, ?_⟩
  · skip
    refine ⟨_, hc.cell 1 rfl _ rfl, trivial, ?_⟩
    refine ⟨?_, ?_⟩
    · skip
      refine ⟨_, hc.cell 1 rfl _ rfl, trivial, ?_⟩
      refine ⟨?_, ?_⟩
      · skip
        refine call_b (cutN_any d.key 42 _ h.key) ?_
        intro wQ hQ
        have hc := (hc.quiet hQ).1
        refine ⟨trivial, ?_⟩
        refine ⟨?_, ?_⟩
        · skip
          refine call_b (cutN_any d.body 302 _ h.body) ?_
          intro wQ hQ
          have hc := (hc.quiet hQ).1
          refine ⟨trivial, ?_⟩
          refine ⟨?_, trivial⟩
          refine ⟨_, hc.cell 1 rfl _ rfl, trivial, ?_⟩
          refine ⟨?_, trivial⟩
          refine call_b (cutN_any d.tag 10 _ h.tag) ?_
          intro wQ hQ
          have hc := (hc.quiet hQ).1
          refine ⟨trivial, ?_⟩
          refine ⟨?_, trivial⟩
          refine ⟨hc.may 1 rfl _ _ (nle rfl) rfl, ?_⟩
          intro wS hS
          have hc := (hc.set 1 rfl hS).1
          refine ⟨trivial, ?_⟩
          refine ⟨?_, trivial⟩
          refine ⟨hc.may 1 rfl _ _ (nle rfl) rfl, ?_⟩
          intro wS hS
          have hc := (hc.set 1 rfl hS).1
          refine ⟨trivial, ?_⟩
          refine ⟨hc.may 1 rfl _ _ (nle rfl) rfl, ?_⟩
          intro wS hS
          have hc := (hc.set 1 rfl hS).1
          refine ⟨_, ?_, hc.cells 1 rfl, ?_⟩
          · rfl
          refine ⟨hc.may 0 rfl _ _ (nle rfl) rfl, ?_⟩
          intro wS hS
          have hc := (hc.set 0 rfl hS).1
          refine ⟨_, ?_, hc.cells 0 rfl, ?_⟩
          · rfl
          exact ⟨rfl, hc.below⟩
        refine ⟨?_, trivial⟩
        refine ⟨_, hc.cell 1 rfl _ rfl, trivial, ?_⟩
        refine ⟨?_, trivial⟩
        refine call_b (cutN_any d.body 302 _ h.body) ?_
        intro wQ hQ
        have hc := (hc.quiet hQ).1
        refine ⟨trivial, ?_⟩
        refine ⟨?_, trivial⟩
        refine call_b (cutN_any d.tag 10 _ h.tag) ?_
        intro wQ hQ
        have hc := (hc.quiet hQ).1
        refine ⟨trivial, ?_⟩
        refine ⟨?_, trivial⟩
        refine ⟨hc.may 1 rfl _ _ (nle rfl) rfl, ?_⟩
        intro wS hS
        have hc := (hc.set 1 rfl hS).1
        refine ⟨trivial, ?_⟩
        refine ⟨?_, trivial⟩
        refine ⟨hc.may 1 rfl _ _ (nle rfl) rfl, ?_⟩
        intro wS hS
        have hc := (hc.set 1 rfl hS).1
        refine ⟨trivial, ?_⟩
        refine ⟨hc.may 1 rfl _ _ (nle rfl) rfl, ?_⟩
        intro wS hS
        have hc := (hc.set 1 rfl hS).1
        refine ⟨_, ?_, hc.cells 1 rfl, ?_⟩
        · rfl
        refine ⟨hc.may 0 rfl _ _ (nle rfl) rfl, ?_⟩
        intro wS hS
        have hc := (hc.set 0 rfl hS).1
        refine ⟨_, ?_, hc.cells 0 rfl, ?_⟩
        · rfl
        exact ⟨rfl, hc.below⟩
      refine ⟨?_, trivial⟩
      refine ⟨_, hc.cell 1 rfl _ rfl, trivial, ?_⟩
      refine ⟨?_, trivial⟩
      refine call_b (cutN_any d.key 42 _ h.key) ?_
      intro wQ hQ
      have hc := (hc.quiet hQ).1
      refine ⟨trivial, ?_⟩
      refine ⟨?_, trivial⟩
      refine call_b (cutN_any d.body 302 _ h.body) ?_
      intro wQ hQ
      have hc := (hc.quiet hQ).1
      refine ⟨trivial, ?_⟩
      refine ⟨?_, trivial⟩
      refine call_b (cutN_any d.tag 10 _ h.tag) ?_
      intro wQ hQ
      have hc := (hc.quiet hQ).1
      refine ⟨trivial, ?_⟩
      refine ⟨?_, trivial⟩
      refine ⟨hc.may 1 rfl _ _ (nle rfl) rfl, ?_⟩
      intro wS hS
      have hc := (hc.set 1 rfl hS).1
      refine ⟨trivial, ?_⟩
      refine ⟨?_, trivial⟩
      refine ⟨hc.may 1 rfl _ _ (nle rfl) rfl, ?_⟩
      intro wS hS
      have hc := (hc.set 1 rfl hS).1
      refine ⟨trivial, ?_⟩
      refine ⟨hc.may 1 rfl _ _ (nle rfl) rfl, ?_⟩
      intro wS hS
      have hc := (hc.set 1 rfl hS).1
      refine ⟨_, ?_, hc.cells 1 rfl, ?_⟩
      · rfl
      refine ⟨hc.may 0 rfl _ _ (nle rfl) rfl, ?_⟩
      intro wS hS
      have hc := (hc.set 0 rfl hS).1
      refine ⟨_, ?_, hc.cells 0 rfl, ?_⟩
      · rfl
      exact ⟨rfl, hc.below⟩
    refine ⟨?_, trivial⟩
    refine ⟨_, hc.cell 1 rfl _ rfl, trivial, ?_⟩
    refine ⟨?_, trivial⟩
    refine ⟨_, hc.cell 1 rfl _ rfl, trivial, ?_⟩
    refine ⟨?_, trivial⟩
    refine call_b (cutN_any d.key 42 _ h.key) ?_
    intro wQ hQ
    have hc := (hc.quiet hQ).1
    refine ⟨trivial, ?_⟩
    refine ⟨?_, trivial⟩
    refine call_b (cutN_any d.body 302 _ h.body) ?_
    intro wQ hQ
    have hc := (hc.quiet hQ).1
    refine ⟨trivial, ?_⟩
    refine ⟨?_, trivial⟩
    refine call_b (cutN_any d.tag 10 _ h.tag) ?_
    intro wQ hQ
    have hc := (hc.quiet hQ).1
    refine ⟨trivial, ?_⟩
    refine ⟨?_, trivial⟩
    refine ⟨hc.may 1 rfl _ _ (nle rfl) rfl, ?_⟩
    intro wS hS
    have hc := (hc.set 1 rfl hS).1
    refine ⟨trivial, ?_⟩
    refine ⟨?_, trivial⟩
    refine ⟨hc.may 1 rfl _ _ (nle rfl) rfl, ?_⟩
    intro wS hS
    have hc := (hc.set 1 rfl hS).1
    refine ⟨trivial, ?_⟩
    refine ⟨hc.may 1 rfl _ _ (nle rfl) rfl, ?_⟩
    intro wS hS
    have hc := (hc.set 1 rfl hS).1
    refine ⟨_, ?_, hc.cells 1 rfl, ?_⟩
    · rfl
    refine ⟨hc.may 0 rfl _ _ (nle rfl) rfl, ?_⟩
    intro wS hS
    have hc := (hc.set 0 rfl hS).1
    refine ⟨_, ?_, hc.cells 0 rfl, ?_⟩
    · rfl
    exact ⟨rfl, hc.below⟩
  refine ⟨?_, trivial⟩
  refine ⟨_, hc.cell 1 rfl _ rfl, trivial, ?_⟩
  refine ⟨?_, ?_⟩
  · skip
    refine ⟨_, hc.cell 1 rfl _ rfl, trivial, ?_⟩
    refine ⟨?_, ?_⟩
    · skip
      refine call_b (cutN_any d.key 42 _ h.key) ?_
      intro wQ hQ
      have hc := (hc.quiet hQ).1
      refine ⟨trivial, ?_⟩
      refine ⟨?_, trivial⟩
      refine ⟨_, hc.cell 1 rfl _ rfl, trivial, ?_⟩
      refine ⟨?_, trivial⟩
      refine call_b (cutN_any d.body 302 _ h.body) ?_
      intro wQ hQ
      have hc := (hc.quiet hQ).1
      refine ⟨trivial, ?_⟩
      refine ⟨?_, trivial⟩
      refine call_b (cutN_any d.tag 10 _ h.tag) ?_
      intro wQ hQ
      have hc := (hc.quiet hQ).1
      refine ⟨trivial, ?_⟩
      refine ⟨?_, trivial⟩
      refine ⟨hc.may 1 rfl _ _ (nle rfl) rfl, ?_⟩
      intro wS hS
      have hc := (hc.set 1 rfl hS).1
      refine ⟨trivial, ?_⟩
      refine ⟨?_, trivial⟩
      refine ⟨hc.may 1 rfl _ _ (nle rfl) rfl, ?_⟩
      intro wS hS
      have hc := (hc.set 1 rfl hS).1
      refine ⟨trivial, ?_⟩
      refine ⟨hc.may 1 rfl _ _ (nle rfl) rfl, ?_⟩
      intro wS hS
      have hc := (hc.set 1 rfl hS).1
      refine ⟨_, ?_, hc.cells 1 rfl, ?_⟩
      · rfl
      refine ⟨hc.may 0 rfl _ _ (nle rfl) rfl, ?_⟩
      intro wS hS
      have hc := (hc.set 0 rfl hS).1
      refine ⟨_, ?_, hc.cells 0 rfl, ?_⟩
      · rfl
      exact ⟨rfl, hc.below⟩
    refine ⟨?_, trivial⟩
    refine ⟨_, hc.cell 1 rfl _ rfl, trivial, ?_⟩
    refine ⟨?_, trivial⟩
    refine call_b (cutN_any d.key 42 _ h.key) ?_
    intro wQ hQ
    have hc := (hc.quiet hQ).1
    refine ⟨trivial, ?_⟩
    refine ⟨?_, trivial⟩
    refine call_b (cutN_any d.body 302 _ h.body) ?_
    intro wQ hQ
    have hc := (hc.quiet hQ).1
    refine ⟨trivial, ?_⟩
    refine ⟨?_, trivial⟩
    refine call_b (cutN_any d.tag 10 _ h.tag) ?_
    intro wQ hQ
    have hc := (hc.quiet hQ).1
    refine ⟨trivial, ?_⟩
    refine ⟨?_, trivial⟩
    refine ⟨hc.may 1 rfl _ _ (nle rfl) rfl, ?_⟩
    intro wS hS
    have hc := (hc.set 1 rfl hS).1
    refine ⟨trivial, ?_⟩
    refine ⟨?_, trivial⟩
    refine ⟨hc.may 1 rfl _ _ (nle rfl) rfl, ?_⟩
    intro wS hS
    have hc := (hc.set 1 rfl hS).1
    refine ⟨trivial, ?_⟩
    refine ⟨hc.may 1 rfl _ _ (nle rfl) rfl, ?_⟩
    intro wS hS
    have hc := (hc.set 1 rfl hS).1
    refine ⟨_, ?_, hc.cells 1 rfl, ?_⟩
    · rfl
    refine ⟨hc.may 0 rfl _ _ (nle rfl) rfl, ?_⟩
    intro wS hS
    have hc := (hc.set 0 rfl hS).1
    refine ⟨_, ?_, hc.cells 0 rfl, ?_⟩
    · rfl
    exact ⟨rfl, hc.below⟩
  refine ⟨?_, trivial⟩
  refine ⟨_, hc.cell 1 rfl _ rfl, trivial, ?_⟩
  refine ⟨?_, trivial⟩
  refine ⟨_, hc.cell 1 rfl _ rfl, trivial, ?_⟩
  refine ⟨?_, trivial⟩
  refine call_b (cutN_any d.key 42 _ h.key) ?_
  intro wQ hQ
  have hc := (hc.quiet hQ).1
  refine ⟨trivial, ?_⟩
  refine ⟨?_, trivial⟩
  refine call_b (cutN_any d.body 302 _ h.body) ?_
  intro wQ hQ
  have hc := (hc.quiet hQ).1
  refine ⟨trivial, ?_⟩
  refine ⟨?_, trivial⟩
  refine call_b (cutN_any d.tag 10 _ h.tag) ?_
  intro wQ hQ
  have hc := (hc.quiet hQ).1
  refine ⟨trivial, ?_⟩
  refine ⟨?_, trivial⟩
  refine ⟨hc.may 1 rfl _ _ (nle rfl) rfl, ?_⟩
  intro wS hS
  have hc := (hc.set 1 rfl hS).1
  refine ⟨trivial, ?_⟩
  refine ⟨?_, trivial⟩
  refine ⟨hc.may 1 rfl _ _ (nle rfl) rfl, ?_⟩
  intro wS hS
  have hc := (hc.set 1 rfl hS).1
  refine ⟨trivial, ?_⟩
  refine ⟨hc.may 1 rfl _ _ (nle rfl) rfl, ?_⟩
  intro wS hS
  have hc := (hc.set 1 rfl hS).1
  refine ⟨_, ?_, hc.cells 1 rfl, ?_⟩
  · rfl
  refine ⟨hc.may 0 rfl _ _ (nle rfl) rfl, ?_⟩
  intro wS hS
  have hc := (hc.set 0 rfl hS).1
  refine ⟨_, ?_, hc.cells 0 rfl, ?_⟩
  · rfl
  exact ⟨rfl, hc.below⟩
def cutV (v : Ver) : Ver := ⟨v.ver, v.gone, cut v.body 302⟩
def cutE (e : Ent) : Ent := ⟨cut e.key 42, (e.vs.take 14).map cutV⟩
theorem min14 (n : Nat) : (if (14 : Int) < (n : Int) then (14 : Int) else (n : Int)) = ((min n 14 : Nat) : Int) := by split <;> omega
theorem min103 (n : Nat) : (if (103 : Int) < (n : Int) then (103 : Int) else (n : Int)) = ((min n 103 : Nat) : Int) := by split <;> omega
def RetE (e : Ent) (w : World) (en : Ending) (w' : World) : Prop := ∃ A c, en = .returned (.agg #[.string e.key, .slice A e.vs.length c]) ∧ Below w.heap.size w w' ∧ w'.ownsRow w.heap.size 60 3 (.slice A e.vs.length c) e.vs.length (e.vs.map verC).flatten
theorem row_body (cur : List Value) (cap : Nat) (l : List Ver) (i : Nat) (hi : i < l.length) (hcl : cur.length = cap * 3) (hn : l.length ≤ cap) (hct : cur.take (l.length * 3) = (l.map verC).flatten) (b : ByteArray) :
    (putAt cur (i * 3 + 2) [.string b]).take (l.length * 3) = ((l.set i ⟨l[i].ver, l[i].gone, b⟩).map verC).flatten := by
  have hfit : i * 3 + 2 + 1 ≤ cur.length := by omega
  apply List.ext_getElem?
  intro j
  have hL : ∀ m : List Ver, (m.map verC).flatten.length = m.length * 3 := fun m => by rw [(verC_flat _).len, List.length_map]
  have hpt : ∀ (m : List Ver) (k : Nat) (hk : k < m.length) (r : Nat) (u : Value), (verC m[k])[r]? = some u → (m.map verC).flatten[k * 3 + r]? = some u := fun m k hk r u hu =>
    (verC_flat m).get k (by rw [List.length_map]; exact hk) r u (by rw [List.getElem_map]; exact hu)
  rcases Nat.lt_or_ge j (l.length * 3) with hj | hj
  · rw [List.getElem?_take, if_pos hj]
    have hq : j / 3 < l.length := by omega
    have hjd : j = j / 3 * 3 + j % 3 := by omega
    have hr : j % 3 < 3 := Nat.mod_lt _ (by decide)
    have hold : cur[j]? = (l.map verC).flatten[j]? := by rw [← hct, List.getElem?_take, if_pos hj]
    show (cur.set (i * 3 + 2) (.string b))[j]? = _
    generalize hk : j / 3 = k at *
    generalize hrr : j % 3 = r at *
    by_cases e : k = i
    · subst e
      have hset : (l.set k ⟨l[k].ver, l[k].gone, b⟩)[k]'(by rw [List.length_set]; exact hq) = ⟨l[k].ver, l[k].gone, b⟩ := List.getElem_set_self ..
      match r, hr with
      | 0, _ =>
        rw [List.getElem?_set_ne (by omega), hold, hjd, hpt l k hq 0 (.int .i64 l[k].ver) rfl, hpt _ k (by rw [List.length_set]; exact hq) 0 (.int .i64 l[k].ver) (by rw [hset]; rfl)]
      | 1, _ =>
        rw [List.getElem?_set_ne (by omega), hold, hjd, hpt l k hq 1 (.bool l[k].gone) rfl, hpt _ k (by rw [List.length_set]; exact hq) 1 (.bool l[k].gone) (by rw [hset]; rfl)]
      | 2, _ =>
        rw [hjd, List.getElem?_set_self (by omega), hpt _ k (by rw [List.length_set]; exact hq) 2 (.string b) (by rw [hset]; rfl)]
    · have hset : (l.set i ⟨l[i].ver, l[i].gone, b⟩)[k]'(by rw [List.length_set]; exact hq) = l[k] := List.getElem_set_ne (fun h => e h.symm) ..
      rw [List.getElem?_set_ne (by omega), hold, hjd]
      match r, hr with
      | 0, _ => rw [hpt l k hq 0 (.int .i64 l[k].ver) rfl, hpt _ k (by rw [List.length_set]; exact hq) 0 (.int .i64 l[k].ver) (by rw [hset]; rfl)]
      | 1, _ => rw [hpt l k hq 1 (.bool l[k].gone) rfl, hpt _ k (by rw [List.length_set]; exact hq) 1 (.bool l[k].gone) (by rw [hset]; rfl)]
      | 2, _ => rw [hpt l k hq 2 (.string l[k].body) rfl, hpt _ k (by rw [List.length_set]; exact hq) 2 (.string l[k].body) (by rw [hset]; rfl)]
  · rw [List.getElem?_eq_none (by rw [List.length_take]; omega), List.getElem?_eq_none (by rw [hL, List.length_set]; exact hj)]
def cutTo (l : List Ver) (i : Nat) : List Ver := (l.take i).map cutV ++ l.drop i
theorem cutTo_len (l : List Ver) (i : Nat) : (cutTo l i).length = l.length := by
  unfold cutTo
  rw [List.length_append, List.length_map, List.length_take, List.length_drop]; omega
theorem cutTo_get (l : List Ver) (i : Nat) (hi : i < l.length) : (cutTo l i)[i]? = some l[i] := by
  unfold cutTo
  rw [List.getElem?_append_right (by rw [List.length_map, List.length_take]; omega), List.length_map, List.length_take, List.getElem?_drop]
  rw [show i + (i - min i l.length) = i by omega, List.getElem?_eq_getElem hi]
theorem cutTo_succ (l : List Ver) (i : Nat) (hi : i < l.length) : (cutTo l i).set i (cutV l[i]) = cutTo l (i + 1) := by
  unfold cutTo
  rw [List.set_append_right _ _ (by rw [List.length_map, List.length_take]; omega), List.length_map, List.length_take, show i - min i l.length = 0 by omega, List.drop_eq_getElem_cons hi, List.set_cons_zero, List.take_add_one, List.getElem?_eq_getElem hi, List.map_append, List.append_assoc]
  rfl
set_option maxHeartbeats 2000000 in
theorem entry5_any (e : Ent) (he : e.Ok) (A : Option Addr) (cap : Nat) (S0 : Nat → Prop) (w : World) (hR : Row S0 w A e.vs.length cap (e.vs.map verC).flatten) :
    Calls Tryz.prog 46 #[.agg #[.string e.key, .slice A e.vs.length cap]] w (RetE (cutE e) w) := by
  refine calls_vc lay_ok Tryz.func46 rfl (by kernel_rfl) (by kernel_rfl) ?_
  have hc := CtxF.start w no (fun _ h => h.elim) (R := fun _ _ => True) trivial Stab.true
  intro g1 wg1 hg1
  have hc := (hc.loc hg1).1
  intro g2 wg2 hg2
  have hc := (hc.loc hg2).1
  refine ⟨_, hc.cell 1 rfl _ rfl, ?_⟩
  refine call_b (cutN_any e.key 42 _ he.key) ?_
  intro wQ hQ
  have hc := (hc.quiet hQ).1
  refine ⟨hc.may 1 rfl _ _ (nle rfl) rfl, ?_⟩
  intro wS hS
  have hc := (hc.set 1 rfl hS).1
  refine ⟨_, hc.cell 1 rfl _ rfl, ?_⟩
  refine ⟨_, hc.cell 1 rfl _ rfl, ?_⟩
  have hnc := hR.1
  have hMx := row_max hR
  have hm := min14 e.vs.length
  refine ⟨⟨Int.le_refl _, by rw [hm]; omega, by rw [hm]; omega, Int.le_refl _⟩, ?_⟩
  have hc := hc.nil 60 3
  obtain ⟨l, hl⟩ : ∃ l, l = e.vs.take 14 := ⟨_, rfl⟩
  have hll : min e.vs.length 14 = l.length := by rw [hl, List.length_take]; omega
  have hl14 : l.length ≤ 14 := by omega
  have hfr : Row S0 w A l.length cap ((l.map verC).flatten) := by
    have := hR.front 3 (k := l.length) (by omega)
    rwa [← (verC_flat _).flat_take, ← List.map_take, show e.vs.take l.length = l by rw [hl, List.length_take, Nat.min_comm]; exact (List.take_eq_take_iff.2 (by omega))] at this
  refine app_rowF Tryz.underlying56 info_V rfl (by decide) hc (hfr.below hc.below) (by rw [(verC_flat _).len, List.length_map]) (verC_flat _).ones (by omega) (by decide) rfl ?_ ?_
  · show Value.slice (if (cap : Int) = 0 then A else A.map (·.add ((0 : Int).toNat * 3))) ((if (14 : Int) < (e.vs.length : Int) then (14 : Int) else (e.vs.length : Int)) - 0).toNat ((cap : Int) - 0).toNat = _
    rw [front_eq, hm, hll]
    congr 1 <;> omega
  intro A1 cap1 w7 hc
  rw [Nat.zero_add l.length] at hc ⊢
  refine ⟨hc.may 1 rfl _ _ (nle rfl) rfl, ?_⟩
  intro wS hS
  have hc := (hc.set 1 rfl hS).1
  refine ⟨_, hc.cell 1 rfl _ rfl, ?_⟩
  have eE : cutE e = ⟨cut e.key 42, cutTo l l.length⟩ := by
    unfold cutE cutTo
    rw [List.take_length, List.drop_length, List.append_nil, ← hl]
  have hok : ∀ v ∈ l, strok v.body := fun v hv => (he.vs v (List.mem_of_mem_take (by rw [← hl]; exact hv))).body
  rw [eE]
  cases hA : A1 with
  | none =>
    have h0 : l.length = 0 := (hc.fst.none' hA).1
    refine ⟨Unit, fun _ => [(1, .pointer (some ⟨g1, 0, none⟩)), (2, .pointer (some ⟨g2, 0, none⟩)), (19, .int .i64 l.length), (20, .int .i64 0)], fun _ w' => w' = _, fun _ _ => 0, (), ⟨rfl, rfl, rfl, rfl, trivial⟩, rfl, ?_⟩
    rintro _ _ u rfl
    refine split_f (decide_eq_false (show ¬ (0 : Int) < (l.length : Int) by omega)) ?_
    refine ⟨_, ?_, hc.cells 1 rfl, ?_⟩
    · rfl
    refine ⟨hc.may 0 rfl _ _ (nle rfl) rfl, ?_⟩
    intro wS hS
    have hc := (hc.set 0 rfl hS).1
    refine ⟨_, ?_, hc.cells 0 rfl, ?_⟩
    · rfl
    have hlen := cutTo_len l l.length
    have hnil : l = [] := List.eq_nil_of_length_eq_zero h0
    refine ⟨A1, cap1, ?_, hc.below, ?_⟩
    · simp only [hlen, hA]; rfl
    · simp only [hlen]
      have := hc.fst.row
      subst hnil
      exact this
  | some a =>
  obtain ⟨g, cur, ea, hc, hcl, hct, hcn, hcm⟩ := hc.opened hA
  rw [hA] at ea
  cases ea
  subst hA
  refine ⟨Nat × List Value, fun x => [(1, .pointer (some ⟨g1, 0, none⟩)), (2, .pointer (some ⟨g2, 0, none⟩)), (19, .int .i64 l.length), (20, .int .i64 x.1)],
    fun x w' => x.1 ≤ l.length ∧ x.2.length = cap1 * 3 ∧ x.2.take (l.length * 3) = ((cutTo l x.1).map verC).flatten ∧ CtxF no w no w' [(g, 60, x.2), (g2, 58, (lay.ty 58).zero), (g1, 58, [.string (cut e.key 42), .slice (some ⟨g, 0, none⟩) l.length cap1])] [] (fun _ _ => True),
    fun x _ => l.length - x.1, (0, cur), ⟨rfl, rfl, rfl, rfl, trivial⟩, ⟨Nat.zero_le _, hcl, hct, hc⟩, ?_⟩
  clear hc hcl hct
  rintro ⟨i, cur⟩ w4 u ⟨hi, hcl, hct, hc⟩
  simp only at hi hc hcl hct
  by_cases hlt : i < l.length
  · refine split_t (decide_eq_true (by first | omega | (simp only; omega))) ?_
    have hln := cutTo_len l i
    have hgi : (cutTo l i)[i]'(by omega) = l[i] := by
      have := cutTo_get l i hlt
      exact (List.getElem?_eq_some_iff.1 this).2
    have hcell : cur[i * 3 + 2]? = some (.string l[i].body) := by
      have h1 : ((cutTo l i).map verC).flatten[i * 3 + 2]? = some (.string l[i].body) := (verC_flat (cutTo l i)).get i (by rw [List.length_map]; omega) 2 _ (by rw [List.getElem_map, hgi]; rfl)
      rw [← hct, List.getElem?_take] at h1
      split at h1
      · exact h1
      · cases h1
    have hbody := hok l[i] (List.getElem_mem hlt)
    have hrow := row_body cur cap1 (cutTo l i) i (by omega) hcl (by omega) (by rw [hln]; exact hct) (cut l[i].body 302)
    rw [hgi, hln] at hrow
    have hcs := cutTo_succ l i hlt
    have ecv : (⟨l[i].ver, l[i].gone, cut l[i].body 302⟩ : Ver) = cutV l[i] := rfl
    rw [ecv, hcs] at hrow
    generalize l[i] = v at *
    refine drawn lay_ok (by kernel_rfl) (.q 0 (.q 2 (.q 3 (.q 5 (.n 1 (.n 4 (.q 6 (.q 7 (.n 8 (.n 9 (.q 10 (.q 11 (.n 12 .fin .stop))) .stop) .stop))) .stop) (.n 4 (.q 6 (.q 7 (.n 1 (.n 8 (.n 9 (.q 10 (.q 11 (.n 12 .fin .stop))) .stop) .stop) (.n 8 (.n 1 (.n 9 (.q 10 (.q 11 (.n 12 .fin .stop))) .stop) (.n 9 (.n 1 (.q 10 (.q 11 (.n 12 .fin .stop))) .stop) .stop)) .stop)))) .stop)))))) (fun _ => True) (by kernel_rfl) trivial ?_
    have hc := hc.drew
    refine ⟨?_, ?_⟩
    · skip
      refine ⟨_, hc.cell 2 rfl _ rfl, trivial, ?_⟩
      refine ⟨?_, trivial⟩
      refine ⟨_, hc.cell 2 rfl _ rfl, trivial, ?_⟩
      refine ⟨⟨by first | omega | (simp only; omega), by first | omega | (simp only; omega)⟩, ?_⟩
      generalize hae : ((⟨g, 0, none⟩ : Addr).add ((i : Int).toNat * 3)) = ae
      have hae : (⟨g, i * 3, none⟩ : Addr) = ae := by rw [← hae, Addr.add_lit, Nat.zero_add, Int.toNat_natCast]
      subst hae
      refine ⟨?_, trivial⟩
      refine ⟨.string v.body, (hc.blk 0 rfl).cell (i * 3 + 2) |>.trans hcell, trivial, ?_⟩
      refine ⟨?_, trivial⟩
      refine call_b (cutN_any v.body 302 _ hbody) ?_
      intro wQ hQ
      have hc := (hc.quiet hQ).1
      refine ⟨trivial, ?_⟩
      refine ⟨⟨by first | omega | (simp only; omega), by first | omega | (simp only; omega)⟩, ?_⟩
      generalize hae : ((⟨g, 0, none⟩ : Addr).add ((i : Int).toNat * 3)) = ae
      have hae : (⟨g, i * 3, none⟩ : Addr) = ae := by rw [← hae, Addr.add_lit, Nat.zero_add, Int.toNat_natCast]
      subst hae
      refine ⟨?_, trivial⟩
      refine ⟨hc.may 0 rfl (i * 3 + 2) [.string (cut v.body 302)] (by show i * 3 + 2 + 1 ≤ cur.length; omega) rfl, ?_⟩
      intro wS hS
      have hS : Stored _ ⟨g, i * 3 + 2, none⟩ [.string (cut v.body 302)] wS := hS
      have hc := (hc.set 0 rfl hS).1
      refine ⟨trivial, ?_⟩
      exact ⟨(i + 1, putAt cur (i * 3 + 2) [.string (cut v.body 302)]), ⟨rfl, rfl, rfl, congrArg _ (i_down (by first | omega | (simp only; omega))), trivial⟩, ⟨hlt, by simp only [putAt_len]; exact hcl, hrow, hc⟩, by show l.length - (i + 1) < l.length - i; omega⟩
    refine ⟨?_, trivial⟩
    refine ⟨_, hc.cell 2 rfl _ rfl, trivial, ?_⟩
    refine ⟨⟨by first | omega | (simp only; omega), by first | omega | (simp only; omega)⟩, ?_⟩
    generalize hae : ((⟨g, 0, none⟩ : Addr).add ((i : Int).toNat * 3)) = ae
    have hae : (⟨g, i * 3, none⟩ : Addr) = ae := by rw [← hae, Addr.add_lit, Nat.zero_add, Int.toNat_natCast]
    subst hae
    refine ⟨?_, ?_⟩
    · skip
      refine ⟨_, hc.cell 2 rfl _ rfl, trivial, ?_⟩
      refine ⟨?_, trivial⟩
      refine ⟨.string v.body, (hc.blk 0 rfl).cell (i * 3 + 2) |>.trans hcell, trivial, ?_⟩
      refine ⟨?_, trivial⟩
      refine call_b (cutN_any v.body 302 _ hbody) ?_
      intro wQ hQ
      have hc := (hc.quiet hQ).1
      refine ⟨trivial, ?_⟩
      refine ⟨⟨by first | omega | (simp only; omega), by first | omega | (simp only; omega)⟩, ?_⟩
      generalize hae : ((⟨g, 0, none⟩ : Addr).add ((i : Int).toNat * 3)) = ae
      have hae : (⟨g, i * 3, none⟩ : Addr) = ae := by rw [← hae, Addr.add_lit, Nat.zero_add, Int.toNat_natCast]
      subst hae
      refine ⟨?_, trivial⟩
      refine ⟨hc.may 0 rfl (i * 3 + 2) [.string (cut v.body 302)] (by show i * 3 + 2 + 1 ≤ cur.length; omega) rfl, ?_⟩
      intro wS hS
      have hS : Stored _ ⟨g, i * 3 + 2, none⟩ [.string (cut v.body 302)] wS := hS
      have hc := (hc.set 0 rfl hS).1
      refine ⟨trivial, ?_⟩
      exact ⟨(i + 1, putAt cur (i * 3 + 2) [.string (cut v.body 302)]), ⟨rfl, rfl, rfl, congrArg _ (i_down (by first | omega | (simp only; omega))), trivial⟩, ⟨hlt, by simp only [putAt_len]; exact hcl, hrow, hc⟩, by show l.length - (i + 1) < l.length - i; omega⟩
    refine ⟨?_, trivial⟩
    refine ⟨.string v.body, (hc.blk 0 rfl).cell (i * 3 + 2) |>.trans hcell, trivial, ?_⟩
    refine ⟨?_, ?_⟩
    · skip
      refine ⟨_, hc.cell 2 rfl _ rfl, trivial, ?_⟩
      refine ⟨?_, trivial⟩
      refine call_b (cutN_any v.body 302 _ hbody) ?_
      intro wQ hQ
      have hc := (hc.quiet hQ).1
      refine ⟨trivial, ?_⟩
      refine ⟨⟨by first | omega | (simp only; omega), by first | omega | (simp only; omega)⟩, ?_⟩
      generalize hae : ((⟨g, 0, none⟩ : Addr).add ((i : Int).toNat * 3)) = ae
      have hae : (⟨g, i * 3, none⟩ : Addr) = ae := by rw [← hae, Addr.add_lit, Nat.zero_add, Int.toNat_natCast]
      subst hae
      refine ⟨?_, trivial⟩
      refine ⟨hc.may 0 rfl (i * 3 + 2) [.string (cut v.body 302)] (by show i * 3 + 2 + 1 ≤ cur.length; omega) rfl, ?_⟩
      intro wS hS
      have hS : Stored _ ⟨g, i * 3 + 2, none⟩ [.string (cut v.body 302)] wS := hS
      have hc := (hc.set 0 rfl hS).1
      refine ⟨trivial, ?_⟩
      exact ⟨(i + 1, putAt cur (i * 3 + 2) [.string (cut v.body 302)]), ⟨rfl, rfl, rfl, congrArg _ (i_down (by first | omega | (simp only; omega))), trivial⟩, ⟨hlt, by simp only [putAt_len]; exact hcl, hrow, hc⟩, by show l.length - (i + 1) < l.length - i; omega⟩
    refine ⟨?_, trivial⟩
    refine call_b (cutN_any v.body 302 _ hbody) ?_
    intro wQ hQ
    have hc := (hc.quiet hQ).1
    refine ⟨trivial, ?_⟩
    refine ⟨?_, trivial⟩
    refine ⟨_, hc.cell 2 rfl _ rfl, trivial, ?_⟩
    refine ⟨⟨by first | omega | (simp only; omega), by first | omega | (simp only; omega)⟩, ?_⟩
    generalize hae : ((⟨g, 0, none⟩ : Addr).add ((i : Int).toNat * 3)) = ae
    have hae : (⟨g, i * 3, none⟩ : Addr) = ae := by rw [← hae, Addr.add_lit, Nat.zero_add, Int.toNat_natCast]
    subst hae
    refine ⟨?_, trivial⟩
    refine ⟨hc.may 0 rfl (i * 3 + 2) [.string (cut v.body 302)] (by show i * 3 + 2 + 1 ≤ cur.length; omega) rfl, ?_⟩
    intro wS hS
    have hS : Stored _ ⟨g, i * 3 + 2, none⟩ [.string (cut v.body 302)] wS := hS
    have hc := (hc.set 0 rfl hS).1
    refine ⟨trivial, ?_⟩
    exact ⟨(i + 1, putAt cur (i * 3 + 2) [.string (cut v.body 302)]), ⟨rfl, rfl, rfl, congrArg _ (i_down (by first | omega | (simp only; omega))), trivial⟩, ⟨hlt, by simp only [putAt_len]; exact hcl, hrow, hc⟩, by show l.length - (i + 1) < l.length - i; omega⟩
  · refine split_f (decide_eq_false (by first | omega | (simp only; omega))) ?_
    have hi : i = l.length := by omega
    subst hi
    refine ⟨_, ?_, hc.cells 2 rfl, ?_⟩
    · rfl
    refine ⟨hc.may 1 rfl _ _ (nle rfl) rfl, ?_⟩
    intro wS hS
    have hc := (hc.set 1 rfl hS).1
    refine ⟨_, ?_, hc.cells 1 rfl, ?_⟩
    · rfl
    have hc := CtxF.closed hc 3 l.length cap1 hcn hcm hcl
    rw [hct] at hc
    have hlen := cutTo_len l l.length
    refine ⟨some ⟨g, 0, none⟩, cap1, ?_, hc.below, ?_⟩
    · simp only [hlen]; rfl
    · simp only [hlen]
      exact hc.fst.row
theorem b2i_any (b : Bool) (w : World) : Calls Tryz.prog 74 #[.bool b] w (RetB (.int .i64 (if b then 1 else 0)) w) := by
  refine calls_vc lay_ok Tryz.func74 rfl (by kernel_rfl) (by kernel_rfl) ?_
  cases b
  · exact ⟨rfl, Below.refl _ _⟩
  · exact ⟨rfl, Below.refl _ _⟩
def putDeed (key body : ByteArray) (n : Int) : D := ⟨1, key, body, 0, 0, ⟨#[]⟩, 4294967296 + n, 0⟩
theorem put5_any (key body : ByteArray) (n : Int) (h0 : 0 ≤ n) (h1 : n ≤ 1000000) (w : World) : Calls Tryz.prog 71 #[.string key, .string body, .int .i64 n] w (RetB (.agg (dC (putDeed key body n)).toArray) w) := by
  refine calls_vc lay_ok Tryz.func71 rfl (by kernel_rfl) (by kernel_rfl) ?_
  have hc := CtxF.start w no (fun _ h => h.elim) (R := fun _ _ => True) trivial Stab.true
  intro g6 wg6 hg6
  have hc := (hc.loc hg6).1
  have hw : IntKind.i64.wrap (4294967296 + n) = 4294967296 + n := by rw [IntWalk.i64_in _ ⟨by omega, by omega⟩]
  refine ⟨hc.may 0 rfl _ _ (nle rfl) rfl, ?_⟩
  intro wS hS
  rw [hw] at hS
  have hc := (hc.set 0 rfl hS).1
  refine ⟨_, ?_, hc.cells 0 rfl, ?_⟩
  · rfl
  exact ⟨rfl, hc.below⟩
def cutS (s : Stt) : Stt := ⟨s.seq, (s.l.take 42).map cutE, s.ms.take 103, s.lows⟩
def RetSt (s : Stt) (S : Nat → Prop) (w : World) (en : Ending) (w' : World) : Prop := ∃ cs, en = .returned (.agg cs.toArray) ∧ Below w.heap.size w w' ∧ RepS (ext S w w') w' s cs
set_option maxHeartbeats 2000000 in
theorem state5_any (s : Stt) (hk : s.Ok) (cs : List Value) (S0 : Nat → Prop) (w : World) (hs : RepS S0 w s cs) : Calls Tryz.prog 60 #[.agg cs.toArray] w (RetSt (cutS s) no w) := by
  obtain ⟨A, cap, css0, B, cap', l0, l1, l2, l3, l4, rfl, el, hE, hR, hM⟩ := hs.shape
  refine calls_vc lay_ok Tryz.func60 rfl (by kernel_rfl) (by kernel_rfl) ?_
  have hc := CtxF.start w no (fun _ h => h.elim) (R := fun S w => RepEs S w [] []) rfl (RepEs.stab _ _)
  intro g1 wg1 hg1
  have hc := (hc.loc hg1).1
  intro g2 wg2 hg2
  have hc := (hc.loc hg2).1
  have hc := hc.nil 58 2
  refine ⟨Nat × Option Addr × Nat, fun x => [(1, .pointer (some ⟨g1, 0, none⟩)), (2, .pointer (some ⟨g2, 0, none⟩)), (3, .slice x.2.1 ((s.l.take x.1).map cutE).length x.2.2), (4, .int .i64 x.1)],
    fun x w' => x.1 ≤ s.l.length ∧ x.1 ≤ 42 ∧ ∃ S css, CtxF no w S w' [(g2, 78, (lay.ty 78).zero), (g1, 78, stC s A cap B cap' l0 l1 l2 l3 l4)] [⟨58, 2, x.2.1, ((s.l.take x.1).map cutE).length, x.2.2, css.flatten⟩] (fun S w => RepEs S w ((s.l.take x.1).map cutE) css),
    fun x _ => 43 - x.1, (0, none, 0), ⟨rfl, rfl, rfl, rfl, trivial⟩, ⟨Nat.zero_le _, Nat.zero_le _, no, [], hc⟩, ?_⟩
  clear hc
  rintro ⟨i, A', n'⟩ w4 u ⟨hi, h42, S, css, hc⟩
  simp only at hi hc h42
  refine ⟨_, hc.cell 1 rfl _ rfl, ?_⟩
  have fin : ∀ (A' : Option Addr) (n' : Nat) (w4 : World) (S : Nat → Prop) (css : List (List Value)), s.l.take i = s.l.take 42 → True := fun _ _ _ _ _ _ => trivial
  by_cases hgo : i < s.l.length ∧ i < 42
  · obtain ⟨hlt, hlt2⟩ := hgo
    refine split_t (decide_eq_true (by first | omega | (simp only; omega))) ?_
    refine split_t (decide_eq_true (show (i : Int) < 42 by omega)) ?_
    obtain ⟨ad, A1, cap1, rfl, hcell0, hRe⟩ := RowE.elem hR hE i hlt
    have hok := hk.l _ (List.getElem_mem hlt)
    have e1 : (s.l.take (i + 1)).map cutE = (s.l.take i).map cutE ++ [cutE s.l[i]] := by rw [List.take_add_one, List.getElem?_eq_getElem hlt, List.map_append]; rfl
    generalize s.l[i] = x at *
    refine ⟨_, hc.cell 1 rfl _ rfl, ?_⟩
    refine ⟨⟨by first | omega | (simp only; omega), by first | omega | (simp only; omega)⟩, ?_⟩
    refine ⟨[.string x.key, .slice A1 x.vs.length cap1], rfl, cellsAt_later hc.below _ _ hcell0, ?_⟩
    refine ⟨(entry5_any x hok A1 cap1 S0 _ (hRe.below hc.below)).mono fun en wq hq => ?_⟩
    obtain ⟨A2, c2, e2, hq, ho⟩ := hq
    have hc := hc.fresh hq ho
    obtain ⟨S2, _, hc⟩ := hc.told
    refine ⟨_, e2, ?_⟩
    intro gb wgb hgb
    have hc := (hc.loc hgb).1
    have hlk : ((s.l.take i).map cutE).length ≤ 42 := by rw [List.length_map, List.length_take]; omega
    refine app_ownF Tryz.underlying74 info_E rfl (by decide) hc (ys := [.string (cutE x).key, .slice A2 (cutE x).vs.length c2]) (m := 1) rfl (hc.cells 0 rfl) rfl (by omega) (by decide) rfl rfl ?_
    intro A3 c5 w11 hc
    have hf := hc.drop.now (X := fun S w => RepEs S w ((s.l.take i).map cutE ++ [cutE x]) (css ++ [[.string (cutE x).key, .slice A2 (cutE x).vs.length c2]])) (fun h => RepEs.snoc h.1 ⟨A2, c2, rfl, h.2⟩) (RepEs.stab _ _)
    have ef : css.flatten ++ [Value.string (cutE x).key, Value.slice A2 (cutE x).vs.length c2] = (css ++ [[Value.string (cutE x).key, Value.slice A2 (cutE x).vs.length c2]]).flatten := by rw [List.flatten_append]; simp
    have e3 : ((s.l.take (i + 1)).map cutE).length = ((s.l.take i).map cutE).length + 1 := by rw [e1, List.length_append]; rfl
    rw [← e1, ← e3, ef] at hf
    exact ⟨(i + 1, A3, c5), ⟨rfl, rfl, by simp only [e3]; rfl, congrArg _ (i_down (by first | omega | (simp only; omega))), trivial⟩, ⟨hlt, hlt2, _, _, hf⟩, by show 43 - (i + 1) < 43 - i; omega⟩
  have et : s.l.take i = s.l.take 42 := by
    rcases Nat.lt_or_ge i s.l.length with h | h
    · rw [show i = 42 by omega]
    · rw [List.take_of_length_le h, List.take_of_length_le (by omega)]
  rw [et] at hc
  simp only [et]
  have hnc := hM.1
  have hMx := row_max hM
  have hm := min103 s.ms.length
  obtain ⟨l, hl⟩ : ∃ l, l = s.ms.take 103 := ⟨_, rfl⟩
  have hll : min s.ms.length 103 = l.length := by rw [hl, List.length_take]; omega
  have hl103 : l.length ≤ 103 := by omega
  have hfr : Row S0 w B l.length cap' ((l.map memC).flatten) := by
    have := hM.front 3 (k := l.length) (by omega)
    rwa [← (memC_flat _).flat_take, ← List.map_take, show s.ms.take l.length = l by rw [hl, List.length_take, Nat.min_comm]; exact (List.take_eq_take_iff.2 (by omega))] at this
  have eS : cutS s = ⟨s.seq, (s.l.take 42).map cutE, l, s.lows⟩ := by unfold cutS; rw [hl]
  rw [eS]
  rcases Nat.lt_or_ge i s.l.length with h | h
  all_goals first
    | (refine split_t (decide_eq_true (by first | omega | (simp only; omega))) ?_
       refine split_f (decide_eq_false (show ¬ (i : Int) < 42 by omega)) ?_)
    | refine split_f (decide_eq_false (by first | omega | (simp only; omega))) ?_
  all_goals (
    refine ⟨hc.may 1 rfl _ _ (nle rfl) rfl, ?_⟩
    intro wS hS
    have hc := (hc.set 1 rfl hS).1
    obtain ⟨S2, _, hc⟩ := hc.told
    have hc := hc.nil 147 3
    refine ⟨_, hc.cell 1 rfl _ rfl, ?_⟩
    refine ⟨_, hc.cell 1 rfl _ rfl, ?_⟩
    refine ⟨⟨Int.le_refl _, by rw [hm]; omega, by rw [hm]; omega, Int.le_refl _⟩, ?_⟩
    refine app_rowF Tryz.underlying75 info_M rfl (by decide) hc (hfr.below hc.below) (by rw [(memC_flat _).len, List.length_map]) (memC_flat _).ones (by omega) (by decide) rfl (by
      show Value.slice (if (cap' : Int) = 0 then B else B.map (·.add ((0 : Int).toNat * 3))) ((if (103 : Int) < (s.ms.length : Int) then (103 : Int) else (s.ms.length : Int)) - 0).toNat ((cap' : Int) - 0).toNat = _
      rw [front_eq, hm, hll]
      congr 1 <;> omega) ?_
    intro A1 cap1 w7 hc
    rw [Nat.zero_add l.length] at hc ⊢
    refine ⟨hc.may 1 rfl _ _ (nle rfl) rfl, ?_⟩
    intro wS hS
    have hc := (hc.set 1 rfl hS).1
    refine ⟨_, ?_, hc.cells 1 rfl, ?_⟩
    · rfl
    refine ⟨hc.may 0 rfl _ _ (nle rfl) rfl, ?_⟩
    intro wS hS
    have hc := (hc.set 0 rfl hS).1
    obtain ⟨S3, _, hc⟩ := hc.told
    refine ⟨_, ?_, hc.cells 0 rfl, ?_⟩
    · rfl
    have ho := hc.out
    exact ⟨_, rfl, hc.below, RepS.mk' el ho.1.1 ho.1.2 ho.2⟩)
theorem mayD_ok {d : D} (h : mayD d = true) : d.Ok := by
  have hs := mayD_sizes h
  have hh := homeI_ok (mayD_home h)
  have hl := mayD_low h
  have hk := mayD_kind h
  unfold mayD at h
  simp only [Bool.and_eq_true, Bool.not_eq_true', decide_eq_false_iff_not] at h
  obtain ⟨⟨⟨_, h1⟩, _⟩, h2⟩ := h
  have hvc : i64ok d.ver ∧ i64ok d.cond := by
    unfold i64ok
    rcases hk with hk | hk | hk
    · simp [hk] at h2; omega
    · simp [hk] at h2; omega
    · simp [hk] at h2; omega
  refine ⟨by unfold i64ok; omega, by unfold strok; omega, by unfold strok; omega, hvc.1, hvc.2, by unfold strok; omega, by unfold i64ok; omega, by unfold i64ok; omega⟩
theorem mayS_ok {s : Stt} (h5 : s.lows.length = 5) (h : mayS s = true) : s.Ok := by
  obtain ⟨⟨a1, a2⟩, ⟨a3, a4⟩, a5, a6, a7⟩ := mayS_parts.1 h
  have hm : maxN = 1099511627776 := rfl
  refine ⟨by unfold i64ok; omega, fun e he => ?_, fun m hm' => ?_, fun x hx => ?_⟩
  · have ho := ((risE_iff _ _ _).1 a5).1 e he
    have hp := mayE_parts.1 ho.1
    have := keyB_len hp.2.1
    refine ⟨by unfold strok; omega, fun v hv => ?_⟩
    obtain ⟨n1, n2⟩ := verOk_nums (okEnt_vers ho v hv)
    exact ⟨n1, by unfold strok; omega⟩
  · obtain ⟨n1, n2, n3⟩ := okM_nums a2 (((memB_iff _ _ _ _).1 a7).1 m hm')
    exact ⟨n1, n2, n3⟩
  · obtain ⟨j, hj, hx⟩ := List.getElem_of_mem hx
    rcases (lowsB_iff _ _).1 a6 j x (by rw [← hx]; exact List.getElem?_eq_getElem hj) with h0 | h0
    · unfold i64ok; omega
    · have := homeI_ok (n := x) (by omega)
      unfold i64ok; omega
theorem D0_eq : (dC D0).toArray = #[.int .i64 0, .string ⟨#[]⟩, .string ⟨#[]⟩, .int .i64 0, .int .i64 0, .string ⟨#[]⟩, .int .i64 0, .int .i64 0] := rfl
theorem rputS_deed (d : D) : rputS (vDeed d) = putV (vDeed d) := by rw [rputS, mayV_vDeed]; rfl
theorem putV_deed_len (d : D) (hk : d.Ok) (h : mayD d = true) : (putV (vDeed d)).length ≤ 1073741824 := by
  have h1 := txt_vDeed d hk h
  have h3 := putV_len (vDeed d)
  have := dec_len7 (u := (txtV (vDeed d)).length) (by omega)
  omega
theorem tells_any (t : List UInt8) (ht : t.length ≤ 1073741824) (w : World) (hw : Env w) : Calls Tryz.prog 44 #[.string ⟨t.toArray⟩] w (RetB (.bool true) w) := by
  refine calls_vc lay_ok Tryz.func44 rfl (by kernel_rfl) (by kernel_rfl) ?_
  have hc := CtxF.start w no (fun _ h => h.elim) (R := fun _ _ => True) trivial Stab.true
  have hg := getD_any t ht _ hw
  rcases getD_err t with h0 | h0
  rotate_left
  · rw [h0] at hg
    refine call_b (hg) ?_
    intro wQ hQ
    have hc := (hc.quiet hQ).1
    intro g3 wg3 hg3
    have hc := (hc.loc hg3).1
    refine ⟨hc.may 0 rfl _ _ (nle rfl) rfl, ?_⟩
    intro wS hS
    have hc := (hc.set 0 rfl hS).1
    refine ⟨_, ?_, hc.cells 0 rfl, ?_⟩
    · rfl
    refine ⟨_, fun w => eql_run gd_deed (eqD_in 9998 · D0 D0) _ _ w, ?_⟩
    refine ⟨?_, hc.below⟩
    rw [eqD_iff.2 rfl]
    rfl
  · obtain ⟨d, hd⟩ : ∃ d, getD' t = (d, 0) := ⟨(getD' t).1, by rw [← h0]⟩
    obtain ⟨hm, hp⟩ := getD_get hd
    have hok := mayD_ok hm
    rw [hd] at hg
    refine call_b (hg) ?_
    intro wQ hQ
    have hc := (hc.quiet hQ).1
    intro g3 wg3 hg3
    have hc := (hc.loc hg3).1
    refine ⟨hc.may 0 rfl _ _ (nle rfl) rfl, ?_⟩
    intro wS hS
    have hc := (hc.set 0 rfl hS).1
    refine ⟨_, ?_, hc.cells 0 rfl, ?_⟩
    · rfl
    refine call_b (rmay_any d hok _) ?_
    intro wQ hQ
    have hc := (hc.quiet hQ).1
    refine split_t hm ?_
    refine ⟨_, ?_, hc.cells 0 rfl, ?_⟩
    · rfl
    refine ⟨(rvalue_any d _).mono fun en wq hq => ?_⟩
    obtain ⟨k, n, s, A, len, cap, e1, hq, hrep⟩ := hq
    have hc := (hc.quiet hq).1
    refine ⟨_, e1, ?_⟩
    refine call_b (rPut_any (vDeed d) (okV_vDeed d hok) (putV_deed_len d hok hm) k n s A len cap _ _ hrep) ?_
    intro wQ hQ
    have hc := (hc.quiet hQ).1
    refine ⟨?_, hc.below⟩
    rw [rputS_deed, hp, strEq_iff.2 rfl]
    rfl
theorem readStt_5 (t : List UInt8) : (readStt t).1.lows.length = 5 := by
  unfold readStt
  split
  · rfl
  · split
    · rfl
    · simp [sttV]
theorem reads_any (t : List UInt8) (ht : t.length ≤ 1073741824) (w : World) (hw : Env w) : Calls Tryz.prog 65 #[.string ⟨t.toArray⟩] w (RetB (.bool true) w) := by
  refine calls_vc lay_ok Tryz.func65 rfl (by kernel_rfl) (by kernel_rfl) ?_
  have hc := CtxF.start w no (fun _ h => h.elim) (R := fun _ _ => True) trivial Stab.true
  have h5 := readStt_5 t
  refine ⟨(bread_any t ht _ hw).mono fun en wq hq => ?_⟩
  obtain ⟨cs, e1, hq, hrep⟩ := hq
  have hc := (hc.call hq).1.know (X := fun S w => RepS S w (readStt t).1 cs) (hrep.map fun h => h.sub fun b h => h.elim (fun h => h.elim) .inr) (stab_S _ _)
  obtain ⟨A, cap, css, B, cap', l0, l1, l2, l3, l4, rfl, el, _⟩ := hc.row.2.shape
  rcases readStt_get t with ⟨h0, hm, hp⟩ | h0
  · rw [h0] at e1
    refine ⟨_, e1, ?_⟩
    intro g3 wg3 hg3
    have hc := (hc.loc hg3).1
    refine ⟨hc.may 0 rfl _ _ (nle rfl) rfl, ?_⟩
    intro wS hS
    have hc := (hc.set 0 rfl hS).1
    refine ⟨_, ?_, hc.cells 0 rfl, ?_⟩
    · rfl
    refine call_b (rmayS_any (readStt t).1 (mayS_ok h5 hm) _ _ _ hc.row.2) ?_
    intro wQ hQ
    have hc := (hc.quiet hQ).1
    refine split_t hm ?_
    refine ⟨_, ?_, hc.cells 0 rfl, ?_⟩
    · rfl
    refine call_b (bput_any (readStt t).1 (fun e he => ((mayS_ok h5 hm).l e he).key) _ _ _ hc.row.2 (hw.tab.below hc.below)) ?_
    intro wQ hQ
    have hc := (hc.quiet hQ).1
    refine ⟨?_, hc.below⟩
    rw [hp, strEq_iff.2 rfl]
    rfl
  · rw [show (readStt t).2 = 1 by rw [h0]] at e1
    refine ⟨_, e1, ?_⟩
    intro g3 wg3 hg3
    have hc := (hc.loc hg3).1
    refine ⟨hc.may 0 rfl _ _ (nle rfl) rfl, ?_⟩
    intro wS hS
    have hc := (hc.set 0 rfl hS).1
    refine ⟨_, ?_, hc.cells 0 rfl, ?_⟩
    · rfl
    refine call_b (reqS_any (readStt t).1 Stt0 _ stt0C _ _ hc.row.2 (rep0 _ _)) ?_
    intro wQ hQ
    have hc := (hc.quiet hQ).1
    refine ⟨?_, hc.below⟩
    rw [show (readStt t).1 = Stt0 by rw [h0], eqS_iff.2 rfl]
    rfl
theorem samek_any (a b : Stt) (ca cb : List Value) (S : Nat → Prop) (w : World) (ha : RepS S w a ca) (hb : RepS S w b cb) : Calls Tryz.prog 70 #[.agg ca.toArray, .agg cb.toArray] w (RetB (.bool (eqAll eqE a.l b.l)) w) := by
  obtain ⟨A, cap, css, B, cap', l0, l1, l2, l3, l4, rfl, el, hE, hR, hM⟩ := ha.shape
  obtain ⟨A', cap2, css', B', cap3, k0, k1, k2, k3, k4, rfl, ek, hE', hR', hM'⟩ := hb.shape
  refine calls_vc lay_ok Tryz.func70 rfl (by kernel_rfl) (by kernel_rfl) ?_
  have hc := CtxF.start w no (fun _ h => h.elim) (R := fun _ _ => True) trivial Stab.true
  intro g2 wg2 hg2
  have hc := (hc.loc hg2).1
  intro g3 wg3 hg3
  have hc := (hc.loc hg3).1
  refine ⟨_, hc.cell 1 rfl _ rfl, ?_⟩
  refine ⟨_, hc.cell 0 rfl _ rfl, ?_⟩
  by_cases hl : a.l.length = b.l.length
  rotate_left
  · refine split_t (by show ((a.l.length : Int) != (b.l.length : Int)) = true; rw [bne_iff_ne]; omega) ?_
    rw [eqAll_len _ _ _ hl]
    exact ⟨rfl, hc.below⟩
  refine split_f (by show ((a.l.length : Int) != (b.l.length : Int)) = false; rw [hl]; simp) ?_
  have hMx := row_max hR
  refine ⟨Nat, fun i => [(2, .pointer (some ⟨g2, 0, none⟩)), (3, .pointer (some ⟨g3, 0, none⟩)), (5, .int .i64 i)],
    fun i w' => i ≤ a.l.length ∧ eqAll eqE (a.l.drop i) (b.l.drop i) = eqAll eqE a.l b.l ∧ CtxF no w no w' [(g3, 78, stC b A' cap2 B' cap3 k0 k1 k2 k3 k4), (g2, 78, stC a A cap B cap' l0 l1 l2 l3 l4)] [] (fun _ _ => True), fun i _ => a.l.length - i, 0,
    ⟨rfl, rfl, rfl, trivial⟩, ⟨Nat.zero_le _, rfl, hc⟩, ?_⟩
  clear hc
  rintro i w4 u ⟨hi, he, hc⟩
  refine ⟨_, hc.cell 1 rfl _ rfl, ?_⟩
  by_cases hlt : i < a.l.length
  · refine split_t (decide_eq_true (by omega)) ?_
    obtain ⟨ad, A1, cap1, rfl, hcell, hRe⟩ := RowE.elem hR hE i hlt
    obtain ⟨bd, A2, cap4, rfl, hcell', hRe'⟩ := RowE.elem hR' hE' i (by omega)
    have hcell := cellsAt_later hc.below _ _ hcell
    have hcell' := cellsAt_later hc.below _ _ hcell'
    rw [List.drop_eq_getElem_cons hlt, List.drop_eq_getElem_cons (show i < b.l.length by omega), eqAll] at he
    generalize a.l[i] = x at *
    generalize b.l[i]'(by omega) = y at *
    refine drawn lay_ok (by kernel_rfl) (.q 0 (.q 1 (.q 2 (.q 3 (.q 4 (.q 5 (.q 6 (.q 7 (.q 8 (.q 9 (.n 10 (.q 11 .fin) .stop))))))))))) (Keeps (fun b => b < w4.heap.size) w4) (by kernel_rfl) (Keeps.start _ _) ?_
    refine ⟨_, fun z hz => hz.look (hc.cell 1 rfl _ rfl), ?_⟩
    refine ⟨⟨by omega, by omega⟩, ?_⟩
    refine ⟨[.string x.key, .slice A1 x.vs.length cap1], rfl, fun z hz => hz.looks _ _ hcell, ?_⟩
    refine ⟨_, fun z hz => hz.look (hc.cell 0 rfl _ rfl), ?_⟩
    refine ⟨⟨by omega, by omega⟩, ?_⟩
    refine ⟨[.string y.key, .slice A2 y.vs.length cap4], rfl, fun z hz => hz.looks _ _ hcell', ?_⟩
    have hc := hc.drew
    refine ⟨?_, trivial⟩
    refine call_b (reqE_any x y A1 A2 cap1 cap4 S _ (hRe.below hc.below) (hRe'.below hc.below)) ?_
    intro wq hq
    have hc := (hc.quiet hq).1
    refine ⟨(Keeps.start _ _).below (fun _ h => h) hq, ?_⟩
    rcases Bool.eq_false_or_eq_true (eqE x y) with hv | hv
    · refine split_f (by show (!eqE x y) = false; rw [hv]; rfl) ?_
      rw [hv, Bool.true_and] at he
      exact ⟨i + 1, ⟨rfl, rfl, congrArg _ (i_down (by omega)), trivial⟩, ⟨hlt, he, hc⟩, by show a.l.length - (i + 1) < a.l.length - i; omega⟩
    · refine split_t (by show (!eqE x y) = true; rw [hv]; rfl) ?_
      rw [hv, Bool.false_and] at he
      rw [← he]
      exact ⟨rfl, hc.below⟩
  · refine split_f (decide_eq_false (by omega)) ?_
    rw [List.drop_of_length_le (by omega), List.drop_of_length_le (by omega), eqAll] at he
    rw [← he]
    exact ⟨rfl, hc.below⟩
theorem info_ref : (Tryz.prog.info? 45).map (fun i => (i.zero, i.size, i.bytes)) = some (some (.agg #[.int .i64 0, .int .i64 0, .string ⟨#[]⟩, .slice none 0 0]), 4, 56) := by kernel_rfl
def RetOf (v : V) (w : World) (en : Ending) (w' : World) : Prop := ∃ A' cap', en = .returned (.agg (cellsV v A' cap').toArray) ∧ Below w.heap.size w w' ∧ RepC (ext no w w') w' v (cellsV v A' cap')
set_option maxHeartbeats 2000000 in
theorem of_step (v : V) (hn : (vL v).length ≤ 1000000) (kids : ∀ x ∈ vL v, ∀ (A : Option Addr) (cap : Nat) (S0 : Nat → Prop) (w : World), RepC S0 w x (cellsV x A cap) → Calls Tryz.prog 43 #[.agg (cellsV x A cap).toArray] w (RetOf x w))
    (A : Option Addr) (cap : Nat) (S0 : Nat → Prop) (w : World) (hr : RepC S0 w v (cellsV v A cap)) : Calls Tryz.prog 43 #[.agg (cellsV v A cap).toArray] w (RetOf v w) := by
  obtain ⟨ys, hL, hR⟩ := hr.rows
  refine calls_vc lay_ok Tryz.func43 rfl (by kernel_rfl) (by kernel_rfl) ?_
  have hc := CtxF.start w no (fun _ h => h.elim) (R := fun S w => RepL S w [] []) (.nil _ _) (stab_L _ _)
  intro g1 wg1 hg1
  have hc := (hc.loc hg1).1
  intro g2 wg2 hg2
  have hc := (hc.loc hg2).1
  refine ⟨_, hc.cell 1 rfl _ rfl, ?_⟩
  refine ⟨_, hc.cell 1 rfl _ rfl, ?_⟩
  refine ⟨_, hc.cell 1 rfl _ rfl, ?_⟩
  intro g3 wg3 hg3
  have hc := (hc.loc hg3).1
  refine ⟨hc.may 0 rfl _ _ (nle rfl) rfl, ?_⟩
  intro wS hS
  have hc := (hc.set 0 rfl hS).1
  have hc := hc.nil 45 4
  refine ⟨Nat, fun i => [(1, .pointer (some ⟨g1, 0, none⟩)), (2, .pointer (some ⟨g2, 0, none⟩)), (3, .pointer (some ⟨g3, 0, none⟩)), (4, .int .i64 i)],
    fun i w' => i ≤ (vL v).length ∧ ∃ S A' cap' xs, CtxF no w S w' [(g3, 45, [.int .i64 (vK v), .int .i64 (vN v), .string (vS v), .slice A' i cap']), (g2, 45, (lay.ty 45).zero), (g1, 35, cellsV v A cap)] [⟨45, 4, A', i, cap', xs⟩] (fun S w => RepL S w ((vL v).take i) xs),
    fun i _ => (vL v).length - i, 0, ⟨rfl, rfl, rfl, rfl, trivial⟩, ⟨Nat.zero_le _, no, none, 0, [], hc⟩, ?_⟩
  clear hc
  rintro i w4 u ⟨hi, S, A', cap', xs, hc⟩
  refine ⟨_, hc.cell 2 rfl _ rfl, ?_⟩
  by_cases hlt : i < (vL v).length
  · refine split_t (decide_eq_true (by omega)) ?_
    obtain ⟨ad, cs, hA, hrep, hl4, hcell0⟩ := Rep.elem hL hR i hlt
    obtain ⟨A1, cap1, rfl⟩ := hrep.cells
    have hmem : (vL v)[i] ∈ vL v := List.getElem_mem hlt
    have et : (vL v).take (i + 1) = (vL v).take i ++ [(vL v)[i]] := by rw [List.take_add_one, List.getElem?_eq_getElem hlt]; rfl
    have hk := kids _ hmem
    generalize (vL v)[i] = x at *
    subst hA
    have hcell1 := cellsAt_later hc.below _ _ hcell0
    rw [← Int.toNat_natCast i] at hcell0 hcell1
    generalize hae : ad.add ((i : Int).toNat * 4) = ae at hcell0 hcell1
    refine drawn lay_ok (by kernel_rfl) (.q 0 (.q 1 (.q 2 (.q 3 (.q 4 (.q 5 (.q 6 (.n 7 (.n 8 (.n 9 (.q 10 (.z 11)) .stop) .stop) .stop)))))))) (fun z => Blk z g3 45 [.int .i64 (vK v), .int .i64 (vN v), .string (vS v), .slice A' i cap'] ∧ Blk z g1 35 (cellsV v (some ad) cap) ∧ Go.Vc.cellsAt z ae (cellsV x A1 cap1) 0) (by kernel_rfl) ⟨hc.blk 0 rfl, hc.blk 2 rfl, hcell1⟩ ?_
    have hc := hc.drew
    refine ⟨_, fun z hz => hz.1.cell 3, ?_⟩
    refine ⟨_, fun z hz => hz.2.1.cell 3, ?_⟩
    refine ⟨⟨by omega, by omega⟩, ?_⟩
    refine ⟨cellsV x A1 cap1, rfl, fun z hz => by rw [hae]; exact hz.2.2, ?_⟩
    refine ⟨?_, trivial⟩
    refine ⟨(hk A1 cap1 S0 _ (hrep.below hc.below)).mono fun en wq hq => ?_⟩
    obtain ⟨A2, cap2, e1, hq, hrx⟩ := hq
    have hc := (hc.call hq).1.know (hrx.sub fun b h => h.elim (fun h => h.elim) .inr) (stab_C _ _)
    refine ⟨_, e1, ⟨hc.blk 0 rfl, hc.blk 2 rfl, cellsAt_later hc.below _ _ hcell0⟩, ?_⟩
    refine ⟨?_, trivial⟩
    intro gb wgb hgb
    have hc := (hc.loc hgb).1
    refine ⟨⟨hc.blk 1 rfl, hc.blk 3 rfl, cellsAt_later hc.below _ _ hcell0⟩, ?_⟩
    refine ⟨?_, trivial⟩
    refine app_ownF Tryz.underlying43 info_ref rfl (by decide) hc (ys := cellsV x A2 cap2) (m := 1) rfl (hc.cells 0 rfl) rfl (by omega) (by decide) rfl rfl ?_
    intro A3 cap3 w11 hc
    refine ⟨⟨hc.blk 1 rfl, hc.blk 3 rfl, cellsAt_later hc.below _ _ hcell0⟩, ?_⟩
    refine ⟨hc.may 1 rfl _ _ (nle rfl) rfl, ?_⟩
    intro wS hS
    have hc := (hc.set 1 rfl hS).1
    have hf := hc.drop.now (X := fun S w => RepL S w ((vL v).take i ++ [x]) (xs ++ cellsV x A2 cap2)) (fun h => RepL.snoc h.2 h.1) (stab_L _ _)
    rw [← et] at hf
    exact ⟨i + 1, ⟨rfl, rfl, rfl, congrArg _ (i_down (by omega)), trivial⟩, ⟨hlt, _, A3, cap3, _, hf⟩, by show (vL v).length - (i + 1) < (vL v).length - i; omega⟩
  · refine split_f (decide_eq_false (by omega)) ?_
    have hi : i = (vL v).length := by omega
    subst hi
    rw [List.take_length] at hc
    refine ⟨_, ?_, hc.cells 0 rfl, ?_⟩
    · rfl
    refine ⟨hc.may 1 rfl _ _ (nle rfl) rfl, ?_⟩
    intro wS hS
    have hc := (hc.set 1 rfl hS).1
    obtain ⟨S2, _, hc⟩ := hc.told
    refine ⟨_, ?_, hc.cells 1 rfl, ?_⟩
    · rfl
    refine ⟨A', cap', rfl, hc.below, ?_⟩
    have ho := hc.out
    obtain ⟨k, n, s, l⟩ := v
    unfold cellsV
    rw [RepC]
    exact ⟨A', cap', xs, rfl, ho.1, ho.2⟩
theorem of1_any (N : Nat) : ∀ (f : Nat) (v : V), Sm f N v → ∀ (A : Option Addr) (cap : Nat) (S0 : Nat → Prop) (w : World), RepC S0 w v (cellsV v A cap) → Calls Tryz.prog 43 #[.agg (cellsV v A cap).toArray] w (RetOf v w)
  | 0, v, h, A, cap, S0, w, hr => by
    rcases h with rfl | ⟨h, _⟩
    · exact of_step V0 (Nat.zero_le _) (fun x hx => by cases hx) A cap S0 w hr
    · rw [cnt] at h; omega
  | f + 1, v, h, A, cap, S0, w, hr => of_step v (Nat.le_trans h.mem.1 (by decide)) (fun x hx => of1_any N f x (h.mem.2 x hx)) A cap S0 w hr
theorem dec2 : Lib.decDigits 2 = [50] := by rw [Lib.decDigits, dif_pos (by decide)]; rfl
theorem dec5 : Lib.decDigits 5 = [53] := by rw [Lib.decDigits, dif_pos (by decide)]; rfl
theorem dec1 : Lib.decDigits 1 = [49] := by rw [Lib.decDigits, dif_pos (by decide)]; rfl
theorem dec10 : Lib.decDigits 10 = [49, 48] := by rw [Lib.decDigits, dif_neg (by decide), show 10 / 10 = 1 from rfl, dec1]; rfl
def vBeg : V := vRow [vNum (-5), vStr ⟨#[97, 98]⟩]
def tBeg : List UInt8 := [49, 48, 58, 50, 58, 45, 53, 35, 50, 58, 97, 98, 44, 93]
theorem putV_beg1 : putV (vNum (-5)) = [50, 58, 45, 53, 35] := by
  have e : txtV (vNum (-5)) = [45, 53] := by show Lib.itoa (-5) = _; rw [Lib.itoa, if_pos (by decide), show (-5 : Int).natAbs = 5 from rfl, dec5]
  rw [putV_eq, e, show ([45, 53] : List UInt8).length = 2 from rfl, dec2]
  rfl
theorem putV_beg2 : putV (vStr ⟨#[97, 98]⟩) = [50, 58, 97, 98, 44] := by
  have e : txtV (vStr ⟨#[97, 98]⟩) = [97, 98] := rfl
  rw [putV_eq, e, show ([97, 98] : List UInt8).length = 2 from rfl, dec2]
  rfl
theorem txt_beg : txtV vBeg = [50, 58, 45, 53, 35, 50, 58, 97, 98, 44] := by
  rw [vBeg, txt_row, putL, putL, putL, putV_beg1, putV_beg2]; rfl
theorem putV_beg : putV vBeg = tBeg := by
  rw [putV_eq, txt_beg, show ([50, 58, 45, 53, 35, 50, 58, 97, 98, 44] : List UInt8).length = 10 from rfl, dec10]
  rfl
theorem mayV_beg : mayV vBeg = true := by kernel_rfl
theorem okV_beg : okV vBeg := okV_row _ (by
  rw [okL, okL, okL]
  exact ⟨okV_num _ (by unfold i64ok; omega), okV_str _, trivial⟩)
theorem putS_beg : putS vBeg = tBeg := by
  rw [putS, mayV_beg, txt_beg, show ([50, 58, 45, 53, 35, 50, 58, 97, 98, 44] : List UInt8).length = 10 from rfl, dec10, putV_beg]
  rfl
theorem getV_beg : getV (tBeg ++ [122]) = (vBeg, 14, 0) := by
  have h := getP_put 6 vBeg (by
    have := mayV_beg
    unfold mayV at this
    simpa using this) okV_beg (by rw [txt_beg]; decide) [122]
  rw [putV_beg] at h
  unfold getV
  simp only [h, mayV_beg, Bool.true_eq_false, and_false, if_false]
  rfl
theorem getV_beg2 : getV [49, 48, 58, 50] = (V0, 0, 2) := by kernel_rfl
theorem getV_beg3 : getV [120] = (V0, 0, 1) := by kernel_rfl
theorem zText_beg : zText (7, 255) = [48, 48, 48, 55, 48, 48, 102, 102] := by kernel_rfl
theorem zRead_beg : zRead [48, 48, 48, 55, 48, 48, 102, 102] = ((7, 255), true) := by kernel_rfl
theorem is2 : Is 4611686018427387904 2 := by have := dbl_is 2 (by decide); rwa [show dbl 2 = 4611686018427387904 by kernel_rfl] at this
theorem is4 : Is 4616189618054758400 4 := by have := dbl_is 4 (by decide); rwa [show dbl 4 = 4616189618054758400 by kernel_rfl] at this
theorem gMul_beg (w : World) : Calls Tryz.prog 166 #[.complex .f64 4611686018427387904 4613937818241073152, .complex .f64 4616189618054758400 4617315517961601024] w (RetB (.complex .f64 4679236989180968960 4626885667169763328) w) := by
  have h := gMul_any is2 is3 is4 is5 (by decide) (by decide) (by decide) (by decide) w
  rwa [show dbl ((2 * 4 - 3 * 5) % 65521) = 4679236989180968960 by kernel_rfl, show dbl ((2 * 5 + 3 * 4) % 65521) = 4626885667169763328 by kernel_rfl] at h
theorem gText_beg (w : World) : Calls Tryz.prog 87 #[.complex .f64 4619567317775286272 4643176031446892544] w (RetB (.string ⟨#[48, 48, 48, 55, 48, 48, 102, 102]⟩) w) := by
  have h := gText_any (z := (7, 255)) ⟨by decide, by decide⟩ w
  rwa [zText_beg, show dbl (7, 255).1 = 4619567317775286272 by kernel_rfl, show dbl ((7, 255) : Int × Int).2 = 4643176031446892544 by kernel_rfl] at h
theorem gRead_beg (w : World) : Calls Tryz.prog 85 #[.string ⟨#[48, 48, 48, 55, 48, 48, 102, 102]⟩] w (RetB (.tuple #[.complex .f64 4619567317775286272 4643176031446892544, .bool true]) w) := by
  have h := gread_any ⟨#[48, 48, 48, 55, 48, 48, 102, 102]⟩ w
  rw [show (⟨#[48, 48, 48, 55, 48, 48, 102, 102]⟩ : ByteArray).data.toList = [48, 48, 48, 55, 48, 48, 102, 102] from rfl, zRead_beg] at h
  rwa [show dbl ((7 : Int), (255 : Int)).1 = 4619567317775286272 by kernel_rfl, show dbl ((7 : Int), (255 : Int)).2 = 4643176031446892544 by kernel_rfl] at h
theorem gMark_beg0 (w : World) : Calls Tryz.prog 88 #[.slice none 0 0] w (RetB (.complex .f64 0 4607182418800017408) w) := by
  have h := gMark_any (S := no) (A := none) (n := 0) (cap := 0) (l := []) rfl (by decide) w (row0 _ _)
  rwa [show dbl (zOn (0, 1) []).1 = 0 by kernel_rfl, show dbl (zOn (0, 1) []).2 = 4607182418800017408 by kernel_rfl] at h
theorem gMark_beg1 (S : Nat → Prop) (A : Option Addr) (w : World) (hR : Row S w A 1 1 (bv [0])) : Calls Tryz.prog 88 #[.slice A 1 1] w (RetB (.complex .f64 4679237401497829376 4613937818241073152) w) := by
  have h := gMark_any (S := S) (A := A) (n := 1) (cap := 1) (l := [0]) rfl (by decide) w hR
  rwa [show dbl (zOn (0, 1) [0]).1 = 4679237401497829376 by kernel_rfl, show dbl (zOn (0, 1) [0]).2 = 4613937818241073152 by kernel_rfl] at h
theorem Get_V (t : List UInt8) (w : World) (ht : t.length ≤ 1073741824) (hw : Env w) : Calls Tryz.prog 151 #[.string ⟨t.toArray⟩] w (fun en w' => ∃ A cap, en = .returned (.tuple #[.agg (cellsV (getV t).1 A cap).toArray, .int .i64 ((getV t).2.1 : Nat), .int .i64 (getV t).2.2]) ∧ Below w.heap.size w w' ∧ RepC (ext no w w') w' (getV t).1 (cellsV (getV t).1 A cap)) :=
  (Get_any t w ht hw).mono fun e w' h => by
    obtain ⟨cs, e1, hb, hr⟩ := h
    obtain ⟨A', cap', e2⟩ := hr.cells
    subst e2
    exact ⟨A', cap', e1, hb, hr⟩
theorem beg_cat : ((⟨tBeg.toArray⟩ : ByteArray) ++ ⟨#[122]⟩) = ⟨(tBeg ++ [122]).toArray⟩ := by kernel_rfl
theorem beg_cut : ((⟨tBeg.toArray⟩ : ByteArray).extract 0 4) = ⟨[49, 48, 58, 50].toArray⟩ := by kernel_rfl
set_option maxHeartbeats 2000000 in
theorem begun1_any (w : World) (hw : Env w) : Calls Tryz.prog 144 #[] w (RetB (.bool true) w) := by
  refine calls_vc lay_ok Tryz.func144 rfl (by kernel_rfl) (by kernel_rfl) ?_
  have hc := CtxF.start w no (fun _ h => h.elim) (R := fun _ _ => True) trivial Stab.true
  refine call_b (gMul_beg _) ?_
  intro wQ hQ
  have hc := (hc.quiet hQ).1
  intro g18 w18 h18
  have hc := hc.made h18 4 2 rfl (by decide)
  intro g2 wg2 hg2
  have hc := (hc.loc hg2).1
  refine ⟨hc.may 0 rfl _ _ (nle rfl) rfl, ?_⟩
  intro wS hS
  have hc := (hc.set 0 rfl hS).1
  obtain ⟨S1, _, hc⟩ := hc.told
  have hrep : ∀ (S : Nat → Prop) (w : World), (True ∧ Row S w (some ⟨g18, 0, none⟩) 2 2 [.int .i64 1, .int .i64 (-5), .string ⟨#[]⟩, .slice none 0 0, .int .i64 2, .int .i64 0, .string ⟨#[97, 98]⟩, .slice none 0 0]) → RepC S w vBeg [.int .i64 3, .int .i64 0, .string ⟨#[]⟩, .slice (some ⟨g18, 0, none⟩) 2 2] := fun S w h => by
    rw [vBeg, vRow, RepC]
    exact ⟨some ⟨g18, 0, none⟩, 2, _, rfl, .cons (.leaf _ _ 1 (-5) ⟨#[]⟩) (.cons (.leaf _ _ 2 0 ⟨#[97, 98]⟩) (.nil _ _)), h.2⟩
  have hc := hc.now (hrep _ _) (stab_C _ _)
  refine ⟨_, ?_, hc.cells 0 rfl, ?_⟩
  · rfl
  have hput := vput_any vBeg okV_beg (by rw [putV_beg]; decide) 3 0 ⟨#[]⟩ (some ⟨g18, 0, none⟩) 2 2 _ _ hc.row (hw.tab.below hc.below)
  rw [putS_beg] at hput
  refine call_b (hput) ?_
  intro wQ hQ
  have hc := (hc.quiet hQ).1
  refine ⟨by decide, ?_⟩
  have hg := Get_V (tBeg ++ [122]) _ (by decide) (hw.below hc.below)
  rw [← beg_cat, getV_beg] at hg
  refine ⟨hg.mono fun en wq hq => ?_⟩
  obtain ⟨A1, c1, e1, hq, hr1⟩ := hq
  have hc := (hc.call hq).1.know (hr1.sub fun b h => h.elim (fun h => h.elim) .inr) (stab_C _ _)
  refine ⟨_, e1, ?_⟩
  intro g4 wg4 hg4
  have hc := (hc.loc hg4).1
  refine ⟨hc.may 0 rfl _ _ (nle rfl) rfl, ?_⟩
  intro wS hS
  have hc := (hc.set 0 rfl hS).1
  refine ⟨⟨by decide, by decide, by decide⟩, ?_⟩
  have hg := Get_V [49, 48, 58, 50] _ (by decide) (hw.below hc.below)
  rw [← beg_cut, getV_beg2] at hg
  refine ⟨hg.mono fun en wq hq => ?_⟩
  obtain ⟨A2, c2, e1, hq, _⟩ := hq
  have hc := (hc.quiet hq).1
  refine ⟨_, e1, ?_⟩
  intro g7 wg7 hg7
  have hc := (hc.loc hg7).1
  refine ⟨hc.may 0 rfl _ _ (nle rfl) rfl, ?_⟩
  intro wS hS
  have hc := (hc.set 0 rfl hS).1
  have hg := Get_V [120] _ (by decide) (hw.below hc.below)
  rw [getV_beg3] at hg
  refine ⟨hg.mono fun en wq hq => ?_⟩
  obtain ⟨A3, c3, e1, hq, _⟩ := hq
  have hc := (hc.quiet hq).1
  refine ⟨_, e1, ?_⟩
  intro g10 wg10 hg10
  have hc := (hc.loc hg10).1
  refine ⟨hc.may 0 rfl _ _ (nle rfl) rfl, ?_⟩
  intro wS hS
  have hc := (hc.set 0 rfl hS).1
  refine call_b (gText_beg _) ?_
  intro wQ hQ
  have hc := (hc.quiet hQ).1
  refine call_b (gRead_beg _) ?_
  intro wQ hQ
  have hc := (hc.quiet hQ).1
  refine ⟨.bool true, fun w => by kernel_rfl, ?_⟩
  refine call_b (gMark_beg0 _) ?_
  intro wQ hQ
  have hc := (hc.quiet hQ).1
  refine ⟨.bool true, fun w => by kernel_rfl, ?_⟩
  intro g56 w56 h56
  have hb1 := (h56.row 1 (by decide))
  have hc := (hc.loc h56).1
  refine call_b (gMark_beg1 _ _ _ hb1) ?_
  intro wQ hQ
  have hc := (hc.quiet hQ).1
  refine ⟨.bool true, fun w => by kernel_rfl, ?_⟩
  refine call_b (gText_beg _) ?_
  intro wQ hQ
  have hc := (hc.quiet hQ).1
  refine ⟨.bool true, fun w => by kernel_rfl, ?_⟩
  refine ⟨_, ?_, hc.cells 3 rfl, ?_⟩
  · rfl
  refine ⟨_, ?_, hc.cells 4 rfl, ?_⟩
  · rfl
  have hE := veq_any _ vBeg (Nat.lt_succ_self _) vBeg _ _ _ _ hc.row.2 hc.row.1
  rw [eqV_refl] at hE
  refine call_b (hE) ?_
  intro wQ hQ
  have hc := (hc.quiet hQ).1
  exact ⟨rfl, hc.below⟩
def kB : ByteArray := ⟨#[107]⟩
def d1B : D := putDeed ⟨#[107]⟩ ⟨#[118]⟩ 1
def d2B : D := ⟨2, ⟨#[107]⟩, ⟨#[]⟩, 0, 0, ⟨#[]⟩, 4294967298, 0⟩
def sB : Stt := ⟨1, [⟨⟨#[107]⟩, [⟨1, false, ⟨#[118]⟩⟩]⟩], [⟨4294967297, ⟨0, 1⟩⟩], [0, 0, 0, 0, 0]⟩
def uB : Stt := ⟨2, [⟨⟨#[107]⟩, [⟨1, false, ⟨#[118]⟩⟩, ⟨2, true, ⟨#[]⟩⟩]⟩], [⟨4294967297, ⟨0, 1⟩⟩, ⟨4294967298, ⟨0, 2⟩⟩], [0, 0, 0, 0, 0]⟩
def aB : Stt := ⟨3, uB.l, uB.ms, uB.lows⟩
theorem do_b1 : doS Stt0 d1B = (sB, ⟨0, 1⟩) := by kernel_rfl
theorem do_b2 : doS sB d2B = (uB, ⟨0, 2⟩) := by kernel_rfl
theorem do_b3 : doS uB d1B = (aB, ⟨0, 1⟩) := by kernel_rfl
theorem may_b1 : mayD d1B = true := by kernel_rfl
theorem may_b2 : mayD d2B = true := by kernel_rfl
theorem may_b0 : mayD D0 = false := by kernel_rfl
theorem mayS_bs : mayS sB = true := by kernel_rfl
theorem mayS_bu : mayS uB = true := by kernel_rfl
theorem get_b1 : getS sB ⟨#[107]⟩ 0 = (⟨1, false, ⟨#[118]⟩⟩, 0) := by kernel_rfl
theorem get_b2 : getS uB ⟨#[107]⟩ 0 = (Ver0, 10) := by kernel_rfl
theorem page_b : pageS sB ⟨#[]⟩ ⟨#[]⟩ 5 true = (sB.l, false) := by kernel_rfl
theorem getD_b0 : getD' [] = (D0, 1) := by kernel_rfl
theorem key_b1 : keyB ⟨#[97, 47, 98, 46, 99, 45, 49, 95]⟩ = true := by kernel_rfl
theorem key_b2 : keyB ⟨#[65]⟩ = false := by kernel_rfl
theorem home_b : homeI 12884901889 = 3 := by kernel_rfl
theorem make_b : makeI 2 5 = 8589934597 := by kernel_rfl
theorem mayE_b : mayE ⟨⟨#[107]⟩, [⟨1, false, ⟨#[118]⟩⟩, ⟨2, true, ⟨#[]⟩⟩]⟩ = true := by kernel_rfl
theorem putD_len {d : D} (h : mayD d = true) : (putD d).length ≤ 1073741824 := by
  rw [putD_may d (mayD_ok h) h]
  exact putV_deed_len d (mayD_ok h) h
theorem putStt_len {s : Stt} (h5 : s.lows.length = 5) (h : mayS s = true) : (putStt s).length ≤ 1073741824 := by
  rw [putStt_may s h5 h]
  have h1 := txt_vStt s h5 h
  have h3 := putV_len (vStt s)
  have := dec_len7 (u := (txtV (vStt s)).length) (by omega)
  omega
theorem Begun1_any (w : World) (hw : Env w) : Calls Tryz.prog 83 #[] w (RetB (.bool true) w) := by
  refine calls_vc lay_ok Tryz.func83 rfl (by kernel_rfl) (by kernel_rfl) ?_
  have hc := CtxF.start w no (fun _ h => h.elim) (R := fun _ _ => True) trivial Stab.true
  refine call_b (begun1_any _ hw) ?_
  intro wQ hQ
  have hc := (hc.quiet hQ).1
  exact ⟨rfl, hc.below⟩
theorem res_eql (a b : Res) (ox oy : Operand) (w : World) : (do eqGuard BinOp.eql 89 ox oy (.agg #[.int .i64 a.err, .int .i64 a.ver]) (.agg #[.int .i64 b.err, .int .i64 b.ver]); Go.binOp BinOp.eql 89 (.agg #[.int .i64 a.err, .int .i64 a.ver]) (.agg #[.int .i64 b.err, .int .i64 b.ver]) : Sem Value).run Tryz.prog w = .ok (.bool (a.err == b.err && a.ver == b.ver)) w := eql_run gd_res (eqRes_in 9998 · a b) ox oy w
set_option maxHeartbeats 4000000 in
theorem begun5_any (w : World) (hw : Env w) : Calls Tryz.prog 23 #[] w (RetB (.bool true) w) := by
  refine calls_vc lay_ok Tryz.func23 rfl (by kernel_rfl) (by kernel_rfl) ?_
  have hc := CtxF.start w no (fun _ h => h.elim) (R := fun _ _ => True) trivial Stab.true
  have k1 := mayD_ok may_b1
  have k2 := mayD_ok may_b2
  refine call_b (put5_any ⟨#[107]⟩ ⟨#[118]⟩ 1 (by decide) (by decide) _) ?_
  intro wQ hQ
  have hc := (hc.quiet hQ).1
  intro g1 wg1 hg1
  have hc := (hc.loc hg1).1
  refine ⟨hc.may 0 rfl _ _ (nle rfl) rfl, ?_⟩
  intro wS hS
  have hc := (hc.set 0 rfl hS).1
  refine ⟨_, ?_, hc.cells 0 rfl, ?_⟩
  · rfl
  refine call_b (putD_any d1B k1 _ (hw.tab.below hc.below)) ?_
  intro wQ hQ
  have hc := (hc.quiet hQ).1
  have hg := getD_any (putD d1B) (putD_len may_b1) _ (hw.below hc.below)
  rw [getD_put d1B k1 may_b1] at hg
  refine call_b (hg) ?_
  intro wQ hQ
  have hc := (hc.quiet hQ).1
  intro g3 wg3 hg3
  have hc := (hc.loc hg3).1
  refine ⟨hc.may 0 rfl _ _ (nle rfl) rfl, ?_⟩
  intro wS hS
  have hc := (hc.set 0 rfl hS).1
  have hg := getD_any [] (by decide) _ (hw.below hc.below)
  rw [getD_b0] at hg
  refine call_b (hg) ?_
  intro wQ hQ
  have hc := (hc.quiet hQ).1
  intro g5 wg5 hg5
  have hc := (hc.loc hg5).1
  refine ⟨hc.may 0 rfl _ _ (nle rfl) rfl, ?_⟩
  intro wS hS
  have hc := (hc.set 0 rfl hS).1
  refine ⟨_, ?_, hc.cells 2 rfl, ?_⟩
  · rfl
  have hd := bdo_any Stt0 d1B (fun e he => by cases he) k1 stt0C _ _ hc.ctx.lt (rep0 _ _)
  rw [do_b1] at hd
  refine ⟨hd.mono fun en wq hq => ?_⟩
  obtain ⟨cs, e1, hq, hrep⟩ := hq
  have hc := (hc.call hq).1.know hrep (stab_S _ _)
  obtain ⟨A, cap, css, B, cap', l0, l1, l2, l3, l4, rfl, el, _⟩ := hrep.shape
  refine ⟨_, e1, ?_⟩
  intro g7 wg7 hg7
  have hc := (hc.loc hg7).1
  intro g8 wg8 hg8
  have hc := (hc.loc hg8).1
  refine ⟨hc.may 1 rfl _ _ (nle rfl) rfl, ?_⟩
  intro wS hS
  have hc := (hc.set 1 rfl hS).1
  refine ⟨hc.may 0 rfl _ _ (nle rfl) rfl, ?_⟩
  intro wS hS
  have hc := (hc.set 0 rfl hS).1
  refine ⟨_, ?_, hc.cells 1 rfl, ?_⟩
  · rfl
  have hd := bdo_any sB d2B (fun e he => ((mayS_ok rfl mayS_bs).l e he).key) k2 _ _ _ hc.ctx.lt hc.row.2
  rw [do_b2] at hd
  refine ⟨hd.mono fun en wq hq => ?_⟩
  obtain ⟨cs, e1, hq, hrep⟩ := hq
  have hc := (hc.call hq).1.know hrep (stab_S _ _)
  obtain ⟨A', cap2, css', B', cap3, m0, m1, m2, m3, m4, rfl, em, _⟩ := hrep.shape
  refine ⟨_, e1, ?_⟩
  intro g9 wg9 hg9
  have hc := (hc.loc hg9).1
  intro g10 wg10 hg10
  have hc := (hc.loc hg10).1
  refine ⟨hc.may 1 rfl _ _ (nle rfl) rfl, ?_⟩
  intro wS hS
  have hc := (hc.set 1 rfl hS).1
  refine ⟨hc.may 0 rfl _ _ (nle rfl) rfl, ?_⟩
  intro wS hS
  have hc := (hc.set 0 rfl hS).1
  refine ⟨_, ?_, hc.cells 3 rfl, ?_⟩
  · rfl
  have hg := bget_any sB ⟨#[107]⟩ 0 _ _ _ hc.row.1.2
  rw [get_b1] at hg
  refine call_b (hg) ?_
  intro wQ hQ
  have hc := (hc.quiet hQ).1
  intro g11 wg11 hg11
  have hc := (hc.loc hg11).1
  refine ⟨hc.may 0 rfl _ _ (nle rfl) rfl, ?_⟩
  intro wS hS
  have hc := (hc.set 0 rfl hS).1
  refine ⟨_, ?_, hc.cells 2 rfl, ?_⟩
  · rfl
  have hg := bget_any uB ⟨#[107]⟩ 0 _ _ _ hc.row.2
  rw [get_b2] at hg
  refine call_b (hg) ?_
  intro wQ hQ
  have hc := (hc.quiet hQ).1
  intro g13 wg13 hg13
  have hc := (hc.loc hg13).1
  refine ⟨hc.may 0 rfl _ _ (nle rfl) rfl, ?_⟩
  intro wS hS
  have hc := (hc.set 0 rfl hS).1
  refine ⟨_, ?_, hc.cells 5 rfl, ?_⟩
  · rfl
  have hn := bnames_any sB ⟨#[]⟩ ⟨#[]⟩ 5 (by decide) (by intro e he; cases he with | head => decide | tail _ h => cases h) _ _ _ hc.row.1.2
  rw [page_b] at hn
  refine ⟨hn.mono fun en wq hq => ?_⟩
  obtain ⟨An, cn, e1, hq, _⟩ := hq
  have hc := (hc.quiet hq).1
  refine ⟨_, e1, ?_⟩
  refine ⟨_, ?_, hc.cells 3 rfl, ?_⟩
  · rfl
  refine ⟨_, ?_, hc.cells 8 rfl, ?_⟩
  · rfl
  have hd := bdo_any uB d1B (fun e he => ((mayS_ok rfl mayS_bu).l e he).key) k1 _ _ _ hc.ctx.lt hc.row.2
  rw [do_b3] at hd
  refine ⟨hd.mono fun en wq hq => ?_⟩
  obtain ⟨cs, e1, hq, hrep⟩ := hq
  have hc := (hc.call hq).1
  obtain ⟨A3, cap4, css3, B3, cap5, n0, n1, n2, n3, n4, rfl, en, _⟩ := hrep.shape
  refine ⟨_, e1, ?_⟩
  intro g17 wg17 hg17
  have hc := (hc.loc hg17).1
  intro g18 wg18 hg18
  have hc := (hc.loc hg18).1
  refine ⟨hc.may 1 rfl _ _ (nle rfl) rfl, ?_⟩
  intro wS hS
  have hc := (hc.set 1 rfl hS).1
  refine ⟨hc.may 0 rfl _ _ (nle rfl) rfl, ?_⟩
  intro wS hS
  have hc := (hc.set 0 rfl hS).1
  refine ⟨_, ?_, hc.cells 5 rfl, ?_⟩
  · rfl
  refine call_b (bput_any uB (fun e he => ((mayS_ok rfl mayS_bu).l e he).key) _ _ _ hc.row.2 (hw.tab.below hc.below)) ?_
  intro wQ hQ
  have hc := (hc.quiet hQ).1
  have hr := bread_any (putStt uB) (putStt_len rfl mayS_bu) _ (hw.below hc.below)
  rw [readStt_put uB rfl mayS_bu] at hr
  refine ⟨hr.mono fun en wq hq => ?_⟩
  obtain ⟨cs, e1, hq, hrep⟩ := hq
  have hc := (hc.call hq).1.know (hrep.map fun h => h.sub fun b h => h.elim (fun h => h.elim) .inr) (stab_S _ _)
  obtain ⟨A5, cap6, css5, B5, cap7, p0, p1, p2, p3, p4, rfl, ep, _⟩ := hrep.shape
  refine ⟨_, e1, ?_⟩
  intro g19 wg19 hg19
  have hc := (hc.loc hg19).1
  refine ⟨hc.may 0 rfl _ _ (nle rfl) rfl, ?_⟩
  intro wS hS
  have hc := (hc.set 0 rfl hS).1
  refine call_b (Begun1_any _ (hw.below hc.below)) ?_
  intro wQ hQ
  have hc := (hc.quiet hQ).1
  have hg := key_any ⟨#[97, 47, 98, 46, 99, 45, 49, 95]⟩ (by decide) wQ
  rw [key_b1] at hg
  refine call_b (hg) ?_
  intro wQ hQ
  have hc := (hc.quiet hQ).1
  have hg := key_any ⟨#[65]⟩ (by decide) wQ
  rw [key_b2] at hg
  refine call_b (hg) ?_
  intro wQ hQ
  have hc := (hc.quiet hQ).1
  refine ⟨_, ?_, hc.cells 11 rfl, ?_⟩
  · rfl
  have hg := may_any d1B k1 wQ
  rw [may_b1] at hg
  refine call_b (hg) ?_
  intro wQ hQ
  have hc := (hc.quiet hQ).1
  have hg := may_any D0 (by constructor <;> (first | (unfold i64ok; decide) | (unfold strok; decide))) wQ
  rw [may_b0] at hg
  refine call_b (hg) ?_
  intro wQ hQ
  have hc := (hc.quiet hQ).1
  have hg := home_any 12884901889 wQ
  rw [home_b] at hg
  refine call_b (hg) ?_
  intro wQ hQ
  have hc := (hc.quiet hQ).1
  have hg := make_any 2 5 wQ
  rw [make_b] at hg
  refine call_b (hg) ?_
  intro wQ hQ
  have hc := (hc.quiet hQ).1
  refine ⟨_, ?_, hc.cells 10 rfl, ?_⟩
  · rfl
  refine ⟨_, ?_, hc.cells 11 rfl, ?_⟩
  · rfl
  refine ⟨.bool true, fun w => by have := eql_run gd_deed (eqD_in 9998 · d1B d1B) (.tmp 102) (.tmp 103) w; rw [eqD_iff.2 rfl] at this; exact this, ?_⟩
  refine ⟨_, ?_, hc.cells 7 rfl, ?_⟩
  · rfl
  refine ⟨.bool true, fun w => res_eql ⟨0, 1⟩ ⟨0, 1⟩ _ _ w, ?_⟩
  refine ⟨_, ?_, hc.cells 5 rfl, ?_⟩
  · rfl
  refine ⟨.bool true, fun w => res_eql ⟨0, 2⟩ ⟨0, 2⟩ _ _ w, ?_⟩
  refine ⟨_, hc.cell 4 rfl _ rfl, ?_⟩
  refine ⟨_, hc.cell 2 rfl _ rfl, ?_⟩
  refine ⟨_, ?_, hc.cells 1 rfl, ?_⟩
  · rfl
  refine ⟨_, ?_, hc.cells 7 rfl, ?_⟩
  · rfl
  refine ⟨.bool true, fun w => res_eql ⟨0, 1⟩ ⟨0, 1⟩ _ _ w, ?_⟩
  refine ⟨_, ?_, hc.cells 0 rfl, ?_⟩
  · rfl
  refine ⟨_, ?_, hc.cells 6 rfl, ?_⟩
  · rfl
  have hE := beqS_any uB uB _ _ _ _ hc.row.2 hc.row.1.2
  rw [eqS_iff.2 rfl] at hE
  refine call_b (hE) ?_
  intro wQ hQ
  have hc := (hc.quiet hQ).1
  obtain ⟨Ax, capx, cssx, Bx, capy, x0, x1, x2, x3, x4, ecs, _, hEx, hRx, hMx⟩ := hc.row.1.2.shape
  cases ecs
  obtain ⟨ad, A1, cap1, hA, hcell, hRe⟩ := RowE.elem hRx hEx 0 (by decide)
  refine ⟨_, hc.cell 6 rfl _ rfl, ?_⟩
  subst hA
  refine ⟨⟨by decide, by decide⟩, ?_⟩
  refine ⟨[.string ⟨#[107]⟩, .slice A1 2 cap1], rfl, hcell, ?_⟩
  have hT := tmay_any ⟨⟨#[107]⟩, [⟨1, false, ⟨#[118]⟩⟩, ⟨2, true, ⟨#[]⟩⟩]⟩ (by unfold strok; decide) A1 cap1 _ _ hRe
  rw [mayE_b] at hT
  refine call_b (hT) ?_
  intro wQ hQ
  have hc := (hc.quiet hQ).1
  refine ⟨_, hc.cell 6 rfl _ rfl, ?_⟩
  refine ⟨⟨by decide, by decide⟩, ?_⟩
  obtain ⟨Ax, capx, cssx, Bx, capy, x0, x1, x2, x3, x4, ecs, _, hEx, hRx, hMx⟩ := hc.row.1.2.shape
  cases ecs
  obtain ⟨ad2, A2, cap2, hA, hcell, hRe⟩ := RowE.elem hRx hEx 0 (by decide)
  cases hA
  generalize hae : ad.add (0 * 2) = ae at hcell
  have hae : ad.add ((0 : Int).toNat * 2) = ae := hae
  rw [hae]
  obtain ⟨ab, ao, asub⟩ := ae
  refine ⟨_, hcell.2.1, ?_⟩
  refine ⟨_, ?_, hc.cells 6 rfl, ?_⟩
  · rfl
  have hT := bmay_any uB (fun e he => ((mayS_ok rfl mayS_bu).l e he).key) _ _ _ hc.row.1.2
  rw [mayS_bu] at hT
  refine call_b (hT) ?_
  intro wQ hQ
  have hc := (hc.quiet hQ).1
  exact ⟨rfl, hc.below⟩
end Go.Proofs.YtbmoimihnndboaaGreatDoor
namespace Go.Proofs.YtbmoimihnndboaaGreatDoor
open Go.Vc Go.RowKit Go.Fl Go.ChangeShapes Go.WideShapes Go.ChangeAt
abbrev laid5 : List (String × DataW Unit) := [("math/bits.deBruijn32tab", Rows.laid_math_bits_deBruijn32tab), ("math/bits.deBruijn64tab", Rows.laid_math_bits_deBruijn64tab), ("internal/strconv.uint64pow10", Rows.laid_internal_strconv_uint64pow10), ("strconv.ErrRange", Rows.laid_strconv_ErrRange), ("strconv.ErrSyntax", Rows.laid_strconv_ErrSyntax)]
theorem ownK : ownKnob Tryz.prog.godebug = none := by kernel_rfl
theorem glob (n : String) : Tryz.prog.globalNamed n = Tryz.prog.globalNamed n := rfl
theorem gTab : ∃ g, Tryz.prog.globalNamed "internal/strconv.uint64pow10" = some g ∧ (Tryz.prog.globals[g]?).map (·.type) = some 248 := ⟨2, by kernel_rfl, by kernel_rfl⟩
theorem gES : ∃ g, Tryz.prog.globalNamed "strconv.ErrSyntax" = some g ∧ (Tryz.prog.globals[g]?).map (·.type) = some 212 := ⟨5, by kernel_rfl, by kernel_rfl⟩
theorem gER : ∃ g, Tryz.prog.globalNamed "strconv.ErrRange" = some g ∧ (Tryz.prog.globals[g]?).map (·.type) = some 212 := ⟨6, by kernel_rfl, by kernel_rfl⟩
theorem cTab : Tryz.prog.cellsOf 248 = 20 := by kernel_rfl
theorem cU64 : Tryz.prog.cellsOf 175 = 1 := by kernel_rfl
theorem cES : Tryz.prog.cellsOf 269 = 1 := by kernel_rfl
theorem cStr : Tryz.prog.cellsOf 9 = 1 := by kernel_rfl
theorem starE : "*" ++ "errors.errorString" = "*errors.errorString" := by decide
theorem rowES (u : TypeId) (h : Tryz.prog.typeName? 3 u = some "*errors.errorString") : u = 267 :=
  typeName_ptr_named (nm := "errors.errorString") (by rw [starE]; kernel_rfl) (by kernel_rfl) (by decide) u (by rw [starE]; exact h)
theorem env_laid {W : World} (h : laidMetH Tryz.prog laid5 W) : Env W := by
  rw [MakeChecks.laidMetH_plain _ _ _ (by kernel_rfl)] at h
  obtain ⟨g1, a1, a2⟩ := gTab
  obtain ⟨g2, b1, b2⟩ := gER
  obtain ⟨g3, c1, c2⟩ := gES
  have ht := Lib.tabIs_of_head (k := .u64) (zs := Lib.pow10Tab) a1 a2 Tryz.underlying248 Tryz.underlying175 cU64 cTab h.tail.tail
  obtain ⟨x0, s0, hv0, -, -, -⟩ := laid_sentinel h.tail.tail.tail b1 b2 Tryz.underlying212 rowES Tryz.underlying267 Tryz.underlying269 rfl rfl Tryz.underlying9 cES cStr
  obtain ⟨x1, s1, hv1, -, -, -⟩ := laid_sentinel h.tail.tail.tail.tail c1 c2 Tryz.underlying212 rowES Tryz.underlying267 Tryz.underlying269 rfl rfl Tryz.underlying9 cES cStr
  exact ⟨ht, ⟨_, _, hv1⟩, ⟨_, _, hv0⟩⟩
theorem laid_met (os : Os) (args : Array Value) : laidMetH Tryz.prog laid5 ((World.laidAll Tryz.prog os laid5).forCall (fun _ _ => 0) ⟨#[], args, []⟩).memory := by
  rw [MakeChecks.laidMetH_plain _ _ _ (by kernel_rfl)]
  exact laidMet_laidAll args (by kernel_rfl) (by kernel_rfl)
theorem and2 {a b : Bool} (h : a = true) (k : b = true) : (a && b) = true := by rw [h, k]; rfl
theorem lay5 : laidOutB Tryz.prog = true := by kernel_rfl
theorem all_stays {H : Type} {enc : TypeId × Value → H} {P : Program} (hP : laidOutB P = true) {W W' : World} {sp : Nat → Bool} (hb : Below W.heap.size W W') (ts : List TypeId) : ∀ {vs : List Value} {ds : List (DataW H)} {ps : List MemPlace},
    ts.all (fun t => P.readableRec t && decide (t < P.types.size)) = true → DataW.TrodAll enc P W 0 (fun _ => true) true ts vs ds ps → (∀ x ∈ ps, x.block < W.heap.size) → (∀ x ∈ ps, sp x.block = true) →
    DataW.TrodAll enc P W' 0 sp true ts vs ds ps := by
  induction ts with
  | nil =>
    intro _ _ _ _ h _ _
    obtain ⟨rfl, rfl, rfl⟩ := trodAll_nil h
    exact trodAll_mk0
  | cons t ts ih =>
    intro _ _ _ hr h hl hs
    obtain ⟨v, vs1, d, ds1, a, b, rfl, rfl, rfl, h1, h2⟩ := trodAll_cons h
    rw [List.all_cons, Bool.and_eq_true, Bool.and_eq_true, decide_eq_true_eq] at hr
    exact trodAll_cons_mk (WideElems.Trod_stays hP hr.1.1 hr.1.2 h1 (fun x hx => hb.same (hl x (List.mem_append_left _ hx))) (fun x hx => hs x (List.mem_append_left _ hx)))
      (ih hr.2 h2 (fun x hx => hl x (List.mem_append_right _ hx)) (fun x hx => hs x (List.mem_append_right _ hx)))
theorem post_true {H : Type} {enc : TypeId × Value → H} {f : Func} {s : ChangeSpec} {W W' : World} {args : Array Value} {ds gs : List (DataW H)} {before : List MemPlace} (hv : s.vars = []) (hr : f.resultTypes = #[4])
    (hrd : f.params.toList.all (fun t => Tryz.prog.readableRec t && decide (t < Tryz.prog.types.size)) = true) (hfn : gs = [] → s.fn H (ds ++ gs) = { results := [.lit (.bool true)], args := ds })
    (hW : DataW.Whole enc Tryz.prog f.params.toList s.vars false W args.toList ds gs before) (hb : Below W.heap.size W W') :
    s.post enc Tryz.prog f false true false false W args (.bool true) W' := by
  have hlt := fun x (hx : x ∈ before) => hW.lt x hx
  have hW' := hW
  obtain ⟨p, q, hA, hV, rfl, hfz, hnd⟩ := hW
  rw [hv] at hV
  obtain ⟨rfl, rfl⟩ := trodVars_none hV
  have hfn := hfn rfl
  refine ⟨ds, [], p ++ [], [], p, [], hW', ?_, ?_, ?_, hb.frame _, fun h => by cases h⟩
  · rw [hfn, hr]
    exact trodAll_mk1 (shut_bool Tryz.underlying4 true)
  · rw [hfn]
    exact all_stays lay5 hb _ hrd hA (fun x hx => hlt x (List.mem_append_left _ hx)) (fun x hx => by simpa using hlt x (List.mem_append_left _ hx))
  · rw [hfn, hv]
    rfl
end Go.Proofs.YtbmoimihnndboaaGreatDoor
section
namespace Go.Proofs.YtbmoimihnndboaaGreatDoor
open Go.Vc Go.RowKit Go.Fl Go.ChangeShapes Go.WideShapes Go.ChangeAt
section
variable {H : Type} {enc : TypeId × Value → H} {P : Program} {w : World} {base : Nat} {spare : Nat → Bool} {held : Bool} {fuel : Nat} {t : TypeId} {cs : List Value} {x : DataW H × List MemPlace}
theorem rd_i64 (ht : P.underlying t = some (.int .i64)) (h : DataW.trod enc P w base spare held fuel t cs = some x) : ∃ n, cs = [.int .i64 n] ∧ i64ok n := by
  obtain ⟨n, e, _, hw⟩ := DataW.trod_int ht h
  simp only [Lit.wf, Bool.and_eq_true, decide_eq_true_eq] at hw
  refine ⟨n, e, ?_⟩
  have h1 := hw.1
  have h2 := hw.2
  rw [show IntKind.i64.min = -9223372036854775808 by decide] at h1
  rw [show IntKind.i64.max = 9223372036854775807 by decide] at h2
  exact ⟨h1, h2⟩
theorem rd_str (ht : P.underlying t = some .string) (h : DataW.trod enc P w base spare held fuel t cs = some x) : ∃ s, cs = [.string s] ∧ s.size ≤ maxLen := by
  obtain ⟨s, e, _, hw⟩ := DataW.trod_string ht h
  exact ⟨s, e, hw⟩
theorem rd_bool (ht : P.underlying t = some .bool) (h : DataW.trod enc P w base spare held fuel t cs = some x) : ∃ b, cs = [.bool b] := by
  obtain ⟨b, e, _⟩ := DataW.trod_bool ht h
  exact ⟨b, e⟩
theorem rd_struct {fs : Array Field} (ht : P.underlying t = some (.struct fs)) (h : DataW.trod enc P w base spare held fuel t cs = some x) :
    cs.length = P.cellsOf t ∧ ∀ (i : Nat) (f : Field), fs[i]? = some f → ∃ n y, DataW.trod enc P w base spare held n f.type ((cs.drop f.offset).take (P.cellsOf f.type)) = some y := by
  obtain ⟨xs, n, _, _, hl, hlen, hf⟩ := DataW.trod_struct ht h
  refine ⟨hl, fun i f hi => ⟨n, ?_⟩⟩
  have hi' : i < xs.length := by
    rw [hlen]
    exact (Array.getElem?_eq_some_iff.1 hi).1
  exact ⟨xs[i], by rw [hf i f hi, List.getElem?_eq_getElem hi']⟩
theorem fld {fs : Array Field} (h2 : ∀ (i : Nat) (f : Field), fs[i]? = some f → ∃ n y, DataW.trod enc P w base spare held n f.type ((cs.drop f.offset).take (P.cellsOf f.type)) = some y)
    (i : Nat) (f : Field) (hi : fs[i]? = some f) (T : TypeId) (hT : f.type = T) (k : Nat) (hk : P.cellsOf T = k) (o : Nat) (ho : f.offset = o) : ∃ n y, DataW.trod enc P w base spare held n T ((cs.drop o).take k) = some y := by
  subst hT; subst hk; subst ho
  exact h2 i f hi
theorem cell_in {a : Addr} {u : Value} (h : w.cell? a = some u) : a.block < w.heap.size := by
  rcases Nat.lt_or_ge a.block w.heap.size with h1 | h1
  · exact h1
  · have h2 : w.heap[a.block]? = none := by simp; omega
    simp [World.cell?, h2] at h
theorem rd_slice {e : TypeId} (hk : 0 < P.cellsOf e) (ht : P.underlying t = some (.slice e)) (h : DataW.trod enc P w base spare held fuel t cs = some x) :
    ∃ A len cap, cs = [.slice A len cap] ∧ len ≤ cap ∧ cap ≤ maxLen ∧ ∀ i, i < len → ∃ a c n y, A = some a ∧ c.length = P.cellsOf e ∧ a.block < w.heap.size ∧ (∀ j, j < P.cellsOf e → w.cell? (a.add (i * P.cellsOf e + j)) = c[j]?) ∧ DataW.trod enc P w base spare held n e c = some y := by
  rcases DataW.trod_slice ht h with ⟨rfl, _⟩ | ⟨a, len, cap, elems, rest, n, _, rfl, _, hb, hlc, hcm, hel, hi, _⟩
  · exact ⟨none, 0, 0, rfl, Nat.le_refl _, Nat.zero_le _, fun i hi => absurd hi (by omega)⟩
  · refine ⟨some a, len, cap, rfl, hlc, hcm, fun i hil => ?_⟩
    have h1 := hi i hil
    rw [List.getElem?_eq_getElem (by omega)] at h1
    obtain ⟨c, hc, hr⟩ := Option.bind_eq_some_iff.1 h1
    obtain ⟨_, hcl, hcc⟩ := World.cells?_some hc
    refine ⟨a, c, n, _, rfl, hcl, ?_, fun j hj => ?_, hr⟩
    · have h0 := hcc 0 hk
      rw [List.getElem?_eq_getElem (by omega)] at h0
      have := cell_in h0
      rwa [add_block, add_block] at this
    · rw [← add_add]
      exact hcc j hj
theorem flat_at {k : Nat} : ∀ (css : List (List Value)), (∀ c ∈ css, c.length = k) → ∀ (m : Nat) (u : Value), css.flatten[m]? = some u → ∃ i j c, css[i]? = some c ∧ j < k ∧ m = i * k + j ∧ c[j]? = some u
  | [], _, m, u, h => by simp at h
  | c :: r, hl, m, u, h => by
    have hc := hl c (by simp)
    rw [List.flatten_cons] at h
    rcases Nat.lt_or_ge m k with hm | hm
    · rw [List.getElem?_append_left (by omega)] at h
      exact ⟨0, m, c, rfl, hm, by omega, h⟩
    · rw [List.getElem?_append_right (by omega), hc] at h
      obtain ⟨i, j, c', h1, h2, h3, h4⟩ := flat_at r (fun x hx => hl x (by simp [hx])) (m - k) u h
      exact ⟨i + 1, j, c', by simpa using h1, h2, by rw [Nat.succ_mul]; omega, h4⟩
theorem rd_rowR {α : Type} {e : TypeId} (R : α → List Value → Prop) (hk : 0 < P.cellsOf e) (hread : ∀ n c y, DataW.trod enc P w base spare held n e c = some y → ∃ a, R a c)
    (ht : P.underlying t = some (.slice e)) (h : DataW.trod enc P w base spare held fuel t cs = some x) :
    ∃ A cap, ∃ (l : List α) (css : List (List Value)), cs = [.slice A l.length cap] ∧ css.length = l.length ∧ (∀ (i : Nat) (a : α) (c : List Value), l[i]? = some a → css[i]? = some c → R a c) ∧ (∀ c ∈ css, c.length = P.cellsOf e) ∧ Row (fun b => b < w.heap.size) w A l.length cap css.flatten := by
  obtain ⟨A, len, cap, rfl, hlc, hcm, hel⟩ := rd_slice hk ht h
  have hex : ∀ i : Fin len, ∃ q : Addr × List Value × α, A = some q.1 ∧ q.2.1.length = P.cellsOf e ∧ q.1.block < w.heap.size ∧ (∀ j, j < P.cellsOf e → w.cell? (q.1.add (i.val * P.cellsOf e + j)) = q.2.1[j]?) ∧ R q.2.2 q.2.1 := by
    intro i
    obtain ⟨a, c, n, y, h1, h2, h3, h4, h5⟩ := hel i.val i.isLt
    obtain ⟨b, hb⟩ := hread n c y h5
    exact ⟨(a, c, b), h1, h2, h3, h4, hb⟩
  obtain ⟨f, hf⟩ := Classical.axiomOfChoice hex
  refine ⟨A, cap, List.ofFn fun i => (f i).2.2, List.ofFn fun i => (f i).2.1, by simp, by simp, ?_, ?_, ?_⟩
  · intro i a c h1 h2
    rw [List.getElem?_ofFn] at h1 h2
    split at h1
    · rename_i hi
      rw [dif_pos hi] at h2
      cases h1; cases h2
      exact (hf ⟨i, hi⟩).2.2.2.2
    · cases h1
  · intro c hc
    obtain ⟨i, rfl⟩ := List.mem_ofFn.1 hc
    exact (hf i).2.1
  · rw [List.length_ofFn]
    refine ⟨hlc, hcm, fun hne => ?_⟩
    have hpos : 0 < len := by
      rcases Nat.eq_zero_or_pos len with h0 | h0
      · subst h0
        exact absurd (by simp) hne
      · exact h0
    obtain ⟨hA, _, hS, _, _⟩ := hf ⟨0, hpos⟩
    refine ⟨(f ⟨0, hpos⟩).1, hA, hS, fun m u hu => ?_⟩
    obtain ⟨i, j, c, h1, h2, rfl, h4⟩ := flat_at _ (fun c hc => by
      obtain ⟨i, rfl⟩ := List.mem_ofFn.1 hc
      exact (hf i).2.1) m u hu
    rw [List.getElem?_ofFn] at h1
    split at h1
    · rename_i hi
      cases h1
      rw [Option.some.inj (hA.symm.trans (hf ⟨i, hi⟩).1)]
      rw [(hf ⟨i, hi⟩).2.2.2.1 j h2]
      exact h4
    · cases h1
end
theorem shape8 {c : List Value} (h : c.length = 8) : ∃ a0 a1 a2 a3 a4 a5 a6 a7, c = [a0, a1, a2, a3, a4, a5, a6, a7] := by
  match c, h with
  | [a0, a1, a2, a3, a4, a5, a6, a7], _ => exact ⟨a0, a1, a2, a3, a4, a5, a6, a7, rfl⟩
theorem cIntA : Tryz.prog.cellsOf 3 = 1 := by kernel_rfl
theorem cI64A : Tryz.prog.cellsOf 2 = 1 := by kernel_rfl
theorem cStrA : Tryz.prog.cellsOf 9 = 1 := by kernel_rfl
theorem cDeedA : Tryz.prog.cellsOf 23 = 8 := by kernel_rfl
section
variable {H : Type} {enc : TypeId × Value → H} {w : World} {base : Nat} {spare : Nat → Bool} {held : Bool} {fuel : Nat} {cs : List Value} {x : DataW H × List MemPlace}
set_option maxRecDepth 100000 in
theorem rd_deed (h : DataW.trod enc Tryz.prog w base spare held fuel 23 cs = some x) : ∃ d : D, cs = dC d ∧ d.Ok := by
  obtain ⟨hl, hf⟩ := rd_struct Tryz.underlying23 h
  rw [cDeedA] at hl
  obtain ⟨c0, c1, c2, c3, c4, c5, c6, c7, rfl⟩ := shape8 hl
  obtain ⟨_, _, h0⟩ := fld hf 0 _ rfl 3 rfl 1 cIntA 0 rfl
  obtain ⟨_, _, h1⟩ := fld hf 1 _ rfl 9 rfl 1 cStrA 1 rfl
  obtain ⟨_, _, h2⟩ := fld hf 2 _ rfl 9 rfl 1 cStrA 2 rfl
  obtain ⟨_, _, h3⟩ := fld hf 3 _ rfl 2 rfl 1 cI64A 3 rfl
  obtain ⟨_, _, h4⟩ := fld hf 4 _ rfl 3 rfl 1 cIntA 4 rfl
  obtain ⟨_, _, h5⟩ := fld hf 5 _ rfl 9 rfl 1 cStrA 5 rfl
  obtain ⟨_, _, h6⟩ := fld hf 6 _ rfl 2 rfl 1 cI64A 6 rfl
  obtain ⟨_, _, h7⟩ := fld hf 7 _ rfl 2 rfl 1 cI64A 7 rfl
  obtain ⟨n0, e0, k0⟩ := rd_i64 Tryz.underlying3 h0
  obtain ⟨n1, e1, k1⟩ := rd_str Tryz.underlying9 h1
  obtain ⟨n2, e2, k2⟩ := rd_str Tryz.underlying9 h2
  obtain ⟨n3, e3, k3⟩ := rd_i64 Tryz.underlying2 h3
  obtain ⟨n4, e4, k4⟩ := rd_i64 Tryz.underlying3 h4
  obtain ⟨n5, e5, k5⟩ := rd_str Tryz.underlying9 h5
  obtain ⟨n6, e6, k6⟩ := rd_i64 Tryz.underlying2 h6
  obtain ⟨n7, e7, k7⟩ := rd_i64 Tryz.underlying2 h7
  cases e0; cases e1; cases e2; cases e3; cases e4; cases e5; cases e6; cases e7
  have hm : ∀ {n : Nat}, n ≤ maxLen → n ≤ 9223372036854775807 := fun h => Nat.le_trans h (by decide)
  exact ⟨⟨n0, n1, n2, n3, n4, n5, n6, n7⟩, rfl, ⟨k0, hm k1, hm k2, k3, k4, hm k5, k6, k7⟩⟩
end
section
variable {H : Type} {enc : TypeId × Value → H} {P : Program} {w : World} {base : Nat} {spare : Nat → Bool} {held : Bool} {fuel : Nat} {t : TypeId} {cs : List Value} {x : DataW H × List MemPlace}
theorem rd_flat {α : Type} {e : TypeId} (f : α → List Value) (Ok : α → Prop) (hk : 0 < P.cellsOf e) (hread : ∀ n c y, DataW.trod enc P w base spare held n e c = some y → ∃ a, c = f a ∧ Ok a)
    (ht : P.underlying t = some (.slice e)) (h : DataW.trod enc P w base spare held fuel t cs = some x) :
    ∃ A cap, ∃ l : List α, cs = [.slice A l.length cap] ∧ Row (fun b => b < w.heap.size) w A l.length cap (l.map f).flatten ∧ ∀ a ∈ l, Ok a := by
  obtain ⟨A, cap, l, css, rfl, hl, hR, _, hrow⟩ := rd_rowR (fun a c => c = f a ∧ Ok a) hk hread ht h
  refine ⟨A, cap, l, rfl, ?_, fun a ha => ?_⟩
  · have : css = l.map f := by
      refine List.ext_getElem (by simpa using hl) fun i h1 h2 => ?_
      rw [List.getElem_map]
      exact (hR i _ _ (List.getElem?_eq_getElem (by omega)) (List.getElem?_eq_getElem h1)).1
    rwa [this] at hrow
  · obtain ⟨i, hi, rfl⟩ := List.getElem_of_mem ha
    exact (hR i _ _ (List.getElem?_eq_getElem hi) (List.getElem?_eq_getElem (by omega))).2
end
theorem cBoolA : Tryz.prog.cellsOf 4 = 1 := by kernel_rfl
theorem cVerA : Tryz.prog.cellsOf 60 = 3 := by kernel_rfl
theorem cVersA : Tryz.prog.cellsOf 56 = 1 := by kernel_rfl
theorem cEntA : Tryz.prog.cellsOf 58 = 2 := by kernel_rfl
theorem cEntsA : Tryz.prog.cellsOf 74 = 1 := by kernel_rfl
theorem cMemA : Tryz.prog.cellsOf 147 = 3 := by kernel_rfl
theorem cMemsA : Tryz.prog.cellsOf 75 = 1 := by kernel_rfl
theorem cResA : Tryz.prog.cellsOf 89 = 2 := by kernel_rfl
theorem cErrA : Tryz.prog.cellsOf 37 = 1 := by kernel_rfl
theorem cLowsA : Tryz.prog.cellsOf 76 = 5 := by kernel_rfl
theorem cSttA : Tryz.prog.cellsOf 78 = 8 := by kernel_rfl
theorem shape5 {c : List Value} (h : c.length = 5) : ∃ a0 a1 a2 a3 a4, c = [a0, a1, a2, a3, a4] := by
  match c, h with
  | [a0, a1, a2, a3, a4], _ => exact ⟨a0, a1, a2, a3, a4, rfl⟩
theorem mx {n : Nat} (h : n ≤ maxLen) : n ≤ 9223372036854775807 := Nat.le_trans h (by decide)
section
variable {H : Type} {enc : TypeId × Value → H} {w : World} {base : Nat} {spare : Nat → Bool} {held : Bool} {fuel : Nat} {cs : List Value} {x : DataW H × List MemPlace}
set_option maxRecDepth 100000 in
theorem rd_ver (h : DataW.trod enc Tryz.prog w base spare held fuel 60 cs = some x) : ∃ d : Ver, cs = verC d ∧ d.Ok := by
  obtain ⟨hl, hf⟩ := rd_struct Tryz.underlying60 h
  rw [cVerA] at hl
  obtain ⟨c0, c1, c2, rfl⟩ := shape3 hl
  obtain ⟨_, _, h0⟩ := fld hf 0 _ rfl 2 rfl 1 cI64A 0 rfl
  obtain ⟨_, _, h1⟩ := fld hf 1 _ rfl 4 rfl 1 cBoolA 1 rfl
  obtain ⟨_, _, h2⟩ := fld hf 2 _ rfl 9 rfl 1 cStrA 2 rfl
  obtain ⟨n0, e0, k0⟩ := rd_i64 Tryz.underlying2 h0
  obtain ⟨n1, e1⟩ := rd_bool Tryz.underlying4 h1
  obtain ⟨n2, e2, k2⟩ := rd_str Tryz.underlying9 h2
  cases e0; cases e1; cases e2
  exact ⟨⟨n0, n1, n2⟩, rfl, ⟨k0, mx k2⟩⟩
set_option maxRecDepth 100000 in
theorem rd_mem (h : DataW.trod enc Tryz.prog w base spare held fuel 147 cs = some x) : ∃ d : Mem, cs = memC d ∧ d.Ok := by
  obtain ⟨hl, hf⟩ := rd_struct Tryz.underlying147 h
  rw [cMemA] at hl
  obtain ⟨c0, c1, c2, rfl⟩ := shape3 hl
  obtain ⟨_, _, h0⟩ := fld hf 0 _ rfl 2 rfl 1 cI64A 0 rfl
  obtain ⟨_, _, h1⟩ := fld hf 1 _ rfl 89 rfl 2 cResA 1 rfl
  obtain ⟨n0, e0, k0⟩ := rd_i64 Tryz.underlying2 h0
  obtain ⟨_, hg⟩ := rd_struct Tryz.underlying89 h1
  obtain ⟨_, _, h2⟩ := fld hg 0 _ rfl 37 rfl 1 cErrA 0 rfl
  obtain ⟨_, _, h3⟩ := fld hg 1 _ rfl 2 rfl 1 cI64A 1 rfl
  obtain ⟨n1, e1, k1⟩ := rd_i64 Tryz.underlying37 h2
  obtain ⟨n2, e2, k2⟩ := rd_i64 Tryz.underlying2 h3
  cases e0; cases e1; cases e2
  exact ⟨⟨n0, ⟨n1, n2⟩⟩, rfl, ⟨k0, k1, k2⟩⟩
abbrev inW (w : World) (b : Nat) : Prop := b < w.heap.size
set_option maxRecDepth 100000 in
theorem rd_ent (h : DataW.trod enc Tryz.prog w base spare held fuel 58 cs = some x) : ∃ d : Ent, RepE (inW w) w d cs ∧ d.Ok := by
  obtain ⟨hl, hf⟩ := rd_struct Tryz.underlying58 h
  rw [cEntA] at hl
  obtain ⟨c0, c1, rfl⟩ := shape2 hl
  obtain ⟨_, _, h0⟩ := fld hf 0 _ rfl 9 rfl 1 cStrA 0 rfl
  obtain ⟨_, _, h1⟩ := fld hf 1 _ rfl 56 rfl 1 cVersA 1 rfl
  obtain ⟨n0, e0, k0⟩ := rd_str Tryz.underlying9 h0
  obtain ⟨A, cap, l, e1, hr, hk⟩ := rd_flat verC Ver.Ok (by rw [cVerA]; decide) (fun _ _ _ h => rd_ver h) Tryz.underlying56 h1
  cases e0; cases e1
  exact ⟨⟨n0, l⟩, ⟨A, cap, rfl, hr⟩, ⟨mx k0, hk⟩⟩
theorem repEs_of {S : Nat → Prop} {w : World} : ∀ {l : List Ent} {css : List (List Value)}, css.length = l.length → (∀ (i : Nat) a c, l[i]? = some a → css[i]? = some c → RepE S w a c) → RepEs S w l css
  | [], [], _, _ => rfl
  | a :: l, c :: css, hl, h => ⟨c, css, rfl, h 0 a c rfl rfl, repEs_of (by simpa using hl) fun i a' c' h1 h2 => h (i + 1) a' c' (by simpa using h1) (by simpa using h2)⟩
  | [], _ :: _, hl, _ => by simp at hl
  | _ :: _, [], hl, _ => by simp at hl
set_option maxRecDepth 100000 in
theorem rd_state (h : DataW.trod enc Tryz.prog w base spare held fuel 78 cs = some x) : ∃ d : Stt, RepS (inW w) w d cs ∧ d.Ok := by
  obtain ⟨hl, hf⟩ := rd_struct Tryz.underlying78 h
  rw [cSttA] at hl
  obtain ⟨c0, c1, c2, c3, c4, c5, c6, c7, rfl⟩ := shape8 hl
  obtain ⟨_, _, h0⟩ := fld hf 0 _ rfl 2 rfl 1 cI64A 0 rfl
  obtain ⟨_, _, h1⟩ := fld hf 1 _ rfl 74 rfl 1 cEntsA 1 rfl
  obtain ⟨_, _, h2⟩ := fld hf 2 _ rfl 75 rfl 1 cMemsA 2 rfl
  obtain ⟨_, _, h3⟩ := fld hf 3 _ rfl 76 rfl 5 cLowsA 3 rfl
  obtain ⟨n0, e0, k0⟩ := rd_i64 Tryz.underlying2 h0
  obtain ⟨A, cap, l, css, e1, hcl, hR, _, hr1⟩ := rd_rowR (fun a c => RepE (inW w) w a c ∧ a.Ok) (by rw [cEntA]; decide) (fun _ _ _ h => rd_ent h) Tryz.underlying74 h1
  obtain ⟨B, cap', ms, e2, hr2, hk2⟩ := rd_flat memC Mem.Ok (by rw [cMemA]; decide) (fun _ _ _ h => rd_mem h) Tryz.underlying75 h2
  obtain ⟨xs, m, _, _, _, hxl, hx⟩ := DataW.trod_array Tryz.underlying76 h3
  rw [cI64A] at hx
  have hx' : ∀ i, i < 5 → ∃ y, DataW.trod enc Tryz.prog w base spare held m 2 (((([.int .i64 n0, c1, c2, c3, c4, c5, c6, c7].drop 3).take 5).drop (i * 1)).take 1) = some y := fun i hi => ⟨xs[i], by
    have := hx i hi
    rw [List.getElem?_eq_getElem (by omega)] at this
    cases e0
    exact this⟩
  obtain ⟨_, g0⟩ := hx' 0 (by decide)
  obtain ⟨_, g1⟩ := hx' 1 (by decide)
  obtain ⟨_, g2⟩ := hx' 2 (by decide)
  obtain ⟨_, g3⟩ := hx' 3 (by decide)
  obtain ⟨_, g4⟩ := hx' 4 (by decide)
  obtain ⟨l0, f0, j0⟩ := rd_i64 Tryz.underlying2 g0
  obtain ⟨l1, f1, j1⟩ := rd_i64 Tryz.underlying2 g1
  obtain ⟨l2, f2, j2⟩ := rd_i64 Tryz.underlying2 g2
  obtain ⟨l3, f3, j3⟩ := rd_i64 Tryz.underlying2 g3
  obtain ⟨l4, f4, j4⟩ := rd_i64 Tryz.underlying2 g4
  cases e0; cases e1; cases e2; cases f0; cases f1; cases f2; cases f3; cases f4
  refine ⟨⟨n0, l, ms, [l0, l1, l2, l3, l4]⟩, ⟨A, cap, css, B, cap', rfl, rfl, repEs_of hcl (fun i a c h1 h2 => (hR i a c h1 h2).1), hr1, hr2⟩, ⟨k0, fun e he => ?_, hk2, fun x hx => ?_⟩⟩
  · obtain ⟨i, hi, rfl⟩ := List.getElem_of_mem he
    exact (hR i _ _ (List.getElem?_eq_getElem hi) (List.getElem?_eq_getElem (by rw [hcl]; exact hi))).2
  · simp only [List.mem_cons, List.not_mem_nil, or_false] at hx
    rcases hx with rfl | rfl | rfl | rfl | rfl
    · exact j0
    · exact j1
    · exact j2
    · exact j3
    · exact j4
end
section
variable {H : Type} {enc : TypeId × Value → H} {W : World} {base : Nat} {sp : Nat → Bool} {hd : Bool} {v : Value} {d : DataW H} {p : List MemPlace}
set_option maxRecDepth 100000 in
theorem open_deed (h : DataW.Trod enc Tryz.prog W 0 sp hd 23 v d p) (k : Value.okWide Tryz.prog W .any base 23 v) : ∃ a : D, v = .agg (dC a).toArray ∧ a.Ok := by
  obtain ⟨cs, rfl, _⟩ := okWide_struct Tryz.underlying23 k
  obtain ⟨fuel, hf⟩ := h
  obtain ⟨a, e, ha⟩ := rd_deed hf
  refine ⟨a, ?_, ha⟩
  rw [← show (Value.agg cs).cells.toList = dC a from e]
  rfl
set_option maxRecDepth 100000 in
theorem open_ver (h : DataW.Trod enc Tryz.prog W 0 sp hd 60 v d p) (k : Value.okWide Tryz.prog W .any base 60 v) : ∃ a : Ver, v = .agg (verC a).toArray ∧ a.Ok := by
  obtain ⟨cs, rfl, _⟩ := okWide_struct Tryz.underlying60 k
  obtain ⟨fuel, hf⟩ := h
  obtain ⟨a, e, ha⟩ := rd_ver hf
  refine ⟨a, ?_, ha⟩
  rw [← show (Value.agg cs).cells.toList = verC a from e]
  rfl
set_option maxRecDepth 100000 in
theorem open_ent (h : DataW.Trod enc Tryz.prog W 0 sp hd 58 v d p) (k : Value.okWide Tryz.prog W .any base 58 v) : ∃ (a : Ent) (cs : List Value), v = .agg cs.toArray ∧ RepE (inW W) W a cs ∧ a.Ok := by
  obtain ⟨cs, rfl, _⟩ := okWide_struct Tryz.underlying58 k
  obtain ⟨fuel, hf⟩ := h
  obtain ⟨a, e, ha⟩ := rd_ent hf
  exact ⟨a, cs.toList, rfl, e, ha⟩
set_option maxRecDepth 100000 in
theorem open_state (h : DataW.Trod enc Tryz.prog W 0 sp hd 78 v d p) (k : Value.okWide Tryz.prog W .any base 78 v) : ∃ (a : Stt) (cs : List Value), v = .agg cs.toArray ∧ RepS (inW W) W a cs ∧ a.Ok := by
  obtain ⟨cs, rfl, _⟩ := okWide_struct Tryz.underlying78 k
  obtain ⟨fuel, hf⟩ := h
  obtain ⟨a, e, ha⟩ := rd_state hf
  exact ⟨a, cs.toList, rfl, e, ha⟩
set_option maxRecDepth 100000 in
theorem open_flat {α : Type} {t e : TypeId} (f : α → List Value) (Ok : α → Prop) (hk : 0 < Tryz.prog.cellsOf e) (hread : ∀ n c y, DataW.trod enc Tryz.prog W 0 sp hd n e c = some y → ∃ a, c = f a ∧ Ok a) (ht : Tryz.prog.underlying t = some (.slice e))
    (h : DataW.Trod enc Tryz.prog W 0 sp hd t v d p) (k : Value.okWide Tryz.prog W .any base t v) : ∃ A cap, ∃ l : List α, v = .slice A l.length cap ∧ Row (inW W) W A l.length cap (l.map f).flatten ∧ ∀ a ∈ l, Ok a := by
  obtain ⟨a0, len, cap0, rfl⟩ := okWide_slice ht k
  obtain ⟨fuel, hf⟩ := h
  obtain ⟨A, cap, l, e1, hr, hl⟩ := rd_flat f Ok hk hread ht hf
  have e2 : (Value.slice a0 len cap0).cells.toList = [.slice a0 len cap0] := rfl
  rw [e2] at e1
  cases e1
  exact ⟨a0, cap0, l, rfl, hr, hl⟩
set_option maxRecDepth 100000 in
theorem open_deeds (h : DataW.Trod enc Tryz.prog W 0 sp hd 87 v d p) (k : Value.okWide Tryz.prog W .any base 87 v) : ∃ A cap, ∃ l : List D, v = .slice A l.length cap ∧ Row (inW W) W A l.length cap (l.map dC).flatten ∧ ∀ a ∈ l, a.Ok :=
  open_flat dC D.Ok (by rw [cDeedA]; decide) (fun _ _ _ h => rd_deed h) Tryz.underlying87 h k
set_option maxRecDepth 100000 in
theorem open_i64s (h : DataW.Trod enc Tryz.prog W 0 sp hd 110 v d p) (k : Value.okWide Tryz.prog W .any base 110 v) : ∃ A cap, ∃ l : List Int, v = .slice A l.length cap ∧ Row (inW W) W A l.length cap (l.map fun n => [.int .i64 n]).flatten ∧ ∀ a ∈ l, i64ok a :=
  open_flat (fun n => [.int .i64 n]) i64ok (by rw [cIntA]; decide) (fun _ _ _ h => rd_i64 Tryz.underlying3 h) Tryz.underlying110 h k
set_option maxRecDepth 100000 in
theorem open_strs (h : DataW.Trod enc Tryz.prog W 0 sp hd 95 v d p) (k : Value.okWide Tryz.prog W .any base 95 v) : ∃ A cap, ∃ l : List ByteArray, v = .slice A l.length cap ∧ Row (inW W) W A l.length cap (l.map fun s => [.string s]).flatten ∧ ∀ a ∈ l, a.size ≤ maxLen :=
  open_flat (fun s => [.string s]) (fun s => s.size ≤ maxLen) (by rw [cStrA]; decide) (fun _ _ _ h => rd_str Tryz.underlying9 h) Tryz.underlying95 h k
set_option maxRecDepth 100000 in
theorem open_bools (h : DataW.Trod enc Tryz.prog W 0 sp hd 96 v d p) (k : Value.okWide Tryz.prog W .any base 96 v) : ∃ A cap, ∃ l : List Bool, v = .slice A l.length cap ∧ Row (inW W) W A l.length cap (l.map fun b => [.bool b]).flatten :=
  let ⟨A, cap, l, h1, h2, _⟩ := open_flat (fun b => [.bool b]) (fun _ => True) (by rw [cBoolA]; decide) (fun _ _ _ h => let ⟨b, hb⟩ := rd_bool Tryz.underlying4 h; ⟨b, hb, trivial⟩) Tryz.underlying96 h k
  ⟨A, cap, l, h1, h2⟩
set_option maxRecDepth 100000 in
theorem open_i64 {t : TypeId} (ht : Tryz.prog.underlying t = some (.int .i64)) (h : DataW.Trod enc Tryz.prog W 0 sp hd t v d p) (k : Value.okWide Tryz.prog W .any base t v) : ∃ n, v = .int .i64 n ∧ i64ok n := by
  obtain ⟨n, rfl⟩ := okWide_int ht k
  obtain ⟨fuel, hf⟩ := h
  obtain ⟨m, e, hm⟩ := rd_i64 ht hf
  have e2 : (Value.int .i64 n).cells.toList = [.int .i64 n] := rfl
  rw [e2] at e
  cases e
  exact ⟨n, rfl, hm⟩
set_option maxRecDepth 100000 in
theorem open_str (h : DataW.Trod enc Tryz.prog W 0 sp hd 9 v d p) (k : Value.okWide Tryz.prog W .any base 9 v) : ∃ s, v = .string s ∧ s.size ≤ maxLen := by
  obtain ⟨s, rfl⟩ := okWide_string Tryz.underlying9 k
  obtain ⟨fuel, hf⟩ := h
  obtain ⟨m, e, hm⟩ := rd_str Tryz.underlying9 hf
  have e2 : (Value.string s).cells.toList = [.string s] := rfl
  rw [e2] at e
  cases e
  exact ⟨s, rfl, hm⟩
set_option maxRecDepth 100000 in
theorem open_u8 (h : DataW.Trod enc Tryz.prog W 0 sp hd 5 v d p) (k : Value.okWide Tryz.prog W .any base 5 v) : ∃ n : Int, v = .int .u8 n ∧ 0 ≤ n ∧ n ≤ 255 := by
  obtain ⟨n, rfl, _, _, hw⟩ := open_int Tryz.underlying5 k h
  simp only [Lit.wf, Bool.and_eq_true, decide_eq_true_eq] at hw
  have h1 := hw.1
  have h2 := hw.2
  rw [show IntKind.u8.min = 0 by decide] at h1
  rw [show IntKind.u8.max = 255 by decide] at h2
  exact ⟨n, rfl, h1, h2⟩
set_option maxRecDepth 100000 in
theorem open_b (h : DataW.Trod enc Tryz.prog W 0 sp hd 4 v d p) (k : Value.okWide Tryz.prog W .any base 4 v) : ∃ b, v = .bool b := by
  obtain ⟨b, rfl, _⟩ := open_bool Tryz.underlying4 k h
  exact ⟨b, rfl⟩
end
end Go.Proofs.YtbmoimihnndboaaGreatDoor
end
namespace Go.Proofs.YtbmoimihnndboaaGreatDoor
set_option maxHeartbeats 40000000
set_option maxRecDepth 100000
theorem factRowed : mapsRowed Tryz.prog = true := by kernel_rfl
theorem factHeard : Tryz.prog.stopsHeard = true := by kernel_rfl
theorem factEnter : Tryz.prog.mayEnter = true := by kernel_rfl
theorem factKeys : (Rows.deedHomesRow.plainKeys == Tryz.prog.plainKeys) = true := by kernel_rfl
theorem factLifted : (Rows.deedHomesRow.lifted == Tryz.prog.liftsFinal) = true := by kernel_rfl
theorem factMake : (Tryz.prog.make == some Rows.deedHomesRow.make) = true := by kernel_rfl
theorem factKeys' (c : OpenClaim) (h : c.plainKeys = Rows.deedHomesRow.plainKeys) : (c.plainKeys == Tryz.prog.plainKeys) = true := h ▸ factKeys
theorem factLifted' (c : OpenClaim) (h : c.lifted = Rows.deedHomesRow.lifted) : (c.lifted == Tryz.prog.liftsFinal) = true := h ▸ factLifted
theorem factMake' (c : OpenClaim) (h : c.make = Rows.deedHomesRow.make) : (Tryz.prog.make == some c.make) = true := h ▸ factMake
end Go.Proofs.YtbmoimihnndboaaGreatDoor
section
namespace Go.Vc
open Go Go.RowKit
theorem Drawn.join {P : Program} {id : Nat} {ops : Array Oper} {f : Fr} {w : World} {K : Fr → World → Prop} {α : Type} (l : α → List (Nat × Value)) (R : α → World → Prop)
    (h : Drawn P id ops f w (fun f' w' => ∃ x, fits f' (l x) ∧ R x w')) (hk : ∀ x u w', R x w' → K (Go.Vc.mk (l x) u) w') : Drawn P id ops f w K :=
  ⟨fun n a h1 h2 => wp_mono (h.wp n a h1 h2) fun e a' w' ⟨he, f', ha, x, hf, hr⟩ => ⟨he, f', ha, by
    have := hk x f' w' hr
    rwa [mk_fits hf] at this⟩⟩
abbrev Old (w x : World) : Prop := Keeps (fun b => b < w.heap.size) w x
theorem Old.start (w : World) : Old w w.drew := Keeps.start _ _
theorem CtxF.old0 {S0 S : Nat → Prop} {w0 w : World} {l : List LB} {os : List OR} {R : Kn} (_ : CtxF S0 w0 S w l os R) : Old w w.drew := Keeps.start _ _
theorem CtxF.swapL {S0 S : Nat → Prop} {w0 w : World} {x y : LB} {l : List LB} {os : List OR} {R : Kn} (hc : CtxF S0 w0 S w (x :: y :: l) os R) : CtxF S0 w0 S w (y :: x :: l) os R := by
  obtain ⟨⟨h1, h2, h3, h4, h5⟩, h6, h7, h8⟩ := hc
  obtain ⟨g, T, cs⟩ := x
  obtain ⟨g', T', cs'⟩ := y
  obtain ⟨a1, a2, a3, a4, b1, b2, b3, b4, b5⟩ := h5
  refine ⟨⟨h1, h2, h3, h4, b1, b2, b3, fun z hz => ?_, a1, a2, a3, fun z hz => a4 z (List.mem_cons_of_mem _ hz), b5⟩, h6.step fun o ho a ha => ⟨rfl, ((h6.mem o ho).out a ha).1, fun z hz => ((h6.mem o ho).out a ha).2 z ?_⟩, h7, h8⟩
  · cases hz with
    | head => exact fun e => a4 (g', T', cs') (List.mem_cons_self ..) e.symm
    | tail _ hz => exact b4 z hz
  · cases hz with
    | head => exact List.mem_cons_of_mem _ (List.mem_cons_self ..)
    | tail _ hz =>
      cases hz with
      | head => exact List.mem_cons_self ..
      | tail _ hz => exact List.mem_cons_of_mem _ (List.mem_cons_of_mem _ hz)
end Go.Vc
namespace Go.Proofs.YtbmoimihnndboaaGreatDoor
open Go.Vc Go.RowKit Go.Fl Go.ChangeShapes Go.WideShapes Go.ChangeAt
structure SX where
  A : Option Addr
  cap : Nat
  B : Option Addr
  cap' : Nat
  l0 : Int
  l1 : Int
  l2 : Int
  l3 : Int
  l4 : Int
def stX (s : Stt) (x : SX) : List Value := [.int .i64 s.seq, .slice x.A s.l.length x.cap, .slice x.B s.ms.length x.cap', .int .i64 x.l0, .int .i64 x.l1, .int .i64 x.l2, .int .i64 x.l3, .int .i64 x.l4]
def SX0 : SX := ⟨none, 0, none, 0, 0, 0, 0, 0, 0⟩
theorem RepS.stX {S : Nat → Prop} {w : World} {s : Stt} {cs : List Value} (h : RepS S w s cs) : ∃ x, cs = stX s x := by
  obtain ⟨A, cap, css, B, cap', l0, l1, l2, l3, l4, rfl, _⟩ := h.shape
  exact ⟨⟨A, cap, B, cap', l0, l1, l2, l3, l4⟩, rfl⟩
theorem RepS.five {S : Nat → Prop} {w : World} {s : Stt} {cs : List Value} (h : RepS S w s cs) : s.lows.length = 5 := by
  obtain ⟨A, cap, css, B, cap', e1, e2, e3, e4, e5⟩ := h
  exact e2
theorem RepS.lowsX {S : Nat → Prop} {w : World} {s : Stt} {x : SX} (h : RepS S w s (Go.Proofs.YtbmoimihnndboaaGreatDoor.stX s x)) : s.lows = [x.l0, x.l1, x.l2, x.l3, x.l4] := by
  obtain ⟨A, cap, css, B, cap', l0, l1, l2, l3, l4, e, el, _⟩ := h.shape
  unfold Go.Proofs.YtbmoimihnndboaaGreatDoor.stX at e
  simp only [List.cons.injEq, Value.int.injEq, true_and, and_true] at e
  rw [el, e.2.2.1, e.2.2.2.1, e.2.2.2.2.1, e.2.2.2.2.2.1, e.2.2.2.2.2.2]
theorem rep0X (S : Nat → Prop) (w : World) : RepS S w Stt0 (stX Stt0 SX0) := rep0 S w
theorem mayStt0 : mayS Stt0 = true := by kernel_rfl
theorem stab_2 (s t : Stt) (x y : SX) : Stab (fun S w => RepS S w s (stX s x) ∧ RepS S w t (stX t y)) := (stab_S _ _).and (stab_S _ _)
theorem cut_ok (s : ByteArray) (n : Nat) (h : n ≤ 1000000) : strok (cut s n) := Nat.le_trans (cut_size s n) (Nat.le_trans h (by decide))
theorem cutV_ok {v : Ver} (h : v.Ok) : (cutV v).Ok := ⟨h.ver, cut_ok _ _ (by decide)⟩
theorem cutE_ok {e : Ent} (h : e.Ok) : (cutE e).Ok := ⟨cut_ok _ _ (by decide), fun v hv => by
  obtain ⟨u, hu, rfl⟩ := List.mem_map.1 hv
  exact cutV_ok (h.vs u (List.mem_of_mem_take hu))⟩
theorem cutS_ok {s : Stt} (h : s.Ok) : (cutS s).Ok := ⟨h.seq, fun e he => by
  obtain ⟨u, hu, rfl⟩ := List.mem_map.1 he
  exact cutE_ok (h.l u (List.mem_of_mem_take hu)), fun m hm => h.ms m (List.mem_of_mem_take hm), h.lows⟩
theorem res_self (a : Res) (ox oy : Operand) (w : World) : (do eqGuard BinOp.eql 89 ox oy (.agg #[.int .i64 a.err, .int .i64 a.ver]) (.agg #[.int .i64 a.err, .int .i64 a.ver]); Go.binOp BinOp.eql 89 (.agg #[.int .i64 a.err, .int .i64 a.ver]) (.agg #[.int .i64 a.err, .int .i64 a.ver]) : Sem Value).run Tryz.prog w = .ok (.bool true) w := by
  have h := eql_run gd_res (eqRes_in 9998 · a a) ox oy w
  rw [show (a.err == a.err && a.ver == a.ver) = true by simp] at h
  exact h
theorem res_selfN (a : Res) (ox oy : Operand) (w : World) : (do eqGuard BinOp.neq 89 ox oy (.agg #[.int .i64 a.err, .int .i64 a.ver]) (.agg #[.int .i64 a.err, .int .i64 a.ver]); Go.binOp BinOp.neq 89 (.agg #[.int .i64 a.err, .int .i64 a.ver]) (.agg #[.int .i64 a.err, .int .i64 a.ver]) : Sem Value).run Tryz.prog w = .ok (.bool false) w := by
  have h := neq_run gd_res (eqRes_in 9998 · a a) ox oy w
  rw [show (!(a.err == a.err && a.ver == a.ver)) = false by simp] at h
  exact h
theorem ver_self (a : Ver) (ox oy : Operand) (w : World) : (do eqGuard BinOp.eql 60 ox oy (.agg (verC a).toArray) (.agg (verC a).toArray); Go.binOp BinOp.eql 60 (.agg (verC a).toArray) (.agg (verC a).toArray) : Sem Value).run Tryz.prog w = .ok (.bool true) w := by
  have h := eql_run gd_ver (eqVer_in 9998 · a a) ox oy w
  rw [eqVer_iff.2 rfl] at h
  exact h
theorem deed_self (a : D) (ox oy : Operand) (w : World) : (do eqGuard BinOp.eql 23 ox oy (.agg (dC a).toArray) (.agg (dC a).toArray); Go.binOp BinOp.eql 23 (.agg (dC a).toArray) (.agg (dC a).toArray) : Sem Value).run Tryz.prog w = .ok (.bool true) w := by
  have h := eql_run gd_deed (eqD_in 9998 · a a) ox oy w
  rw [eqD_iff.2 rfl] at h
  exact h
theorem dC_flat (l : List D) : Flat 8 (l.map dC) := Flat.map dC (fun d => ⟨rfl, rfl⟩) l
theorem RowD.elem {S : Nat → Prop} {w : World} {A : Option Addr} {n cap : Nat} {l : List D} (hR : Row S w A n cap (l.map dC).flatten) (i : Nat) (hi : i < l.length) : ∃ ad, A = some ad ∧ Go.Vc.cellsAt w (ad.add (i * 8)) (dC l[i]) 0 := by
  obtain ⟨ad, e, h⟩ := Row.elemF hR (by decide) (dC_flat l) i (by rw [List.length_map]; exact hi)
  rw [List.getElem_map] at h
  exact ⟨ad, e, h⟩
theorem readsB_any (s : ByteArray) (hs : s.size ≤ 1073741824) (w : World) (hw : Env w) : Calls Tryz.prog 65 #[.string s] w (RetB (.bool true) w) :=
  reads_any s.data.toList hs w hw
theorem putStt_not {s : Stt} (h : mayS s = false) : putStt s = [] := by
  unfold putStt
  rw [if_neg (by rw [h]; decide)]
theorem putStt_ne {s : Stt} (h5 : s.lows.length = 5) (h : mayS s = true) : putStt s ≠ [] := by
  rw [putStt_may s h5 h]
  exact putV_ne _
theorem putStt_len' {s : Stt} (h5 : s.lows.length = 5) : (putStt s).length ≤ 1073741824 := by
  rcases Bool.eq_false_or_eq_true (mayS s) with h | h
  · exact putStt_len h5 h
  · rw [putStt_not h]
    decide
theorem nil_of_str {t : List UInt8} (h : strEq ⟨t.toArray⟩ ⟨#[]⟩ = true) : t = [] := by
  have h1 := congrArg ByteArray.data (strEq_iff.1 h)
  simpa using h1
theorem same_put {α : Type} {p : α → List UInt8} {q : α → Bool} {eq : α → α → Bool} {a b : α} (hinj : q b = true → p a = p b → a = b) (hno : q b = false → p b = []) (heq : ∀ a b, eq a b = true ↔ a = b) (he : strEq ⟨(p b).toArray⟩ ⟨#[]⟩ = false) :
    (strEq ⟨(p a).toArray⟩ ⟨(p b).toArray⟩ == eq a b) = true := by
  rcases Bool.eq_false_or_eq_true (q b) with hb | hb
  rotate_left
  · rw [hno hb, strEq_iff.2 rfl] at he
    cases he
  rcases Bool.eq_false_or_eq_true (eq a b) with h | h
  · have := (heq a b).1 h
    subst this
    rw [h, strEq_iff.2 rfl]
    rfl
  · rw [h, beq_false, Bool.not_eq_true']
    rcases Bool.eq_false_or_eq_true (strEq ⟨(p a).toArray⟩ ⟨(p b).toArray⟩) with h1 | h1
    · have h2 := congrArg ByteArray.data (strEq_iff.1 h1)
      have h3 : p a = p b := by simpa using h2
      have h4 := (heq a b).2 (hinj hb h3)
      rw [h] at h4
      cases h4
    · exact h1
theorem own_row {w w' : World} {e sz n cap : Nat} {A : Option Addr} {xs : List Value} (hb : Below w.heap.size w w') (ho : w'.ownsRow w.heap.size e sz (.slice A n cap) n xs) (S : Nat → Prop) : Row (ext S w w') w' A n cap xs := by
  have h0 : Own no w.heap.size w' [] e sz A n cap xs := ⟨ho, fun a ha => ⟨fun h => h.elim, fun x hx => by cases hx⟩⟩
  obtain ⟨h1, h2, h3⟩ := h0.told ((Ctx.start w no (fun _ h => h.elim)).quiet hb).1
  refine (h3 h0.fit.1 h0.fit.2).sub fun b hb => ?_
  rcases hb with hb | ⟨a, ha, rfl⟩
  · exact hb.elim
  · exact .inr (h0.lt ha)
theorem RetA.row {A : Option Addr} {cap : Nat} {e : Ent} {q : Ent × Bool} {w w' : World} {en : Ending} {S : Nat → Prop} (h : RetA A cap e q w en w') (hq : q.2 = false → q.1 = e) (hR : Row S w A e.vs.length cap (e.vs.map verC).flatten) :
    ∃ A' cap', en = .returned (.tuple #[.agg #[.string q.1.key, .slice A' q.1.vs.length cap'], .bool q.2]) ∧ Below w.heap.size w w' ∧ Row (ext S w w') w' A' q.1.vs.length cap' (q.1.vs.map verC).flatten := by
  obtain ⟨q1, q2⟩ := q
  cases q2
  · rw [RetA, if_neg (fun h => by cases h)] at h
    obtain ⟨h1, hb⟩ := h
    have e0 : q1 = e := hq rfl
    subst e0
    exact ⟨A, cap, h1, hb, (hR.below hb).sub fun b h => .inl h⟩
  · rw [RetA, if_pos rfl] at h
    obtain ⟨A', c', e1, hb, ho⟩ := h
    exact ⟨A', c', e1, hb, own_row hb ho S⟩
theorem addE_not {e : Ent} {v : Ver} (h : (addE e v).2 = false) : (addE e v).1 = e := by
  unfold addE at h ⊢
  split at h
  · rename_i hc
    rw [if_pos hc]
  · cases h
theorem purgeE_not {e : Ent} {n : Int} (h : (purgeE e n).2 = false) : (purgeE e n).1 = e := by
  unfold purgeE at h ⊢
  split at h
  · rename_i hc
    rfl
  · cases h
theorem cut_idem (s : ByteArray) (n : Nat) : cut (cut s n) n = cut s n := by
  have h := cut_size s n
  generalize cut s n = t at *
  unfold cut
  rw [Nat.min_eq_left h]
  exact ByteArray.extract_zero_size
theorem cutV_idem (v : Ver) : cutV (cutV v) = cutV v := by
  unfold cutV
  rw [cut_idem]
theorem cutE_idem (e : Ent) : cutE (cutE e) = cutE e := by
  have h1 : ((e.vs.take 14).map cutV).take 14 = (e.vs.take 14).map cutV := by rw [← List.map_take, List.take_take, Nat.min_self]
  have h2 : ((e.vs.take 14).map cutV).map cutV = (e.vs.take 14).map cutV := by
    rw [List.map_map]
    exact List.map_congr_left fun v _ => cutV_idem v
  show (⟨cut (cut e.key 42) 42, (((e.vs.take 14).map cutV).take 14).map cutV⟩ : Ent) = ⟨cut e.key 42, (e.vs.take 14).map cutV⟩
  rw [cut_idem, h1, h2]
theorem cutE_body (e : Ent) : (nowE (cutE e)).1.body.size ≤ 302 := by
  unfold nowE
  split
  · exact Nat.zero_le _
  · rename_i h
    obtain ⟨u, hu, he⟩ := List.mem_map.1 (lastV_mem (l := (cutE e).vs) (fun h0 => h (by rw [h0]; rfl)))
    rw [← he]
    exact cut_size _ _
theorem cutE_len (e : Ent) : (cutE e).vs.length ≤ 14 := by
  show ((e.vs.take 14).map cutV).length ≤ 14
  rw [List.length_map, List.length_take]
  omega
theorem Old.looks {w x : World} (h : Old w x) {a : Addr} {cs : List Value} {i : Nat} (hc : Go.Vc.cellsAt w a cs i) : Go.Vc.cellsAt x a cs i := Keeps.looks h _ _ hc
end Go.Proofs.YtbmoimihnndboaaGreatDoor
end
