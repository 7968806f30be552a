import Derived.Test.YtbmoimihnndboaaGreatDoorM12
set_option linter.unusedVariables false
set_option linter.unusedSimpArgs false
/- A long schedule is checked in stages. -/
namespace Go.Vc
open Go Go.RowKit
abbrev SSt := Sched × Nat × Array Bool × List Nat
def runQ (ops : Array Oper) : Nat → SSt → Option SSt
  | 0, st => some st
  | k + 1, (.q i s, fuel + 1, listed, rem) => if rem.contains i && Region.free .any ops listed i && !s.isStop then runQ ops k (s, fuel, listed.setIfInBounds i true, Region.ready .any ops (listed.setIfInBounds i true)) else none
  | k + 1, (.n i s .stop, fuel + 1, listed, rem) => if rem.contains i && !s.isStop && (rem.filter (fun j => !Nat.beq j i)).isEmpty then runQ ops k (s, fuel, listed.setIfInBounds i true, Region.ready .any ops (listed.setIfInBounds i true)) else none
  | _ + 1, _ => none
theorem runQ_ok {ops : Array Oper} : ∀ (k : Nat) (s : Sched) (fuel : Nat) (listed : Array Bool) (rem : List Nat) {s' : Sched} {fuel' : Nat} {listed' : Array Bool} {rem' : List Nat}, runQ ops k (s, fuel, listed, rem) = some (s', fuel', listed', rem') →
    schedOk ops s' fuel' listed' rem' = true → schedOk ops s fuel listed rem = true
  | 0, s, fuel, listed, rem, s', fuel', listed', rem', h, k => by
    simp only [runQ, Option.some.injEq, Prod.mk.injEq] at h
    obtain ⟨rfl, rfl, rfl, rfl⟩ := h
    exact k
  | k + 1, .q i s, fuel + 1, listed, rem, s', fuel', listed', rem', h, hk => by
    rw [runQ] at h
    split at h
    · rename_i hc
      have ih := runQ_ok k _ _ _ _ h hk
      rw [schedOk, hc, ih]
      rfl
    · cases h
  | k + 1, .n i s .stop, fuel + 1, listed, rem, s', fuel', listed', rem', h, hk => by
    rw [runQ] at h
    split at h
    · rename_i hc
      have ih := runQ_ok k _ _ _ _ h hk
      simp only [Bool.and_eq_true] at hc
      rw [schedOk, ih, hc.1.1, hc.1.2]
      simp only [schedOk, Sched.isAlt, hc.2, Bool.and_self]
    · cases h
  | k + 1, .fin, _, _, _, _, _, _, _, h, _ => by cases h
  | k + 1, .z _, _, _, _, _, _, _, _, h, _ => by cases h
  | k + 1, .stop, _, _, _, _, _, _, _, h, _ => by cases h
  | k + 1, .q _ _, 0, _, _, _, _, _, _, h, _ => by cases h
  | k + 1, .n _ _ .stop, 0, _, _, _, _, _, _, h, _ => by cases h
  | k + 1, .n _ _ .fin, _, _, _, _, _, _, _, h, _ => by cases h
  | k + 1, .n _ _ (.z _), _, _, _, _, _, _, _, h, _ => by cases h
  | k + 1, .n _ _ (.q _ _), _, _, _, _, _, _, _, h, _ => by cases h
  | k + 1, .n _ _ (.n _ _ _), _, _, _, _, _, _, _, h, _ => by cases h
theorem schedOK_of {ops : Array Oper} {s : Sched} {fuel : Nat} {listed : Array Bool} {rem : List Nat} (h1 : Region.noSelect ops = true) (h2 : s.isStop = false) (hf : ops.size = fuel) (hl : Array.replicate ops.size false = listed) (hr : Region.ready .any ops listed = rem) (h : schedOk ops s fuel listed rem = true) : schedOK ops s = true := by
  subst hf
  subst hl
  subst hr
  unfold schedOK
  rw [h1, h2, h]
  rfl
def codeOps : Code → Nat → Option (Array Oper)
  | .region id ops _, k => bif Nat.beq id k then some ops else none
  | .seq a b, k => match codeOps a k with
    | some x => some x
    | none => codeOps b k
  | .cond _ a b, k => match codeOps a k with
    | some x => some x
    | none => codeOps b k
  | .block _ b, k => codeOps b k
  | .loop b, k => codeOps b k
  | _, _ => none
def opsAt (f : Func) (k : Nat) : Array Oper := match f.body with
  | some c => (codeOps c k).getD #[]
  | none => #[]
end Go.Vc
