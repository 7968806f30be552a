/- The tables of the seat's translation: types, and the functions that have a body. Printed by a program. -/
import Derived.Test.YtcmdmcekbmodaaaVcS
import Derived.Test.YtcmdmcekbmodaaaProg
namespace Go.Proofs.Ytcmdmcekbmodaaa
open Go.Vc
def tys : List (Nat × TD) := [
  (3, .int .i64),
  (4, .bool),
  (22, .slice 3 1)]
def fnl : List Nat := [3]
def lay : Lay := ⟨layOf tys, elemB fnl⟩
theorem tys_ok : TysOk Try.prog tys := ⟨
  ⟨Try.underlying3, szV_ (by kernel_rfl)⟩,
  ⟨Try.underlying4, szV_ (by kernel_rfl)⟩,
  ⟨Try.underlying22, szV_ (by kernel_rfl), szN_ (by kernel_rfl)⟩, trivial⟩
theorem fns_ok : FnsOk Try.prog fnl := ⟨Try.call3, trivial⟩
theorem lay_ok : Lay.Ok Try.prog lay := Go.Vc.lay_ok tys_ok fns_ok
end Go.Proofs.Ytcmdmcekbmodaaa
