import Derived.Test.YtefdfaeieekioaaGreatDoorM06
set_option maxRecDepth 100000
set_option maxHeartbeats 40000000
set_option linter.unusedVariables false
set_option linter.unusedSimpArgs false
/- LinkNone: a closed sentence, reckoned. -/
namespace Go.Proofs.YtefdfaeieekioaaGreatDoor
open Go.Vc Go.Vx Go.RowKit Go.Fl Go.ChangeShapes Go.WideShapes Go.ChangeAt
theorem runNone:xFun (mach [15]) 50 13 [] ⟨.e,0⟩ isTrue=true:=by kernel_rfl
theorem linkNone_ct {H:Type} (enc:TypeId × Value->H) (W:World) (hw:Env W):Calls Tryz.prog 13 #[] W (RetB (.bool true) W):=(done_of (more_done done13 none_done) (by kernel_rfl) runNone).2 W hw
end Go.Proofs.YtefdfaeieekioaaGreatDoor
