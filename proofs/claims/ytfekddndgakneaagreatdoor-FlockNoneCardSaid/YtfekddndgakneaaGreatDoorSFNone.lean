import Derived.Test.YtfekddndgakneaaGreatDoorM14
set_option maxRecDepth 100000
set_option maxHeartbeats 40000000
set_option linter.unusedVariables false
set_option linter.unusedSimpArgs false
/- Walk: FlockNone. -/
namespace Go.Proofs.YtfekddndgakneaaGreatDoor
open Go.Vc Go.RowKit Go.Fl Go.ChangeShapes Go.WideShapes Go.ChangeAt
theorem B5d (ox oy:Operand) (w:World):(do eqGuard BinOp.eql 49 ox oy (.pointer none) (.pointer none);Go.binOp BinOp.eql 49 (.pointer none) (.pointer none):Sem Value).run Tryz.prog w=.ok (.bool true) w:=by kernel_rfl
theorem A52 (w:World):Calls Tryz.prog 24 #[.pointer none] w (C7 (.int .i64 0) w):=by
 refine vE Tryz.func24 ?_
 refine⟨.bool true,fun w=>B5d _ _ w,?_⟩
 exact⟨rfl,Below.refl _ _⟩
theorem B3M (w:World):Calls Tryz.prog 25 #[.pointer none] w (C7 (.int .i64 0) w):=by
 refine vE Tryz.func25 ?_
 refine C2 (A52 w) ?_
 intro w1 h1
 refine⟨Unit,fun _=>[(3,.int .i64 0),(6,.int .i64 0),(7,.int .i64 0)],fun _ w'=>Below w.heap.size w w',fun _ _=>0,(),⟨rfl,rfl,rfl,trivial⟩,h1,?_⟩
 rintro _ w2 u h2
 exact⟨rfl,h2⟩
theorem A7C (w:World):Calls Tryz.prog 22 #[.pointer none,.int .i64 0] w (RetPk none w):=by
 refine vE Tryz.func22 ?_
 have hc:=CtxF.start w no (fun _ h=>h.elim) (R:=fun _ _=>True) trivial Stab.true
 refine hc.n fun g4 wg4 hg4 hc=>?_
 rw [L7] at hc
 refine hc.q (A52 _) fun wQ hQ hc=>?_
 refine hc.s 0 rfl fun wS hS hc=>?_
 have hc:=B8 hc (l':=[(g4,35,wdC Wd0 WX0)]) (by kernel_rfl)
 refine hc.a 0 rfl rfl ?_
 exact RetPk.none hc.below
theorem B3N (w:World):Calls Tryz.prog 23 #[.pointer none,.int .i64 0] w (RetPk none w):=by
 refine vE Tryz.func23 ?_
 have hc:=CtxF.start w no (fun _ h=>h.elim) (R:=fun _ _=>True) trivial Stab.true
 refine hc.n fun g4 wg4 hg4 hc=>?_
 rw [L7] at hc
 refine⟨(A7C _).mono fun en wq hq=>?_⟩
 obtain⟨x,e1,hb,hr⟩:=hq
 have hc:=(hc.call hb).1.know (X:=WdR Wd0 x) (hr.sub fun b h=>h.elim (fun h=>h.elim) .inr) (WdR.stab _ _)
 refine⟨_,e1,?_⟩
 refine hc.n fun g6 wg6 hg6 hc=>?_
 rw [L7] at hc
 refine hc.s 0 rfl fun wS hS hc=>?_
 have hc:=B8 hc (l':=[(g6,35,wdC Wd0 x),(g4,35,wdC Wd0 WX0)]) (by kernel_rfl)
 refine⟨wdC Wd0 x,rfl,hc.cells 0 rfl,?_⟩
 refine hc.s 1 rfl fun wS hS hc=>?_
 have hc:=B8 hc (l':=[(g6,35,wdC Wd0 x),(g4,35,wdC Wd0 x)]) (by kernel_rfl)
 refine⟨wdC Wd0 x,rfl,hc.cells 1 rfl,?_⟩
 exact⟨x,rfl,hc.below,hc.out.2⟩
theorem B65 (v:Wd) (hb:v.Bare) (w:World) (hw:Env w) (x:WX) (S:Nat->Prop) (hR:WdR v x S w):Calls Tryz.prog 21 #[.pointer none,.agg (wdC v x).toArray] w (C7 (.bool false) w):=by
 refine vE Tryz.func21 ?_
 have hc:=CtxF.start w no (fun _ h=>h.elim) (R:=fun _ _=>True) trivial Stab.true
 refine hc.n fun g3 wg3 hg3 hc=>?_
 refine⟨wdC v x,rfl,hc.cells 0 rfl,?_⟩
 refine hc.q (K8 v hb x S _ (hR.below hc.below) (hw.below hc.below)) fun wQ hQ hc=>?_
 refine⟨.bool true,fun w=>B5d _ _ w,?_⟩
 exact⟨rfl,hc.below⟩
def wN:Wd:=⟨1,1,0,0,0,0,0,⟨0,0⟩,Ros0,[],Stt0⟩
theorem B3O (w:World) (hw:Env w):Calls Tryz.prog 8 #[] w (C7 (.bool true) w):=by
 have zN:wdC wN WX0=[.int .i64 1,.int .i64 1,.int .i64 0,.int .i64 0,.int .i64 0,.int .i64 0,.int .i64 0,.int .i64 0,.int .i64 0,.int .i64 0,.slice none 0 0,.int .i64 0,.slice none 0 0,.int .i64 0,.slice none 0 0,.slice none 0 0,.int .i64 0,.int .i64 0,.int .i64 0,.int .i64 0,.int .i64 0]:=by kernel_rfl
 refine vE Tryz.func8 ?_
 have hc:=CtxF.start w no (fun _ h=>h.elim) (R:=fun _ _=>True) trivial Stab.true
 refine⟨(A7C _).mono fun en wq hq=>?_⟩
 obtain⟨x,e1,hb,hr⟩:=hq
 have hc:=(hc.quiet hb).1
 refine⟨_,e1,?_⟩
 refine hc.n fun g2 wg2 hg2 hc=>?_
 rw [L7] at hc
 refine hc.s 0 rfl fun wS hS hc=>?_
 have hc:=B8 hc (l':=[(g2,35,wdC Wd0 x)]) (by kernel_rfl)
 refine⟨(B3N _).mono fun en wq hq=>?_⟩
 obtain⟨x2,e1,hb,hr⟩:=hq
 have hc:=(hc.quiet hb).1
 refine⟨_,e1,?_⟩
 refine hc.n fun g4 wg4 hg4 hc=>?_
 rw [L7] at hc
 refine hc.s 0 rfl fun wS hS hc=>?_
 have hc:=B8 hc (l':=[(g4,35,wdC Wd0 x2),(g2,35,wdC Wd0 x)]) (by kernel_rfl)
 refine hc.q (M5 _ (hw.below hc.below)) fun wQ hQ hc=>?_
 have s1:=B65 wN (Wd.ok_of (by kernel_rfl) (fun d hd=>by cases hd) rfl).bare wQ (hw.below hc.below) WX0 no ⟨⟨Ros0.rep _ _,B0Z _ _⟩,A9r _ _⟩
 rw [zN] at s1
 refine hc.q (s1) fun wQ hQ hc=>?_
 refine hc.q (A52 _) fun wQ hQ hc=>?_
 refine hc.q (B3M _) fun wQ hQ hc=>?_
 exact⟨rfl,hc.below⟩
theorem A7D {H:Type} (enc:TypeId × Value->H) (W:World) (hw:Env W):Calls Tryz.prog 8 #[] W (C7 (.bool true) W):=B3O W hw
end Go.Proofs.YtfekddndgakneaaGreatDoor
